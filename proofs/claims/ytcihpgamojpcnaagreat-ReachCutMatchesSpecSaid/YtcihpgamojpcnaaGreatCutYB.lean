/- Part of the proof: Q, X, XR, ZT, C6Ord, K, C6O, YA, YB. -/
import Derived.Test.YtcihpgamojpcnaaGreatCutPvU
import Derived.Test.YtcihpgamojpcnaaGreatCutZA
import Derived.Test.YtcihpgamojpcnaaGreatCutZS
import Derived.Test.YtcihpgamojpcnaaGreatCutC6M
import Derived.KernelRfl
import Derived.WideKeyArgs
import Derived.Deep.Slices
import Derived.ProofKit
import Derived.OpenShut
import Derived.JoinedCond
import Derived.Test.YtcihpgamojpcnaaGreatCutC6T
set_option linter.unusedSimpArgs false
set_option linter.unusedVariables false
namespace Go.Pv
open Go
theorem q9r{n:Int}(h : -9223372036854775808<=n)(h':n<=9223372036854775807):w64 n=n:=by
 have:w64 n=if n % 18446744073709551616>=9223372036854775808 then n % 18446744073709551616 - 18446744073709551616 else n % 18446744073709551616:=by
  simp[w64,IntKind.wrap,IntKind.signed,IntKind.bits]
 rw[this];split<;>omega
theorem q9e{α β:Type}(k:α)(b:α->β):jn k b=b k:=rfl
theorem q9l{α:Type}{xs:List α}{j:Nat}(h:j<xs.length):idx xs (j:Int)=some xs[j]:=by
 simp[idx,h]
theorem z0n{α:Type}{p:Prop}[Decidable p]{x y:α}(h:p):(if decide p=true then x else y)=x:=by simp[h]
theorem z7o{α:Type}{p:Prop}[Decidable p]{x y:α}(h:¬p):(if decide p=true then x else y)=y:=by simp[h]
theorem y7a{a b:Nat}(h:a+b<4611686018427387904):w64 (Int.fdiv (IntKind.wrap .u64 (w64 ((a:Int)+(b:Int)))) (2 ^ (min (Int.toNat 1) (IntKind.bits .u64))))=(((a+b) / 2:Nat):Int):=by
 rw[q9r (n:=(a:Int)+b) (by omega) (by omega)]
 have:IntKind.wrap .u64 ((a:Int)+b)=((a+b:Nat):Int):=by
  simp only[IntKind.wrap,IntKind.signed,IntKind.bits,Bool.false_and];simp;omega
 rw[this];have e:(2:Int) ^ (min (Int.toNat 1) (IntKind.bits .u64))=2:=by decide
 rw[e,Int.fdiv_eq_ediv_of_nonneg _ (by omega)];rw[q9r (by omega) (by omega)];omega
theorem q8g{α β:Type}[DecidableEq α](xs:List (α×β))(k k':α)(v:β):q3b (q0d xs k v) k'=if k=k' then some v else q3b xs k':=by
 induction xs with
 |nil=>simp[q0d,q3b]
 |cons p r ih=>
  simp only[q0d];split
  ·rename_i h;simp only[q3b,h];split<;>simp_all
  ·rename_i h;simp only[q3b];by_cases h2:p.1=k'
   ·rw[if_pos h2,if_pos h2,if_neg (fun e=>h (h2.trans e.symm))]
   ·rw[if_neg h2,if_neg h2];exact ih
theorem j3u(x:UInt8)(a:B8)(y:UInt8)(b:B8):Op.bytesLess (x::a) (y::b)=(decide (x<y)||(x==y&&Op.bytesLess a b)):=by
 rw[Op.bytesLess]
theorem q5s:∀a:B8,Op.bytesLess a a=false
 |[]=>by simp[Op.bytesLess]
 |x::a=>by rw[j3u,q5s a];simp
theorem q0q:∀{a b c:B8},Op.bytesLess a b=true->Op.bytesLess b c=true->Op.bytesLess a c=true
 |[],[],_,h,_=>by simp[Op.bytesLess] at h
 |[],y::b,[],_,h=>by simp[Op.bytesLess] at h
 |[],y::b,z::c,_,_=>by simp[Op.bytesLess]
 |x::a,[],_,h,_=>by simp[Op.bytesLess] at h
 |x::a,y::b,[],_,h=>by simp[Op.bytesLess] at h
 |x::a,y::b,z::c,h,g=>by
  rw[j3u] at *;simp only[ax9,decide_eq_true_eq,av8,beq_iff_eq,UInt8.lt_iff_toNat_lt] at *;rcases h with h|⟨rfl,h⟩<;>rcases g with g|⟨rfl,g⟩
  ·exact .inl (by omega)
  ·exact .inl h
  ·exact .inl g
  ·exact .inr ⟨rfl,q0q h g⟩
theorem z8k:∀a b:B8,Op.bytesLess a b=true\/a=b\/Op.bytesLess b a=true
 |[],[]=>by simp
 |[],y::b=>by simp[Op.bytesLess]
 |x::a,[]=>by simp[Op.bytesLess]
 |x::a,y::b=>by
  rw[j3u,j3u];simp only[ax9,decide_eq_true_eq,av8,beq_iff_eq,UInt8.lt_iff_toNat_lt,co9];rcases ar8 x.toNat y.toNat with h|h|h
  ·exact .inl (.inl h)
  ·have:=UInt8.toNat_inj.1 h;subst this;rcases z8k a b with h|h|h
   ·exact .inl (.inr ⟨rfl,h⟩)
   ·exact .inr (.inl ⟨rfl,h⟩)
   ·exact .inr (.inr (.inr ⟨rfl,h⟩))
  ·exact .inr (.inr (.inl h))
theorem q1y{a b:B8}(h:Op.bytesLess a b=true):Op.bytesLess b a=false:=by
 cases h':Op.bytesLess b a with
 |false=>rfl
 |true=>have:=q0q h h';rw[q5s] at this;simp at this
theorem z0h{a b:B8}(h:Op.bytesLess a b=true):a≠b:=by rintro rfl;rw[q5s] at h;simp at h
theorem bl_gt(a b:B8):(!(Op.bytesLess a b||a==b))=Op.bytesLess b a:=by
 rcases z8k a b with h|h|h
 ·rw[h,q1y h];simp
 ·subst h;simp[q5s]
 ·rw[h,q1y h];simp;exact fun e=>z0h h e.symm
theorem y2z{α:Type}{g:List α->Int->Option Int}{k:Option Int}(p:α->Bool)(h0:∀n,g [] n=k)(h1:∀x l n,g (x::l) n=if p x=true then some n else g l (n+1)):
  ∀l (n:Nat),g l n=if l.any p=true then some ((n+l.findIdx p:Nat):Int) else k
 |[],n=>by simp[h0]
 |x::l,n=>by
  have e:((n:Int)+1)=((n+1:Nat):Int):=rfl;rw[h1,e,y2z p h0 h1 l (n+1)];cases h:p x
  ·have e2:n+1+l.findIdx p=n+(l.findIdx p+1):=by omega
   simp only[List.any_cons,h,cs8,List.findIdx_cons,cond_false,e2,cy8,if_false]
  ·simp[List.findIdx_cons,h]
theorem w2f{β:Type}{g:Nat->Int->Option β}{k:Option β}{f:β}(s:B8)(p:UInt8->Bool)(h0:∀n,g 0 n=k)
  (h1:∀m n,g (m+1) n=(idx s n).bind fun c=>if p c=true then g m (n+1) else some f):
  ∀(m n:Nat),n+m=s.length->g m n=if (s.drop n).all p=true then k else some f
 |0,n,h=>by rw[h0,ap9 (by omega)];simp
 |m+1,n,h=>by
  have hn:n<s.length:=by omega
  have e:((n:Int)+1)=((n+1:Nat):Int):=rfl;rw[h1,q9l hn,cl8,e,w2f s p h0 h1 m (n+1) (by omega),ch9 hn,aj9];cases h:p s[n]
  ·simp only[Bool.false_and,cy8,if_false]
  ·simp only[aj8,if_true]
theorem y2e{α:Type}{p q:Prop}[Decidable p][Decidable q]{x y:Option α}{a b:α}(h:p<->q)(h1:q->x=some a)(h2:¬q->y=some b):(if p then x else y)=some (if q then a else b):=by
 by_cases hq:q
 ·rw[if_pos (h.2 hq),if_pos hq,h1 hq]
 ·rw[if_neg (fun hp=>hq (h.1 hp)),if_neg hq,h2 hq]
theorem ne0{n:Int}:(n != 0)=true<->n≠0:=by simp
theorem j3z(a b:B8):(leT a b||leT b a)=true:=by
 unfold leT;rcases z8k a b with h|h|h
 ·simp[q1y h]
 ·subst h;simp[q5s]
 ·simp[q1y h]
theorem w0m{a b:B8}(h:leT a b=true)(h':leT b a=true):a=b:=by
 unfold leT at h h';rcases z8k a b with g|g|g
 ·simp[g] at h'
 ·exact g
 ·simp[g] at h
theorem j2z(a b c:B8)(h:leT a b=true)(h':leT b c=true):leT a c=true:=by
 unfold leT at *;rcases z8k a b with g|g|g
 ·rcases z8k b c with k|k|k
  ·simp[q1y (q0q g k)]
  ·subst k;simp[q1y g]
  ·simp[k] at h'
 ·subst g;exact h'
 ·simp[g] at h
theorem w4b{a b:B8}(h:leT a b=true)(hne:a≠b):Op.bytesLess a b=true:=by
 rcases z8k a b with g|g|g
 ·exact g
 ·exact absurd g hne
 ·simp[leT,g] at h
theorem j7y{l:List B8}(h:l.Pairwise (fun a b=>leT a b=true))(hn:l.Nodup):l.Pairwise (fun a b=>Op.bytesLess a b=true):=by
 induction l with
 |nil=>exact .nil
 |cons x l ih=>
  rw[cf9] at h ⊢;rw[aa9] at hn;exact⟨fun y hy=>w4b (h.1 y hy) (fun e=>hn.1 (by rw[e];exact hy)),ih h.2 hn.2⟩
theorem j1e{α:Type}(x:B8)(v:α):∀m:List (B8×α),((q0d m x v).map (·.1))=if x∈m.map (·.1) then m.map (·.1) else m.map (·.1)++[x]
 |[]=>by simp[q0d]
 |p::m=>by
  simp only[q0d];by_cases h:p.1=x
  ·rw[if_pos h];simp[h]
  ·rw[if_neg h,bw9,j1e x v m];by_cases hx:x∈m.map (·.1)
   ·rw[if_pos hx,if_pos (by simp at hx ⊢;exact .inr hx)];rfl
   ·rw[if_neg hx,if_neg (by simp at hx ⊢;exact⟨fun e=>h e.symm,hx⟩)];rfl
def v5t(l:List B8):List B8:=l.mergeSort leT
theorem q7t(l:List B8):(v5t l).Perm l:=List.mergeSort_perm _ _
theorem z4i(l:List B8):(v5t l).Pairwise (fun a b=>leT a b=true):=cv8 j2z j3z l
theorem v9n{l l':List B8}(h:l.Pairwise (fun a b=>leT a b=true))(h':l'.Pairwise (fun a b=>leT a b=true))(hp:l.Perm l'):l=l':=
 List.Perm.eq_of_pairwise (le:=fun a b=>leT a b=true) (fun a b _ _ g g'=>w0m g g') h h' hp
theorem v4t{l l':List B8}(h:l.Perm l'):v5t l=v5t l':=v9n (z4i l) (z4i l') ((q7t l).trans (h.trans (q7t l').symm))
theorem v4u(a b:List B8):List.merge (v5t a) (v5t b) leT=v5t (a++b):=
 v9n (List.pairwise_merge j2z j3z _ _ (z4i a) (z4i b)) (z4i _) ((List.merge_perm_append _).trans (((q7t a).append (q7t b)).trans (q7t _).symm))
theorem v8y{T:Type}{cmp:T->T->Option Int}{l:List T}(hswo:w9q cmp l=true):∀x∈l,q1v cmp x x=false/\∀y∈l,(cmp x y).isSome=true/\∀z∈l,(q1v cmp x y=true->q1v cmp y z=true->q1v cmp x z=true)/\(q1v cmp x y=false->q1v cmp y z=false->q1v cmp x z=false):=by
 intro x hx;unfold w9q at hswo;have h1:=aw9.1 hswo x hx;simp only[av8,aw8,aw9] at h1;refine⟨h1.1,fun y hy=>?_⟩;have h2:=h1.2 y hy;refine⟨h2.1,fun z hz=>?_⟩;have h3:=h2.2 z hz
 revert h3
 cases q1v cmp x y<;>cases q1v cmp y z<;>cases q1v cmp x z<;>simp
theorem w5e{T:Type}{cmp:T->T->Option Int}:∀{l:List T},w6n cmp l=true<->l.Pairwise fun x y=>(q1v cmp x y||q1v cmp y x)=true
 |[]=>by simp[w6n]
 |x::l=>by rw[w6n,av8,cf9,w5e,aw9]
theorem w0g{T:Type}{cmp:T->T->Option Int}:∀{l:List T},(l.Pairwise fun x y=>q1v cmp y x=false)->w3t cmp l=true
 |[],_=>rfl
 |x::l,h=>by
  rw[cf9] at h;simp only[w3t,av8,aw9,aw8];exact⟨h.1,w0g h.2⟩
theorem y1n{T:Type}{cmp:T->T->Option Int}{l:List T}(h:w9q cmp l=true):(l.mergeSort fun x y=>!q1v cmp y x).Pairwise fun x y=>q1v cmp y x=false:=by
 have hs:=v8y h
 have h1:(l.attach.mergeSort fun x y=>!q1v cmp y.1 x.1).Pairwise fun x y=>(!q1v cmp y.1 x.1)=true:=by
  refine cv8 (le:=fun x y:{x // x∈l}=>!q1v cmp y.1 x.1) (fun a b c g g'=>?_) (fun a b=>?_) _
  ·simp only[aw8] at *;exact(((hs c.1 c.2).2 b.1 b.2).2 a.1 a.2).2 g' g
  ·cases e1:q1v cmp b.1 a.1 with
   |false=>rfl
   |true=>
    cases e2:q1v cmp a.1 b.1 with
    |false=>rfl
    |true=>
     have:=(((hs a.1 a.2).2 b.1 b.2).2 a.1 a.2).1 e2 e1;rw[(hs a.1 a.2).1] at this;simp at this
 have h2:=List.map_mergeSort (r:=fun x y:{x // x∈l}=>!q1v cmp y.1 x.1) (s:=fun x y=>!q1v cmp y x) (f:=Subtype.val) (l:=l.attach) (fun a _ b _=>rfl);rw[List.attach_map_subtype_val] at h2;rw[<-h2,ci8];exact h1.imp fun q=>by simpa using q
structure SLt{α:Type}(lt:α->α->Bool):Prop where
 irr:∀x,lt x x=false
 tr:∀{x y z},lt x y=true->lt y z=true->lt x z=true
 tri:∀x y,lt x y=true\/x=y\/lt y x=true
section
variable{α:Type}{lt:α->α->Bool}
theorem SLt.ntr(h:SLt lt){x y z:α}(g:lt x y=false)(g':lt y z=false):lt x z=false:=by
 cases e:lt x z with
 |false=>rfl
 |true=>
  rcases h.tri x y with q|q|q
  ·rw[q] at g;simp at g
  ·rw[q,g'] at e;simp at e
  ·have:=h.tr q e;rw[this] at g';simp at g'
end
end Go.Pv
namespace Go.Proofs.YtcihpgamojpcnaaGreat
open Go Go.Pv
set_option maxRecDepth 100000
theorem leB(a b:B8):(Op.bytesLess a b||a==b)=leT a b:=by
 have:=bl_gt a b;unfold leT;rw[<-this,Bool.not_not]
theorem z1d(F:Nat)(k:List B8->Option (List B8)):∀(n:Nat) (a b o:List B8),
  q8p F k n a b o=if a.length+b.length<n/\(a.length+b.length=0\/(o.length+a.length+b.length)*16<=140737488355328) then k (o++List.merge a b leT) else none
 |0,a,b,o=>by simp[q8p]
 |n+1,[],[],o=>by simp[q8p]
 |n+1,[],y::b,o=>by
  rw[q8p];have e:idx (y::b) 0=some y:=q9l (xs:=y::b) (j:=0) (by simp);rw[if_neg (by simp),if_pos (by simp),if_neg (by simp;omega),e,cl8];by_cases h:(o++[y]).length*16<=140737488355328
  ·rw[if_pos h,if_pos (by simp),z1d F k n];simp only[bp8,cj8,cb9,cu9,cu8] at h ⊢;by_cases h2:0+b.length<n/\(0+b.length=0\/(o.length+(0+1)+0+b.length)*16<=140737488355328)
   ·rw[if_pos h2,if_pos (by omega)];simp
   ·rw[if_neg h2,if_neg (by omega)]
  ·rw[if_neg h,if_neg (by simp at h ⊢;omega)]
 |n+1,x::a,[],o=>by
  rw[q8p];have e:idx (x::a) 0=some x:=q9l (xs:=x::a) (j:=0) (by simp);rw[if_pos (by simp),if_pos (by simp),e,cl8];by_cases h:(o++[x]).length*16<=140737488355328
  ·rw[if_pos h,if_pos (by simp),z1d F k n];simp only[bp8,cj8,cb9,cu9,cu8] at h ⊢;by_cases h2:a.length+0<n/\(a.length+0=0\/(o.length+(0+1)+a.length+0)*16<=140737488355328)
   ·rw[if_pos h2,if_pos (by omega)];simp[List.merge_right]
   ·rw[if_neg h2,if_neg (by omega)]
  ·rw[if_neg h,if_neg (by simp at h ⊢;omega)]
 |n+1,x::a,y::b,o=>by
  rw[q8p];have e:idx (x::a) 0=some x:=q9l (xs:=x::a) (j:=0) (by simp);have e':idx (y::b) 0=some y:=q9l (xs:=y::b) (j:=0) (by simp);rw[if_pos (by simp),if_neg (by simp;omega),e,cl8,e',cl8,q9e,leB,cl8,cl8];by_cases hxy:leT x y=true
  ·rw[if_pos hxy];by_cases h:(o++[x]).length*16<=140737488355328
   ·rw[if_pos h,if_pos (by simp),show(fun l28 l29 l30=>q8p F k n l28 l29 l30)=q8p F k n from rfl,z1d F k n,List.cons_merge_cons_pos _ _ _ hxy];simp only[bp8,cj8,cb9,cu9,cu8] at h ⊢;by_cases h2:a.length+(b.length+1)<n/\(a.length+(b.length+1)=0\/(o.length+(0+1)+a.length+(b.length+1))*16<=140737488355328)
    ·rw[if_pos h2,if_pos (by omega)];simp
    ·rw[if_neg h2,if_neg (by omega)]
   ·rw[if_neg h,if_neg (by simp at h ⊢;omega)]
  ·rw[if_neg hxy];by_cases h:(o++[y]).length*16<=140737488355328
   ·rw[if_pos h,if_pos (by simp),show(fun l28 l29 l30=>q8p F k n l28 l29 l30)=q8p F k n from rfl,z1d F k n,List.cons_merge_cons_neg _ _ _ hxy];simp only[bp8,cj8,cb9,cu9,cu8] at h ⊢;by_cases h2:(a.length+1)+b.length<n/\((a.length+1)+b.length=0\/(o.length+(0+1)+(a.length+1)+b.length)*16<=140737488355328)
    ·rw[if_pos h2,if_pos (by omega)];simp
    ·rw[if_neg h2,if_neg (by omega)]
   ·rw[if_neg h,if_neg (by simp at h ⊢;omega)]
def hlf(n:Nat):Int:=w64 (Int.tdiv ((n:Nat):Int) 2)
def okN:Nat->Nat->Bool
 |0,_=>false
 |F+1,n=>decide (n<2)||(decide (0<=hlf n/\(hlf n).toNat<=n)&&(okN F (hlf n).toNat&&(okN F (n - (hlf n).toNat)&&decide (n<F/\n*16<=140737488355328))))
theorem v3t{l:List B8}(h:l.length<2):v5t l=l:=by
 match l,h with
 |[],_=>simp[v5t]
 |[x],_=>simp[v5t]
theorem j3k:∀(F:Nat) (l:List B8),w3i F l=if okN F l.length=true then some (v5t l) else none
 |0,l=>by simp[w3i,okN]
 |F+1,l=>by
  have hh:w64 (Int.tdiv ((l.length:Nat):Int) 2)=hlf l.length:=rfl;rw[w3i,v6s,okN];simp only[hh];by_cases h:l.length<2
  ·rw[if_pos (by simp;omega),if_pos (by simp[h]),v3t h]
  ·rw[if_neg (by simp;omega)];have hd:decide (l.length<2)=false:=by simp;omega
   rw[hd,cs8];by_cases h2:0<=hlf l.length/\(hlf l.length).toNat<=l.length
   ·rw[if_pos h2,j3k F];have e1:(l.take (hlf l.length).toNat).length=(hlf l.length).toNat:=by rw[bs9];exact Nat.min_eq_left h2.2
    have e2:(l.drop (hlf l.length).toNat).length=l.length - (hlf l.length).toNat:=by rw[aq9]
    rw[e1];simp only[decide_eq_true h2,aj8];by_cases h3:okN F (hlf l.length).toNat=true
    ·rw[if_pos h3,cl8,if_pos h2,j3k F,e2,h3,aj8];by_cases h4:okN F (l.length - (hlf l.length).toNat)=true
     ·rw[if_pos h4,cl8,q9e,z1d,h4,aj8]
      have e3:(v5t (l.take (hlf l.length).toNat)).length+(v5t (l.drop (hlf l.length).toNat)).length=l.length:=by
       rw[(q7t _).length_eq,(q7t _).length_eq,e1,e2];omega
      by_cases h5:l.length<F/\l.length*16<=140737488355328
      ·rw[if_pos ⟨by omega,.inr (by simp;omega)⟩,if_pos (decide_eq_true h5),v4u,List.take_append_drop];simp
      ·rw[if_neg (fun hh=>h5 (by have:=hh.2;simp only[cb9] at this;exact⟨by omega,by omega⟩)),if_neg (by rw[decide_eq_false h5];simp)]
     ·rw[if_neg h4,Option.bind_none,if_neg (by simp[h4])]
    ·rw[if_neg h3,Option.bind_none,if_neg (by simp[h3])]
   ·rw[if_neg h2,if_neg (by simp only[decide_eq_false h2,Bool.false_and];simp)]
theorem v5o:∀(d F n:Nat),n<2 ^ d->n+d+1<=F->n<=100000->okN F n=true
 |0,F,n,h,hF,_=>by
  match F with
  |F+1=>rw[okN];simp at h;subst h;simp
 |d+1,F,n,h,hF,hb=>by
  match F with
  |F+1=>
   rw[okN];by_cases h2:n<2
   ·simp[h2]
   ·have e:hlf n=((n / 2:Nat):Int):=by
     unfold hlf;rw[Int.tdiv_eq_ediv_of_nonneg (by omega),q9r (by omega) (by omega)];omega
    have e2:(hlf n).toNat=n / 2:=by rw[e];exact bq8 _
    rw[e2,v5o d F (n / 2) (by rw[Nat.pow_succ] at h;omega) (by omega) (by omega)];by_cases h3:n - n / 2<2 ^ d
    ·rw[v5o d F (n - n / 2) h3 (by omega) (by omega),e];simp;omega
    ·have:n - n / 2=2 ^ d:=by rw[Nat.pow_succ] at h;omega
     have h4:n=2 ^ d+2 ^ d - 1:=by rw[Nat.pow_succ] at h;omega
     have h5:1<=2 ^ d:=Nat.one_le_two_pow;rw[v5o (d+1) F (n - n / 2) (by rw[this,Nat.pow_succ];omega) (by omega) (by omega),e];simp;omega
termination_by d F n=>(F,d)
theorem z7q(F:Nat):∀(l:List (B8×Bool)) (o:List B8),z3l F l o=if l.length=0\/(o.length+l.length)*16<=140737488355328 then w3i F (o++l.map (·.1)) else none
 |[],o=>by
  rw[z3l];simp only[av9,aa8,cb9,true_or,if_true];cases w3i F o<;>rfl
 |e::l,o=>by
  rw[z3l];by_cases h:(o++[e.1]).length*16<=140737488355328
  ·rw[if_pos h,z7q F l];simp only[bp8,cj8,cb9] at h ⊢;by_cases h2:l.length=0\/(o.length+(0+1)+l.length)*16<=140737488355328
   ·rw[if_pos h2,if_pos (by omega)];simp
   ·rw[if_neg h2,if_neg (by omega)]
  ·rw[if_neg h,if_neg (by simp at h ⊢;omega)]
theorem v1u{F:Nat}{l l':List (B8×Bool)}{o:List B8}{r:List B8}(hp:l.Perm l')(h:z3l F l o=some r):z3l F l' o=some r:=by
 rw[<-h,z7q,z7q,hp.length_eq,j3k,j3k];have:=(hp.map (·.1)).append_left o;rw[this.length_eq,v4t this]
end Go.Proofs.YtcihpgamojpcnaaGreat
namespace Go.Pv
open Go Go.ChangeShapes Go.WideShapes
mutual
def v7l{H:Type}:DataW H->Nat
 | .lit (.string bytes)=>bytes.length+1
 | .lit _=>1
 | .nil=>1
 | .ptr d=>v7l d+1
 | .slice elems spare=>z9g elems+z9g spare+1
 | .agg parts=>z9g parts+1
 | .iface _ d=>v7l d+1
 | .map entries=>v0r entries+1
 | .held _=>1
def z9g{H:Type}:List (DataW H)->Nat
 |[]=>0
 |d::r=>v7l d+z9g r
def v0r{H:Type}:List (Lit×DataW H)->Nat
 |[]=>0
 |x::r=>y6c x+v0r r
def y6c{H:Type}:Lit×DataW H->Nat
 |(.string bytes,d)=>bytes.length+v7l d+1
 |(_,d)=>v7l d+1
end
def v0k(w:World):Mem:=fun b=>w.heap[b]?
def q3y(m:Mem)(ds:List V)(cs:List Value):Prop:=
 ds.length=cs.length/\∀(i:Nat) (c:V) (v:Value),ds[i]? = some c->cs[i]? = some v->q2p m c v
theorem q3y.one{m:Mem}{d:V}{c:Value}(h:q2p m d c):q3y m [d] [c]:=
 ⟨rfl,fun i d' c' hd hc=>by
  match i with
  |0=>simp at hd hc;subst hd;subst hc;exact h
  |_+1=>simp at hd⟩
theorem q3y.app{m:Mem}{a b:List V}{x y:List Value}(h:q3y m a x)(h':q3y m b y):q3y m (a++b) (x++y):=by
 refine⟨by simp[h.1,h'.1],fun i c v hc hv=>?_⟩;by_cases hi:i<a.length
 ·rw[az9 hi] at hc;rw[az9 (by rw[<-h.1];exact hi)] at hv;exact h.2 i c v hc hv
 ·rw[az8 (by omega)] at hc;rw[az8 (by rw[<-h.1];omega),<-h.1] at hv;exact h'.2 _ c v hc hv
section
variable{P:Program}{t e:TypeId}{α β:Type}
def wOk{H:Type}(P:Program)(t:TypeId)(d:DataW H):Prop:=(d.weights P t).all (·<=reachBytes)=true
def y0e{H:Type}(P:Program)(ts:List TypeId)(ds:List (DataW H)):Prop:=(DataW.weightsEach P ts ds).all (·<=reachBytes)=true
theorem z1n{H:Type}{P:Program}{t:TypeId}{ts:List TypeId}{d:DataW H}{ds:List (DataW H)}(h:y0e P (t::ts) (d::ds)):wOk P t d/\y0e P ts ds:=by
 unfold y0e wOk at *;rw[DataW.weightsEach,ct8,av8] at h;exact h
theorem wAll{H:Type}{P:Program}{e:TypeId}:∀(l:List (DataW H)),(DataW.weightsAll P e l).all (·<=reachBytes)=true->∀d,d∈l->wOk P e d
 |[],_,d,hd=>by simp at hd
 |x::l,h,d,hd=>by
  rw[DataW.weightsAll,ct8,av8] at h;rcases ax8.1 hd with rfl|hd
  ·exact h.1
  ·exact wAll l h.2 d hd
def q2y(P:Program)(t:TypeId)(e:α->List V)(sz:α->Nat)(ok:α->Prop):Prop:=
 ∀{H:Type} (enc:TypeId×Value->H) (w:World) (z7u:Nat) (cs:List Value) (x:DataW H×List MemPlace),
  DataW.trod enc P w 0 (fun _=>true) true z7u t cs=some x->wOk P t x.1->∃a:α,q3y (v0k w) (e a) cs/\sz a<=v7l x.1/\ok a
theorem w2a{k:IntKind}(ht:P.underlying t=some (.int k)):q2y P t (fun n:Int=>[V.con (.int k n)]) (fun _=>1) (fun n=>k.min<=n/\n<=k.max):=by
 intro H enc w z7u cs x h hw;obtain⟨n,rfl,rfl,hw'⟩:=DataW.trod_int ht h;simp only[Lit.wf,av8,decide_eq_true_eq] at hw';exact⟨n,q3y.one (.con _),by simp[v7l],hw'⟩
theorem j8x(ht:P.underlying t=some .string):q2y P t (fun s:B8=>[sV s]) (fun s=>s.length+1) (fun s=>s.length<=maxLen):=by
 intro H enc w z7u cs x h hw;obtain⟨s,rfl,rfl,hs⟩:=DataW.trod_string ht h;refine⟨s.data.toList,q3y.one ?_,by simp[v7l],by simpa using hs⟩;have:str s.data.toList=.string s:=by simp[str]
 unfold sV;rw[this];exact .con _
theorem w6b{p:Nat->α->Prop}:∀{n:Nat},(∀i,i<n->∃a,p i a)->∃l:List α,l.length=n/\∀i a,l[i]? = some a->p i a
 |0,_=>⟨[],rfl,by simp⟩
 |n+1,h=>by
  obtain⟨l,hl,hp⟩:=w6b (n:=n) fun i hi=>h i (by omega);obtain⟨a,ha⟩:=h n (by omega);refine⟨l++[a],by simp[hl],fun i b hb=>?_⟩;by_cases hi:i<l.length
  ·rw[az9 hi] at hb;exact hp i b hb
  ·rw[az8 (by omega)] at hb
   have:i - l.length=0:=by
    have:=(bi8.1 hb).1;simp at this;omega
   rw[this] at hb;simp at hb;subst hb;rw[show i=n by omega];exact ha
theorem v6l{H:Type}{n:Nat}(D:Nat->DataW H):z9g ((List.range n).map D)=((List.range n).map fun i=>v7l (D i)).sum:=by
 generalize List.range n=l
 induction l with
 |nil=>rfl
 |cons a l ih=>simp[z9g,ih]
theorem y6l{l:List α}{sz:α->Nat}{g:Nat->Nat}(h:∀i a,l[i]? = some a->sz a<=g i):(l.map sz).sum<=((List.range l.length).map g).sum:=by
 induction l generalizing g with
 |nil=>simp
 |cons a l ih=>
  rw[cj8,List.range_succ_eq_map];simp only[bw9,List.sum_cons,List.map_map];have h0:=h 0 a rfl;have h1:=ih (g:=g ∘ Nat.succ) fun i b hb=>h (i+1) b (by simpa using hb);exact Nat.add_le_add h0 h1
theorem q8u{k:Nat}{ee:α->List V}{sz:α->Nat}{ok:α->Prop}(ht:P.underlying t=some (.slice e))(hk:P.cellsOf e=k)(h0:0<k)(he:q2y P e ee sz ok):
  q2y P t (fun l:List α=>[V.lst k (l.map ee)]) (fun l=>(l.map sz).sum+1) (fun l=>(∀a,a∈l->ok a)/\l.length<=maxLen):=by
 intro H enc w z7u cs x h hw;rcases Deep.open_slice ht h with ⟨rfl,rfl⟩|⟨a,len,cap,m,n,D,Pl,rfl,_,hlc,hcm,hm,rfl,hel⟩
 ·exact⟨[],q3y.one (.nil _ _ _),by simp[v7l],by simp⟩
 ·simp only[if_true] at hm;subst hm
  obtain⟨l,hl,hp⟩:=w6b (n:=len) (p:=fun i (b:α)=>sz b<=v7l (D i)/\ok b/\∃cs',w.cells? 0 (a.add (i*P.cellsOf e)) (P.cellsOf e)=some cs'/\q3y (v0k w) (ee b) cs') (by
   intro i hi;obtain⟨cs',hc,hd⟩:=hel i (by omega)
   obtain⟨b,h1,h2,h3⟩:=he _ _ _ _ _ hd (by
    unfold wOk at hw;rw[DataW.weights] at hw;simp only[ht,aj9,ct8,av8] at hw;exact wAll _ hw.2.1 _ (bk9.2 ⟨i,da8.2 hi,rfl⟩))
   exact⟨b,h2,h3,cs',hc,h1⟩)
  refine⟨l,q3y.one ?_,?_,fun b hb=>?_,by omega⟩
  ·by_cases hz:len=0
   ·subst hz;have:l=[]:=be9.1 hl;subst this;exact .nil _ _ _
   ·have hcell:∀i j b,l[i]? = some b->j<k->∃v,w.cell? ((a.add (i*k)).add j)=some v/\(∃c,(ee b)[j]? = some c)/\∀c,(ee b)[j]? = some c->q2p (v0k w) c v:=by
     intro i j b hb hj;obtain⟨_,_,cs',hc,hr⟩:=hp i b hb;rw[hk] at hc;obtain⟨_,hn,hcs⟩:=World.cells?_some hc;have hj':j<cs'.length:=by omega
     have hv:cs'[j]? = some cs'[j]:=be8 hj';have hj2:j<(ee b).length:=by rw[hr.1];exact hj'
     exact⟨cs'[j],(hcs j hj).trans hv,⟨(ee b)[j],be8 hj2⟩,fun c hcc=>hr.2 j c _ hcc hv⟩
    have hlen:∀b,b∈l->(ee b).length=k:=by
     intro b hb;obtain⟨i,hi⟩:=au8.1 hb;obtain⟨_,_,cs',hc,hr⟩:=hp i b hi;rw[hk] at hc;rw[hr.1,(World.cells?_some hc).2.1]
    have hb0:∃b,l[0]? = some b:=⟨l[0]'(by omega),be8 _⟩;obtain⟨b0,hb0⟩:=hb0;obtain⟨v0,hv0,_⟩:=hcell 0 0 b0 hb0 h0;have hadd0:(a.add (0*k)).add 0=a:=by simp[Addr.add]
    rw[hadd0] at hv0;unfold World.cell? at hv0;split at hv0
    case h_2=>simp at hv0
    rename_i arr T fr hblk
    have hsp:a.spot=none:=by
     cases hs:a.spot with
     |none=>rfl
     |some s=>simp[hs] at hv0
    have q1e:∀i j b,l[i]? = some b->j<k->∃v,arr[a.off+(i*k+j)]? = some v/\(∃c,(ee b)[j]? = some c)/\∀c,(ee b)[j]? = some c->q2p (v0k w) c v:=by
     intro i j b hb hj;obtain⟨v,hv,hc⟩:=hcell i j b hb hj;rw[Deep.add_add] at hv;unfold World.cell? at hv;have hbk:(a.add (i*k+j)).block=a.block:=by unfold Addr.add;split<;>rfl
     have hso:(a.add (i*k+j)).spot=none:=by unfold Addr.add;split<;>simp[hsp]
     have hof:(a.add (i*k+j)).off=a.off+(i*k+j):=by unfold Addr.add;split<;>simp[*]
     rw[hbk,hblk] at hv;simp only[hso,hof] at hv;exact⟨v,by simpa using hv,hc⟩
    refine q2p.lst (arr:=arr) (T:=T) (fr:=fr) (fun i=>(arr[a.off+i]?).getD undef) hblk hsp (by simpa using hl) hlc (by omega) ?_ ?_ ?_
    ·intro row hrow;obtain⟨b,hb,rfl⟩:=bk9.1 hrow;exact hlen b hb
    ·intro i hi;rw[br9] at hi;have hq:i / k<l.length:=bj9 (by rw[at8];exact hi);obtain⟨v,hv,_⟩:=q1e (i / k) (i % k) l[i / k] (be8 hq) (at9 _ h0);have:i / k*k+i % k=i:=by rw[at8];exact au9 i k
     rw[this] at hv;simp[hv]
    ·intro i j row c hrow hc;rw[bf9,ad8] at hrow;obtain⟨b,hb,rfl⟩:=hrow
     have hj:j<k:=by
      have:=(bi8.1 hc).1;rw[hlen b (au8.2 ⟨i,hb⟩)] at this;exact this
     obtain⟨v,hv,_,hcr⟩:=q1e i j b hb hj;simp only[hv,ck9];exact hcr c hc
  ·simp only[v7l];rw[v6l];have:=y6l (l:=l) (sz:=sz) (g:=fun i=>v7l (D i)) fun i b hb=>(hp i b hb).1;rw[hl] at this;omega
  ·obtain⟨i,hi⟩:=au8.1 hb;exact(hp i b hi).2.1
def v9s(P:Program)(N:Nat)(fs:List (TypeId×Nat×Nat))(off:Nat)(e:α->List V)(sz:α->Nat)(ok:α->Prop):Prop:=
 ∀{H:Type} (enc:TypeId×Value->H) (w:World) (n:Nat) (cs:List Value) (xs:List (DataW H×List MemPlace)),cs.length=N->xs.length=fs.length->
  (∀(i:Nat) (f:TypeId×Nat×Nat),fs[i]? = some f->DataW.trod enc P w 0 (fun _=>true) true n f.1 ((cs.drop f.2.1).take f.2.2)=xs[i]?)->
  y0e P (fs.map (·.1)) (xs.map (·.1))->∃a:α,q3y (v0k w) (e a) (cs.drop off)/\sz a<=z9g (xs.map (·.1))/\ok a
theorem q8y{N:Nat}:v9s P N [] N (fun _:Unit=>[]) (fun _=>0) (fun _=>True):=by
 intro H enc w n cs xs hN hx _ _;refine⟨(),?_,by simp,trivial⟩;rw[<-hN];simp[q3y]
theorem q2j{N k off:Nat}{ft:TypeId}{fs:List (TypeId×Nat×Nat)}{ea:α->List V}{eb:β->List V}{sa:α->Nat}{sb:β->Nat}{oa:α->Prop}{ob:β->Prop}
  (h:q2y P ft ea sa oa) (hr:v9s P N fs (off+k) eb sb ob):v9s P N ((ft,off,k)::fs) off (fun p:α×β=>ea p.1++eb p.2) (fun p=>sa p.1+sb p.2) (fun p=>oa p.1/\ob p.2):=by
 intro H enc w n cs xs hN hx hf hw
 match xs,hx with
 |x::xs,hx=>
  have h1:=hf 0 _ rfl;simp only[by9] at h1;have hw':=z1n hw;obtain⟨a,ha,hs,ho⟩:=h enc w n _ x h1 hw'.1
  have hb':=hr enc w n cs xs hN (by simpa using hx) fun i f hi=>by
   have:=hf (i+1) f (by simpa using hi)
   simpa using this
  obtain⟨b,hb,hs',ho'⟩:=hb' hw'.2;refine⟨(a,b),?_,by simp only[bw9,z9g];omega,ho,ho'⟩;have:=ha.app hb;rw[show(cs.drop off).take k++cs.drop (off+k)=cs.drop off by rw[<-List.drop_drop];exact List.take_append_drop _ _] at this;exact this
def fieldsOf(P:Program)(t:TypeId):Option (List (TypeId×Nat×Nat)):=
 match P.underlying t with
 |some (.struct fs)=>some (fs.toList.map fun f=>(f.type,f.offset,P.cellsOf f.type))
 |_=>none
theorem q2t{N:Nat}{fs:List (TypeId×Nat×Nat)}{e:α->List V}{sz:α->Nat}{ok:α->Prop}(ht:fieldsOf P t=some fs)(hN:P.cellsOf t=N)(h:v9s P N fs 0 e sz ok):
  q2y P t e (fun a=>sz a+1) ok:=by
 intro H enc w z7u cs x hx hw;unfold fieldsOf at ht;split at ht
 case h_2=>simp at ht
 rename_i gs hu;simp only[bc8] at ht;subst ht;obtain⟨xs,n,_,rfl,hl,hxl,hf⟩:=DataW.trod_struct hu hx
 have ha':=h enc w n cs xs (hl.trans hN) (by simpa using hxl) fun i f hi=>by
  rw[bf9,ad8] at hi;obtain⟨g,hg,rfl⟩:=hi;exact hf i g (by simpa using hg)
 obtain⟨a,h1,h2,h3⟩:=ha' (by
  unfold wOk at hw;rw[DataW.weights] at hw;simp only[hu] at hw;unfold y0e;rw[List.map_map];exact hw)
 exact⟨a,by simpa using h1,by simp only[v7l];omega,h3⟩
theorem z2c{ea:α->List V}{eb:β->List V}{sa:α->Nat}{sb:β->Nat}{oa:α->Prop}{ob:β->Prop}(h:q2y P t ea sa oa)(g:α->β)
  (he:∀a,eb (g a)=ea a) (hs:∀a,sb (g a)=sa a) (ho:∀a,oa a->ob (g a)):q2y P t eb sb ob:=by
 intro H enc w z7u cs x hx hw;obtain⟨a,h1,h2,h3⟩:=h enc w z7u cs x hx hw;exact⟨g a,by rw[he];exact h1,by rw[hs];exact h2,ho a h3⟩
def v4c(P:Program)(t:TypeId)(e:α->V)(sz:α->Nat)(ok:α->Prop):Prop:=
 ∀{H:Type} (enc:TypeId×Value->H) (w:World) (base:Nat) (v:Value) (d:DataW H) (p:List MemPlace),
  Value.okWide P w .any base t v->DataW.Trod enc P w 0 (fun _=>true) true t v d p->wOk P t d->∃a:α,q2p (v0k w) (e a) v/\sz a<=v7l d/\ok a
theorem v2u{fs:List (TypeId×Nat×Nat)}{e:α->List V}{sz:α->Nat}{ok:α->Prop}(ht:fieldsOf P t=some fs)(h:q2y P t e sz ok):v4c P t (fun a=>.agg (e a)) sz ok:=by
 intro H enc w base v d p hv ⟨n,hd⟩ hw;unfold fieldsOf at ht;split at ht
 case h_2=>simp at ht
 rename_i gs hu;obtain⟨cs,rfl,_⟩:=okWide_struct hu hv;obtain⟨a,h1,h2,h3⟩:=h enc w n _ _ hd hw;exact⟨a,.agg (by simpa[Value.cells] using h1.1) (fun i c v' hc hv'=>h1.2 i c v' hc (by simpa[Value.cells] using hv')),h2,h3⟩
def v9q(P:Program)(t:TypeId):Bool:=
 match P.underlying t with
 |some (.int _)|some .bool|some .string|some (.slice _)=>true
 |_=>false
theorem j4d{e:α->V}{sz:α->Nat}{ok:α->Prop}(ht:v9q P t=true)(h:q2y P t (fun a=>[e a]) sz ok):v4c P t e sz ok:=by
 intro H enc w base v d p hv ⟨n,hd⟩ hw;obtain⟨a,h1,h2,h3⟩:=h enc w n _ _ hd hw
 have hna:∀cs,v≠.agg cs:=by
  rintro cs rfl
  unfold v9q at ht;unfold Value.okWide at hv;split at ht<;>rename_i hu<;>first|exact absurd ht (by decide)|(simp only[hu,Cell.okWide,Cell.ok] at hv)
 have hc:v.cells.toList=[v]:=by cases v<;>first|rfl|exact absurd rfl (hna _)
 rw[hc] at h1;exact⟨a,h1.2 0 _ _ rfl rfl,h2,h3⟩
theorem v2z{w w':World}(h:∀b,b<w.heap.size->w'.heap[b]? = w.heap[b]?){p:MemPlace}(hp:p.block<w.heap.size):w.sameAt w' p:=by
 cases p with
 |cell b o=>simp only[World.sameAt,World.cell?];rw[h b hp]
 |map b=>exact h b hp
theorem z2n{H:Type}{enc:TypeId×Value->H}(hl:laidOutB P=true){w w':World}{sp:Nat->Bool}(hh:∀b,b<w.heap.size->w'.heap[b]? = w.heap[b]?)
  (hs:∀b,b<w.heap.size->sp b=true):∀{ts:List TypeId} {vs:List Value} {ds:List (DataW H)} {ps:List MemPlace},
  (ts.all fun t=>P.readableRec t&&decide (t<P.types.size))=true->DataW.TrodAll enc P w 0 (fun _=>true) true ts vs ds ps->(∀p∈ps,p.block<w.heap.size)->DataW.TrodAll enc P w' 0 sp true ts vs ds ps
 |[],[],[],_,_,h,_=>h
 |t::ts,v::vs,d::ds,_,hr,⟨p,q,h1,h2,e⟩,hlt=>by
  subst e;simp only[aj9,av8,decide_eq_true_eq] at hr
  exact⟨p,q,WideElems.Trod_stays hl hr.1.1 hr.1.2 h1 (fun x hx=>v2z hh (hlt x (cw9 _ hx))) (fun x hx=>hs _ (hlt x (cw9 _ hx))),
   z2n hl hh hs (by simpa using hr.2) h2 (fun x hx=>hlt x (List.mem_append_right _ hx)),rfl⟩
theorem y0b{w w':World}(hs:w2i w w')(hh:∀b,b<w.heap.size->w'.heap[b]? = w.heap[b]?)(may:MemPlace->Prop):w.keptBut w' may:=by
 refine⟨hs.os,hs.output,fun i hi=>?_⟩;rw[hh i hi];split<;>first|exact⟨rfl,rfl,rfl,fun _ _=>rfl⟩|exact .inr ⟨rfl,rfl⟩|rfl|skip
 all_goals simp_all
theorem w1m{H:Type}{enc:TypeId×Value->H}{f:Func}{s:ChangeSpec}{apart fresh handsOn:Bool}{w w':World}{args:Array Value}{v:Value}{ds gs:List (DataW H)}{before:List MemPlace}{m m':Mem}{tb:TypeId}
  (hl:laidOutB P=true) (hts:(f.params.toList.all fun t=>P.readableRec t&&decide (t<P.types.size))=true) (hv:s.vars=[]) (hfn:∀gs',gs'=[]->s.fn H (ds++gs')={ results:=[.lit (.bool true)],args:=ds })
  (hres:f.resultTypes=#[tb]) (hb:P.underlying tb=some .bool) (hW:DataW.Whole enc P f.params.toList s.vars apart w args.toList ds gs before) (h:q2p m' (bV true) v) (hg:w5u m m' w w'):
  s.post enc P f apart fresh handsOn false w args v w':=by
 have hW0:=hW;obtain⟨p,q,hA,hV,rfl,hfz,hnd⟩:=hW0;cases h;rw[hv] at hV;cases gs with
 |cons _ _=>simp[DataW.TrodVars] at hV
 |nil=>
 have hq:q=[]:=hV;subst hq;refine⟨ds,[],p++[],[],p,[],hW,?_,?_,?_,y0b hg.same hg.heap _,fun h=>by simp at h⟩
 ·rw[hfn _ rfl,hres];exact trodAll_cons_mk (RowKit.shut_bool hb _) trodAll_mk0
 ·rw[hfn _ rfl];exact z2n hl hg.heap (fun b hb=>by simpa using hb) hts hA (DataW.TrodAll.lt hA)
 ·rw[hv,hfn _ rfl];rfl
theorem w8o{H:Type}{enc:TypeId×Value->H}{w:World}{args:Array Value}{f:Func}{s:ChangeSpec}{apart:Bool}{ds gs:List (DataW H)}{before:List MemPlace}
  (hW:DataW.Whole enc P f.params.toList s.vars apart w args.toList ds gs before):∃p,DataW.TrodAll enc P w 0 (fun _=>true) true f.params.toList args.toList ds p:=by
 obtain⟨p,q,hA,_⟩:=hW;exact⟨p,hA⟩
end
def w0e(P:Program)(f:FuncId)(fn:Func)(s:ChangeSpec)(c:OpenClaim):Bool:=
 c.wf (OpenSpec.ofChange s)&&laidOutB P&&mapsRowed P &&
 fn.params.all (P.readableRec ·)&&namedTie P c.named s.vars &&
 (c.stops==[])&&(P.stops==[])&&(c.knobs==[])&&(P.stopKnobs==[]) &&
 (c.inPlace==P.inPlace f)&&(c.unfollowed==P.unfollowed f)&&(c.recurses==P.recurses f)&&(c.named==P.varsNamed f) &&
 (c.maps==(fn.params.toList++s.plain.varTypes P).any (P.mapsRec ·))&&(c.ifaces==(fn.params.toList++s.plain.varTypes P).any (P.ifacesRec ·))&&(c.mapsOut==P.mapsAmong fn.resultTypes.toList) &&
 (c.loops==(fn.params.toList++s.plain.varTypes P).any (P.loopsFrom ·))&&(c.wideKeys==(fn.params.toList++s.plain.varTypes P++fn.resultTypes.toList).any (P.wideKeysFrom ·)) &&
 s.vars.all (P.varReadable ·)&&fn.resultTypes.all (fun t=>P.readableRec t&&decide (t<P.types.size))&&(c.ifacesOut==fn.resultTypes.toList.any (P.ifacesRec ·))&&(c.loopsOut==fn.resultTypes.toList.any (P.loopsFrom ·))&&(c.plainKeys==P.plainKeys)&&c.shortTexts.isNone&&P.stopsHeard
def w9d(P:Program)(c:OpenClaim):Bool:=P.mayEnter&&(c.lifted==P.liftsFinal)&&(P.make==some c.make)
def w8d(P:Program)(fn:Func)(s:ChangeSpec)(c:OpenClaim):Bool:=
 (c.kinds==(if c.domain.isEmpty then [] else fn.params.toList.map fun t=>match P.underlying t with|some (.int k)=>some k|_=>none))&&(c.pinned==c.pinnedBy) &&
 (c.veiled==(fn.params.toList++s.plain.varTypes P++fn.resultTypes.toList).any (P.veiledRec ·))&&c.veiledFits P fn.params.toList (fn.params.toList++s.plain.varTypes P++fn.resultTypes.toList)
theorem v7u{P:Program}{f:FuncId}{fn:Func}{s:ChangeSpec}{c:OpenClaim}(h1:w0e P f fn s c=true)(h2:w9d P c=true)(h3:w8d P fn s c=true):joinedFacts P f fn s c=true:=by
 unfold w0e at h1;unfold w9d at h2;unfold w8d at h3
 have e:∀a b c d b1 b2 b3 c1 c2 c3:Bool,a=true->(b1&&b2&&b3)=true->(b&&c&&d&&c1)=true->(a&&b1&&b2&&b3&&b&&c&&d&&c1)=true:=by
  intro a b c d b1 b2 b3 c1 c2 c3 h h' h'';simp only[av8] at *
  simp_all
 exact e _ _ _ _ _ _ _ _ true true h1 h2 h3
end Go.Pv
namespace Go.Proofs.YtcihpgamojpcnaaGreat
open Go Go.Pv
set_option maxRecDepth 100000
theorem q6z:q2y Tryz.prog 9 (fun x=>[sV x]) (fun x:B8=>(x.length+1)) (fun x:B8=>(x.length<=maxLen)):=j8x (show Tryz.prog.underlying 9=some (.string) by kernel_rfl)
theorem j3a:q2y Tryz.prog 25 (fun l=>[V.lst 1 (l.map q0g)]) (fun x:(List B8)=>((x.map (fun x:B8=>(x.length+1))).sum+1)) (fun x:(List B8)=>((∀a,a∈x->(fun x:B8=>(x.length<=maxLen)) a)/\x.length<=maxLen)):=q8u (show Tryz.prog.underlying 25=some (.slice 9) by kernel_rfl) (by kernel_rfl) (by decide) q6z
def j3r(x:q7d):Nat:=(x.Name.length+1)+(((x.Methods.map (fun x:B8=>(x.length+1))).sum+1)+0)+1
def z9n(x:q7d):Prop:=(x.Name.length<=maxLen)/\(((∀a,a∈x.Methods->(fun x:B8=>(x.length<=maxLen)) a)/\x.Methods.length<=maxLen)/\True)
theorem w2k:q2y Tryz.prog 80 q7b j3r z9n:=z2c (q2t (fs:=[(9,0,1),(25,1,1)]) (by kernel_rfl) (by kernel_rfl) (q2j q6z (q2j j3a q8y))) (fun p=>q7d.mk p.1 p.2.1) (fun _=>rfl) (fun _=>rfl) (fun _ h=>h)
theorem w9k:q2y Tryz.prog 22 (fun l=>[V.lst 2 (l.map q7b)]) (fun x:(List q7d)=>((x.map (fun x:q7d=>(j3r x))).sum+1)) (fun x:(List q7d)=>((∀a,a∈x->(fun x:q7d=>(z9n x)) a)/\x.length<=maxLen)):=q8u (show Tryz.prog.underlying 22=some (.slice 80) by kernel_rfl) (by kernel_rfl) (by decide) w2k
def j6c(x:q3j):Nat:=(x.Name.length+1)+((x.Func.length+1)+0)+1
def j6d(x:q3j):Prop:=(x.Name.length<=maxLen)/\((x.Func.length<=maxLen)/\True)
theorem w3a:q2y Tryz.prog 144 q8i j6c j6d:=z2c (q2t (fs:=[(9,0,1),(9,1,1)]) (by kernel_rfl) (by kernel_rfl) (q2j q6z (q2j q6z q8y))) (fun p=>q3j.mk p.1 p.2.1) (fun _=>rfl) (fun _=>rfl) (fun _ h=>h)
theorem w1k:q2y Tryz.prog 84 (fun l=>[V.lst 2 (l.map q8i)]) (fun x:(List q3j)=>((x.map (fun x:q3j=>(j6c x))).sum+1)) (fun x:(List q3j)=>((∀a,a∈x->(fun x:q3j=>(j6d x)) a)/\x.length<=maxLen)):=q8u (show Tryz.prog.underlying 84=some (.slice 144) by kernel_rfl) (by kernel_rfl) (by decide) w3a
def v4j(x:q6g):Nat:=(x.Name.length+1)+(((x.Methods.map (fun x:q3j=>(j6c x))).sum+1)+0)+1
def j5d(x:q6g):Prop:=(x.Name.length<=maxLen)/\(((∀a,a∈x.Methods->(fun x:q3j=>(j6d x)) a)/\x.Methods.length<=maxLen)/\True)
theorem w0k:q2y Tryz.prog 86 q2c v4j j5d:=z2c (q2t (fs:=[(9,0,1),(84,1,1)]) (by kernel_rfl) (by kernel_rfl) (q2j q6z (q2j w1k q8y))) (fun p=>q6g.mk p.1 p.2.1) (fun _=>rfl) (fun _=>rfl) (fun _ h=>h)
theorem w8k:q2y Tryz.prog 23 (fun l=>[V.lst 2 (l.map q2c)]) (fun x:(List q6g)=>((x.map (fun x:q6g=>(v4j x))).sum+1)) (fun x:(List q6g)=>((∀a,a∈x->(fun x:q6g=>(j5d x)) a)/\x.length<=maxLen)):=q8u (show Tryz.prog.underlying 23=some (.slice 86) by kernel_rfl) (by kernel_rfl) (by decide) w0k
theorem y4a:q2y Tryz.prog 3 (fun x=>[V.con (.int .i64 x)]) (fun x:Int=>1) (fun x:Int=>((IntKind.i64).min<=x/\x<=(IntKind.i64).max)):=w2a (show Tryz.prog.underlying 3=some (.int .i64) by kernel_rfl)
def v6j(x:q4e):Nat:=1+((x.Target.length+1)+((x.Method.length+1)+((x.Feature.length+1)+0)))+1
def v8j(x:q4e):Prop:=((IntKind.i64).min<=x.Kind/\x.Kind<=(IntKind.i64).max)/\((x.Target.length<=maxLen)/\((x.Method.length<=maxLen)/\((x.Feature.length<=maxLen)/\True)))
theorem w3k:q2y Tryz.prog 54 q3f v6j v8j:=z2c (q2t (fs:=[(3,0,1),(9,1,1),(9,2,1),(9,3,1)]) (by kernel_rfl) (by kernel_rfl) (q2j y4a (q2j q6z (q2j q6z (q2j q6z q8y))))) (fun p=>q4e.mk p.1 p.2.1 p.2.2.1 p.2.2.2.1) (fun _=>rfl) (fun _=>rfl) (fun _ h=>h)
theorem w5k:q2y Tryz.prog 50 (fun l=>[V.lst 4 (l.map q3f)]) (fun x:(List q4e)=>((x.map (fun x:q4e=>(v6j x))).sum+1)) (fun x:(List q4e)=>((∀a,a∈x->(fun x:q4e=>(v8j x)) a)/\x.length<=maxLen)):=q8u (show Tryz.prog.underlying 50=some (.slice 54) by kernel_rfl) (by kernel_rfl) (by decide) w3k
def v5j(x:q8e):Nat:=(x.Name.length+1)+((x.Component.length+1)+(((x.Calls.map (fun x:q4e=>(v6j x))).sum+1)+(((x.Makes.map (fun x:B8=>(x.length+1))).sum+1)+0)))+1
def j7d(x:q8e):Prop:=(x.Name.length<=maxLen)/\((x.Component.length<=maxLen)/\(((∀a,a∈x.Calls->(fun x:q4e=>(v8j x)) a)/\x.Calls.length<=maxLen)/\(((∀a,a∈x.Makes->(fun x:B8=>(x.length<=maxLen)) a)/\x.Makes.length<=maxLen)/\True)))
theorem w4k:q2y Tryz.prog 52 q9b v5j j7d:=z2c (q2t (fs:=[(9,0,1),(9,1,1),(50,2,1),(25,3,1)]) (by kernel_rfl) (by kernel_rfl) (q2j q6z (q2j q6z (q2j w5k (q2j j3a q8y))))) (fun p=>q8e.mk p.1 p.2.1 p.2.2.1 p.2.2.2.1) (fun _=>rfl) (fun _=>rfl) (fun _ h=>h)
theorem w7k:q2y Tryz.prog 24 (fun l=>[V.lst 4 (l.map q9b)]) (fun x:(List q8e)=>((x.map (fun x:q8e=>(v5j x))).sum+1)) (fun x:(List q8e)=>((∀a,a∈x->(fun x:q8e=>(j7d x)) a)/\x.length<=maxLen)):=q8u (show Tryz.prog.underlying 24=some (.slice 52) by kernel_rfl) (by kernel_rfl) (by decide) w4k
def v8n(x:q4c):Nat:=((x.Ifaces.map (fun x:q7d=>(j3r x))).sum+1)+(((x.Types.map (fun x:q6g=>(v4j x))).sum+1)+(((x.Funcs.map (fun x:q8e=>(v5j x))).sum+1)+(((x.Entries.map (fun x:B8=>(x.length+1))).sum+1)+0)))+1
def q3o(x:q4c):Prop:=((∀a,a∈x.Ifaces->(fun x:q7d=>(z9n x)) a)/\x.Ifaces.length<=maxLen)/\(((∀a,a∈x.Types->(fun x:q6g=>(j5d x)) a)/\x.Types.length<=maxLen)/\(((∀a,a∈x.Funcs->(fun x:q8e=>(j7d x)) a)/\x.Funcs.length<=maxLen)/\(((∀a,a∈x.Entries->(fun x:B8=>(x.length<=maxLen)) a)/\x.Entries.length<=maxLen)/\True)))
theorem w6k:q2y Tryz.prog 27 q7c v8n q3o:=z2c (q2t (fs:=[(22,0,1),(23,1,1),(24,2,1),(25,3,1)]) (by kernel_rfl) (by kernel_rfl) (q2j w9k (q2j w8k (q2j w7k (q2j j3a q8y))))) (fun p=>q4c.mk p.1 p.2.1 p.2.2.1 p.2.2.2.1) (fun _=>rfl) (fun _=>rfl) (fun _ h=>h)
theorem w4a:v4c Tryz.prog 27 (fun x=>V.agg (q7c x)) v8n q3o:=v2u (fs:=[(22,0,1),(23,1,1),(24,2,1),(25,3,1)]) (by kernel_rfl) w6k
theorem w5a:v4c Tryz.prog 25 (fun l=>V.lst 1 (l.map q0g)) (fun x:(List B8)=>((x.map (fun x:B8=>(x.length+1))).sum+1)) (fun x:(List B8)=>((∀a,a∈x->(fun x:B8=>(x.length<=maxLen)) a)/\x.length<=maxLen)):=j4d (by kernel_rfl) j3a
theorem w0l:v4c Tryz.prog 9 (fun x=>sV x) (fun x:B8=>(x.length+1)) (fun x:B8=>(x.length<=maxLen)):=j4d (by kernel_rfl) q6z
abbrev Tx:=B8
def vis(c:UInt8):Bool:=decide (33<=c.toNat)&&decide (c.toNat<=126)&&!decide (c.toNat=35)
def nm(s:Tx):Bool:=s.all vis&&decide (1<=s.length)&&decide (s.length<=100)
def le(a b:Tx):Bool:=Op.bytesLess a b||a==b
theorem y4n{s:Tx}(h:nm s=true):le s []=false:=by
 cases s with
 |nil=>simp[nm] at h
 |cons c s=>simp[le,Op.bytesLess]
theorem w5s{a b:Tx}:le a b=false<->Op.bytesLess b a=true:=by
 unfold le;rcases z8k a b with h|h|h
 ·simp[h,q1y h]
 ·subst h;simp[q5s]
 ·simp[h,q1y h,(z0h h).symm]
theorem v8m(F:Nat)(s:Tx)(h:s.length<=maxLen):y5d F s=some (nm s):=by
 have h':(s.length:Int)<=9223372036854775807:=by have:s.length<=9223372036854775807:=h;omega
 unfold y5d;rw[q9e,if_pos h',bq8];generalize hk:(if (!(s==[]))=true then some (decide ((s.length:Int)<=100)) else some false)=k
 have:=w2f (g:=z7m F s k) (k:=k) (f:=false) s vis (fun _=>rfl) (fun m n=>by
  rw[z7m];cases hi:idx s n with
  |none=>rfl
  |some c=>
   simp only[cl8];by_cases h1:c.toNat<33
   ·rw[z0n (by omega)];simp[vis];omega
   ·rw[z7o (by omega)];by_cases h2:c.toNat>126
    ·rw[z0n (by omega)];simp[vis];omega
    ·rw[z7o (by omega)];by_cases h3:c.toNat=35
     ·rw[if_pos (by simp[h3])];simp[vis,h3]
     ·rw[if_neg (by simp;omega),if_pos];simp[vis];omega) s.length 0 (by omega)
 rw[show((0:Nat):Int)=0 from rfl] at this;rw[this,List.drop_zero,<-hk];unfold nm;cases s.all vis
 ·simp
 ·cases s with
  |nil=>simp
  |cons c s=>simp only[if_true,aj8];rw[if_pos (by simp)];congr 1;rw[Bool.eq_iff_iff];simp only[decide_eq_true_eq,av8,cj8];omega
theorem z4v(F:Nat)(s:Tx)(h:s.length<=maxLen):M88 F s=some (nm s):=by
 have h':(s.length:Int)<=9223372036854775807:=by have:s.length<=9223372036854775807:=h;omega
 unfold M88;rw[q9e,if_pos h',bq8];generalize hk:(if decide ((s.length:Int)>=1)=true then some (decide ((s.length:Int)<=100)) else some false)=k
 have:=w2f (g:=j5h F s k) (k:=k) (f:=false) s vis (fun _=>rfl) (fun m n=>by
  rw[j5h];cases hi:idx s n with
  |none=>rfl
  |some c=>
   simp only[cl8];by_cases h1:c.toNat<33
   ·rw[z0n (by omega)];simp[vis];omega
   ·rw[z7o (by omega)];by_cases h2:c.toNat>126
    ·rw[z0n (by omega)];simp[vis];omega
    ·rw[z7o (by omega)];by_cases h3:c.toNat=35
     ·rw[if_pos (by simp[h3])];simp[vis,h3]
     ·rw[if_neg (by simp;omega),if_pos];simp[vis];omega) s.length 0 (by omega)
 rw[show((0:Nat):Int)=0 from rfl] at this;rw[this,List.drop_zero,<-hk];unfold nm;cases s.all vis
 ·simp
 ·simp only[if_true,aj8];by_cases h1:1<=s.length
  ·rw[z0n (by omega)];congr 1;rw[Bool.eq_iff_iff];simp only[decide_eq_true_eq,av8];omega
  ·rw[z7o (by omega)];congr 1;symm;rw[Bool.eq_false_iff];simp only[decide_eq_true_eq,av8,ne_eq];omega
def nmd(s before:Tx)(first:Bool):Int:=if !nm s then 8 else if !first then (if le s before then 10 else 0) else 0
theorem j3q(F:Nat)(s b:Tx)(f:Bool)(h:s.length<=maxLen):M87 F s b f=some (nmd s b f):=by
 unfold M87 nmd;rw[v8m F s h,cl8,q9e];cases nm s
 ·simp
 ·cases f
  ·simp[le];split<;>rfl
  ·simp
def nme(s:Tx)(p:Option Tx):Int:=if !nm s then 8 else match p with|some b=>if le s b then 10 else 0|none=>0
theorem w0b(s b:Tx):nmd s b true=nme s none:=by unfold nmd nme;cases nm s<;>rfl
theorem w5l(s b:Tx):nmd s b false=nme s (some b):=by unfold nmd nme;cases nm s<;>rfl
theorem z1o{s:Tx}{p:Option Tx}(h:nme s p=0):nm s=true/\∀b,p=some b->Op.bytesLess b s=true:=by
 unfold nme at h;cases hn:nm s
 ·simp[hn] at h
 ·refine⟨rfl,fun b hb=>?_⟩;subst hb;simp only[hn,ci9,cy8,if_false] at h;split at h
  ·simp at h
  ·rename_i hl;exact w5s.1 (by simpa using hl)
abbrev z0u:=List (Tx×Bool)
def z6f(m:z0u):List Tx->z0u
 |[]=>m
 |x::l=>z6f (q0d m x true) l
def has(m:z0u)(x:Tx):Bool:=(q3b m x).getD false
theorem j6a(x:Tx):∀(l:List Tx) (m:z0u),has (z6f m l) x=(has m x||l.contains x)
 |[],m=>by simp[z6f]
 |y::l,m=>by
  rw[z6f,j6a x l,List.contains_cons];unfold has;rw[q8g];by_cases h:y=x
  ·subst h;simp
  ·rw[if_neg h];have:(x==y)=false:=by simpa using fun e=>h e.symm
   rw[this,cs8]
theorem z0m(x:Tx)(l:List Tx):has (z6f [] l) x=l.contains x:=by rw[j6a];simp[has,q3b]
def q2x:Option Tx->List Tx->Int
 |_,[]=>0
 |p,s::l=>if nme s p≠0 then nme s p else q2x (some s) l
def ifE:Option Tx->List q7d->Int
 |_,[]=>0
 |p,x::l=>if nme x.Name p≠0 then nme x.Name p else if x.Methods=[] then 13 else if 200<x.Methods.length then 3 else if q2x none x.Methods≠0 then q2x none x.Methods else ifE (some x.Name) l
def mtE(fs:Tx->Bool)(lo:Bool):Option Tx->List q3j->Int
 |_,[]=>0
 |p,m::l=>if nme m.Name p≠0 then nme m.Name p else if (!lo&&!fs m.Func)=true then 4 else mtE fs lo (some m.Name) l
def tyE(fs:Tx->Bool)(lo:Bool):Option Tx->List q6g->Int
 |_,[]=>0
 |p,x::l=>if nme x.Name p≠0 then nme x.Name p else if 200<x.Methods.length then 3 else if mtE fs lo none x.Methods≠0 then mtE fs lo none x.Methods else tyE fs lo (some x.Name) l
def clE(fs:Tx->Bool)(is:Tx->Option (List Tx))(lo:Bool)(c:q4e):Int:=
 if c.Kind=1 then (if (!lo&&!fs c.Target)=true then 4 else if c.Method≠[] then 2 else if c.Feature≠[]/\nm c.Feature=false then 8 else 0)
 else if c.Kind=2 then (if (!lo&&!((is c.Target).elim false fun l=>l.contains c.Method))=true then 4 else if c.Feature≠[]/\nm c.Feature=false then 8 else 0) else 7
def csE(fs:Tx->Bool)(is:Tx->Option (List Tx))(lo:Bool):List q4e->Int
 |[]=>0
 |c::l=>if clE fs is lo c≠0 then clE fs is lo c else csE fs is lo l
def lsE(there:Tx->Bool)(lo:Bool):Option Tx->List Tx->Int
 |_,[]=>0
 |p,s::l=>if (!lo&&!there s)=true then 4 else if (p.elim false fun b=>le s b)=true then 10 else lsE there lo (some s) l
def fnE(fs ts:Tx->Bool)(is:Tx->Option (List Tx))(lo:Bool):Option Tx->List q8e->Int
 |_,[]=>0
 |p,x::l=>if nme x.Name p≠0 then nme x.Name p else if nm x.Component=false then 8 else if 200<x.Calls.length then 3 else if csE fs is lo x.Calls≠0 then csE fs is lo x.Calls else if lsE ts lo none x.Makes≠0 then lsE ts lo none x.Makes else fnE fs ts is lo (some x.Name) l
def ifm(m:List (Tx×q7d)):List q7d->List (Tx×q7d)
 |[]=>m
 |x::l=>ifm (q0d m x.Name x) l
def z8r(g:q4c):Tx->Bool:=fun x=>(g.Funcs.map (·.Name)).contains x
def v7i(g:q4c):Tx->Bool:=fun x=>(g.Types.map (·.Name)).contains x
def v5w(g:q4c):Tx->Option (List Tx):=fun x=>(q3b (ifm [] g.Ifaces) x).map (·.Methods)
def chk(lo:Bool)(g:q4c):Int:=
 if 200<g.Ifaces.length then 3 else if 500<g.Types.length then 3 else if 3000<g.Funcs.length then 3
 else if ifE none g.Ifaces≠0 then ifE none g.Ifaces
 else if tyE (z8r g) lo none g.Types≠0 then tyE (z8r g) lo none g.Types
 else if fnE (z8r g) (v7i g) (v5w g) lo none g.Funcs≠0 then fnE (z8r g) (v7i g) (v5w g) lo none g.Funcs
 else lsE (z8r g) lo none g.Entries
theorem v8f{F:Nat}(k:z0u->Option q4d):∀(l:List q8e) (m:z0u),j3i F k l m=k (z6f m (l.map (·.Name)))
 |[],m=>rfl
 |x::l,m=>by rw[j3i,v8f k l];rfl
theorem v9f{F:Nat}(k:z0u->Option q4d):∀(l:List q6g) (m:z0u),j4i F k l m=k (z6f m (l.map (·.Name)))
 |[],m=>rfl
 |x::l,m=>by rw[j4i,v9f k l];rfl
theorem v0g{F:Nat}(k:List (Tx×q7d)->Option q4d):∀(l:List q7d) (m:List (Tx×q7d)),j5i F k l m=k (ifm m l)
 |[],m=>rfl
 |x::l,m=>by rw[j5i,v0g k l];rfl
def kOf(g:q4c)(lo:Bool):q4d:=q4d.mk lo (ifm [] g.Ifaces) (z6f [] (g.Types.map (·.Name))) (z6f [] (g.Funcs.map (·.Name)))
theorem y3r(F:Nat)(g:q4c)(lo:Bool):M52 F g lo=some (kOf g lo):=by
 unfold M52;simp only[q9e,v0g,v9f,v8f];rfl
def pz(n:Int)(p:Option Tx)(s:Tx):Prop:=match p with|none=>n=0|some b=>n>0/\s=b
theorem j0p{n:Int}{p:Option Tx}{s x:Tx}(h:pz n p s):nmd x s (n==0)=nme x p:=by
 cases p with
 |none=>have h:n=0:=h;subst h;exact w0b x s
 |some b=>
  obtain⟨h1,h2⟩:=h;subst h2;rw[show(n==0)=false by simp;omega];exact w5l x s
theorem v8d(F:Nat)(k:Option Int):∀(l:List Tx) (n:Int) (s:Tx) (p:Option Tx),(∀x,x∈l->x.length<=maxLen)->0<=n->pz n p s->z5w F k l n s=if q2x p l≠0 then some (q2x p l) else k
 |[],n,s,p,_,_,_=>by simp[z5w,q2x]
 |x::l,n,s,p,hx,hn,hp=>by
  rw[z5w,j3q F x s _ (hx x (by simp)),cl8,j0p hp,q2x];by_cases h:nme x p=0
  ·simp only[h,bne_self_eq_false,cy8,ne_eq,not_true_eq_false,if_false];exact v8d F k l (n+1) x (some x) (fun y hy=>hx y (cl9 _ hy)) (by omega) ⟨by omega,rfl⟩
  ·rw[if_pos (by simpa using h),if_pos h,if_pos h]
theorem v9d(F:Nat)(k:Option Int):∀(l:List q7d) (n:Int) (s:Tx) (p:Option Tx),(∀x,x∈l->z9n x)->0<=n->pz n p s->z6w F k l n s=if ifE p l≠0 then some (ifE p l) else k
 |[],n,s,p,_,_,_=>by simp[z6w,ifE]
 |x::l,n,s,p,hx,hn,hp=>by
  obtain⟨o1,⟨o2,_⟩,_⟩:=hx x (by simp);rw[z6w];simp only[q9e];rw[j3q F x.Name s _ o1,cl8,j0p hp,ifE];by_cases h:nme x.Name p=0
  ·simp only[h,bne_self_eq_false,cy8,ne_eq,not_true_eq_false,if_false];by_cases h1:x.Methods=[]
   ·rw[if_pos (by simp[h1]),if_pos h1];simp
   ·rw[if_neg (by simpa using h1),if_neg h1];by_cases h2:200<x.Methods.length
    ·rw[z0n (by omega),if_pos h2];simp
    ·rw[z7o (by omega),if_neg h2,v8d F _ _ 0 [] none o2 (by omega) rfl];by_cases h3:q2x none x.Methods=0
     ·simp only[h3,bne_self_eq_false,cy8,ne_eq,not_true_eq_false,if_false];exact v9d F k l (n+1) x.Name (some x.Name) (fun y hy=>hx y (cl9 _ hy)) (by omega) ⟨by omega,rfl⟩
     ·rw[if_pos h3,if_pos h3,if_pos h3]
  ·rw[if_pos (by simpa using h),if_pos h,if_pos h]
theorem v6d(F:Nat)(a:q4d)(fs:Tx->Bool)(hf:∀x,(q3b a.funcs x).getD false=fs x)(k:Option Int):∀(l:List q3j) (n:Int) (s:Tx) (p:Option Tx),(∀x,x∈l->x.Name.length<=maxLen)->0<=n->pz n p s->z3w F a k l n s=if mtE fs a.loose p l≠0 then some (mtE fs a.loose p l) else k
 |[],n,s,p,_,_,_=>by simp[z3w,mtE]
 |x::l,n,s,p,hx,hn,hp=>by
  have ih:=v6d F a fs hf k l (n+1) x.Name (some x.Name) (fun y hy=>hx y (cl9 _ hy)) (by omega) ⟨by omega,rfl⟩;rw[z3w];simp only[q9e];rw[j3q F x.Name s _ (hx x (by simp)),cl8,j0p hp,mtE,ih,hf];by_cases h:nme x.Name p=0
  ·simp only[h,bne_self_eq_false,cy8,ne_eq,not_true_eq_false,if_false];cases a.loose<;>cases fs x.Func<;>simp
  ·rw[if_pos (by simpa using h),if_pos h,if_pos h]
theorem v7d(F:Nat)(a:q4d)(fs:Tx->Bool)(hf:∀x,(q3b a.funcs x).getD false=fs x)(k:Option Int):∀(l:List q6g) (n:Int) (s:Tx) (p:Option Tx),(∀x,x∈l->j5d x)->0<=n->pz n p s->z4w F a k l n s=if tyE fs a.loose p l≠0 then some (tyE fs a.loose p l) else k
 |[],n,s,p,_,_,_=>by simp[z4w,tyE]
 |x::l,n,s,p,hx,hn,hp=>by
  obtain⟨o1,⟨o2,_⟩,_⟩:=hx x (by simp);rw[z4w];simp only[q9e];rw[j3q F x.Name s _ o1,cl8,j0p hp,tyE];by_cases h:nme x.Name p=0
  ·simp only[h,bne_self_eq_false,cy8,ne_eq,not_true_eq_false,if_false];by_cases h2:200<x.Methods.length
   ·rw[z0n (by omega),if_pos h2];simp
   ·rw[z7o (by omega),if_neg h2,v6d F a fs hf _ _ 0 [] none (fun y hy=>(o2 y hy).1) (by omega) rfl];by_cases h3:mtE fs a.loose none x.Methods=0
    ·simp only[h3,bne_self_eq_false,cy8,ne_eq,not_true_eq_false,if_false];exact v7d F a fs hf k l (n+1) x.Name (some x.Name) (fun y hy=>hx y (cl9 _ hy)) (by omega) ⟨by omega,rfl⟩
    ·rw[if_pos h3,if_pos h3,if_pos h3]
  ·rw[if_pos (by simpa using h),if_pos h,if_pos h]
theorem v7s(F:Nat)(l:List Tx)(x:Tx):M10 F l x=some (l.contains x):=by
 unfold M10 M35;rw[q9e];have:=y2z (g:=j3j F x (some (-1))) (fun y:Tx=>x==y) (fun _=>rfl) (fun y l n=>by rw[j3j]) l 0;rw[show((0:Nat):Int)=0 from rfl] at this;rw[this];have e:(l.any fun y=>x==y)=l.contains x:=by rw[List.contains_eq_any_beq]
 rw[e];cases l.contains x
 ·rfl
 ·simp
theorem y4d(F:Nat)(a:q4d)(fs:Tx->Bool)(is:Tx->Option (List Tx))(hf:∀x,(q3b a.funcs x).getD false=fs x)(hi:∀x,(q3b a.ifaces x).map (·.Methods)=is x)(c:q4e)(hc:c.Feature.length<=maxLen):y1s F a c=some (clE fs is a.loose c):=by
 unfold y1s clE;rw[q9e,v8m F _ hc,<-hi,hf];simp only[cl8,v7s]
 have tail:(if (!(c.Feature==([]:Tx)))=true then if (!nm c.Feature)=true then some (8:Int) else some 0 else some 0)=some (if c.Feature≠[]/\nm c.Feature=false then 8 else 0):=by
  by_cases h1:c.Feature=[]<;>cases h2:nm c.Feature<;>simp[h1]
 rw[tail];by_cases k1:c.Kind=1
 ·rw[if_pos (by simp[k1]),if_pos k1];by_cases k3:c.Method=[]<;>cases a.loose<;>cases fs c.Target<;>simp[k3]
 ·rw[if_neg (by simpa using k1),if_neg k1];by_cases k2:c.Kind=2
  ·rw[if_pos (by simp[k2]),if_pos k2];cases hm:q3b a.ifaces c.Target with
   |none=>cases a.loose<;>simp
   |some x=>
    cases a.loose
    ·cases hcc:x.Methods.contains c.Method<;>simp[hcc]<;>simp_all
    ·simp
  ·rw[if_neg (by simpa using k2),if_neg k2]
theorem v4d(F:Nat)(a:q4d)(fs:Tx->Bool)(is:Tx->Option (List Tx))(hf:∀x,(q3b a.funcs x).getD false=fs x)(hi:∀x,(q3b a.ifaces x).map (·.Methods)=is x)(k:Option Int):∀(l:List q4e),(∀c,c∈l->c.Feature.length<=maxLen)->z1w F a k l=if csE fs is a.loose l≠0 then some (csE fs is a.loose l) else k
 |[],_=>by simp[z1w,csE]
 |c::l,h=>by
  rw[z1w,y4d F a fs is hf hi c (h c (by simp)),cl8,csE,v4d F a fs is hf hi k l (fun c hc=>h c (cl9 _ hc))];by_cases h1:clE fs is a.loose c=0
  ·simp only[h1,bne_self_eq_false,cy8,ne_eq,not_true_eq_false,if_false]
  ·rw[if_pos (by simpa using h1),if_pos h1,if_pos h1]
theorem z2e{α:Type}{a l:List α}{x:α}{n:Nat}(h:a.drop n=x::l):∃hn:n<a.length,a[n]=x/\a.drop (n+1)=l:=by
 have hn:n<a.length:=by
  rcases cb8 n a.length with h2|h2
  ·exact h2
  ·rw[ap9 h2] at h;simp at h
 rw[ch9 hn] at h;simp only[co9] at h;exact⟨hn,h.1,h.2⟩
theorem j2s{α:Type}{a:List α}{n:Nat}(hn:n<a.length)(h0:n≠0)(hb:a.length<=maxLen):∃h:n - 1<a.length,idx a (w64 ((n:Int) - 1))=some a[n - 1]:=by
 have hb':a.length<=9223372036854775807:=hb;refine⟨by omega,?_⟩;rw[q9r (by omega) (by omega),show(n:Int) - 1=((n - 1:Nat):Int) by omega];exact q9l _
def prv(a:List Tx)(n:Nat):Option Tx:=if n=0 then none else a[n - 1]?
theorem z4d(a:List Tx):prv a 0=none:=rfl
theorem z7n{a:List Tx}{x:Tx}{n:Nat}(hn:n<a.length)(hx:a[n]=x):prv a (n+1)=some x:=by
 unfold prv;rw[if_neg (by omega),Nat.add_sub_cancel,be8 hn,hx]
theorem v2o{a:List Tx}{n:Nat}(hn:n<a.length)(h0:n≠0):∃h:n - 1<a.length,prv a n=some a[n - 1]:=by
 refine⟨by omega,?_⟩;unfold prv;rw[if_neg h0,be8 (by omega)]
theorem v3d(F:Nat)(a:q4d)(a2:List Tx)(a3:z0u)(ha:a2.length<=maxLen)(k:Option Int):∀(l:List Tx) (n:Nat),a2.drop n=l->z0w F a a2 a3 k l n=if lsE (has a3) a.loose (prv a2 n) l≠0 then some (lsE (has a3) a.loose (prv a2 n) l) else k
 |[],n,_=>by simp[z0w,lsE]
 |x::l,n,hd=>by
  obtain⟨hn,hx,hl⟩:=z2e hd;have ih:=v3d F a a2 a3 ha k l (n+1) hl;rw[z7n hn hx,show((n+1:Nat):Int)=(n:Int)+1 from rfl] at ih;rw[z0w];simp only[q9e];rw[ih,lsE];have e:(q3b a3 x).getD false=has a3 x:=rfl;rw[e];by_cases h0:n=0
  ·subst h0;rw[z4d];cases a.loose<;>cases has a3 x<;>simp
  ·obtain⟨_,e1⟩:=j2s hn h0 ha;obtain⟨_,e2⟩:=v2o hn h0;rw[z0n (show(n:Int)>0 by omega),e1,e2];simp only[cl8,cw8];have e3:(Op.bytesLess x a2[n - 1]||x==a2[n - 1])=le x a2[n - 1]:=rfl;rw[e3];cases a.loose<;>cases has a3 x<;>by_cases hc:le x a2[n - 1]=true<;>simp[hc]
theorem w0u(F:Nat)(a:q4d)(a2:List Tx)(a3:z0u)(ha:a2.length<=maxLen):M78 F a a2 a3=some (lsE (has a3) a.loose none a2):=by
 unfold M78;rw[q9e];have:=v3d F a a2 a3 ha (some 0) a2 0 rfl;rw[show((0:Nat):Int)=0 from rfl,z4d] at this;rw[this];split
 ·rfl
 ·rename_i h;simp only[ne_eq,Decidable.not_not] at h;rw[h]
theorem v5d(F:Nat)(a:q4d)(fs ts:Tx->Bool)(is:Tx->Option (List Tx))(hf:∀x,(q3b a.funcs x).getD false=fs x)(hi:∀x,(q3b a.ifaces x).map (·.Methods)=is x)(ht:has a.types=ts)(k:Option Int):
  ∀(l:List q8e) (n:Int) (s:Tx) (p:Option Tx),(∀x,x∈l->j7d x)->0<=n->pz n p s->z2w F a k l n s=if fnE fs ts is a.loose p l≠0 then some (fnE fs ts is a.loose p l) else k
 |[],n,s,p,_,_,_=>by simp[z2w,fnE]
 |x::l,n,s,p,hx,hn,hp=>by
  obtain⟨o1,o2,⟨o3,_⟩,⟨_,o4⟩,_⟩:=hx x (by simp);rw[z2w];simp only[q9e];rw[j3q F x.Name s _ o1,cl8,j0p hp,fnE];by_cases h:nme x.Name p=0
  ·simp only[h,bne_self_eq_false,cy8,ne_eq,not_true_eq_false,if_false];rw[v8m F _ o2,cl8];by_cases h1:nm x.Component=false
   ·rw[if_pos (by simp[h1]),if_pos h1];simp
   ·rw[if_neg (by simpa using h1),if_neg h1];by_cases h2:200<x.Calls.length
    ·rw[z0n (by omega),if_pos h2];simp
    ·rw[z7o (by omega),if_neg h2,v4d F a fs is hf hi _ _ (fun c hc=>(o3 c hc).2.2.2.1)];by_cases h3:csE fs is a.loose x.Calls=0
     ·simp only[h3,bne_self_eq_false,cy8,ne_eq,not_true_eq_false,if_false];rw[w0u F a _ _ o4,cl8,ht];by_cases h4:lsE ts a.loose none x.Makes=0
      ·simp only[h4,bne_self_eq_false,cy8,ne_eq,not_true_eq_false,if_false];exact v5d F a fs ts is hf hi ht k l (n+1) x.Name (some x.Name) (fun y hy=>hx y (cl9 _ hy)) (by omega) ⟨by omega,rfl⟩
      ·rw[if_pos (by simpa using h4),if_pos h4,if_pos h4]
     ·rw[if_pos h3,if_pos h3,if_pos h3]
  ·rw[if_pos (by simpa using h),if_pos h,if_pos h]
theorem orz{n:Int}:(if n≠0 then some n else some 0)=some n:=by split<;>simp_all
theorem y2r(F:Nat)(g:q4c)(lo:Bool)(h:q3o g):M53 F (kOf g lo) g=some (chk lo g):=by
 obtain⟨⟨o1,_⟩,⟨o2,_⟩,⟨o3,_⟩,⟨_,o4⟩,_⟩:=h;have hf:∀x,(q3b (kOf g lo).funcs x).getD false=z8r g x:=fun x=>z0m x _;have ht:has (kOf g lo).types=v7i g:=funext fun x=>z0m x _;have hi:∀x,(q3b (kOf g lo).ifaces x).map (·.Methods)=v5w g x:=fun x=>rfl;have hf':has (kOf g lo).funcs=z8r g:=funext fun x=>z0m x _;unfold M53 chk M75 M76 M77;simp only[q9e];rw[v9d F _ _ 0 [] none o1 (by omega) rfl,v7d F _ _ hf _ _ 0 [] none o2 (by omega) rfl,v5d F _ _ _ _ hf hi ht _ _ 0 [] none o3 (by omega) rfl,orz,orz,orz,w0u F _ _ _ o4,hf',show(kOf g lo).loose=lo from rfl];simp only[cl8];by_cases h1:200<g.Ifaces.length
 ·rw[z0n (by omega),if_pos h1]
 rw[z7o (by omega),if_neg h1];by_cases h2:500<g.Types.length
 ·rw[z0n (by omega),if_pos h2]
 rw[z7o (by omega),if_neg h2];by_cases h3:3000<g.Funcs.length
 ·rw[z0n (by omega),if_pos h3]
 rw[z7o (by omega),if_neg h3];refine y2e ne0 (fun _=>rfl) (fun _=>y2e ne0 (fun _=>rfl) (fun _=>y2e ne0 (fun _=>rfl) (fun _=>rfl)))
theorem w7h(F:Nat)(g:q4c)(h:q3o g):M20 F g=some (chk false g):=by
 unfold M20;rw[y3r,cl8,y2r F g false h];rfl
end Go.Proofs.YtcihpgamojpcnaaGreat
