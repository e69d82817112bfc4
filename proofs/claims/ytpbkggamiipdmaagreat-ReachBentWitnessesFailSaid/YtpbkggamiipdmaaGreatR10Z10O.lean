/- Part of the proof: Q, X, XR, ZT, Z10Ord, K, Z10O. -/
import Derived.Test.YtpbkggamiipdmaaGreatR10PvU
import Derived.Test.YtpbkggamiipdmaaGreatR10ZA
import Derived.Test.YtpbkggamiipdmaaGreatR10ZC
import Derived.Test.YtpbkggamiipdmaaGreatR10DA
import Derived.Test.YtpbkggamiipdmaaGreatR10Z10M
import Derived.KernelRfl
import Derived.WideKeyArgs
import Derived.Deep.Slices
import Derived.ProofKit
import Derived.OpenShut
import Derived.JoinedCond
import Derived.Test.YtpbkggamiipdmaaGreatR10Z10T
namespace Go.Pv
open Go
theorem q9w{n:Int}(h : -9223372036854775808<=n)(h':n<=9223372036854775807):w64 n=n:=by
 have:w64 n=if n % 18446744073709551616>=9223372036854775808 then n % 18446744073709551616 - 18446744073709551616 else n % 18446744073709551616:=by
  simp[w64,IntKind.wrap,IntKind.signed,IntKind.bits]
 rw[this]
 split<;>omega
theorem q2e{α β:Type}(k:α)(b:α->β):jn k b=b k:=rfl
theorem q2h{α:Type}{xs:List α}{j:Nat}(h:j<xs.length):idx xs (j:Int)=some xs[j]:=by
 simp[idx,h]
theorem z4y{α:Type}{p:Prop}[Decidable p]{x y:α}(h:p):(if decide p=true then x else y)=x:=by simp[h]
theorem z7z{α:Type}{p:Prop}[Decidable p]{x y:α}(h:¬p):(if decide p=true then x else y)=y:=by simp[h]
theorem y5a{a b:Nat}(h:a+b<4611686018427387904):w64 (Int.fdiv (IntKind.wrap .u64 (w64 ((a:Int)+(b:Int)))) (2 ^ (min (Int.toNat 1) (IntKind.bits .u64))))=(((a+b) / 2:Nat):Int):=by
 rw[q9w (n:=(a:Int)+b) (by omega) (by omega)]
 have:IntKind.wrap .u64 ((a:Int)+b)=((a+b:Nat):Int):=by
  simp only[IntKind.wrap,IntKind.signed,IntKind.bits,Bool.false_and]
  simp
  omega
 rw[this]
 have e:(2:Int) ^ (min (Int.toNat 1) (IntKind.bits .u64))=2:=by decide
 rw[e,Int.fdiv_eq_ediv_of_nonneg _ (by omega)]
 rw[q9w (by omega) (by omega)]
 omega
theorem q6j{α β:Type}[DecidableEq α](xs:List (α×β))(k k':α)(v:β):q6b (q0g xs k v) k'=if k=k' then some v else q6b xs k':=by
 induction xs with
 |nil=>simp[q0g,q6b]
 |cons p r ih=>
  simp only[q0g]
  split
  ·rename_i h
   simp only[q6b,h]
   split<;>simp_all
  ·rename_i h
   simp only[q6b]
   by_cases h2:p.1=k'
   ·rw[if_pos h2,if_pos h2,if_neg (fun e=>h (h2.trans e.symm))]
   ·rw[if_neg h2,if_neg h2];exact ih
theorem j4w(x:UInt8)(a:B8)(y:UInt8)(b:B8):Op.bytesLess (x::a) (y::b)=(decide (x<y)||(x==y&&Op.bytesLess a b)):=by
 rw[Op.bytesLess]
theorem q9o:∀a:B8,Op.bytesLess a a=false
 |[]=>by simp[Op.bytesLess]
 |x::a=>by rw[j4w,q9o a];simp
theorem q4n:∀{a b c:B8},Op.bytesLess a b=true->Op.bytesLess b c=true->Op.bytesLess a c=true
 |[],[],_,h,_=>by simp[Op.bytesLess] at h
 |[],y::b,[],_,h=>by simp[Op.bytesLess] at h
 |[],y::b,z::c,_,_=>by simp[Op.bytesLess]
 |x::a,[],_,h,_=>by simp[Op.bytesLess] at h
 |x::a,y::b,[],_,h=>by simp[Op.bytesLess] at h
 |x::a,y::b,z::c,h,g=>by
  rw[j4w] at *
  simp only[Bool.or_eq_true,decide_eq_true_eq,Bool.and_eq_true,beq_iff_eq,UInt8.lt_iff_toNat_lt] at *
  rcases h with h|⟨rfl,h⟩<;>rcases g with g|⟨rfl,g⟩
  ·exact .inl (by omega)
  ·exact .inl h
  ·exact .inl g
  ·exact .inr ⟨rfl,q4n h g⟩
theorem z8k:∀a b:B8,Op.bytesLess a b=true\/a=b\/Op.bytesLess b a=true
 |[],[]=>by simp
 |[],y::b=>by simp[Op.bytesLess]
 |x::a,[]=>by simp[Op.bytesLess]
 |x::a,y::b=>by
  rw[j4w,j4w]
  simp only[Bool.or_eq_true,decide_eq_true_eq,Bool.and_eq_true,beq_iff_eq,UInt8.lt_iff_toNat_lt,List.cons.injEq]
  rcases Nat.lt_trichotomy x.toNat y.toNat with h|h|h
  ·exact .inl (.inl h)
  ·have:=UInt8.toNat_inj.1 h
   subst this
   rcases z8k a b with h|h|h
   ·exact .inl (.inr ⟨rfl,h⟩)
   ·exact .inr (.inl ⟨rfl,h⟩)
   ·exact .inr (.inr (.inr ⟨rfl,h⟩))
  ·exact .inr (.inr (.inl h))
theorem q3s{a b:B8}(h:Op.bytesLess a b=true):Op.bytesLess b a=false:=by
 cases h':Op.bytesLess b a with
 |false=>rfl
 |true=>have:=q4n h h';rw[q9o] at this;simp at this
theorem z7y{a b:B8}(h:Op.bytesLess a b=true):a≠b:=by rintro rfl;rw[q9o] at h;simp at h
theorem y0c(a b:B8):(!(Op.bytesLess a b||a==b))=Op.bytesLess b a:=by
 rcases z8k a b with h|h|h
 ·rw[h,q3s h];simp
 ·subst h;simp[q9o]
 ·rw[h,q3s h];simp;exact fun e=>z7y h e.symm
theorem idxL{α:Type}{g:List α->Int->Option Int}{k:Option Int}(p:α->Bool)(h0:∀n,g [] n=k)(h1:∀x l n,g (x::l) n=if p x=true then some n else g l (n+1)):
  ∀l (n:Nat),g l n=if l.any p=true then some ((n+l.findIdx p:Nat):Int) else k
 |[],n=>by simp[h0]
 |x::l,n=>by
  have e:((n:Int)+1)=((n+1:Nat):Int):=rfl
  rw[h1,e,idxL p h0 h1 l (n+1)]
  cases h:p x
  ·have e2:n+1+l.findIdx p=n+(l.findIdx p+1):=by omega
   simp only[List.any_cons,h,Bool.false_or,List.findIdx_cons,cond_false,e2,Bool.false_eq_true,if_false]
  ·simp[List.findIdx_cons,h]
theorem w4f{β:Type}{g:Nat->Int->Option β}{k:Option β}{f:β}(s:B8)(p:UInt8->Bool)(h0:∀n,g 0 n=k)
  (h1:∀m n,g (m+1) n=(idx s n).bind fun c=>if p c=true then g m (n+1) else some f):
  ∀(m n:Nat),n+m=s.length->g m n=if (s.drop n).all p=true then k else some f
 |0,n,h=>by rw[h0,List.drop_eq_nil_of_le (by omega)];simp
 |m+1,n,h=>by
  have hn:n<s.length:=by omega
  have e:((n:Int)+1)=((n+1:Nat):Int):=rfl
  rw[h1,q2h hn,Option.bind_some,e,w4f s p h0 h1 m (n+1) (by omega),List.drop_eq_getElem_cons hn,List.all_cons]
  cases h:p s[n]
  ·simp only[Bool.false_and,Bool.false_eq_true,if_false]
  ·simp only[Bool.true_and,if_true]
theorem ite2{α:Type}{p q:Prop}[Decidable p][Decidable q]{x y:Option α}{a b:α}(h:p<->q)(h1:q->x=some a)(h2:¬q->y=some b):(if p then x else y)=some (if q then a else b):=by
 by_cases hq:q
 ·rw[if_pos (h.2 hq),if_pos hq,h1 hq]
 ·rw[if_neg (fun hp=>hq (h.1 hp)),if_neg hq,h2 hq]
theorem ne0{n:Int}:(n != 0)=true<->n≠0:=by simp
set_option linter.unusedVariables false
set_option linter.unusedSimpArgs false
theorem j8u(a:B8):leT a a=true:=by simp[leT,q9o]
theorem z7d(a b:B8):(leT a b||leT b a)=true:=by
 unfold leT
 rcases z8k a b with h|h|h
 ·simp[q3s h]
 ·subst h;simp[q9o]
 ·simp[q3s h]
theorem j9u{a b:B8}(h:leT a b=true)(h':leT b a=true):a=b:=by
 unfold leT at h h'
 rcases z8k a b with g|g|g
 ·simp[g] at h'
 ·exact g
 ·simp[g] at h
theorem q2z(a b c:B8)(h:leT a b=true)(h':leT b c=true):leT a c=true:=by
 unfold leT at *
 rcases z8k a b with g|g|g
 ·rcases z8k b c with k|k|k
  ·simp[q3s (q4n g k)]
  ·subst k;simp[q3s g]
  ·simp[k] at h'
 ·subst g;exact h'
 ·simp[g] at h
theorem w1c{a b:B8}(h:Op.bytesLess a b=true):leT a b=true:=by simp[leT,q3s h]
theorem w6b{a b:B8}(h:leT a b=true)(hne:a≠b):Op.bytesLess a b=true:=by
 rcases z8k a b with g|g|g
 ·exact g
 ·exact absurd g hne
 ·simp[leT,g] at h
abbrev leK{α:Type}(a b:B8×α):Bool:=leT a.1 b.1
def atK{α:Type}(l:List (B8×α))(k:B8):List (B8×α):=l.filter fun p=>decide (p.1=k)
theorem z5e{α:Type}(l:List (B8×α))(k:B8):atK (q4m l) k=atK l k:=by
 have hs:(atK l k).Sublist (q4m l):=List.sublist_mergeSort (le:=leK) (fun a b c=>q2z a.1 b.1 c.1) (fun a b=>z7d a.1 b.1) (by
  refine List.Pairwise.imp_of_mem (R:=fun _ _=>True) ?_ (List.pairwise_of_forall (by simp))
  intro a b ha hb _
  have h1:=(List.mem_filter.1 ha).2
  have h2:=(List.mem_filter.1 hb).2
  simp only[decide_eq_true_eq] at h1 h2
  show leT a.1 b.1=true
  rw[h1,h2];exact j8u _) List.filter_sublist
 have h2:=hs.filter fun p=>decide (p.1=k)
 have e:(atK l k).filter (fun p=>decide (p.1=k))=atK l k:=by unfold atK;rw[List.filter_filter];simp
 rw[e] at h2
 exact(h2.eq_of_length (by
  have:=((q2w l).filter fun p=>decide (p.1=k)).length_eq
  exact this.symm)).symm
theorem j9m{α:Type}:∀(l1 l2:List (B8×α)),l1.Pairwise (fun a b=>leT a.1 b.1=true)->l2.Pairwise (fun a b=>leT a.1 b.1=true)->(∀k,atK l1 k=atK l2 k)->l1=l2
 |[],l2,_,_,h=>by
  cases l2 with
  |nil=>rfl
  |cons y l2=>have:=h y.1;simp[atK] at this
 |x::l1,l2,h1,h2,h=>by
  cases l2 with
  |nil=>have:=h x.1;simp[atK] at this
  |cons y l2=>
   have hx:x∈y::l2:=by
    have:x∈atK (x::l1) x.1:=by simp[atK]
    rw[h] at this
    exact(List.mem_filter.1 this).1
   have hy:y∈x::l1:=by
    have:y∈atK (y::l2) y.1:=by simp[atK]
    rw[<-h] at this
    exact(List.mem_filter.1 this).1
   have a1:leT y.1 x.1=true:=by
    rcases List.mem_cons.1 hx with e|e
    ·rw[e];exact j8u _
    ·exact(List.pairwise_cons.1 h2).1 x e
   have a2:leT x.1 y.1=true:=by
    rcases List.mem_cons.1 hy with e|e
    ·rw[e];exact j8u _
    ·exact(List.pairwise_cons.1 h1).1 y e
   have hk:x.1=y.1:=j9u a2 a1
   have h0:=h x.1
   simp only[atK,List.filter_cons,hk,decide_true,if_true] at h0
   obtain⟨e1,e2⟩:=List.cons.inj h0
   subst e1
   rw[j9m l1 l2 (List.pairwise_cons.1 h1).2 (List.pairwise_cons.1 h2).2 (fun k=>by
    by_cases hkk:x.1=k
    ·subst hkk;exact e2
    ·have:=h k
     simpa[atK,List.filter_cons,hkk] using this)]
theorem z2b{α:Type}(l:List (B8×α)):(q4m l).Pairwise (fun a b=>leT a.1 b.1=true):=
 List.pairwise_mergeSort (le:=leK) (fun a b c=>q2z a.1 b.1 c.1) (fun a b=>z7d a.1 b.1) l
theorem w1f{α:Type}{l1 l2:List (B8×α)}(h:∀k,atK l1 k=atK l2 k):q4m l1=q4m l2:=
 j9m _ _ (z2b _) (z2b _) (fun k=>by rw[z5e,z5e];exact h k)
theorem z6q{α:Type}(x k:B8)(v:α):∀m:List (B8×α),atK (q0g m x v) k=if x=k then q0g (atK m k) x v else atK m k
 |[]=>by
  by_cases h:x=k
  ·subst h;simp[atK,q0g]
  ·simp[atK,q0g,h]
 |p::m=>by
  have ih:=z6q x k v m
  simp only[q0g]
  by_cases hp:p.1=x
  ·rw[if_pos hp]
   by_cases h:x=k
   ·subst h;simp[atK,hp,q0g]
   ·simp[atK,hp,h]
  ·rw[if_neg hp]
   simp only[atK,List.filter_cons] at ih ⊢
   by_cases hk:p.1=k
   ·have hxk:x≠k:=fun e=>hp (hk.trans e.symm)
    rw[if_neg hxk] at ih ⊢
    simp[hk,ih]
   ·simp only[hk,decide_false,Bool.false_eq_true,if_false];exact ih
def insC{α:Type}(m:List (B8×α))(x:B8)(v:α):List (B8×α):=q4m (q0g m x v)
theorem v7a{α:Type}(m:List (B8×α))(x y:B8)(v u:α)(h:x≠y\/v=u):insC (insC m x v) y u=insC (insC m y u) x v:=by
 refine w1f fun k=>?_
 rw[z6q,z6q]
 unfold insC
 rw[z5e,z5e,z6q,z6q]
 by_cases hy:y=k
 ·by_cases hx:x=k
  ·subst hy hx
   rcases h with h|h
   ·exact absurd rfl h
   ·subst h;rfl
  ·rw[if_pos hy,if_neg hx,if_neg hx,if_pos hy]
 ·by_cases hx:x=k
  ·rw[if_neg hy,if_pos hx,if_pos hx,if_neg hy]
  ·rw[if_neg hy,if_neg hx,if_neg hx,if_neg hy]
def insAll(m:List (B8×Bool)):List B8->List (B8×Bool)
 |[]=>m
 |x::l=>insAll (q4m (q0g m x true)) l
theorem z8a(m:List (B8×Bool)):∀l l':List B8,insAll m (l++l')=insAll (insAll m l) l'
 |[],_=>rfl
 |x::l,l'=>z8a _ l l'
theorem j2d{l l':List B8}(h:l.Perm l'):∀m,insAll m l=insAll m l':=by
 induction h with
 |nil=>exact fun _=>rfl
 |cons _ _ ih=>exact fun m=>ih _
 |swap x y l=>exact fun m=>congrArg (fun q=>insAll q l) (v7a m y x true true (.inr rfl))
 |trans _ _ h1 h2=>exact fun m=>(h1 m).trans (h2 m)
structure q8u(m:List (B8×Bool)):Prop where
 srt:(m.map (·.1)).Pairwise (fun a b=>Op.bytesLess a b=true)
 all:∀p,p∈m->p.2=true
theorem q8u.nil:q8u []:=⟨by simp,by simp⟩
theorem q3x{l:List B8}(h:l.Pairwise (fun a b=>Op.bytesLess a b=true)):l.Nodup:=h.imp z7y
theorem z9v{l:List B8}(h:l.Pairwise (fun a b=>leT a b=true))(hn:l.Nodup):l.Pairwise (fun a b=>Op.bytesLess a b=true):=by
 induction l with
 |nil=>exact .nil
 |cons x l ih=>
  rw[List.pairwise_cons] at h ⊢
  rw[List.nodup_cons] at hn
  exact⟨fun y hy=>w6b (h.1 y hy) (fun e=>hn.1 (by rw[e];exact hy)),ih h.2 hn.2⟩
theorem z6d{α:Type}(x:B8)(v:α):∀m:List (B8×α),((q0g m x v).map (·.1))=if x∈m.map (·.1) then m.map (·.1) else m.map (·.1)++[x]
 |[]=>by simp[q0g]
 |p::m=>by
  simp only[q0g]
  by_cases h:p.1=x
  ·rw[if_pos h];simp[h]
  ·rw[if_neg h,List.map_cons,z6d x v m]
   by_cases hx:x∈m.map (·.1)
   ·rw[if_pos hx,if_pos (by simp at hx ⊢;exact .inr hx)];rfl
   ·rw[if_neg hx,if_neg (by simp at hx ⊢;exact⟨fun e=>h e.symm,hx⟩)];rfl
theorem v9o{α:Type}(x:B8)(v:α):∀(m:List (B8×α)) (p:B8×α),p∈q0g m x v->p=(x,v)\/p∈m
 |[],p,h=>by simp[q0g] at h;exact .inl h
 |q::m,p,h=>by
  simp only[q0g] at h
  split at h
  ·rcases List.mem_cons.1 h with h|h
   ·exact .inl h
   ·exact .inr (List.mem_cons_of_mem _ h)
  ·rcases List.mem_cons.1 h with h|h
   ·exact .inr (by rw[h];exact List.mem_cons_self)
   ·rcases v9o x v m p h with h|h
    ·exact .inl h
    ·exact .inr (List.mem_cons_of_mem _ h)
theorem w3n{α:Type}(m:List (B8×α))(x:B8)(v:α)(y:B8):y∈(q4m (q0g m x v)).map (·.1)<->y=x\/y∈m.map (·.1):=by
 rw[((q2w (q0g m x v)).map (·.1)).mem_iff,z6d]
 split
 ·rename_i h
  refine⟨.inr,fun hh=>?_⟩
  rcases hh with e|e
  ·rw[e];exact h
  ·exact e
 ·rw[List.mem_append];simp[or_comm]
theorem w6c{α:Type}{m:List (B8×α)}(x:B8)(v:α)(h:(m.map (·.1)).Pairwise (fun a b=>Op.bytesLess a b=true)):((q4m (q0g m x v)).map (·.1)).Pairwise (fun a b=>Op.bytesLess a b=true):=by
 refine z9v ?_ ?_
 ·rw[List.pairwise_map];exact z2b _
 ·refine((q2w (q0g m x v)).map (·.1)).nodup_iff.2 ?_
  rw[z6d]
  split
  ·exact q3x h
  ·rename_i hx
   rw[List.nodup_append]
   exact⟨q3x h,by simp,fun a ha b hb e=>hx (by simp at hb;rw[<-hb,<-e];exact ha)⟩
theorem q8u.ins{m:List (B8×Bool)}(h:q8u m)(x:B8):q8u (q4m (q0g m x true)):=by
 refine⟨w6c x true h.srt,fun p hp=>?_⟩
 rcases v9o x true m p ((q2w _).mem_iff.1 hp) with e|e
 ·rw[e]
 ·exact h.all p e
theorem q8u.insAll{m:List (B8×Bool)}(h:q8u m):∀l,q8u (insAll m l)
 |[]=>h
 |x::l=>q8u.insAll (h.ins x) l
theorem q8v(y:B8):∀(l:List B8) (m:List (B8×Bool)),y∈(insAll m l).map (·.1)<->y∈l\/y∈m.map (·.1)
 |[],m=>by simp[insAll]
 |x::l,m=>by rw[insAll,q8v y l,w3n,List.mem_cons];exact⟨fun h=>h.elim (fun h=>.inl (.inr h)) (fun h=>h.elim (fun h=>.inl (.inl h)) .inr),fun h=>h.elim (fun h=>h.elim (fun h=>.inr (.inl h)) .inl) (fun h=>.inr (.inr h))⟩
theorem z6i{α:Type}:∀(m:List (B8×α)) (x:B8),(q6b m x).isSome=true<->x∈m.map (·.1)
 |[],x=>by simp[q6b]
 |p::m,x=>by
  simp only[q6b,List.map_cons,List.mem_cons]
  by_cases h:p.1=x
  ·simp[h]
  ·rw[if_neg h,z6i m x]
   exact⟨.inr,fun q=>q.elim (fun e=>absurd e.symm h) (fun h=>h)⟩
theorem w5b{α:Type}:∀(m:List (B8×α)) (x:B8) (v:α),q6b m x=some v->(x,v)∈m
 |[],x,v,h=>by simp[q6b] at h
 |p::m,x,v,h=>by
  simp only[q6b] at h
  split at h
  ·rename_i e;simp at h;subst e;subst h;exact List.mem_cons_self
  ·exact List.mem_cons_of_mem _ (w5b m x v h)
theorem q8u.get{m:List (B8×Bool)}(h:q8u m)(x:B8):(q6b m x).getD false=true<->x∈m.map (·.1):=by
 rw[<-z6i]
 cases hg:q6b m x with
 |none=>simp
 |some v=>simp;exact h.all _ (w5b m x v hg)
def v3m(l:List B8):List B8:=l.mergeSort leT
theorem q6o(l:List B8):(v3m l).Perm l:=List.mergeSort_perm _ _
theorem z2i(l:List B8):(v3m l).Pairwise (fun a b=>leT a b=true):=List.pairwise_mergeSort q2z z7d l
theorem v2m{l l':List B8}(h:l.Pairwise (fun a b=>leT a b=true))(h':l'.Pairwise (fun a b=>leT a b=true))(hp:l.Perm l'):l=l':=
 List.Perm.eq_of_pairwise (le:=fun a b=>leT a b=true) (fun a b _ _ g g'=>j9u g g') h h' hp
theorem v4s{l l':List B8}(h:l.Perm l'):v3m l=v3m l':=v2m (z2i l) (z2i l') ((q6o l).trans (h.trans (q6o l').symm))
theorem v2t(a b:List B8):List.merge (v3m a) (v3m b) leT=v3m (a++b):=
 v2m (List.pairwise_merge q2z z7d _ _ (z2i a) (z2i b)) (z2i _) ((List.merge_perm_append _).trans (((q6o a).append (q6o b)).trans (q6o _).symm))
theorem v4y{T:Type}{cmp:T->T->Option Int}{l:List T}(hswo:v4v cmp l=true):∀x∈l,q1q cmp x x=false/\∀y∈l,(cmp x y).isSome=true/\∀z∈l,(q1q cmp x y=true->q1q cmp y z=true->q1q cmp x z=true)/\(q1q cmp x y=false->q1q cmp y z=false->q1q cmp x z=false):=by
 intro x hx
 unfold v4v at hswo
 have h1:=List.all_eq_true.1 hswo x hx
 simp only[Bool.and_eq_true,Bool.not_eq_true',List.all_eq_true] at h1
 refine⟨h1.1,fun y hy=>?_⟩
 have h2:=h1.2 y hy
 refine⟨h2.1,fun z hz=>?_⟩
 have h3:=h2.2 z hz
 revert h3
 cases q1q cmp x y<;>cases q1q cmp y z<;>cases q1q cmp x z<;>simp
theorem v5y{T:Type}{cmp:T->T->Option Int}{l l':List T}(hp:l.Perm l')(h:v4v cmp l=true):v4v cmp l'=true:=by
 have e:∀p:T->Bool,l'.all p=l.all p:=fun p=>by
  rw[Bool.eq_iff_iff,List.all_eq_true,List.all_eq_true]
  exact⟨fun q x hx=>q x (hp.mem_iff.1 hx),fun q x hx=>q x (hp.mem_iff.2 hx)⟩
 unfold v4v at *
 simp only[e]
 exact h
theorem v8j{T:Type}{cmp:T->T->Option Int}:∀{l:List T},v6v cmp l=true<->l.Pairwise fun x y=>(q1q cmp x y||q1q cmp y x)=true
 |[]=>by simp[v6v]
 |x::l=>by rw[v6v,Bool.and_eq_true,List.pairwise_cons,v8j,List.all_eq_true]
theorem w6e{T:Type}{cmp:T->T->Option Int}{l l':List T}(hp:l.Perm l')(h:v6v cmp l=true):v6v cmp l'=true:=by
 rw[v8j] at *
 exact hp.pairwise h (fun {x y} q=>by rw[Bool.or_comm];exact q)
theorem v2k{T:Type}{cmp:T->T->Option Int}:∀{l:List T},(l.Pairwise fun x y=>q1q cmp y x=false)->w8t cmp l=true
 |[],_=>rfl
 |x::l,h=>by
  rw[List.pairwise_cons] at h
  simp only[w8t,Bool.and_eq_true,List.all_eq_true,Bool.not_eq_true']
  exact⟨h.1,v2k h.2⟩
theorem w2b{T:Type}{cmp:T->T->Option Int}{l:List T}(h:v4v cmp l=true):(l.mergeSort fun x y=>!q1q cmp y x).Pairwise fun x y=>q1q cmp y x=false:=by
 have hs:=v4y h
 have h1:(l.attach.mergeSort fun x y=>!q1q cmp y.1 x.1).Pairwise fun x y=>(!q1q cmp y.1 x.1)=true:=by
  refine List.pairwise_mergeSort (le:=fun x y:{x // x∈l}=>!q1q cmp y.1 x.1) (fun a b c g g'=>?_) (fun a b=>?_) _
  ·simp only[Bool.not_eq_true'] at *
   exact(((hs c.1 c.2).2 b.1 b.2).2 a.1 a.2).2 g' g
  ·cases e1:q1q cmp b.1 a.1 with
   |false=>rfl
   |true=>
    cases e2:q1q cmp a.1 b.1 with
    |false=>rfl
    |true=>
     have:=(((hs a.1 a.2).2 b.1 b.2).2 a.1 a.2).1 e2 e1
     rw[(hs a.1 a.2).1] at this
     simp at this
 have h2:=List.map_mergeSort (r:=fun x y:{x // x∈l}=>!q1q cmp y.1 x.1) (s:=fun x y=>!q1q cmp y x) (f:=Subtype.val) (l:=l.attach) (fun a _ b _=>rfl)
 rw[List.attach_map_subtype_val] at h2
 rw[<-h2,List.pairwise_map]
 exact h1.imp fun q=>by simpa using q
theorem v6y{T:Type}{cmp:T->T->Option Int}{l l' r:List T}(hp:l.Perm l')(h:w6i cmp l=some r):w6i cmp l'=some r:=by
 unfold w6i at *
 cases hg:(v4v cmp l&&v6v cmp l&&w8t cmp (l.mergeSort fun x y=>!q1q cmp y x)&&Nat.blt l.length 4611686018427387904) with
 |false=>rw[hg] at h;simp at h
 |true=>
  rw[hg] at h
  simp only[cond_true,Option.some.injEq] at h
  simp only[Bool.and_eq_true] at hg
  obtain⟨⟨⟨g1,g2⟩,g3⟩,g4⟩:=hg
  have k1:=v5y hp g1
  have k2:=w6e hp g2
  have k3:=v2k (w2b k1)
  rw[k1,k2,k3,<-hp.length_eq,g4]
  simp only[Bool.and_true,cond_true,Option.some.injEq]
  rw[<-h]
  have hq:=((List.mergeSort_perm l' (fun x y=>!q1q cmp y x)).trans hp.symm).trans (List.mergeSort_perm l (fun x y=>!q1q cmp y x)).symm
  refine List.Perm.eq_of_pairwise (le:=fun x y=>q1q cmp y x=false) (fun x y hx hy q q'=>?_) (w2b k1) (w2b g1) hq
  exact j2e g2 x (hp.mem_iff.2 ((List.mergeSort_perm _ _).mem_iff.1 hx)) y ((List.mergeSort_perm _ _).mem_iff.1 hy) q' q
section
variable{α:Type}{lt:α->α->Bool}
end
end Go.Pv
namespace Go.Proofs.YtpbkggamiipdmaaGreat
open Go Go.Pv
set_option linter.unusedVariables false
set_option maxRecDepth 100000
def j3w(how:Int)(s:q5a)(x:q1a):Bool:=(how==1)||(x.typ==([]:B8))||(q6b s.made x.typ).getD false
def w8j(how:Int)(s:q5a)(ls:List q0a):List B8:=ls.flatMap fun l=>(l.aims.filter (j3w how s)).map (·.to)
def z2p(n:q2b)(x:B8):List q0a:=(q6b n.links x).getD []
def w6n(n:q2b)(x:B8):q5e:=(q6b n.funcs x).getD (q5e.mk [] [] [] [])
theorem q9z(F:Nat)(a2:Int)(a3:q5a)(k:List (B8×Bool)->Option q5a):∀(l:List q1a) (m:List (B8×Bool)),z0n F a2 a3 k l m=k (insAll m ((l.filter (j3w a2 a3)).map (·.to)))
 |[],m=>rfl
 |x::l,m=>by
  rw[z0n,q2e]
  simp only[q2e]
  by_cases h1:(a2==1)=true
  ·rw[if_pos h1,q9z F a2 a3 k l,List.filter_cons,if_pos (by simp[j3w,h1])];rfl
  ·rw[if_neg h1]
   by_cases h2:(x.typ==([]:B8))=true
   ·rw[if_pos h2,q9z F a2 a3 k l,List.filter_cons,if_pos (by simp[j3w,h2])];rfl
   ·rw[if_neg h2]
    by_cases h3:(q6b a3.made x.typ).getD false=true
    ·rw[if_pos h3,q9z F a2 a3 k l,List.filter_cons,if_pos (by simp[j3w,h3])];rfl
    ·rw[if_neg h3,q9z F a2 a3 k l,List.filter_cons,if_neg (by simp only[j3w,Bool.or_eq_true];rintro((h|h)|h);exact h1 h;exact h2 h;exact h3 h)]
theorem j3q(F:Nat)(a2:Int)(a3:q5a)(k:List (B8×Bool)->Option q5a):∀(l:List q0a) (m:List (B8×Bool)),z1n F a2 a3 k l m=k (insAll m (w8j a2 a3 l))
 |[],m=>rfl
 |x::l,m=>by
  rw[z1n,q2e]
  simp only[q2e]
  rw[q9z,j3q F a2 a3 k l,<-z8a];rfl
theorem j4q(F:Nat)(k:List (B8×Bool)->Option q5a):∀(l:List B8) (m:List (B8×Bool)),z2n F k l m=k (insAll m l)
 |[],m=>rfl
 |x::l,m=>by rw[z2n,j4q F k l];rfl
theorem z3j(F:Nat)(a1:q2b)(a2:Int)(a3:q5a):∀(l:List (B8×Bool)) (m1 m2:List (B8×Bool)),
  z9b F a1 a2 a3 l m1 m2=some (q5a.mk (insAll m1 (l.flatMap fun e=>e.1::w8j a2 a3 (z2p a1 e.1))) (insAll m2 (l.flatMap fun e=>(w6n a1 e.1).Makes)))
 |[],m1,m2=>rfl
 |e::l,m1,m2=>by
  rw[z9b,q2e]
  simp only[q2e]
  rw[j4q,j3q,z3j F a1 a2 a3 l]
  simp only[List.flatMap_cons,z8a]
  rfl
theorem v7h{F:Nat}{a1:q2b}{a2:Int}{a3:q5a}{l l':List (B8×Bool)}{m1 m2:List (B8×Bool)}{r:q5a}(hp:l.Perm l')
  (h:z9b F a1 a2 a3 l m1 m2=some r):z9b F a1 a2 a3 l' m1 m2=some r:=by
 rw[<-h,z3j,z3j,j2d (hp.flatMap_right _),j2d (hp.flatMap_right _)]
theorem leB(a b:B8):(Op.bytesLess a b||a==b)=leT a b:=by
 have:=y0c a b
 unfold leT
 rw[<-this,Bool.not_not]
theorem q8z(F:Nat)(k:List B8->Option (List B8)):∀(n:Nat) (a b o:List B8),
  q9n F k n a b o=if a.length+b.length<n/\(a.length+b.length=0\/(o.length+a.length+b.length)*16<=140737488355328) then k (o++List.merge a b leT) else none
 |0,a,b,o=>by simp[q9n]
 |n+1,[],[],o=>by simp[q9n]
 |n+1,[],y::b,o=>by
  rw[q9n]
  have e:idx (y::b) 0=some y:=q2h (xs:=y::b) (j:=0) (by simp)
  rw[if_neg (by simp),if_pos (by simp),if_neg (by simp;omega),e,Option.bind_some]
  by_cases h:(o++[y]).length*16<=140737488355328
  ·rw[if_pos h,if_pos (by simp),q8z F k n]
   simp only[List.length_append,List.length_cons,List.length_nil,List.drop_one,List.tail_cons] at h ⊢
   by_cases h2:0+b.length<n/\(0+b.length=0\/(o.length+(0+1)+0+b.length)*16<=140737488355328)
   ·rw[if_pos h2,if_pos (by omega)];simp
   ·rw[if_neg h2,if_neg (by omega)]
  ·rw[if_neg h,if_neg (by simp at h ⊢;omega)]
 |n+1,x::a,[],o=>by
  rw[q9n]
  have e:idx (x::a) 0=some x:=q2h (xs:=x::a) (j:=0) (by simp)
  rw[if_pos (by simp),if_pos (by simp),e,Option.bind_some]
  by_cases h:(o++[x]).length*16<=140737488355328
  ·rw[if_pos h,if_pos (by simp),q8z F k n]
   simp only[List.length_append,List.length_cons,List.length_nil,List.drop_one,List.tail_cons] at h ⊢
   by_cases h2:a.length+0<n/\(a.length+0=0\/(o.length+(0+1)+a.length+0)*16<=140737488355328)
   ·rw[if_pos h2,if_pos (by omega)];simp[List.merge_right]
   ·rw[if_neg h2,if_neg (by omega)]
  ·rw[if_neg h,if_neg (by simp at h ⊢;omega)]
 |n+1,x::a,y::b,o=>by
  rw[q9n]
  have e:idx (x::a) 0=some x:=q2h (xs:=x::a) (j:=0) (by simp)
  have e':idx (y::b) 0=some y:=q2h (xs:=y::b) (j:=0) (by simp)
  rw[if_pos (by simp),if_neg (by simp;omega),e,Option.bind_some,e',Option.bind_some,q2e,leB,Option.bind_some,Option.bind_some]
  by_cases hxy:leT x y=true
  ·rw[if_pos hxy]
   by_cases h:(o++[x]).length*16<=140737488355328
   ·rw[if_pos h,if_pos (by simp),show(fun l28 l29 l30=>q9n F k n l28 l29 l30)=q9n F k n from rfl,q8z F k n,List.cons_merge_cons_pos _ _ _ hxy]
    simp only[List.length_append,List.length_cons,List.length_nil,List.drop_one,List.tail_cons] at h ⊢
    by_cases h2:a.length+(b.length+1)<n/\(a.length+(b.length+1)=0\/(o.length+(0+1)+a.length+(b.length+1))*16<=140737488355328)
    ·rw[if_pos h2,if_pos (by omega)];simp
    ·rw[if_neg h2,if_neg (by omega)]
   ·rw[if_neg h,if_neg (by simp at h ⊢;omega)]
  ·rw[if_neg hxy]
   by_cases h:(o++[y]).length*16<=140737488355328
   ·rw[if_pos h,if_pos (by simp),show(fun l28 l29 l30=>q9n F k n l28 l29 l30)=q9n F k n from rfl,q8z F k n,List.cons_merge_cons_neg _ _ _ hxy]
    simp only[List.length_append,List.length_cons,List.length_nil,List.drop_one,List.tail_cons] at h ⊢
    by_cases h2:(a.length+1)+b.length<n/\((a.length+1)+b.length=0\/(o.length+(0+1)+(a.length+1)+b.length)*16<=140737488355328)
    ·rw[if_pos h2,if_pos (by omega)];simp
    ·rw[if_neg h2,if_neg (by omega)]
   ·rw[if_neg h,if_neg (by simp at h ⊢;omega)]
def hlf(n:Nat):Int:=w64 (Int.tdiv ((n:Nat):Int) 2)
def okN:Nat->Nat->Bool
 |0,_=>false
 |F+1,n=>decide (n<2)||(decide (0<=hlf n/\(hlf n).toNat<=n)&&(okN F (hlf n).toNat&&(okN F (n - (hlf n).toNat)&&decide (n<F/\n*16<=140737488355328))))
theorem v3s{l:List B8}(h:l.length<2):v3m l=l:=by
 match l,h with
 |[],_=>simp[v3m]
 |[x],_=>simp[v3m]
theorem j5j:∀(F:Nat) (l:List B8),w1j F l=if okN F l.length=true then some (v3m l) else none
 |0,l=>by simp[w1j,okN]
 |F+1,l=>by
  have hh:w64 (Int.tdiv ((l.length:Nat):Int) 2)=hlf l.length:=rfl
  rw[w1j,v8r,okN]
  simp only[hh]
  by_cases h:l.length<2
  ·rw[if_pos (by simp;omega),if_pos (by simp[h]),v3s h]
  ·rw[if_neg (by simp;omega)]
   have hd:decide (l.length<2)=false:=by simp;omega
   rw[hd,Bool.false_or]
   by_cases h2:0<=hlf l.length/\(hlf l.length).toNat<=l.length
   ·rw[if_pos h2,j5j F]
    have e1:(l.take (hlf l.length).toNat).length=(hlf l.length).toNat:=by rw[List.length_take];exact Nat.min_eq_left h2.2
    have e2:(l.drop (hlf l.length).toNat).length=l.length - (hlf l.length).toNat:=by rw[List.length_drop]
    rw[e1]
    simp only[decide_eq_true h2,Bool.true_and]
    by_cases h3:okN F (hlf l.length).toNat=true
    ·rw[if_pos h3,Option.bind_some,if_pos h2,j5j F,e2,h3,Bool.true_and]
     by_cases h4:okN F (l.length - (hlf l.length).toNat)=true
     ·rw[if_pos h4,Option.bind_some,q2e,q8z,h4,Bool.true_and]
      have e3:(v3m (l.take (hlf l.length).toNat)).length+(v3m (l.drop (hlf l.length).toNat)).length=l.length:=by
       rw[(q6o _).length_eq,(q6o _).length_eq,e1,e2];omega
      by_cases h5:l.length<F/\l.length*16<=140737488355328
      ·rw[if_pos ⟨by omega,.inr (by simp;omega)⟩,if_pos (decide_eq_true h5),v2t,List.take_append_drop];simp
      ·rw[if_neg (fun hh=>h5 (by have:=hh.2;simp only[List.length_nil] at this;exact⟨by omega,by omega⟩)),if_neg (by rw[decide_eq_false h5];simp)]
     ·rw[if_neg h4,Option.bind_none,if_neg (by simp[h4])]
    ·rw[if_neg h3,Option.bind_none,if_neg (by simp[h3])]
   ·rw[if_neg h2,if_neg (by simp only[decide_eq_false h2,Bool.false_and];simp)]
theorem v1o:∀(d F n:Nat),n<2 ^ d->n+d+1<=F->n<=100000->okN F n=true
 |0,F,n,h,hF,_=>by
  match F with
  |F+1=>rw[okN];simp at h;subst h;simp
 |d+1,F,n,h,hF,hb=>by
  match F with
  |F+1=>
   rw[okN]
   by_cases h2:n<2
   ·simp[h2]
   ·have e:hlf n=((n / 2:Nat):Int):=by
     unfold hlf
     rw[Int.tdiv_eq_ediv_of_nonneg (by omega),q9w (by omega) (by omega)]
     omega
    have e2:(hlf n).toNat=n / 2:=by rw[e];exact Int.toNat_natCast _
    rw[e2,v1o d F (n / 2) (by rw[Nat.pow_succ] at h;omega) (by omega) (by omega)]
    by_cases h3:n - n / 2<2 ^ d
    ·rw[v1o d F (n - n / 2) h3 (by omega) (by omega),e]
     simp;omega
    ·have:n - n / 2=2 ^ d:=by rw[Nat.pow_succ] at h;omega
     have h4:n=2 ^ d+2 ^ d - 1:=by rw[Nat.pow_succ] at h;omega
     have h5:1<=2 ^ d:=Nat.one_le_two_pow
     rw[v1o (d+1) F (n - n / 2) (by rw[this,Nat.pow_succ];omega) (by omega) (by omega),e]
     simp;omega
termination_by d F n=>(F,d)
theorem z5j(F:Nat):∀(l:List (B8×Bool)) (o:List B8),q4y F l o=if l.length=0\/(o.length+l.length)*16<=140737488355328 then w1j F (o++l.map (·.1)) else none
 |[],o=>by
  rw[q4y]
  simp only[List.map_nil,List.append_nil,List.length_nil,true_or,if_true]
  cases w1j F o<;>rfl
 |e::l,o=>by
  rw[q4y]
  by_cases h:(o++[e.1]).length*16<=140737488355328
  ·rw[if_pos h,z5j F l]
   simp only[List.length_append,List.length_cons,List.length_nil] at h ⊢
   by_cases h2:l.length=0\/(o.length+(0+1)+l.length)*16<=140737488355328
   ·rw[if_pos h2,if_pos (by omega)];simp
   ·rw[if_neg h2,if_neg (by omega)]
  ·rw[if_neg h,if_neg (by simp at h ⊢;omega)]
theorem v8h{F:Nat}{l l':List (B8×Bool)}{o:List B8}{r:List B8}(hp:l.Perm l')(h:q4y F l o=some r):q4y F l' o=some r:=by
 rw[<-h,z5j,z5j,hp.length_eq,j5j,j5j]
 have:=(hp.map (·.1)).append_left o
 rw[this.length_eq,v4s this]
def v3t(n:Int)(m:List (B8×Int)):List B8->List (B8×Int)
 |[]=>m
 |x::l=>v3t n (q4m (q0g m x n)) l
theorem w7c{n:Int}{l l':List B8}(h:l.Perm l'):∀m,v3t n m l=v3t n m l':=by
 induction h with
 |nil=>exact fun _=>rfl
 |cons _ _ ih=>exact fun m=>ih _
 |swap x y l=>exact fun m=>congrArg (fun q=>v3t n q l) (v7a m y x n n (.inr rfl))
 |trans _ _ h1 h2=>exact fun m=>(h1 m).trans (h2 m)
def w9a(how:Int)(s:q5a)(n:Int)(m:List (B8×Int))(x:q1a):Bool:=(q6b m x.to).isSome&&(((q6b m x.to).getD 0)==(w64 (n - 1)))&&j3w how s x
def v3i(how:Int)(s:q5a)(n:Int)(m:List (B8×Int))(ls:List q0a):Bool:=ls.any fun l=>l.aims.any (w9a how s n m)
theorem w8h(F:Nat)(a1:Int)(a2:q5a)(x:q1a):M160 F a1 a2 x=some (j3w a1 a2 x):=by
 unfold M160 j3w
 cases (a1==1)<;>cases (x.typ==([]:B8))<;>simp
theorem z0a(F:Nat)(a2:Int)(a3:q5a)(n7:Int)(m8:List (B8×Int))(k:Bool->Option (List (B8×Int))):∀(l:List q1a) (b:Bool),z4h F a2 a3 n7 m8 k l b=k (b||l.any (w9a a2 a3 n7 m8))
 |[],b=>by rw[z4h];simp
 |x::l,b=>by
  rw[z4h,q2e]
  dsimp only
  rw[List.any_cons]
  cases b with
  |true=>rw[if_pos rfl,z0a F a2 a3 n7 m8 k l];simp
  |false=>
   rw[if_neg (by simp)]
   simp only[w9a,w8h,Option.bind_some]
   by_cases h1:(q6b m8 x.to).isSome=true
   ·rw[if_pos h1,h1]
    by_cases h2:(((q6b m8 x.to).getD 0)==(w64 (n7 - 1)))=true
    ·rw[if_pos h2,z0a F a2 a3 n7 m8 k l,h2];simp
    ·rw[if_neg h2,z0a F a2 a3 n7 m8 k l,Bool.eq_false_iff.2 h2];simp
   ·rw[if_neg h1,z0a F a2 a3 n7 m8 k l,Bool.eq_false_iff.2 h1];simp
theorem j8s(F:Nat)(a2:Int)(a3:q5a)(n7:Int)(m8:List (B8×Int))(k:Bool->Option (List (B8×Int))):∀(l:List q0a) (b:Bool),z5h F a2 a3 n7 m8 k l b=k (b||v3i a2 a3 n7 m8 l)
 |[],b=>by rw[z5h];simp[v3i]
 |x::l,b=>by
  rw[z5h,q2e]
  simp only[q2e]
  rw[z0a,j8s F a2 a3 n7 m8 k l]
  simp[v3i,Bool.or_assoc]
theorem j7s(F:Nat)(n7:Int)(k:(List (B8×Int))->Option (List (B8×Int))):∀(l:List B8) (m:List (B8×Int)),z8n F n7 k l m=k (v3t n7 m l)
 |[],m=>rfl
 |x::l,m=>by rw[z8n,j7s F n7 k l];rfl
def z3k(n:q2b)(how:Int)(s:q5a)(d:Int)(m:List (B8×Int))(l:List (B8×Bool)):List B8:=
 (l.filter fun e=>!(q6b m e.1).isSome&&v3i how s d m (z2p n e.1)).map (·.1)
theorem j6z{n:q2b}{how:Int}{s:q5a}{d:Int}{m:List (B8×Int)}{l l':List (B8×Bool)}(h:l.Perm l'):(z3k n how s d m l).Perm (z3k n how s d m l'):=(h.filter _).map _
theorem q1v(F:Nat)(a1:q2b)(a2:Int)(a3:q5a)(n7:Int)(m8:List (B8×Int))(k9:(List (B8×Int))->Option (List (B8×Int))):∀(l:List (B8×Bool)) (o:List B8),
  q5y F a1 a2 a3 n7 m8 k9 l o=if (z3k a1 a2 a3 n7 m8 l).length=0\/(o.length+(z3k a1 a2 a3 n7 m8 l).length)*16<=140737488355328 then (if (((o.length+(z3k a1 a2 a3 n7 m8 l).length:Nat):Int)==0)=true then some m8 else k9 (v3t n7 m8 (o++z3k a1 a2 a3 n7 m8 l))) else none
 |[],o=>by
  rw[q5y,q2e,j7s]
  simp[z3k]
 |e::l,o=>by
  rw[q5y,q2e]
  simp only[q2e]
  by_cases h:(q6b m8 e.1).isSome=true
  ·have hn:z3k a1 a2 a3 n7 m8 (e::l)=z3k a1 a2 a3 n7 m8 l:=by
    unfold z3k;rw[List.filter_cons,if_neg (by rw[h];simp)]
   rw[if_pos h,q1v F a1 a2 a3 n7 m8 k9 l,hn]
  ·rw[if_neg h,j8s,Bool.false_or]
   cases hb:v3i a2 a3 n7 m8 ((q6b a1.links e.1).getD []) with
   |false=>
    have hn:z3k a1 a2 a3 n7 m8 (e::l)=z3k a1 a2 a3 n7 m8 l:=by
     unfold z3k z2p;rw[List.filter_cons,if_neg (by rw[hb];simp)]
    rw[if_neg (by simp),q1v F a1 a2 a3 n7 m8 k9 l,hn]
   |true=>
    have hn:z3k a1 a2 a3 n7 m8 (e::l)=e.1::z3k a1 a2 a3 n7 m8 l:=by
     unfold z3k z2p;rw[List.filter_cons,if_pos (by rw[hb,Bool.eq_false_iff.2 h];rfl),List.map_cons]
    rw[if_pos rfl,hn]
    by_cases h3:(o++[e.1]).length*16<=140737488355328
    ·rw[if_pos h3,q1v F a1 a2 a3 n7 m8 k9 l]
     simp only[List.length_append,List.length_cons,List.length_nil] at h3 ⊢
     have e1:o.length+(0+1)+(z3k a1 a2 a3 n7 m8 l).length=o.length+((z3k a1 a2 a3 n7 m8 l).length+1):=by omega
     rw[e1,List.append_assoc,List.singleton_append]
     by_cases h4:(z3k a1 a2 a3 n7 m8 l).length=0\/(o.length+((z3k a1 a2 a3 n7 m8 l).length+1))*16<=140737488355328
     ·rw[if_pos h4,if_pos (show(z3k a1 a2 a3 n7 m8 l).length+1=0\/(o.length+((z3k a1 a2 a3 n7 m8 l).length+1))*16<=140737488355328 from .inr (by rcases h4 with h4|h4<;>omega))]
     ·rw[if_neg h4,if_neg (by omega)]
    ·rw[if_neg h3,if_neg (by simp at h3 ⊢;omega)]
theorem v9h{F:Nat}{a1:q2b}{a2:Int}{a3:q5a}{n7:Int}{m8:List (B8×Int)}{k9:(List (B8×Int))->Option (List (B8×Int))}{l l':List (B8×Bool)}{o:List B8}{r:List (B8×Int)}(hp:l.Perm l')
  (h:q5y F a1 a2 a3 n7 m8 k9 l o=some r):q5y F a1 a2 a3 n7 m8 k9 l' o=some r:=by
 rw[<-h,q1v,q1v,(j6z hp).length_eq,w7c ((j6z hp).append_left o)]
def w9n(F:Nat)(x42:q5e)(l46:List q5j)(o:List q0c):Option (q3e×Bool×Int):=q5w F x42 l46 [] o
theorem j4j(F:Nat)(x42:q5e)(l46:List q5j):∀(l:List (B8×B8)) (o:List q0c),
  q5w F x42 l46 l o=if l.length=0\/(o.length+l.length)*32<=140737488355328 then w9n F x42 l46 (o++l.map fun e=>q0c.mk e.1 e.2) else none
 |[],o=>by simp[w9n]
 |e::l,o=>by
  rw[q5w]
  by_cases h:(o++[q0c.mk e.1 e.2]).length*32<=140737488355328
  ·rw[if_pos h,j4j F x42 l46 l]
   simp only[List.length_append,List.length_cons,List.length_nil] at h ⊢
   by_cases h2:l.length=0\/(o.length+(0+1)+l.length)*32<=140737488355328
   ·rw[if_pos h2,if_pos (by omega)];simp
   ·rw[if_neg h2,if_neg (by omega)]
  ·rw[if_neg h,if_neg (by simp at h ⊢;omega)]
theorem v8s{F:Nat}{x42:q5e}{l46:List q5j}{l l':List (B8×B8)}{o:List q0c}{r:q3e×Bool×Int}(hp:l.Perm l')(h:q5w F x42 l46 l o=some r):q5w F x42 l46 l' o=some r:=by
 rw[j4j] at h ⊢
 rw[<-hp.length_eq]
 by_cases h1:l.length=0\/(o.length+l.length)*32<=140737488355328
 ·rw[if_pos h1] at h ⊢
  unfold w9n at h ⊢
  rw[q5w] at h ⊢
  have hq:=(hp.map fun e=>q0c.mk e.1 e.2).append_left o
  unfold M98 at h ⊢
  cases hs:w6i (fun x3 y4=>M99 F x3 y4) (o++l.map fun e=>q0c.mk e.1 e.2) with
  |none=>rw[hs] at h;simp at h
  |some y=>
   rw[hs] at h
   rw[v6y hq hs,<-h,Option.bind_some,Option.bind_some,hq.length_eq]
 ·rw[if_neg h1] at h;simp at h
theorem W156n(a1:q1b)(a2:q5c)(h:a1.made=false):q5n Tryz.prog 156 [(V.iptr (q4a a1) 0),(V.iptr (q2c a2) 0)] nV:=by
 refine pin (fun _:Unit=>nV) () rfl Tryz.func156 rfl rfl rfl rfl rfl (fun w0 m0 hg=>?_)
 have h:(if a1.made=true then (none:Option Unit) else some ())=some ():=by rw[if_neg (by simp[h])]
 refine rn 12 rfl ?_
 refine spC h rfl (fun hb3 h=>by simp at h) (fun hb3 h=>?_)
 refine rn 5 rfl ?_
 exact rt h rfl
end Go.Proofs.YtpbkggamiipdmaaGreat
namespace Go.Pv
open Go Go.ChangeShapes Go.WideShapes
mutual
def v5g{H:Type}:DataW H->Nat
 | .lit (.string bytes)=>bytes.length+1
 | .lit _=>1
 | .nil=>1
 | .ptr d=>v5g d+1
 | .slice elems spare=>z4e elems+z4e spare+1
 | .agg parts=>z4e parts+1
 | .iface _ d=>v5g d+1
 | .map entries=>v1r entries+1
 | .held _=>1
def z4e{H:Type}:List (DataW H)->Nat
 |[]=>0
 |d::r=>v5g d+z4e r
def v1r{H:Type}:List (Lit×DataW H)->Nat
 |[]=>0
 |x::r=>y9b x+v1r r
def y9b{H:Type}:Lit×DataW H->Nat
 |(.string bytes,d)=>bytes.length+v5g d+1
 |(_,d)=>v5g d+1
end
def v5i(w:World):Mem:=fun b=>w.heap[b]?
def q0o(m:Mem)(ds:List V)(cs:List Value):Prop:=
 ds.length=cs.length/\∀(i:Nat) (c:V) (v:Value),ds[i]? = some c->cs[i]? = some v->q3o m c v
theorem q0o.one{m:Mem}{d:V}{c:Value}(h:q3o m d c):q0o m [d] [c]:=
 ⟨rfl,fun i d' c' hd hc=>by
  match i with
  |0=>simp at hd hc;subst hd;subst hc;exact h
  |_+1=>simp at hd⟩
theorem q0o.app{m:Mem}{a b:List V}{x y:List Value}(h:q0o m a x)(h':q0o m b y):q0o m (a++b) (x++y):=by
 refine⟨by simp[h.1,h'.1],fun i c v hc hv=>?_⟩
 by_cases hi:i<a.length
 ·rw[List.getElem?_append_left hi] at hc
  rw[List.getElem?_append_left (by rw[<-h.1];exact hi)] at hv
  exact h.2 i c v hc hv
 ·rw[List.getElem?_append_right (by omega)] at hc
  rw[List.getElem?_append_right (by rw[<-h.1];omega),<-h.1] at hv
  exact h'.2 _ c v hc hv
section
variable{P:Program}{t e:TypeId}{α β:Type}
def wOk{H:Type}(P:Program)(t:TypeId)(d:DataW H):Prop:=(d.weights P t).all (·<=reachBytes)=true
def wOks{H:Type}(P:Program)(ts:List TypeId)(ds:List (DataW H)):Prop:=(DataW.weightsEach P ts ds).all (·<=reachBytes)=true
theorem q2v{H:Type}{P:Program}{t:TypeId}{ts:List TypeId}{d:DataW H}{ds:List (DataW H)}(h:wOks P (t::ts) (d::ds)):wOk P t d/\wOks P ts ds:=by
 unfold wOks wOk at *
 rw[DataW.weightsEach,List.all_append,Bool.and_eq_true] at h
 exact h
theorem wAll{H:Type}{P:Program}{e:TypeId}:∀(l:List (DataW H)),(DataW.weightsAll P e l).all (·<=reachBytes)=true->∀d,d∈l->wOk P e d
 |[],_,d,hd=>by simp at hd
 |x::l,h,d,hd=>by
  rw[DataW.weightsAll,List.all_append,Bool.and_eq_true] at h
  rcases List.mem_cons.1 hd with rfl|hd
  ·exact h.1
  ·exact wAll l h.2 d hd
def q4t(P:Program)(t:TypeId)(e:α->List V)(sz:α->Nat)(ok:α->Prop):Prop:=
 ∀{H:Type} (enc:TypeId×Value->H) (w:World) (fuel:Nat) (cs:List Value) (x:DataW H×List MemPlace),
  DataW.trod enc P w 0 (fun _=>true) true fuel t cs=some x->wOk P t x.1->∃a:α,q0o (v5i w) (e a) cs/\sz a<=v5g x.1/\ok a
theorem v5z{k:IntKind}(ht:P.underlying t=some (.int k)):q4t P t (fun n:Int=>[V.con (.int k n)]) (fun _=>1) (fun n=>k.min<=n/\n<=k.max):=by
 intro H enc w fuel cs x h hw
 obtain⟨n,rfl,rfl,hw'⟩:=DataW.trod_int ht h
 simp only[Lit.wf,Bool.and_eq_true,decide_eq_true_eq] at hw'
 exact⟨n,q0o.one (.con _),by simp[v5g],hw'⟩
theorem v9s(ht:P.underlying t=some .bool):q4t P t (fun b:Bool=>[V.con (.bool b)]) (fun _=>1) (fun _=>True):=by
 intro H enc w fuel cs x h hw
 obtain⟨n,rfl,rfl⟩:=DataW.trod_bool ht h
 exact⟨n,q0o.one (.con _),by simp[v5g],trivial⟩
theorem j1z(ht:P.underlying t=some .string):q4t P t (fun s:B8=>[sV s]) (fun s=>s.length+1) (fun s=>s.length<=maxLen):=by
 intro H enc w fuel cs x h hw
 obtain⟨s,rfl,rfl,hs⟩:=DataW.trod_string ht h
 refine⟨s.data.toList,q0o.one ?_,by simp[v5g],by simpa using hs⟩
 have:str s.data.toList=.string s:=by simp[str]
 unfold sV
 rw[this]
 exact .con _
theorem w7b{p:Nat->α->Prop}:∀{n:Nat},(∀i,i<n->∃a,p i a)->∃l:List α,l.length=n/\∀i a,l[i]? = some a->p i a
 |0,_=>⟨[],rfl,by simp⟩
 |n+1,h=>by
  obtain⟨l,hl,hp⟩:=w7b (n:=n) fun i hi=>h i (by omega)
  obtain⟨a,ha⟩:=h n (by omega)
  refine⟨l++[a],by simp[hl],fun i b hb=>?_⟩
  by_cases hi:i<l.length
  ·rw[List.getElem?_append_left hi] at hb;exact hp i b hb
  ·rw[List.getElem?_append_right (by omega)] at hb
   have:i - l.length=0:=by
    have:=(List.getElem?_eq_some_iff.1 hb).1
    simp at this;omega
   rw[this] at hb
   simp at hb
   subst hb
   rw[show i=n by omega];exact ha
theorem v0k{H:Type}{n:Nat}(D:Nat->DataW H):z4e ((List.range n).map D)=((List.range n).map fun i=>v5g (D i)).sum:=by
 generalize List.range n=l
 induction l with
 |nil=>rfl
 |cons a l ih=>simp[z4e,ih]
theorem sum_le{l:List α}{sz:α->Nat}{g:Nat->Nat}(h:∀i a,l[i]? = some a->sz a<=g i):(l.map sz).sum<=((List.range l.length).map g).sum:=by
 induction l generalizing g with
 |nil=>simp
 |cons a l ih=>
  rw[List.length_cons,List.range_succ_eq_map]
  simp only[List.map_cons,List.sum_cons,List.map_map]
  have h0:=h 0 a rfl
  have h1:=ih (g:=g ∘ Nat.succ) fun i b hb=>h (i+1) b (by simpa using hb)
  exact Nat.add_le_add h0 h1
theorem q5r{k:Nat}{ee:α->List V}{sz:α->Nat}{ok:α->Prop}(ht:P.underlying t=some (.slice e))(hk:P.cellsOf e=k)(h0:0<k)(he:q4t P e ee sz ok):
  q4t P t (fun l:List α=>[V.lst k (l.map ee)]) (fun l=>(l.map sz).sum+1) (fun l=>(∀a,a∈l->ok a)/\l.length<=maxLen):=by
 intro H enc w fuel cs x h hw
 rcases Deep.open_slice ht h with ⟨rfl,rfl⟩|⟨a,len,cap,m,n,D,Pl,rfl,_,hlc,hcm,hm,rfl,hel⟩
 ·exact⟨[],q0o.one (.nil _ _ _),by simp[v5g],by simp⟩
 ·simp only[if_true] at hm
  subst hm
  obtain⟨l,hl,hp⟩:=w7b (n:=len) (p:=fun i (b:α)=>sz b<=v5g (D i)/\ok b/\∃cs',w.cells? 0 (a.add (i*P.cellsOf e)) (P.cellsOf e)=some cs'/\q0o (v5i w) (ee b) cs') (by
   intro i hi
   obtain⟨cs',hc,hd⟩:=hel i (by omega)
   obtain⟨b,h1,h2,h3⟩:=he _ _ _ _ _ hd (by
    unfold wOk at hw
    rw[DataW.weights] at hw
    simp only[ht,List.all_cons,List.all_append,Bool.and_eq_true] at hw
    exact wAll _ hw.2.1 _ (List.mem_map.2 ⟨i,List.mem_range.2 hi,rfl⟩))
   exact⟨b,h2,h3,cs',hc,h1⟩)
  refine⟨l,q0o.one ?_,?_,fun b hb=>?_,by omega⟩
  ·by_cases hz:len=0
   ·subst hz
    have:l=[]:=List.length_eq_zero_iff.1 hl
    subst this
    exact .nil _ _ _
   ·have hcell:∀i j b,l[i]? = some b->j<k->∃v,w.cell? ((a.add (i*k)).add j)=some v/\(∃c,(ee b)[j]? = some c)/\∀c,(ee b)[j]? = some c->q3o (v5i w) c v:=by
     intro i j b hb hj
     obtain⟨_,_,cs',hc,hr⟩:=hp i b hb
     rw[hk] at hc
     obtain⟨_,hn,hcs⟩:=World.cells?_some hc
     have hj':j<cs'.length:=by omega
     have hv:cs'[j]? = some cs'[j]:=List.getElem?_eq_getElem hj'
     have hj2:j<(ee b).length:=by rw[hr.1];exact hj'
     exact⟨cs'[j],(hcs j hj).trans hv,⟨(ee b)[j],List.getElem?_eq_getElem hj2⟩,fun c hcc=>hr.2 j c _ hcc hv⟩
    have hlen:∀b,b∈l->(ee b).length=k:=by
     intro b hb
     obtain⟨i,hi⟩:=List.mem_iff_getElem?.1 hb
     obtain⟨_,_,cs',hc,hr⟩:=hp i b hi
     rw[hk] at hc
     rw[hr.1,(World.cells?_some hc).2.1]
    have hb0:∃b,l[0]? = some b:=⟨l[0]'(by omega),List.getElem?_eq_getElem _⟩
    obtain⟨b0,hb0⟩:=hb0
    obtain⟨v0,hv0,_⟩:=hcell 0 0 b0 hb0 h0
    have hadd0:(a.add (0*k)).add 0=a:=by simp[Addr.add]
    rw[hadd0] at hv0
    unfold World.cell? at hv0
    split at hv0
    case h_2=>simp at hv0
    rename_i arr T fr hblk
    have hsp:a.spot=none:=by
     cases hs:a.spot with
     |none=>rfl
     |some s=>simp[hs] at hv0
    have q5d:∀i j b,l[i]? = some b->j<k->∃v,arr[a.off+(i*k+j)]? = some v/\(∃c,(ee b)[j]? = some c)/\∀c,(ee b)[j]? = some c->q3o (v5i w) c v:=by
     intro i j b hb hj
     obtain⟨v,hv,hc⟩:=hcell i j b hb hj
     rw[Deep.add_add] at hv
     unfold World.cell? at hv
     have hbk:(a.add (i*k+j)).block=a.block:=by unfold Addr.add;split<;>rfl
     have hso:(a.add (i*k+j)).spot=none:=by unfold Addr.add;split<;>simp[hsp]
     have hof:(a.add (i*k+j)).off=a.off+(i*k+j):=by unfold Addr.add;split<;>simp[*]
     rw[hbk,hblk] at hv
     simp only[hso,hof] at hv
     exact⟨v,by simpa using hv,hc⟩
    refine q3o.lst (arr:=arr) (T:=T) (fr:=fr) (fun i=>(arr[a.off+i]?).getD undef) hblk hsp (by simpa using hl) hlc (by omega) ?_ ?_ ?_
    ·intro row hrow
     obtain⟨b,hb,rfl⟩:=List.mem_map.1 hrow
     exact hlen b hb
    ·intro i hi
     rw[List.length_map] at hi
     have hq:i / k<l.length:=Nat.div_lt_of_lt_mul (by rw[Nat.mul_comm];exact hi)
     obtain⟨v,hv,_⟩:=q5d (i / k) (i % k) l[i / k] (List.getElem?_eq_getElem hq) (Nat.mod_lt _ h0)
     have:i / k*k+i % k=i:=by rw[Nat.mul_comm];exact Nat.div_add_mod i k
     rw[this] at hv
     simp[hv]
    ·intro i j row c hrow hc
     rw[List.getElem?_map,Option.map_eq_some_iff] at hrow
     obtain⟨b,hb,rfl⟩:=hrow
     have hj:j<k:=by
      have:=(List.getElem?_eq_some_iff.1 hc).1
      rw[hlen b (List.mem_iff_getElem?.2 ⟨i,hb⟩)] at this
      exact this
     obtain⟨v,hv,_,hcr⟩:=q5d i j b hb hj
     simp only[hv,Option.getD_some]
     exact hcr c hc
  ·simp only[v5g]
   rw[v0k]
   have:=sum_le (l:=l) (sz:=sz) (g:=fun i=>v5g (D i)) fun i b hb=>(hp i b hb).1
   rw[hl] at this
   omega
  ·obtain⟨i,hi⟩:=List.mem_iff_getElem?.1 hb
   exact(hp i b hi).2.1
def v9r(P:Program)(N:Nat)(fs:List (TypeId×Nat×Nat))(off:Nat)(e:α->List V)(sz:α->Nat)(ok:α->Prop):Prop:=
 ∀{H:Type} (enc:TypeId×Value->H) (w:World) (n:Nat) (cs:List Value) (xs:List (DataW H×List MemPlace)),cs.length=N->xs.length=fs.length->
  (∀(i:Nat) (f:TypeId×Nat×Nat),fs[i]? = some f->DataW.trod enc P w 0 (fun _=>true) true n f.1 ((cs.drop f.2.1).take f.2.2)=xs[i]?)->
  wOks P (fs.map (·.1)) (xs.map (·.1))->∃a:α,q0o (v5i w) (e a) (cs.drop off)/\sz a<=z4e (xs.map (·.1))/\ok a
theorem q0v{N:Nat}:v9r P N [] N (fun _:Unit=>[]) (fun _=>0) (fun _=>True):=by
 intro H enc w n cs xs hN hx _ _
 refine⟨(),?_,by simp,trivial⟩
 rw[<-hN]
 simp[q0o]
theorem q2i{N k off:Nat}{ft:TypeId}{fs:List (TypeId×Nat×Nat)}{ea:α->List V}{eb:β->List V}{sa:α->Nat}{sb:β->Nat}{oa:α->Prop}{ob:β->Prop}
  (h:q4t P ft ea sa oa) (hr:v9r P N fs (off+k) eb sb ob):v9r P N ((ft,off,k)::fs) off (fun p:α×β=>ea p.1++eb p.2) (fun p=>sa p.1+sb p.2) (fun p=>oa p.1/\ob p.2):=by
 intro H enc w n cs xs hN hx hf hw
 match xs,hx with
 |x::xs,hx=>
  have h1:=hf 0 _ rfl
  simp only[List.getElem?_cons_zero] at h1
  have hw':=q2v hw
  obtain⟨a,ha,hs,ho⟩:=h enc w n _ x h1 hw'.1
  have hb':=hr enc w n cs xs hN (by simpa using hx) fun i f hi=>by
   have:=hf (i+1) f (by simpa using hi)
   simpa using this
  obtain⟨b,hb,hs',ho'⟩:=hb' hw'.2
  refine⟨(a,b),?_,by simp only[List.map_cons,z4e];omega,ho,ho'⟩
  have:=ha.app hb
  rw[show(cs.drop off).take k++cs.drop (off+k)=cs.drop off by rw[<-List.drop_drop];exact List.take_append_drop _ _] at this
  exact this
def fieldsOf(P:Program)(t:TypeId):Option (List (TypeId×Nat×Nat)):=
 match P.underlying t with
 |some (.struct fs)=>some (fs.toList.map fun f=>(f.type,f.offset,P.cellsOf f.type))
 |_=>none
theorem q9p{N:Nat}{fs:List (TypeId×Nat×Nat)}{e:α->List V}{sz:α->Nat}{ok:α->Prop}(ht:fieldsOf P t=some fs)(hN:P.cellsOf t=N)(h:v9r P N fs 0 e sz ok):
  q4t P t e (fun a=>sz a+1) ok:=by
 intro H enc w fuel cs x hx hw
 unfold fieldsOf at ht
 split at ht
 case h_2=>simp at ht
 rename_i gs hu
 simp only[Option.some.injEq] at ht
 subst ht
 obtain⟨xs,n,_,rfl,hl,hxl,hf⟩:=DataW.trod_struct hu hx
 have ha':=h enc w n cs xs (hl.trans hN) (by simpa using hxl) fun i f hi=>by
  rw[List.getElem?_map,Option.map_eq_some_iff] at hi
  obtain⟨g,hg,rfl⟩:=hi
  exact hf i g (by simpa using hg)
 obtain⟨a,h1,h2,h3⟩:=ha' (by
  unfold wOk at hw
  rw[DataW.weights] at hw
  simp only[hu] at hw
  unfold wOks
  rw[List.map_map]
  exact hw)
 exact⟨a,by simpa using h1,by simp only[v5g];omega,h3⟩
theorem q0z{ea:α->List V}{eb:β->List V}{sa:α->Nat}{sb:β->Nat}{oa:α->Prop}{ob:β->Prop}(h:q4t P t ea sa oa)(g:α->β)
  (he:∀a,eb (g a)=ea a) (hs:∀a,sb (g a)=sa a) (ho:∀a,oa a->ob (g a)):q4t P t eb sb ob:=by
 intro H enc w fuel cs x hx hw
 obtain⟨a,h1,h2,h3⟩:=h enc w fuel cs x hx hw
 exact⟨g a,by rw[he];exact h1,by rw[hs];exact h2,ho a h3⟩
def j9f(P:Program)(t:TypeId)(e:α->V)(sz:α->Nat)(ok:α->Prop):Prop:=
 ∀{H:Type} (enc:TypeId×Value->H) (w:World) (base:Nat) (v:Value) (d:DataW H) (p:List MemPlace),
  Value.okWide P w .any base t v->DataW.Trod enc P w 0 (fun _=>true) true t v d p->wOk P t d->∃a:α,q3o (v5i w) (e a) v/\sz a<=v5g d/\ok a
theorem v0t{fs:List (TypeId×Nat×Nat)}{e:α->List V}{sz:α->Nat}{ok:α->Prop}(ht:fieldsOf P t=some fs)(h:q4t P t e sz ok):j9f P t (fun a=>.agg (e a)) sz ok:=by
 intro H enc w base v d p hv ⟨n,hd⟩ hw
 unfold fieldsOf at ht
 split at ht
 case h_2=>simp at ht
 rename_i gs hu
 obtain⟨cs,rfl,_⟩:=okWide_struct hu hv
 obtain⟨a,h1,h2,h3⟩:=h enc w n _ _ hd hw
 exact⟨a,.agg (by simpa[Value.cells] using h1.1) (fun i c v' hc hv'=>h1.2 i c v' hc (by simpa[Value.cells] using hv')),h2,h3⟩
def v9q(P:Program)(t:TypeId):Bool:=
 match P.underlying t with
 |some (.int _)|some .bool|some .string|some (.slice _)=>true
 |_=>false
theorem z4a{e:α->V}{sz:α->Nat}{ok:α->Prop}(ht:v9q P t=true)(h:q4t P t (fun a=>[e a]) sz ok):j9f P t e sz ok:=by
 intro H enc w base v d p hv ⟨n,hd⟩ hw
 obtain⟨a,h1,h2,h3⟩:=h enc w n _ _ hd hw
 have hna:∀cs,v≠.agg cs:=by
  rintro cs rfl
  unfold v9q at ht
  unfold Value.okWide at hv
  split at ht<;>rename_i hu<;>first|exact absurd ht (by decide)|(simp only[hu,Cell.okWide,Cell.ok] at hv)
 have hc:v.cells.toList=[v]:=by cases v<;>first|rfl|exact absurd rfl (hna _)
 rw[hc] at h1
 exact⟨a,h1.2 0 _ _ rfl rfl,h2,h3⟩
theorem v0z{w w':World}(h:∀b,b<w.heap.size->w'.heap[b]? = w.heap[b]?){p:MemPlace}(hp:p.block<w.heap.size):w.sameAt w' p:=by
 cases p with
 |cell b o=>simp only[World.sameAt,World.cell?];rw[h b hp]
 |map b=>exact h b hp
theorem z2o{H:Type}{enc:TypeId×Value->H}(hl:laidOutB P=true){w w':World}{sp:Nat->Bool}(hh:∀b,b<w.heap.size->w'.heap[b]? = w.heap[b]?)
  (hs:∀b,b<w.heap.size->sp b=true):∀{ts:List TypeId} {vs:List Value} {ds:List (DataW H)} {ps:List MemPlace},
  (ts.all fun t=>P.readableRec t&&decide (t<P.types.size))=true->DataW.TrodAll enc P w 0 (fun _=>true) true ts vs ds ps->(∀p∈ps,p.block<w.heap.size)->DataW.TrodAll enc P w' 0 sp true ts vs ds ps
 |[],[],[],_,_,h,_=>h
 |t::ts,v::vs,d::ds,_,hr,⟨p,q,h1,h2,e⟩,hlt=>by
  subst e
  simp only[List.all_cons,Bool.and_eq_true,decide_eq_true_eq] at hr
  exact⟨p,q,WideElems.Trod_stays hl hr.1.1 hr.1.2 h1 (fun x hx=>v0z hh (hlt x (List.mem_append_left _ hx))) (fun x hx=>hs _ (hlt x (List.mem_append_left _ hx))),
   z2o hl hh hs (by simpa using hr.2) h2 (fun x hx=>hlt x (List.mem_append_right _ hx)),rfl⟩
theorem y7a{w w':World}(hs:w3q w w')(hh:∀b,b<w.heap.size->w'.heap[b]? = w.heap[b]?)(may:MemPlace->Prop):w.keptBut w' may:=by
 refine⟨hs.os,hs.output,fun i hi=>?_⟩
 rw[hh i hi]
 split<;>first|exact⟨rfl,rfl,rfl,fun _ _=>rfl⟩|exact .inr ⟨rfl,rfl⟩|rfl|skip
 all_goals simp_all
theorem w7m{H:Type}{enc:TypeId×Value->H}{f:Func}{s:ChangeSpec}{apart fresh handsOn:Bool}{w w':World}{args:Array Value}{v:Value}{ds gs:List (DataW H)}{before:List MemPlace}{m m':Mem}{tb:TypeId}
  (hl:laidOutB P=true) (hts:(f.params.toList.all fun t=>P.readableRec t&&decide (t<P.types.size))=true) (hv:s.vars=[]) (hfn:∀gs',gs'=[]->s.fn H (ds++gs')={ results:=[.lit (.bool true)],args:=ds })
  (hres:f.resultTypes=#[tb]) (hb:P.underlying tb=some .bool) (hW:DataW.Whole enc P f.params.toList s.vars apart w args.toList ds gs before) (h:q3o m' (bV true) v) (hg:y8d m m' w w'):
  s.post enc P f apart fresh handsOn false w args v w':=by
 have hW0:=hW
 obtain⟨p,q,hA,hV,rfl,hfz,hnd⟩:=hW0
 cases h
 rw[hv] at hV
 cases gs with
 |cons _ _=>simp[DataW.TrodVars] at hV
 |nil=>
 have hq:q=[]:=hV
 subst hq
 refine⟨ds,[],p++[],[],p,[],hW,?_,?_,?_,y7a hg.same hg.heap _,fun h=>by simp at h⟩
 ·rw[hfn _ rfl,hres]
  exact trodAll_cons_mk (RowKit.shut_bool hb _) trodAll_mk0
 ·rw[hfn _ rfl]
  exact z2o hl hg.heap (fun b hb=>by simpa using hb) hts hA (DataW.TrodAll.lt hA)
 ·rw[hv,hfn _ rfl]
  rfl
theorem w1p{H:Type}{enc:TypeId×Value->H}{w:World}{args:Array Value}{f:Func}{s:ChangeSpec}{apart:Bool}{ds gs:List (DataW H)}{before:List MemPlace}
  (hW:DataW.Whole enc P f.params.toList s.vars apart w args.toList ds gs before):∃p,DataW.TrodAll enc P w 0 (fun _=>true) true f.params.toList args.toList ds p:=by
 obtain⟨p,q,hA,_⟩:=hW
 exact⟨p,hA⟩
end
def w4e(P:Program)(f:FuncId)(fn:Func)(s:ChangeSpec)(c:OpenClaim):Bool:=
 c.wf (OpenSpec.ofChange s)&&laidOutB P&&mapsRowed P &&
 fn.params.all (P.readableRec ·)&&namedTie P c.named s.vars &&
 (c.stops==[])&&(P.stops==[])&&(c.knobs==[])&&(P.stopKnobs==[]) &&
 (c.inPlace==P.inPlace f)&&(c.unfollowed==P.unfollowed f)&&(c.recurses==P.recurses f)&&(c.named==P.varsNamed f) &&
 (c.maps==(fn.params.toList++s.plain.varTypes P).any (P.mapsRec ·))&&(c.ifaces==(fn.params.toList++s.plain.varTypes P).any (P.ifacesRec ·))&&(c.mapsOut==P.mapsAmong fn.resultTypes.toList) &&
 (c.loops==(fn.params.toList++s.plain.varTypes P).any (P.loopsFrom ·))&&(c.wideKeys==(fn.params.toList++s.plain.varTypes P++fn.resultTypes.toList).any (P.wideKeysFrom ·)) &&
 s.vars.all (P.varReadable ·)&&fn.resultTypes.all (fun t=>P.readableRec t&&decide (t<P.types.size))&&(c.ifacesOut==fn.resultTypes.toList.any (P.ifacesRec ·))&&(c.loopsOut==fn.resultTypes.toList.any (P.loopsFrom ·))&&(c.plainKeys==P.plainKeys)&&c.shortTexts.isNone&&P.stopsHeard
def w3e(P:Program)(c:OpenClaim):Bool:=P.mayEnter&&(c.lifted==P.liftsFinal)&&(P.make==some c.make)
def w2e(P:Program)(fn:Func)(s:ChangeSpec)(c:OpenClaim):Bool:=
 (c.kinds==(if c.domain.isEmpty then [] else fn.params.toList.map fun t=>match P.underlying t with|some (.int k)=>some k|_=>none))&&(c.pinned==c.pinnedBy) &&
 (c.veiled==(fn.params.toList++s.plain.varTypes P++fn.resultTypes.toList).any (P.veiledRec ·))&&c.veiledFits P fn.params.toList (fn.params.toList++s.plain.varTypes P++fn.resultTypes.toList)
theorem v8t{P:Program}{f:FuncId}{fn:Func}{s:ChangeSpec}{c:OpenClaim}(h1:w4e P f fn s c=true)(h2:w3e P c=true)(h3:w2e P fn s c=true):joinedFacts P f fn s c=true:=by
 unfold w4e at h1
 unfold w3e at h2
 unfold w2e at h3
 have e:∀a b c d b1 b2 b3 c1 c2 c3:Bool,a=true->(b1&&b2&&b3)=true->(b&&c&&d&&c1)=true->(a&&b1&&b2&&b3&&b&&c&&d&&c1)=true:=by
  intro a b c d b1 b2 b3 c1 c2 c3 h h' h''
  simp only[Bool.and_eq_true] at *
  simp_all
 exact e _ _ _ _ _ _ _ _ true true h1 h2 h3
end Go.Pv
namespace Go.Proofs.YtpbkggamiipdmaaGreat
open Go Go.Pv
set_option linter.unusedVariables false
set_option maxRecDepth 100000
theorem q5v:q4t Tryz.prog 9 (fun x=>[sV x]) (fun x:B8=>(x.length+1)) (fun x:B8=>(x.length<=maxLen)):=j1z (show Tryz.prog.underlying 9=some (.string) by kernel_rfl)
theorem z2z:q4t Tryz.prog 25 (fun l=>[V.lst 1 (l.map q6f)]) (fun x:(List B8)=>((x.map (fun x:B8=>(x.length+1))).sum+1)) (fun x:(List B8)=>((∀a,a∈x->(fun x:B8=>(x.length<=maxLen)) a)/\x.length<=maxLen)):=q5r (show Tryz.prog.underlying 25=some (.slice 9) by kernel_rfl) (by kernel_rfl) (by decide) q5v
def j6t(x:q0f):Nat:=(x.Name.length+1)+(((x.Methods.map (fun x:B8=>(x.length+1))).sum+1)+0)+1
def z8o(x:q0f):Prop:=(x.Name.length<=maxLen)/\(((∀a,a∈x.Methods->(fun x:B8=>(x.length<=maxLen)) a)/\x.Methods.length<=maxLen)/\True)
theorem w8k:q4t Tryz.prog 98 q2d j6t z8o:=q0z (q9p (fs:=[(9,0,1),(25,1,1)]) (by kernel_rfl) (by kernel_rfl) (q2i q5v (q2i z2z q0v))) (fun p=>q0f.mk p.1 p.2.1) (fun _=>rfl) (fun _=>rfl) (fun _ h=>h)
theorem w4l:q4t Tryz.prog 22 (fun l=>[V.lst 2 (l.map q2d)]) (fun x:(List q0f)=>((x.map (fun x:q0f=>(j6t x))).sum+1)) (fun x:(List q0f)=>((∀a,a∈x->(fun x:q0f=>(z8o x)) a)/\x.length<=maxLen)):=q5r (show Tryz.prog.underlying 22=some (.slice 98) by kernel_rfl) (by kernel_rfl) (by decide) w8k
def j8a(x:q1k):Nat:=(x.Name.length+1)+((x.Func.length+1)+0)+1
def j8b(x:q1k):Prop:=(x.Name.length<=maxLen)/\((x.Func.length<=maxLen)/\True)
theorem v7z:q4t Tryz.prog 116 q1j j8a j8b:=q0z (q9p (fs:=[(9,0,1),(9,1,1)]) (by kernel_rfl) (by kernel_rfl) (q2i q5v (q2i q5v q0v))) (fun p=>q1k.mk p.1 p.2.1) (fun _=>rfl) (fun _=>rfl) (fun _ h=>h)
theorem w0a:q4t Tryz.prog 102 (fun l=>[V.lst 2 (l.map q1j)]) (fun x:(List q1k)=>((x.map (fun x:q1k=>(j8a x))).sum+1)) (fun x:(List q1k)=>((∀a,a∈x->(fun x:q1k=>(j8b x)) a)/\x.length<=maxLen)):=q5r (show Tryz.prog.underlying 102=some (.slice 116) by kernel_rfl) (by kernel_rfl) (by decide) v7z
def v3h(x:q7i):Nat:=(x.Name.length+1)+(((x.Methods.map (fun x:q1k=>(j8a x))).sum+1)+0)+1
def j7b(x:q7i):Prop:=(x.Name.length<=maxLen)/\(((∀a,a∈x.Methods->(fun x:q1k=>(j8b x)) a)/\x.Methods.length<=maxLen)/\True)
theorem v9z:q4t Tryz.prog 104 q6e v3h j7b:=q0z (q9p (fs:=[(9,0,1),(102,1,1)]) (by kernel_rfl) (by kernel_rfl) (q2i q5v (q2i w0a q0v))) (fun p=>q7i.mk p.1 p.2.1) (fun _=>rfl) (fun _=>rfl) (fun _ h=>h)
theorem w3l:q4t Tryz.prog 23 (fun l=>[V.lst 2 (l.map q6e)]) (fun x:(List q7i)=>((x.map (fun x:q7i=>(v3h x))).sum+1)) (fun x:(List q7i)=>((∀a,a∈x->(fun x:q7i=>(j7b x)) a)/\x.length<=maxLen)):=q5r (show Tryz.prog.underlying 23=some (.slice 104) by kernel_rfl) (by kernel_rfl) (by decide) v9z
theorem v6z:q4t Tryz.prog 3 (fun x=>[V.con (.int .i64 x)]) (fun x:Int=>1) (fun x:Int=>((IntKind.i64).min<=x/\x<=(IntKind.i64).max)):=v5z (show Tryz.prog.underlying 3=some (.int .i64) by kernel_rfl)
def v5h(x:q6c):Nat:=1+((x.Target.length+1)+((x.Method.length+1)+((x.Feature.length+1)+0)))+1
def v1i(x:q6c):Prop:=((IntKind.i64).min<=x.Kind/\x.Kind<=(IntKind.i64).max)/\((x.Target.length<=maxLen)/\((x.Method.length<=maxLen)/\((x.Feature.length<=maxLen)/\True)))
theorem v8z:q4t Tryz.prog 109 q6d v5h v1i:=q0z (q9p (fs:=[(3,0,1),(9,1,1),(9,2,1),(9,3,1)]) (by kernel_rfl) (by kernel_rfl) (q2i v6z (q2i q5v (q2i q5v (q2i q5v q0v))))) (fun p=>q6c.mk p.1 p.2.1 p.2.2.1 p.2.2.2.1) (fun _=>rfl) (fun _=>rfl) (fun _ h=>h)
theorem w0l:q4t Tryz.prog 92 (fun l=>[V.lst 4 (l.map q6d)]) (fun x:(List q6c)=>((x.map (fun x:q6c=>(v5h x))).sum+1)) (fun x:(List q6c)=>((∀a,a∈x->(fun x:q6c=>(v1i x)) a)/\x.length<=maxLen)):=q5r (show Tryz.prog.underlying 92=some (.slice 109) by kernel_rfl) (by kernel_rfl) (by decide) v8z
def v4h(x:q5e):Nat:=(x.Name.length+1)+((x.Component.length+1)+(((x.Calls.map (fun x:q6c=>(v5h x))).sum+1)+(((x.Makes.map (fun x:B8=>(x.length+1))).sum+1)+0)))+1
def j9b(x:q5e):Prop:=(x.Name.length<=maxLen)/\((x.Component.length<=maxLen)/\(((∀a,a∈x.Calls->(fun x:q6c=>(v1i x)) a)/\x.Calls.length<=maxLen)/\(((∀a,a∈x.Makes->(fun x:B8=>(x.length<=maxLen)) a)/\x.Makes.length<=maxLen)/\True)))
theorem w9k:q4t Tryz.prog 94 q8c v4h j9b:=q0z (q9p (fs:=[(9,0,1),(9,1,1),(92,2,1),(25,3,1)]) (by kernel_rfl) (by kernel_rfl) (q2i q5v (q2i q5v (q2i w0l (q2i z2z q0v))))) (fun p=>q5e.mk p.1 p.2.1 p.2.2.1 p.2.2.2.1) (fun _=>rfl) (fun _=>rfl) (fun _ h=>h)
theorem w2l:q4t Tryz.prog 24 (fun l=>[V.lst 4 (l.map q8c)]) (fun x:(List q5e)=>((x.map (fun x:q5e=>(v4h x))).sum+1)) (fun x:(List q5e)=>((∀a,a∈x->(fun x:q5e=>(j9b x)) a)/\x.length<=maxLen)):=q5r (show Tryz.prog.underlying 24=some (.slice 94) by kernel_rfl) (by kernel_rfl) (by decide) w9k
def v0m(x:q7c):Nat:=((x.Ifaces.map (fun x:q0f=>(j6t x))).sum+1)+(((x.Types.map (fun x:q7i=>(v3h x))).sum+1)+(((x.Funcs.map (fun x:q5e=>(v4h x))).sum+1)+(((x.Entries.map (fun x:B8=>(x.length+1))).sum+1)+0)))+1
def q2o(x:q7c):Prop:=((∀a,a∈x.Ifaces->(fun x:q0f=>(z8o x)) a)/\x.Ifaces.length<=maxLen)/\(((∀a,a∈x.Types->(fun x:q7i=>(j7b x)) a)/\x.Types.length<=maxLen)/\(((∀a,a∈x.Funcs->(fun x:q5e=>(j9b x)) a)/\x.Funcs.length<=maxLen)/\(((∀a,a∈x.Entries->(fun x:B8=>(x.length<=maxLen)) a)/\x.Entries.length<=maxLen)/\True)))
theorem w1l:q4t Tryz.prog 27 q3d v0m q2o:=q0z (q9p (fs:=[(22,0,1),(23,1,1),(24,2,1),(25,3,1)]) (by kernel_rfl) (by kernel_rfl) (q2i w4l (q2i w3l (q2i w2l (q2i z2z q0v))))) (fun p=>q7c.mk p.1 p.2.1 p.2.2.1 p.2.2.2.1) (fun _=>rfl) (fun _=>rfl) (fun _ h=>h)
theorem w1a:j9f Tryz.prog 27 (fun x=>V.agg (q3d x)) v0m q2o:=v0t (fs:=[(22,0,1),(23,1,1),(24,2,1),(25,3,1)]) (by kernel_rfl) w1l
theorem v8n:j9f Tryz.prog 3 (fun x=>V.con (.int .i64 x)) (fun x:Int=>1) (fun x:Int=>((IntKind.i64).min<=x/\x<=(IntKind.i64).max)):=z4a (by kernel_rfl) v6z
theorem w2a:j9f Tryz.prog 25 (fun l=>V.lst 1 (l.map q6f)) (fun x:(List B8)=>((x.map (fun x:B8=>(x.length+1))).sum+1)) (fun x:(List B8)=>((∀a,a∈x->(fun x:B8=>(x.length<=maxLen)) a)/\x.length<=maxLen)):=z4a (by kernel_rfl) z2z
theorem w5l:j9f Tryz.prog 9 (fun x=>sV x) (fun x:B8=>(x.length+1)) (fun x:B8=>(x.length<=maxLen)):=z4a (by kernel_rfl) q5v
theorem y2a:q4t Tryz.prog 4 (fun x=>[bV x]) (fun x:Bool=>1) (fun x:Bool=>True):=v9s (show Tryz.prog.underlying 4=some (.bool) by kernel_rfl)
theorem w6l:j9f Tryz.prog 4 (fun x=>bV x) (fun x:Bool=>1) (fun x:Bool=>True):=z4a (by kernel_rfl) y2a
end Go.Proofs.YtpbkggamiipdmaaGreat
