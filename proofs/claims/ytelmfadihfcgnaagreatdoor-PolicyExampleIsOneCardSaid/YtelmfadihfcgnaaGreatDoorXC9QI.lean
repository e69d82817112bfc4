/- Part of the proof: C9QC, C9QD, C9QE, XR, C9QF, C9QG, C9QH, C9QI. -/
import Derived.Test.YtelmfadihfcgnaaGreatDoorXC9QB
import Derived.Test.YtelmfadihfcgnaaGreatDoorXC9PB
import Derived.Test.YtelmfadihfcgnaaGreatDoorXDK
set_option linter.unusedSimpArgs false
set_option linter.unusedVariables false
namespace Go.Proofs.YtelmfadihfcgnaaGreatDoor
open Go Go.Pv
set_option maxRecDepth 100000
def KN{κ τ:Type}(m:List (κ×τ)):Prop:=(m.map (·.1)).Nodup
section
variable{κ τ:Type}[DecidableEq κ]
theorem j2a{m:List (κ×τ)}{k:κ}:q7f m k=none<->k ∉ m.map (·.1):=by
 induction m with
 |nil=>simp[q7f]
 |cons p r ih=>
  rw[q7f];by_cases h:p.1=k
  ·rw[if_pos h];simp[h]
  ·rw[if_neg h,ih];simp only[bo9,at8,not_or];exact⟨fun q=>⟨Ne.symm h,q⟩,fun q=>q.2⟩
theorem v1y{m:List (κ×τ)}{k:κ}{v:τ}(h:q7f m k=some v):(k,v)∈m:=by
 induction m with
 |nil=>simp[q7f] at h
 |cons p r ih=>
  rw[q7f] at h;by_cases e:p.1=k
  ·rw[if_pos e] at h;cases h;subst e;simp
  ·rw[if_neg e] at h;exact cb9 _ (ih h)
theorem w2l{m:List (κ×τ)}(hn:KN m){p:κ×τ}(h:p∈m):q7f m p.1=some p.2:=by
 induction m with
 |nil=>simp at h
 |cons q r ih=>
  rw[q7f];unfold KN at hn;rw[bo9,aa9] at hn;rcases at8.1 h with e|h
  ·subst e;rw[if_pos rfl]
  ·rw[if_neg (fun e=>hn.1 (by rw[e];exact bq8 h)),ih hn.2 h]
theorem j4w{m:List (κ×τ)}{k:κ}{v:τ}:∀x,x∈(q0m m k v).map (·.1)<->x=k\/x∈m.map (·.1):=by
 induction m with
 |nil=>intro x;simp[q0m]
 |cons p r ih=>
  intro x;rw[q0m];by_cases h:p.1=k
  ·rw[if_pos h];simp[h]
  ·rw[if_neg h];simp only[bo9,at8,ih];constructor
   ·rintro(h|h|h)
    ·exact .inr (.inl h)
    ·exact .inl h
    ·exact .inr (.inr h)
   ·rintro(h|h|h)
    ·exact .inr (.inl h)
    ·exact .inl h
    ·exact .inr (.inr h)
theorem KN.put{m:List (κ×τ)}{k:κ}{v:τ}(h:KN m):KN (q0m m k v):=by
 unfold KN at *
 induction m with
 |nil=>simp[q0m]
 |cons p r ih=>
  rw[bo9,aa9] at h;rw[q0m];by_cases e:p.1=k
  ·rw[if_pos e,bo9,aa9];exact⟨by rw[<-e];exact h.1,h.2⟩
  ·rw[if_neg e,bo9,aa9];exact⟨fun hx=>(j4w _).1 hx |>.elim e h.1,ih h.2⟩
theorem w3l{m:List (κ×τ)}{k x:κ}(h:x∈(z4m m k).map (·.1)):x∈m.map (·.1):=by
 induction m with
 |nil=>simp[z4m] at h
 |cons p r ih=>
  rw[z4m] at h;split at h
  ·exact cb9 _ h
  ·rw[bo9,at8] at h ⊢;exact h.imp id ih
theorem KN.del{m:List (κ×τ)}{k:κ}(h:KN m):KN (z4m m k):=by
 unfold KN at *
 induction m with
 |nil=>simp[z4m]
 |cons p r ih=>
  rw[bo9,aa9] at h;rw[z4m];split
  ·exact h.2
  ·rw[bo9,aa9];exact⟨fun hx=>h.1 (w3l hx),ih h.2⟩
theorem j7v{m:List (κ×τ)}{k x:κ}(h:KN m):q7f (z4m m k) x=if x=k then none else q7f m x:=by
 unfold KN at h
 induction m with
 |nil=>simp[z4m,q7f]
 |cons p r ih=>
  rw[bo9,aa9] at h;rw[z4m];by_cases e:p.1=k
  ·rw[if_pos e];by_cases ex:x=k
   ·rw[if_pos ex,j2a];rw[ex,<-e];exact h.1
   ·rw[if_neg ex,q7f,if_neg (by rw[e];exact Ne.symm ex)]
  ·rw[if_neg e,q7f,q7f,ih h.2];by_cases ex:x=k
   ·rw[if_pos ex,if_pos ex,if_neg (by rw[ex];exact e)]
   ·rw[if_neg ex,if_neg ex]
end
abbrev Asg:=Txt->Option q0a
def asF(s:Asg):Txt->Option Fd:=fun n=>(s n).map toF
structure Std(m:MpV)(kn:MpB)(s:Asg):Prop where
 fm:∀n,q7f m n=s n
 fk:∀n,q7f kn n=(s n).map fun _=>true
 nm:KN m
 nk:KN kn
theorem Std.sgm{m:MpV}{kn:MpB}{s:Asg}(h:Std m kn s):sgm m kn=asF s:=by
 funext n
 unfold Go.Proofs.YtelmfadihfcgnaaGreatDoor.sgm asF gV;rw[h.fk,h.fm];cases s n<;>rfl
def prT(t:Tr)(s:Asg):Option Bool:=t.tr3 (asF s)
theorem w1j(t:Tr)(s s':Asg)(b:Bool)(he:ext s s')(h:prT t s=some b):prT t s'=some b:=by
 refine z8m (fun n x hx=>?_) t b h;unfold asF at hx ⊢;rw[ae9] at hx ⊢;obtain⟨y,h1,h2⟩:=hx;exact⟨y,he n y h1,h2⟩
theorem w9a(t:Tr)(ok:t.ok)(hz:t.flt=0)(by_:List (Txt×List q0a))(ns:List Txt)(hn:ns.Nodup)(hlen:ns.length<=1000):
  ∀(rest pre:List Txt),ns=pre++rest->∀F,t.fu+rest.length+1<=F->∀m kn s,Std m kn s->(∀n,n∈rest->s n=none)->
   ∃m' kn',(match fnd? (prT t) (fun n=>(q7f by_ n).getD []) rest s with
    |some s'=>M36 F (pre.length:Int) by_ t.cd ns m kn=some (true,m',kn')/\Std m' kn' s'
    |none=>M36 F (pre.length:Int) by_ t.cd ns m kn=some (false,m',kn')/\Std m' kn' s)
 |[],pre,hns,F,hF,m,kn,s,hs,_=>by
  obtain⟨F,rfl⟩:∃G,F=G+1:=⟨F - 1,by omega⟩;have hl:ns.length=pre.length:=by rw[hns];simp
  have hh:=y4q m kn t ok hz F (by simp at hF;omega);rw[hs.sgm] at hh;refine⟨m,kn,?_⟩;rw[fnd?]
  show match (if prT t s=some true then some s else none) with|some s'=>z5x (M36 F) F _ _ _ _ _ _=_/\_|none=>z5x (M36 F) F _ _ _ _ _ _=_/\_
  unfold z5x;rw[hh,cb8];by_cases h1:prT t s=some true
  ·rw[if_pos h1];dsimp only;rw[show t.tr3 (asF s)=some true from h1];exact⟨rfl,hs⟩
  ·rw[if_neg h1];dsimp only;refine⟨?_,hs⟩;have h1:t.tr3 (asF s)≠some true:=h1;cases h2:t.tr3 (asF s) with
   |none=>
    show(if (((0:Int))==1)=true then _ else if ((0:Int)==2)=true then _ else if ((pre.length:Int)==((ns.length:Nat):Int))=true then _ else _)=_
    rw[if_neg (by decide),if_neg (by decide),if_pos (by simp[hl])]
   |some b=>
    cases b with
    |true=>exact absurd h2 h1
    |false=>rfl
 |n::r,pre,hns,F,hF,m,kn,s,hs,hno=>by
  obtain⟨F,rfl⟩:∃G,F=G+1:=⟨F - 1,by omega⟩;simp only[ca9] at hF;have hh:=y4q m kn t ok hz F (by omega);rw[hs.sgm] at hh;have hsn:=hno n (by simp)
  have hnd:n ∉ r:=by
   rw[hns,cd9] at hn;exact(aa9.1 hn.2.1).1
  have hl:ns.length=pre.length+(r.length+1):=by rw[hns];simp
  rw[fnd?];cases h2:prT t s with
  |some b=>
   have h2':t.tr3 (asF s)=some b:=h2;rw[h2'] at hh;refine⟨m,kn,?_⟩;cases b with
   |true=>
    dsimp only;refine⟨?_,hs⟩
    show z5x (M36 F) F _ _ _ _ _ _=_
    unfold z5x;rw[hh,cb8];rfl
   |false=>
    dsimp only;refine⟨?_,hs⟩
    show z5x (M36 F) F _ _ _ _ _ _=_
    unfold z5x;rw[hh,cb8];rfl
  |none=>
   have h2':t.tr3 (asF s)=none:=h2;rw[h2'] at hh;dsimp only
   have hbody:M36 (F+1) (pre.length:Int) by_ t.cd ns m kn=z2c (M36 F) F (pre.length:Int) by_ t.cd ns n (fun m41 m42=>some (false,z4m m41 n,z4m m42 n)) ((q7f by_ n).getD []) m (q0m kn n true):=by
    show z5x (M36 F) F _ _ _ _ _ _=_
    unfold z5x;rw[hh,cb8]
    show(if (((0:Int))==1)=true then _ else if ((0:Int)==2)=true then _ else if ((pre.length:Int)==((ns.length:Nat):Int))=true then _ else _)=_
    rw[if_neg (by decide),if_neg (by decide),if_neg (by simp;omega),q5h (by omega),cb8];have:ns[pre.length]'(by omega)=n:=by simp[hns]
    rw[this];rfl
   rw[hbody]
   -- the loop over what the name can be
   have loop:∀(xs:List q0a) (m1:MpV) (kn1:MpB),(∀k,k≠n->q7f m1 k=s k)->(∀k,q7f kn1 k=if k=n then some true else (s k).map fun _=>true)->KN m1->KN kn1->
     ∃m' kn',(match xs.findSome? (fun x=>fnd? (prT t) (fun n=>(q7f by_ n).getD []) r (stl s n x)) with
      |some s'=>z2c (M36 F) F (pre.length:Int) by_ t.cd ns n (fun m41 m42=>some (false,z4m m41 n,z4m m42 n)) xs m1 kn1=some (true,m',kn')/\Std m' kn' s'
      |none=>z2c (M36 F) F (pre.length:Int) by_ t.cd ns n (fun m41 m42=>some (false,z4m m41 n,z4m m42 n)) xs m1 kn1=some (false,m',kn')/\Std m' kn' s):=by
    intro xs
    induction xs with
    |nil=>
     intro m1 kn1 q1 q2 q3 q4;refine⟨z4m m1 n,z4m kn1 n,rfl,fun k=>?_,fun k=>?_,q3.del,q4.del⟩
     ·rw[j7v q3];by_cases e:k=n
      ·rw[if_pos e,e,hsn]
      ·rw[if_neg e,q1 k e]
     ·rw[j7v q4];by_cases e:k=n
      ·rw[if_pos e,e,hsn];rfl
      ·rw[if_neg e,q2,if_neg e]
    |cons x xs ih=>
     intro m1 kn1 q1 q2 q3 q4
     have hst:Std (q0m m1 n x) kn1 (stl s n x):=by
      refine⟨fun k=>?_,fun k=>?_,q3.put,q4⟩
      ·rw[q3m];unfold stl;by_cases e:k=n
       ·rw[if_pos e.symm,if_pos e]
       ·rw[if_neg (Ne.symm e),if_neg e,q1 k e]
      ·rw[q2];unfold stl;by_cases e:k=n
       ·rw[if_pos e,if_pos e];rfl
       ·rw[if_neg e,if_neg e]
     obtain⟨m2,kn2,h3⟩:=w9a t ok hz by_ ns hn hlen r (pre++[n]) (by rw[hns];simp) F (by omega) (q0m m1 n x) kn1 (stl s n x) hst (fun k hk=>by
      unfold stl;rw[if_neg (show ¬k=n from fun e=>hnd (e ▸ hk))];exact hno k (by simp[hk]))
     rw[show((pre++[n]).length:Int)=(pre.length:Int)+1 by simp] at h3;rw[List.findSome?_cons];cases h4:fnd? (prT t) (fun n=>(q7f by_ n).getD []) r (stl s n x) with
     |some s'=>
      rw[h4] at h3;dsimp only at h3 ⊢;refine⟨m2,kn2,?_,h3.2⟩;rw[z2c,q9i (by omega) (by omega),h3.1,cb8];rfl
     |none=>
      rw[h4] at h3;dsimp only at h3 ⊢;have h5:=h3.2
      obtain⟨m',kn',h6⟩:=ih m2 kn2 (fun k hk=>by rw[h5.fm];unfold stl;rw[if_neg hk]) (fun k=>by
       rw[h5.fk];unfold stl;by_cases e:k=n
       ·rw[if_pos e,if_pos e];rfl
       ·rw[if_neg e,if_neg e]) h5.nm h5.nk
      refine⟨m',kn',?_⟩
      have hstep:z2c (M36 F) F (pre.length:Int) by_ t.cd ns n (fun m41 m42=>some (false,z4m m41 n,z4m m42 n)) (x::xs) m1 kn1=z2c (M36 F) F (pre.length:Int) by_ t.cd ns n (fun m41 m42=>some (false,z4m m41 n,z4m m42 n)) xs m2 kn2:=by
       rw[z2c,q9i (by omega) (by omega),h3.1,cb8];rfl
      rw[hstep];exact h6
   exact loop _ m (q0m kn n true) (fun k hk=>hs.fm k) (fun k=>by
    rw[q3m,hs.fk];by_cases e:k=n
    ·rw[if_pos e.symm,if_pos e]
    ·rw[if_neg (Ne.symm e),if_neg e]) hs.nm hs.nk.put
termination_by rest=>rest.length
theorem bcg{α β:Type}{o o':Option α}(h:o=o'){f g:α->Option β}(hfg:∀y,f y=g y):o.bind f=o'.bind g:=by
 subst h;exact congrArg o.bind (funext hfg)
abbrev StC:=List (q0a×Bool)×List (Txt×List q0a)
def z5k(R:StC->q0a->Option StC):List q0a->StC->Option StC
 |[],p=>some p
 |x::l,p=>(R p x).bind (z5k R l)
theorem z8o(R:StC->q0a->Option StC):∀(l l':List q0a) (p:StC),z5k R (l++l') p=(z5k R l p).bind (z5k R l')
 |[],l',p=>rfl
 |x::l,l',p=>by
  show(R p x).bind (z5k R (l++l'))=((R p x).bind (z5k R l)).bind (z5k R l')
  rw[Option.bind_assoc]
  congr 1
  funext q
  exact z8o R l l' q
def nv(n:Int):q0a:=⟨false,true,[],n⟩
def tvs(t:Txt)(v:q0a):q0a:=⟨true,v.hasNumber,t,v.number⟩
def j7f(s:q4a)(nums:List Int):List q0a:=zV::(if (s.asNo||s.has)=true then nums.map nv else [])
def q8s(s:q4a)(nums:List Int)(txs:List Txt):List q0a:=
 j7f s nums++(if (s.asText||s.has)=true then txs.flatMap (fun t=>(j7f s nums).map (tvs t)) else [])
section
variable(R0:StC->q0a->Option StC)(F:Nat)
theorem j3e(k:List q0a->Option StC):∀(l:List Int) (acc:List q0a),acc.length+l.length<=1000000000->z0c F k l acc=k (acc++l.map nv)
 |[],acc,_=>by rw[z0c];simp
 |x::l,acc,h=>by
  simp only[ca9] at h;rw[z0c,if_pos (by simp;omega),j3e k l _ (by simp;omega)];simp[nv]
theorem j2e(k:List (q0a×Bool)->List (Txt×List q0a)->Option StC):∀(l:List q0a) (p:StC),q8y R0 F k l p.1 p.2=(z5k R0 l p).bind fun q=>k q.1 q.2
 |[],p=>by rw[q8y];rfl
 |x::l,p=>by
  rw[q8y]
  show _=((R0 p x).bind (z5k R0 l)).bind fun q=>k q.1 q.2
  rw[Option.bind_assoc];exact bcg rfl fun y=>j2e k l y
theorem j3z(t:Txt)(k:List (q0a×Bool)->List (Txt×List q0a)->Option StC):∀(l:List q0a) (p:StC),z4f R0 F t k l p.1 p.2=(z5k R0 (l.map (tvs t)) p).bind fun q=>k q.1 q.2
 |[],p=>by rw[z4f];rfl
 |x::l,p=>by
  rw[z4f]
  show _=((R0 p (tvs t x)).bind (z5k R0 (l.map (tvs t)))).bind fun q=>k q.1 q.2
  rw[Option.bind_assoc];exact bcg rfl fun y=>j3z t k l y
theorem z5f(vs:List q0a):∀(l:List Txt) (p:StC),q9s R0 F vs l p.1 p.2=z5k R0 (l.flatMap fun t=>vs.map (tvs t)) p
 |[],p=>by rw[q9s];rfl
 |t::l,p=>by
  rw[q9s,q3c,q3c,j3z,ac9,z8o];exact bcg rfl fun y=>z5f vs l y
theorem y5u(s:q4a)(nums:List Int)(txs:List Txt)(h1:w3x F s=some nums)(h2:v9s F s=some txs)(hn:nums.length<=100000)(p:StC):
  M90 R0 F s.is s.begins s.numbers s.asText s.asNo s.has s.weight p.1 p.2=z5k R0 (q8s s nums txs) p:=by
 obtain⟨a1,a2,a3,a4,a5,a6,a7⟩:=s;unfold M90 q8s j7f;dsimp only;have hz:(q0a.mk false false ([]:B8) 0)=zV:=rfl;cases a5 with
 |true=>
  rw[if_pos rfl,h1,cb8,q3c,j3e F _ _ _ (by simp;omega),q3c,j2e];rw[hz,show((true||a6):Bool)=true from rfl,if_pos rfl,z8o R0 (zV::List.map nv nums)];refine bcg rfl fun y=>?_;cases a4 with
  |false=>
   rw[if_pos (by decide)];cases a6 with
   |false=>rw[if_pos (by decide)];rfl
   |true=>rw[if_neg (by decide),h2,cb8,z5f];rfl
  |true=>rw[if_neg (by decide),h2,cb8,z5f];rfl
 |false=>
  rw[if_neg (by decide),q3c]
  have key:∀vs:List q0a,(jn (fun(m116:List (q0a×Bool)) (m117:List (B8×(List q0a)))=>if (!a4)=true then if (!a6)=true then some (m116,m117)
    else (v9s F (q4a.mk a1 a2 a3 a4 false a6 a7)).bind fun y132=>q9s R0 F vs y132 m116 m117
    else (v9s F (q4a.mk a1 a2 a3 a4 false a6 a7)).bind fun y162=>q9s R0 F vs y162 m116 m117) (fun k115=>q8y R0 F k115 vs p.1 p.2)) =
    z5k R0 (vs++if (a4||a6)=true then txs.flatMap (fun t=>vs.map (tvs t)) else []) p:=by
   intro vs;rw[q3c,j2e,z8o];refine bcg rfl fun y=>?_;cases a4 with
   |false=>
    rw[if_pos (by decide)];cases a6 with
    |false=>rw[if_pos (by decide)];rfl
    |true=>rw[if_neg (by decide),h2,cb8,z5f];rfl
   |true=>rw[if_neg (by decide),h2,cb8,z5f];rfl
  cases a6 with
  |true=>
   rw[if_pos rfl,h1,cb8,q3c,j3e F _ _ _ (by simp;omega)];exact key _
  |false=>
   rw[if_neg (by decide)];exact key _
end
theorem v3h(F:Nat)(nm:Txt):∀(l:List q0a) (p:StC),(∀x,(q7f p.1 x).getD false=true<->x∈(q7f p.2 nm).getD [])->((q7f p.2 nm).getD []).length+l.length<=1000000000->KN p.2->
  ∃q:StC,z5k (fun p x=>z4q F nm p.1 p.2 x) l p=some q/\(∀x,x∈(q7f q.2 nm).getD []<->x∈(q7f p.2 nm).getD []\/x∈l)/\(∀k,k≠nm->q7f q.2 k=q7f p.2 k)/\KN q.2
 |[],p,_,_,hk=>⟨p,rfl,fun x=>by simp,fun _ _=>rfl,hk⟩
 |x::l,p,h1,h2,hk=>by
  simp only[ca9] at h2
  show ∃q,(z4q F nm p.1 p.2 x).bind _=some q/\_
  unfold z4q;rw[q3c];cases hs:(q7f p.1 x).getD false with
  |true=>
   have hx:=(h1 x).1 hs;obtain⟨q,g1,g2,g3,g4⟩:=v3h F nm l p h1 (by omega) hk;refine⟨q,by rw[if_neg (by decide),cb8];exact g1,fun y=>?_,g3,g4⟩;rw[g2 y,at8];constructor
   ·rintro(h|h)
    ·exact .inl h
    ·exact .inr (.inr h)
   ·rintro(h|h|h)
    ·exact .inl h
    ·rw[h];exact .inl hx
    ·exact .inr h
  |false=>
   have hg:(q7f (q0m p.2 nm ((q7f p.2 nm).getD []++[x])) nm).getD []=(q7f p.2 nm).getD []++[x]:=by rw[q3m,if_pos rfl];rfl
   obtain⟨q,g1,g2,g3,g4⟩:=v3h F nm l (q0m p.1 x true,q0m p.2 nm ((q7f p.2 nm).getD []++[x])) (fun y=>by
    dsimp only;rw[hg,q3m,cc8,bp9];by_cases e:x=y
    ·rw[if_pos e];simp[e]
    ·rw[if_neg e,h1 y];exact⟨.inl,fun h=>h.elim id fun h=>absurd h.symm e⟩) (by dsimp only;rw[hg];simp;omega) hk.put
   refine⟨q,by rw[if_pos (by decide),if_pos (by simp;omega),cb8];exact g1,fun y=>?_,fun k hk=>?_,g4⟩
   ·rw[g2 y];dsimp only;rw[hg,cc8,bp9,at8];constructor
    ·rintro((h|h)|h)
     ·exact .inl h
     ·exact .inr (.inl h)
     ·exact .inr (.inr h)
    ·rintro(h|h|h)
     ·exact .inl (.inl h)
     ·exact .inl (.inr h)
     ·exact .inr h
   ·rw[g3 k hk];dsimp only;rw[q3m,if_neg (Ne.symm hk)]
abbrev MpS:=List (Txt×Option q4a)
structure Gv(F:Nat)(s:q4a)(nums:List Int)(txs:List Txt):Prop where
 n:w3x F s=some nums
 t:v9s F s=some txs
 ln:nums.length<=100000
 lc:(q8s s nums txs).length<=1000000000
theorem v6a(F:Nat)(all:MpS)(k:List Txt->List (Txt×List q0a)->Option (List (Txt×List q0a)×List Txt)):
  ∀(l:List Txt) (l44:List Txt) (m45:List (Txt×List q0a)),l.Nodup->KN m45->(∀n,n∈l->q7f m45 n=none)->l44.length+l.length<=1000000->
   (∀n,n∈l->∃s nums txs,q7f all n=some (some s)/\Gv F s nums txs)->
   ∃by_,z0w F all k l l44 m45=k (l44++l) by_/\KN by_/\(∀n,n ∉ l->q7f by_ n=q7f m45 n)/\
    ∀n s nums txs,n∈l->q7f all n=some (some s)->Gv F s nums txs->∀x,x∈(q7f by_ n).getD []<->x∈q8s s nums txs
 |[],l44,m45,_,hk,_,_,_=>⟨m45,by rw[z0w];simp,hk,fun _ _=>rfl,fun n s nums txs h=>by simp at h⟩
 |n::r,l44,m45,hn,hk,hno,hl,hg=>by
  simp only[ca9] at hl;have hn':=aa9.1 hn;obtain⟨s,nums,txs,h1,h2⟩:=hg n (by simp);have hm:=hno n (by simp);obtain⟨q,g1,g2,g3,g4⟩:=v3h F n (q8s s nums txs) ([],m45) (fun x=>by dsimp only;rw[hm];simp[q7f]) (by dsimp only;rw[hm];have:=h2.lc;simp;omega) hk
  obtain⟨by_,e1,e2,e3,e4⟩:=v6a F all k r (l44++[n]) q.2 hn'.2 g4 (fun m hm2=>by
   rw[g3 m (fun e=>hn'.1 (e ▸ hm2))];exact hno m (by simp[hm2])) (by simp;omega) (fun m hm2=>hg m (by simp[hm2]))
  refine⟨by_,?_,e2,fun m hm2=>?_,fun m s' nums' txs' hm2 hs' hG x=>?_⟩
  ·rw[z0w,if_pos (by simp;omega),h1]
   show(Option.bind (some s) fun x50=>_)=_
   rw[cb8];have:=y5u (fun p x=>z4q F n p.1 p.2 x) F s nums txs h2.n h2.t h2.ln ([],m45);dsimp only at this;rw[this,g1,cb8,e1];simp
  ·simp only[at8,not_or] at hm2;rw[e3 m hm2.2,g3 m hm2.1]
  ·rcases at8.1 hm2 with e|hm2
   ·subst e;rw[h1] at hs';cases hs';have a1:=h2.n.symm.trans hG.n;have a2:=h2.t.symm.trans hG.t;cases a1;cases a2;rw[e3 m hn'.1,g2 x];dsimp only;rw[hm];simp
   ·exact e4 m s' nums' txs' hm2 hs' hG x
theorem q5m(l:List Txt):(q1s l).Perm l:=List.mergeSort_perm l _
theorem y9v(F:Nat)(all:MpS)(cd:KV)(hk:KN all)(hl:all.length<=1000)(hs:∀p,p∈all->p.1.length<=1000)(hg:∀n,n∈all.map (·.1)->∃s nums txs,q7f all n=some (some s)/\Gv F s nums txs):
  ∃by_,M35 F all cd=some (by_,q1s (all.map (·.1)))/\∀n s nums txs,q7f all n=some (some s)->Gv F s nums txs->∀x,x∈(q7f by_ n).getD []<->x∈q8s s nums txs:=by
 have hp:=q5m (all.map (·.1));have hlen:(q1s (all.map (·.1))).length=all.length:=by rw[hp.length_eq];simp
 obtain⟨by_,e1,e2,e3,e4⟩:=v6a F all (fun l38 m39=>some (m39,l38)) (q1s (all.map (·.1))) [] [] (hp.nodup_iff.2 hk) (by simp[KN]) (fun n _=>rfl) (by simp;omega) (fun n hn=>hg n (hp.mem_iff.1 hn));refine⟨by_,?_,fun n s nums txs h1 h2=>e4 n s nums txs (hp.mem_iff.2 ?_) h1 h2⟩
 ·unfold M35 j0u;rw[if_pos ⟨by omega,fun p hp=>by have:=hs p hp;omega⟩,cb8,q3c,e1];simp
 ·exact bq8 (v1y h1)
end Go.Proofs.YtelmfadihfcgnaaGreatDoor
namespace Go.Pv
open Go
theorem v1z(a b:B8):(leT a b||leT b a)=true:=by
 unfold leT;rcases j5k a b with h|h|h
 ·simp[z8h h]
 ·subst h;simp[z7e]
 ·simp[z8h h]
theorem v0z(a b c:B8)(h:leT a b=true)(h':leT b c=true):leT a c=true:=by
 unfold leT at *;rcases j5k a b with g|g|g
 ·rcases j5k b c with k|k|k
  ·simp[z8h (z7h g k)]
  ·subst k;simp[z8h g]
  ·simp[k] at h'
 ·subst g;exact h'
 ·simp[g] at h
theorem v4y{a b:B8}(h:leT a b=true)(hne:a≠b):Op.bytesLess a b=true:=by
 rcases j5k a b with g|g|g
 ·exact g
 ·exact absurd g hne
 ·simp[leT,g] at h
theorem j0w{l:List B8}(h:l.Pairwise (fun a b=>leT a b=true))(hn:l.Nodup):l.Pairwise (fun a b=>Op.bytesLess a b=true):=by
 induction l with
 |nil=>exact .nil
 |cons x l ih=>
  rw[bw9] at h ⊢;rw[aa9] at hn;exact⟨fun y hy=>v4y (h.1 y hy) (fun e=>hn.1 (by rw[e];exact hy)),ih h.2 hn.2⟩
def y2y(l:List B8):List B8:=l.mergeSort leT
theorem v9u(l:List B8):(y2y l).Perm l:=List.mergeSort_perm _ _
theorem w7i(l:List B8):(y2y l).Pairwise (fun a b=>leT a b=true):=List.pairwise_mergeSort v0z v1z l
theorem y4s(a b:B8):(a<b)<->Op.bytesLess a b=true:=by
 induction a generalizing b with
 |nil=>cases b<;>simp[Op.bytesLess]
 |cons x a ih=>
  cases b with
  |nil=>simp[Op.bytesLess]
  |cons y b=>rw[j8b,List.cons_lt_cons_iff,ih];simp
theorem y3p(a b:B8):decide (a<=b)=leT a b:=by
 unfold leT;rw[<-Bool.not_inj_iff,Bool.not_not];cases h:Op.bytesLess b a
 ·simp only[Bool.not_eq_eq_eq_not,bz8,decide_eq_true_eq];exact fun hh=>by rw[(y4s b a).1 hh] at h;simp at h
 ·simp only[Bool.not_eq_eq_eq_not,bx8,decide_eq_false_iff_not];exact fun hh=>hh ((y4s b a).2 h)
theorem w8h(l:List B8):q1s l=y2y l:=by
 unfold q1s y2y
 congr 1
 funext a b
 exact y3p a b
theorem y0d(l:List B8)(x:B8):x∈cpt l<->x∈l:=by
 unfold cpt Lib.compact Lib.compactUpTo;rw[bg9];constructor
 ·rintro⟨j,hj,rfl⟩
  have hlt:=cr8.1 (cc9.1 hj).1;rw[getElem!_pos l.toArray j (by simpa using hlt)];simp
 ·intro hx
  have key:∀j,j<l.length->∃i,i<=j/\Lib.keeps l.toArray i=true/\l.toArray[i]! = l.toArray[j]! := by
   intro j
   induction j with
   |zero=>exact fun _=>⟨0,ae8 _,by simp[Lib.keeps],rfl⟩
   |succ j ih=>
    intro hj;by_cases he:l.toArray[j+1]! = l.toArray[j]!
    ·obtain⟨i,h1,h2,h3⟩:=ih (by omega);exact⟨i,by omega,h2,h3.trans he.symm⟩
    ·exact⟨j+1,ae8 _,by simp only[Lib.keeps,by9];exact decide_eq_true (.inr he),rfl⟩
  obtain⟨j,hj,rfl⟩:=bl9 hx;obtain⟨i,h1,h2,h3⟩:=key j hj;refine⟨i,cc9.2 ⟨cr8.2 (by omega),h2⟩,?_⟩;rw[h3,getElem!_pos l.toArray j (by simpa using hj)];simp
end Go.Pv
namespace Go.Proofs.YtelmfadihfcgnaaGreatDoor
open Go Go.Pv
set_option maxRecDepth 100000
theorem w3o(l:List Int)(x:Int):x∈cpt l<->x∈l:=by
 unfold cpt Lib.compact Lib.compactUpTo;rw[bg9];constructor
 ·rintro⟨j,hj,rfl⟩
  have hlt:=cr8.1 (cc9.1 hj).1;rw[getElem!_pos l.toArray j (by simpa using hlt)];simp
 ·intro hx
  have key:∀j,j<l.length->∃i,i<=j/\Lib.keeps l.toArray i=true/\l.toArray[i]! = l.toArray[j]! := by
   intro j
   induction j with
   |zero=>exact fun _=>⟨0,ae8 _,by simp[Lib.keeps],rfl⟩
   |succ j ih=>
    intro hj;by_cases he:l.toArray[j+1]! = l.toArray[j]!
    ·obtain⟨i,h1,h2,h3⟩:=ih (by omega);exact⟨i,by omega,h2,h3.trans he.symm⟩
    ·exact⟨j+1,ae8 _,by simp only[Lib.keeps,by9];exact decide_eq_true (.inr he),rfl⟩
  obtain⟨j,hj,rfl⟩:=bl9 hx;obtain⟨i,h1,h2,h3⟩:=key j hj;refine⟨i,cc9.2 ⟨cr8.2 (by omega),h2⟩,?_⟩;rw[h3,getElem!_pos l.toArray j (by simpa using hj)];simp
instance (x:Int):Decidable (okN x):=by unfold okN;infer_instance
theorem y6i(F:Nat)(a:Int):w3g F a=some (decide (okN a)):=by
 unfold w3g;by_cases h:a ≥ -1000000000000
 ·rw[if_pos (decide_eq_true h)]
  congr 1
  exact decide_eq_decide.2 ⟨fun h2=>⟨h,h2⟩,fun h2=>h2.2⟩
 ·rw[if_neg (by simpa using h),decide_eq_false (fun h2=>h h2.1)]
theorem j1p(F:Nat)(a:Int)(l:List Int)(K:List Int->Option (List Int))(h:l.length<=1000000):
  ((w3g F a).bind fun y22=>jn (fun(l25:List Int)=>K l25) (fun k24=>if y22=true then if (l++([a]:List Int)).length*8<=140737488355328 then k24 (l++([a]:List Int)) else none else k24 l))=K (l++[a].filter fun x=>decide (okN x)):=by
 rw[y6i,cb8,q3c];by_cases h2:okN a
 ·rw[if_pos (decide_eq_true h2),if_pos (by simp;omega)];simp[h2]
 ·rw[if_neg (by simpa using h2)];simp[h2]
def v6s(n:Int):List Int:=[n - 1,n,n+1].filter fun x=>decide (okN x)
theorem v1s(F:Nat)(n:Int)(hn:okN n)(k:List Int->Option (List Int))(l:List Int)(hl:l.length<=100000):q7u F n k 3 0 l=k (l++v6s n):=by
 unfold okN at hn;have e1:w64 (n - 1)=n - 1:=q9i (by omega) (by omega);have e2:w64 (n+1)=n+1:=q9i (by omega) (by omega);have f1:∀(x:Int) (l:List Int),([x].filter fun x=>decide (okN x)).length<=1:=fun x l=>ab8 _ _;rw[q7u,show idx ([w64 (n - 1),n,w64 (n+1)]:List Int) 0=some (w64 (n - 1)) from rfl,cb8,j1p F _ l _ (by omega)];rw[q7u,show idx ([w64 (n - 1),n,w64 (n+1)]:List Int) (0+1)=some n from rfl,cb8,j1p F _ _ _ (by have:=f1 (w64 (n - 1)) l;simp only[bj8];omega)];rw[q7u,show idx ([w64 (n - 1),n,w64 (n+1)]:List Int) (0+1+1)=some (w64 (n+1)) from rfl,cb8,j1p F _ _ _ (by have:=f1 (w64 (n - 1)) l;have:=f1 n l;simp only[bj8];omega)];rw[q7u,e1,e2,ce9,ce9,<-ac8,<-ac8];rfl
theorem j3l(F:Nat)(k:List Int->Option (List Int)):∀(ns:List Int) (l:List Int),(∀n,n∈ns->okN n)->l.length+3*ns.length<=100000->z5b F k ns l=k (l++ns.flatMap v6s)
 |[],l,_,_=>by rw[z5b];simp
 |n::r,l,h,hl=>by
  simp only[ca9] at hl;have hlen:(v6s n).length<=3:=ab8 _ _;rw[z5b,q3c,q3c,if_pos (by omega)]
  show q7u F n _ 3 0 l=_
  rw[v1s F n (h n (by simp)) _ l (by omega)]
  show z5b F k r (l++v6s n)=_
  rw[j3l F k r _ (fun m hm=>h m (by simp[hm])) (by simp;omega)];simp
theorem y0i(F:Nat)(s:q4a)(h:∀n,n∈s.numbers->okN n)(hl:s.numbers.length<=10000):
  ∃out,w3x F s=some out/\out.length<=30001/\∀x,x∈out<->x=0\/∃n,n∈s.numbers/\x∈v6s n:=by
 have hlen:∀ns:List Int,(ns.flatMap v6s).length<=3*ns.length:=by
  intro ns
  induction ns with
  |nil=>simp
  |cons n r ih=>
   have:(v6s n).length<=3:=ab8 _ _;simp only[ac9,bj8,ca9];omega
 have h1:=hlen s.numbers;obtain⟨w,hw⟩:∃w,w=[0]++s.numbers.flatMap v6s:=⟨_,rfl⟩;have hwl:w.length<=30001:=by rw[hw,bj8,List.length_singleton];omega
 have hs:(v5p w).length=w.length:=List.length_mergeSort _;have hc:=v9f (v5p w);refine⟨cpt (v5p w),?_,by omega,fun x=>?_⟩
 ·unfold w3x;rw[q3c,j3l F _ _ _ h (by simp;omega),<-hw];unfold M59 M186;rw[if_pos (by omega),cb8,if_pos hs,if_pos (by omega),cb8]
 ·rw[w3o,show x∈v5p w<->x∈w from (List.mergeSort_perm _ _).mem_iff,hw];simp
theorem z8k{s w:Txt}:beg s w=true<->w <+: s:=by
 unfold beg;rw[as9,decide_eq_true_eq,beq_iff_eq];constructor
 ·rintro⟨h1,h2⟩;rw[<-h2];exact List.take_prefix _ _
 ·intro h;exact⟨h.length_le,(List.prefix_iff_eq_take.1 h).symm⟩
def bgn(n:Nat)(bg:List Txt)(y:Txt):Bool:=bg.any fun b=>decide (n<b.length)&&beg y b
theorem q8r{n:Nat}{bg:List Txt}{y:Txt}:bgn n bg y=false<->∀b,b∈bg->n<b.length->¬b <+: y:=by
 unfold bgn;rw[List.any_eq_false];constructor
 ·intro h b hb hl hp;exact h b hb (by rw[decide_eq_true hl,z8k.2 hp];rfl)
 ·intro h b hb hx;rw[as9,decide_eq_true_eq,z8k] at hx;exact h b hb hx.1 hx.2
theorem y9f(F:Nat)(s:Txt)(bg:List Txt)(n:Nat):y7w F s bg (n:Int)=some (bgn n bg s):=by
 unfold y7w M237 y8z
 have h:=y6y (g:=z7l F (n:Int) s (some (-1))) (fun b=>decide (n<b.length)&&beg s b) (fun _=>rfl) (fun x l m=>by
  rw[z7l,y9z];by_cases h:n<x.length
  ·rw[if_pos (decide_eq_true (by omega)),w0g,cb8,cb8,decide_eq_true h];rfl
  ·rw[if_neg (by simp;omega),cb8,decide_eq_false h];rfl) bg 0
 rw[show((0:Nat):Int)=0 from rfl] at h;rw[q3c,h];rw[y3e (n:=0+bg.findIdx fun b=>decide (n<b.length)&&beg s b)];rfl
theorem y9c:∀c:Fin 127,32<=c.val->(Utf8.encode (IntKind.wrap .i32 (c.val:Int))).data.toList=[UInt8.ofNat c.val]:=by decide
theorem v8h:∀c:Fin 127,IntKind.wrap .u8 ((c.val:Int)+1)=(c.val:Int)+1:=by decide
theorem v0g:∀c:Fin 127,(UInt8.ofNat c.val).toNat=c.val:=by decide
def q5r(n:Nat)(bg:List Txt)(x:Txt)(c:Nat):List Txt:=((List.range' c (127 - c)).map fun i=>x++[UInt8.ofNat i]).filter fun y=>!bgn n bg y
theorem j6j{n:Nat}{bg:List Txt}{x:Txt}{c:Nat}(h:c<=126):q5r n bg x c=(if bgn n bg (x++[UInt8.ofNat c])=true then [] else [x++[UInt8.ofNat c]])++q5r n bg x (c+1):=by
 unfold q5r;rw[show 127 - c=(127 - (c+1))+1 by omega,List.range'_succ,bo9,ab9];cases bgn n bg (x++[UInt8.ofNat c])<;>rfl
theorem j9k(F:Nat)(a1:Txt)(a2 a3:List Txt)(x:Txt)(k:List Txt->Option (Txt×Bool))(hx:x.length<=1000):∀(d c:Nat),c+d=127->32<=c->∀fuel,d<fuel->∀l:List Txt,l.length+d<=1000000->
  z9f F a1 a2 a3 x k fuel (c:Int) l=match (q5r a1.length a2 x c).find? (fun y=>!(a3.any fun w=>y==w)) with
   |some y=>some (y,true)
   |none=>k (l++q5r a1.length a2 x c)
 |0,c,hc,h32,fuel,hf,l,hl=>by
  obtain⟨fuel,rfl⟩:∃g,fuel=g+1:=⟨fuel - 1,by omega⟩
  have:q5r a1.length a2 x c=[]:=by
   unfold q5r;rw[show 127 - c=0 by omega];rfl
  rw[z9f,if_neg (by simp;omega),this];simp
 |d+1,c,hc,h32,fuel,hf,l,hl=>by
  obtain⟨fuel,rfl⟩:∃g,fuel=g+1:=⟨fuel - 1,by omega⟩;have h1:=y9c ⟨c,by omega⟩ h32;have h2:=v8h ⟨c,by omega⟩;dsimp only at h1 h2;rw[z9f,if_pos (decide_eq_true (by omega)),q3c,h1,h2,if_pos (by simp;omega),y9f,cb8,j6j (by omega)];have ih:=j9k F a1 a2 a3 x k hx d (c+1) (by omega) (by omega) fuel (by omega);rw[show((c+1:Nat):Int)=(c:Int)+1 by omega] at ih;cases hb:bgn a1.length a2 (x++[UInt8.ofNat c]) with
  |true=>
   simp only[if_true];rw[ih l (by omega)];simp
  |false=>
   simp only[cp8,if_false];rw[j6z,cb8];cases hm:a3.any fun w=>(x++[UInt8.ofNat c])==w with
   |false=>
    simp only[bz8,if_true];rw[List.singleton_append,List.find?_cons,hm];rfl
   |true=>
    simp only[bx8,cp8,if_false];rw[if_pos (by simp;omega),ih _ (by simp;omega),List.singleton_append,List.find?_cons,hm,ce9];rfl
theorem q7v{n:Nat}{bg:List Txt}{x y:Txt}:y∈q5r n bg x 32<->(∃c:UInt8,32<=c.toNat/\c.toNat<=126/\y=x++[c])/\bgn n bg y=false:=by
 unfold q5r;rw[cc9,bg9];constructor
 ·rintro⟨⟨i,hi,rfl⟩,h⟩
  rw[List.mem_range'_1] at hi;have:=v0g ⟨i,by omega⟩;dsimp only at this;exact⟨⟨UInt8.ofNat i,by omega,by omega,rfl⟩,by simpa using h⟩
 ·rintro⟨⟨c,h1,h2,rfl⟩,h⟩
  refine⟨⟨c.toNat,?_,?_⟩,by rw[h];rfl⟩
  ·rw[List.mem_range'_1];omega
  ·simp
theorem j5j(n:Nat)(bg:List Txt)(x:Txt):(q5r n bg x 32).Nodup:=by
 unfold q5r;refine List.Nodup.sublist List.filter_sublist ?_;rw[List.nodup_iff_pairwise_ne,List.pairwise_map];refine(List.nodup_iff_pairwise_ne.1 List.nodup_range').imp_of_mem fun {a b} ha hb h e=>h ?_;rw[List.mem_range'_1] at ha hb;have h1:=v0g ⟨a,by omega⟩;have h2:=v0g ⟨b,by omega⟩;dsimp only at h1 h2;have:=List.append_cancel_left e;simp only[cd8,and_true] at this;rw[<-h1,<-h2,this]
theorem w8l(n:Nat)(bg:List Txt)(x:Txt):(q5r n bg x 32).length<=95:=by
 unfold q5r;exact bz9 (ab8 _ _) (by simp)
theorem z6n{α:Type}[DecidableEq α]:∀{l m:List α},l.Nodup->(∀x,x∈l->x∈m)->l.length<=m.length
 |[],m,_,_=>ak9 _
 |x::l,m,hn,hs=>by
  have hn':=aa9.1 hn;have:=z6n (l:=l) (m:=m.erase x) hn'.2 fun y hy=>(List.mem_erase_of_ne (show y≠x from fun e=>hn'.1 (e ▸ hy))).2 (hs y (by simp[hy]));rw[List.length_erase_of_mem (hs x (by simp))] at this;have hp:=List.length_pos_of_mem (hs x (by simp));simp only[ca9];omega
structure Qu(a1:Txt)(a2 a3:List Txt)(l:List Txt)(n:Nat):Prop where
 nd:l.Nodup
 hd:l[0]? = some a1
 ok:∀q,q∈l->a1 <+: q/\okT q/\bgn a1.length a2 q=false
 par:∀j q,l[j]? = some q->0<j->q∈a3/\∃i p c,i<n/\l[i]? = some p/\q=p++[c]
 cl:∀j q,j<n->l[j]? = some q->q∈a3/\(q.length<1000->∀y,y∈q5r a1.length a2 q 32->y∈l)
theorem Qu.len{a1:Txt}{a2 a3 l:List Txt}{n:Nat}(h:Qu a1 a2 a3 l n):l.length<=a3.length+1:=by
 match l,h.hd,h with
 |x::r,_,h=>
  have:=z6n (aa9.1 h.nd).2 fun y hy=>by
   obtain⟨j,hj⟩:=be8 hy;exact(h.par (j+1) y (by simpa using hj) (by omega)).1
  simpa using this
theorem z3l{l:List Txt}{x:Txt}:(l.any fun w=>x==w)=true<->x∈l:=by
 rw[cj8];constructor
 ·rintro⟨w,h,e⟩;rw[beq_iff_eq] at e;rw[e];exact h
 ·intro h;exact⟨x,h,by simp⟩
theorem z0t(F:Nat)(a1:Txt)(a2 a3:List Txt)(k4:Option (Txt×Bool))(hF:200<=F)(ha:a3.length<=100000):∀(fuel n:Nat) (l:List Txt),Qu a1 a2 a3 l n->n<=l.length->a3.length+2<=n+fuel->
  (∃t,z1b F a1 a2 a3 k4 fuel (n:Int) l=some (t,true)/\q8p a3 a2 a1 t)\/(z1b F a1 a2 a3 k4 fuel (n:Int) l=k4/\∃l',Qu a1 a2 a3 l' l'.length)
 |0,n,l,h,hn,hf=>by have:=h.len;omega
 |fuel+1,n,l,h,hn,hf=>by
  have hll:=h.len;rw[z1b];by_cases hnl:n<l.length
  ·rw[if_pos (decide_eq_true (by omega)),q3c,q5h hnl,cb8,j6z,cb8];have hx:l[n]? = some l[n]:=bb9 hnl;obtain⟨x,hxe⟩:∃x,x=l[n]:=⟨_,rfl⟩;rw[<-hxe] at hx ⊢;have hxm:=ba9 hx;obtain⟨o1,o2,o3⟩:=h.ok x hxm;cases hm:a3.any fun w=>x==w with
   |false=>
    simp only[bz8,if_true];refine .inl ⟨x,rfl,o1,o2,fun hx3=>?_,q8r.1 o3⟩;rw[z3l.2 hx3] at hm;cases hm
   |true=>
    have hx3:=z3l.1 hm;simp only[bx8,cp8,if_false];have hw:w64 ((n:Int)+1)=((n+1:Nat):Int):=by rw[q9i (by omega) (by omega)];rfl
    by_cases h1000:x.length=1000
    ·rw[if_pos (by simp[h1000])];rw[hw];refine z0t F a1 a2 a3 k4 hF ha fuel (n+1) l ⟨h.nd,h.hd,h.ok,fun j q hj h0=>?_,fun j q hj hq=>?_⟩ hnl (by omega)
     ·obtain⟨g1,i,p,c,g2,g3⟩:=h.par j q hj h0;exact⟨g1,i,p,c,by omega,g3⟩
     ·by_cases e:j=n
      ·subst e;rw[hx] at hq;cases hq;exact⟨hx3,fun hl=>by omega⟩
      ·exact h.cl j q (by omega) hq
    ·rw[if_neg (by simp;omega),q3c];have hxl:x.length<=1000:=o2.1;have hin:=j9k F a1 a2 a3 x (fun l19=>(fun l11=>z1b F a1 a2 a3 k4 fuel (w64 ((n:Int)+1)) l11) l19) hxl 95 32 rfl (by omega) F (by omega) l (by omega);rw[show((32:Nat):Int)=32 from rfl] at hin;rw[hin]
     have hok:∀y,y∈q5r a1.length a2 x 32->a1 <+: y/\okT y/\bgn a1.length a2 y=false:=by
      intro y hy;obtain⟨⟨c,c1,c2,rfl⟩,hb⟩:=q7v.1 hy;refine⟨o1.trans (List.prefix_append _ _),⟨by simp;omega,fun d hd=>?_⟩,hb⟩;rcases cc8.1 hd with hd|hd
      ·exact o2.2 d hd
      ·simp only[bp9] at hd;subst hd;exact⟨c1,c2⟩
     cases hfd:(q5r a1.length a2 x 32).find? (fun y=>!(a3.any fun w=>y==w)) with
     |some y=>
      have hy:=List.mem_of_find?_eq_some hfd;have hp:=List.find?_some hfd;obtain⟨p1,p2,p3⟩:=hok y hy;refine .inl ⟨y,rfl,p1,p2,fun h3=>?_,q8r.1 p3⟩;rw[z3l.2 h3] at hp;cases hp
     |none=>
      dsimp only;rw[hw]
      have hall:∀y,y∈q5r a1.length a2 x 32->y∈a3:=fun y hy=>by
       have:=List.find?_eq_none.1 hfd y hy;exact z3l.1 (by simpa using this)
      refine z0t F a1 a2 a3 k4 hF ha fuel (n+1) (l++q5r a1.length a2 x 32) ⟨?_,?_,fun q hq=>?_,fun j q hj h0=>?_,fun j q hj hq=>?_⟩ (by simp;omega) (by omega)
      ·rw[cd9];refine⟨h.nd,j5j _ _ _,fun a hal b hbk e=>?_⟩;subst e;obtain⟨⟨c,c1,c2,rfl⟩,hb⟩:=q7v.1 hbk;obtain⟨j,hj⟩:=be8 hal;by_cases h0:j=0
       ·subst h0;rw[h.hd] at hj;have:=congrArg List.length (aj9 hj);have:=o1.length_le;simp at *;omega
       ·obtain⟨_,i,p,d,g2,g3,g4⟩:=h.par j _ hj (by omega);have e2:=List.append_inj' g4 rfl;rw[<-e2.1] at g3;have hi:i<l.length:=(bf9.1 g3).1;have:=(List.getElem?_inj hi h.nd).1 (g3.trans hx.symm);omega
      ·rw[av9 (by have:=(bf9.1 h.hd).1;omega)];exact h.hd
      ·rcases cc8.1 hq with hq|hq
       ·exact h.ok q hq
       ·exact hok q hq
      ·by_cases hjl:j<l.length
       ·rw[av9 hjl] at hj;obtain⟨g1,i,p,c,g2,g3,g4⟩:=h.par j q hj h0;exact⟨g1,i,p,c,by omega,by rw[av9 (by have:=(bf9.1 g3).1;omega)];exact g3,g4⟩
       ·rw[av8 (by omega)] at hj;have hq:=ba9 hj;obtain⟨⟨c,c1,c2,rfl⟩,hb⟩:=q7v.1 hq;exact⟨hall _ hq,n,x,c,by omega,by rw[av9 hnl];exact hx,rfl⟩
      ·by_cases e:j=n
       ·subst e;rw[av9 hnl,hx] at hq;cases hq;exact⟨hx3,fun _ y hy=>List.mem_append_right _ hy⟩
       ·rw[av9 (by omega)] at hq;obtain⟨g1,g2⟩:=h.cl j q (by omega) hq;exact⟨g1,fun hl y hy=>cn8 _ (g2 hl y hy)⟩
  ·rw[if_neg (by simp;omega)];have:n=l.length:=by omega
   subst this;exact .inr ⟨rfl,l,h⟩
theorem Qu.none{a1:Txt}{a2 a3 l:List Txt}(h:Qu a1 a2 a3 l l.length)(t:Txt):¬q8p a3 a2 a1 t:=by
 intro hf
 have key:∀k,a1.length+k<=t.length->t.take (a1.length+k)∈l:=by
  intro k
  induction k with
  |zero=>
   intro _;rw[bh8,<-List.prefix_iff_eq_take.1 hf.pre];exact ba9 h.hd
  |succ k ih=>
   intro hk;have hp:=ih (by omega);obtain⟨j,hj⟩:=be8 hp;have hlt:a1.length+k<t.length:=by omega
   obtain⟨_,g⟩:=h.cl j _ (bf9.1 hj).1 hj;have hlen:(t.take (a1.length+k)).length<1000:=by have:=hf.ok.1;simp;omega
   refine g hlen _ (q7v.2 ⟨⟨t[a1.length+k],?_,?_,?_⟩,q8r.2 fun b hb hl hp=>?_⟩)
   ·exact(hf.ok.2 _ (be9 hlt)).1
   ·exact(hf.ok.2 _ (be9 hlt)).2
   ·rw[show a1.length+(k+1)=(a1.length+k)+1 by omega,List.take_succ_eq_append_getElem hlt]
   ·exact hf.no b hb hl (hp.trans (List.take_prefix _ _))
 have hle:=hf.pre.length_le;have:=key (t.length - a1.length) (by omega);rw[show a1.length+(t.length - a1.length)=t.length by omega,List.take_length] at this;obtain⟨j,hj⟩:=be8 this;exact hf.not (h.cl j t (bf9.1 hj).1 hj).1
theorem y5g(F:Nat)(a1:Txt)(a2 a3:List Txt)(hF:a3.length+200<=F)(ha:a3.length<=100000)(h1:okT a1):
  (∃t,y9w F a1 a2 a3=some (t,true)/\q8p a3 a2 a1 t)\/(y9w F a1 a2 a3=some ([],false)/\∀t,¬q8p a3 a2 a1 t):=by
 have hq:Qu a1 a2 a3 [a1] 0:=by
  refine⟨by simp,rfl,fun q hq=>?_,fun j q hj h0=>?_,fun j q hj _=>by omega⟩
  ·simp only[bp9] at hq;subst hq;exact⟨List.prefix_refl _,h1,q8r.2 fun b _ hl hp=>by have:=hp.length_le;omega⟩
  ·cases j with
   |zero=>omega
   |succ j=>simp at hj
 rcases z0t F a1 a2 a3 (some (([]:B8),false)) (by omega) ha F 0 [a1] hq (by simp) (by omega) with ⟨t,e,h⟩|⟨e,l',h⟩
 ·exact .inl ⟨t,e,h⟩
 ·exact .inr ⟨e,fun t=>h.none t⟩
theorem y1w(F:Nat)(l:List Txt)(h:l.length<=1000000):M29 F l=some l:=by
 unfold M29;refine v1x ?_ fun h0=>?_
 ·rw[if_neg (by decide),if_pos (by simp;omega)];simp
 ·have:l=[]:=ba8.1 h0;subst this;rfl
theorem z4t(F:Nat)(s:q4a)(hF:s.is.length+200<=F)(ha:s.is.length<=100000)(k:List Txt->Option (List Txt)):∀(l l15:List Txt),(∀p,p∈l->okT p)->l15.length+l.length<=1000000->
  ∃fs,z4b F s k l l15=k (l15++fs)/\fs.length<=l.length/\(∀p,p∈l->(∃t,q8p s.is s.begins p t/\t∈fs)\/∀t,¬q8p s.is s.begins p t)/\∀x,x∈fs->∃p,q8p s.is s.begins p x
 |[],l15,_,_=>⟨[],by rw[z4b];simp,ae8 _,by simp,by simp⟩
 |p::l,l15,h,hl=>by
  simp only[ca9] at hl;rw[z4b];rcases y5g F p s.begins s.is hF ha (h p (by simp)) with ⟨t,e,hf⟩|⟨e,hf⟩
  ·obtain⟨fs,g1,g2,g3,g4⟩:=z4t F s hF ha k l (l15++[t]) (fun q hq=>h q (by simp[hq])) (by simp;omega);refine⟨t::fs,?_,by simp;omega,fun q hq=>?_,fun x hx=>?_⟩
   ·rw[e,cb8,q3c];dsimp only;rw[if_pos rfl,if_pos (by simp;omega),g1];simp
   ·rcases at8.1 hq with e2|hq
    ·subst e2;exact .inl ⟨t,hf,by simp⟩
    ·rcases g3 q hq with ⟨u,h1,h2⟩|h1
     ·exact .inl ⟨u,h1,by simp[h2]⟩
     ·exact .inr h1
   ·rcases at8.1 hx with e2|hx
    ·subst e2;exact⟨p,hf⟩
    ·exact g4 x hx
  ·obtain⟨fs,g1,g2,g3,g4⟩:=z4t F s hF ha k l l15 (fun q hq=>h q (by simp[hq])) (by omega);refine⟨fs,?_,by simp;omega,fun q hq=>?_,g4⟩
   ·rw[e,cb8,q3c];dsimp only;rw[if_neg (by decide),g1]
   ·rcases at8.1 hq with e2|hq
    ·subst e2;exact .inr hf
    ·exact g3 q hq
structure y8t(is bg out:List Txt):Prop where
 hi:∀e,e∈is->e∈out
 hb:∀p,(p∈bg\/p=[])->(∃t,q8p is bg p t/\t∈out)\/∀t,¬q8p is bg p t
 ok:∀x,x∈out->x∈is\/okT x
theorem y9h(F:Nat)(s:q4a)(hF:s.is.length+200<=F)(ha:s.is.length<=100000)(hb:s.begins.length<=100000)(h:∀b,b∈s.begins->okT b):
  ∃out,v9s F s=some out/\out.length<=s.is.length+s.begins.length+1/\y8t s.is s.begins out:=by
 have h0:okT []:=⟨by simp,by simp⟩
 have main:∀l:List Txt,(∀p,p∈l<->p∈s.begins\/p=[])->l.length<=s.begins.length+1->
   ∃out,(z4b F s (fun l11=>(y2k F l11).bind fun y26=>if y26.length=l11.length then (y7j F y26).bind fun y29=>some y29 else none) l s.is)=some out/\out.length<=s.is.length+s.begins.length+1/\y8t s.is s.begins out:=by
  intro l hm hll;obtain⟨fs,g1,g2,g3,g4⟩:=z4t F s hF ha (fun l11=>(y2k F l11).bind fun y26=>if y26.length=l11.length then (y7j F y26).bind fun y29=>some y29 else none) l s.is (fun p hp=>((hm p).1 hp).elim (h p) (fun e=>e ▸ h0)) (by omega);have hs:(q1s (s.is++fs)).length=(s.is++fs).length:=(q5m _).length_eq;have hc:=v9f (q1s (s.is++fs));have hmem:∀x,x∈cpt (q1s (s.is++fs))<->x∈s.is\/x∈fs:=fun x=>by rw[y0d,(q5m _).mem_iff,cc8]
  rw[bj8] at hs;refine⟨cpt (q1s (s.is++fs)),?_,by omega,fun e he=>(hmem e).2 (.inl he),fun p hp=>?_,fun x hx=>?_⟩
  ·rw[g1];unfold y2k y7j;rw[if_pos (by rw[bj8];omega),cb8,if_pos (by rw[bj8];exact hs),if_pos (by omega),cb8]
  ·rcases g3 p ((hm p).2 hp) with ⟨t,h1,h2⟩|h1
   ·exact .inl ⟨t,h1,(hmem t).2 (.inr h2)⟩
   ·exact .inr h1
  ·rcases(hmem x).1 hx with hx|hx
   ·exact .inl hx
   ·obtain⟨p,hp⟩:=g4 x hx;exact .inr hp.ok
 unfold v9s;rw[y1w F _ (by omega),cb8,j6z,cb8,q3c];cases hm:s.begins.any fun w=>([]:B8)==w with
 |false=>
  simp only[bz8,if_true];rw[if_pos (by simp;omega),q3c];refine main _ (fun p=>?_) (by simp<;>omega);simp only[List.singleton_append,at8];exact Or.comm
 |true=>
  simp only[bx8,cp8,if_false];rw[q3c];refine main _ (fun p=>⟨.inl,fun hp=>hp.elim id fun e=>?_⟩) (by omega);rw[e];exact z3l.1 hm
def y3j(s:q4a)(l:Lf):Prop:=
 (l.k=2/\(∀e,e∈l.tx->e∈s.is)/\s.asText=true)\/(l.k=3/\(∀e,e∈l.tx->e∈s.begins)/\s.asText=true)\/(l.k=4/\s.has=true)\/(l.k=5/\l.n∈s.numbers/\s.asNo=true)
structure v8r(s:q4a)(u v:Fd):Prop where
 tx:s.asText=true->u.isText=v.isText/\(u.isText=true->w6e s.is s.begins u.text v.text)
 nx:s.asNo=true->u.isNumber=v.isNumber/\(u.isNumber=true->v2h s.numbers u.number v.number)
 hx:s.has=true->(u.isText||u.isNumber)=(v.isText||v.isNumber)
theorem j4p{a b:Bool}(h:a=true<->b=true):a=b:=by
 cases a<;>cases b<;>simp_all
theorem w2c{ns:List Int}{x y n op:Int}(h:v2h ns x y)(hn:n∈ns):w0w x op n=w0w y op n:=by
 have h1:=h.lt n hn;have h2:=h.eq n hn;unfold w0w;split
 ·exact decide_eq_decide.2 h1
 ·split
  ·exact decide_eq_decide.2 (by omega)
  ·split
   ·exact j4p (by rw[beq_iff_eq,beq_iff_eq];exact h2)
   ·split
    ·exact decide_eq_decide.2 (by omega)
    ·exact decide_eq_decide.2 (by omega)
theorem v1j{s:q4a}{u v:Fd}{l:Lf}(hl:y3j s l)(h:v8r s u v):l.one u=l.one v:=by
 unfold Lf.one z5w;rcases hl with ⟨hk,h1,h2⟩|⟨hk,h1,h2⟩|⟨hk,h2⟩|⟨hk,h1,h2⟩
 ·obtain⟨a,b⟩:=h.tx h2;rw[hk];simp only[show ¬(2:Int)=4 by decide,show ¬(2:Int)=5 by decide,if_false];rw[<-a];cases hu:u.isText with
  |false=>rfl
  |true=>
   have hs:=b hu
   show txT 2 u.text l.tx=txT 2 v.text l.tx
   rw[y0y,y0y];refine j4p ?_;rw[z3l,z3l];constructor
   ·intro hm;rwa [<-(hs.eq _ (h1 _ hm)).1 rfl] at hm
   ·intro hm;rwa [<-(hs.eq _ (h1 _ hm)).2 rfl] at hm
 ·obtain⟨a,b⟩:=h.tx h2;rw[hk];simp only[show ¬(3:Int)=4 by decide,show ¬(3:Int)=5 by decide,if_false];rw[<-a];cases hu:u.isText with
  |false=>rfl
  |true=>
   have hs:=b hu
   show txT 3 u.text l.tx=txT 3 v.text l.tx
   rw[y9x,y9x];refine j4p ?_;rw[cj8,cj8];constructor
   ·rintro⟨w,hw,hp⟩;exact⟨w,hw,z8k.2 ((hs.pre w (h1 w hw)).1 (z8k.1 hp))⟩
   ·rintro⟨w,hw,hp⟩;exact⟨w,hw,z8k.2 ((hs.pre w (h1 w hw)).2 (z8k.1 hp))⟩
 ·rw[hk];simp only[if_pos];exact h.hx h2
 ·obtain⟨a,b⟩:=h.nx h2;rw[hk];simp only[show ¬(5:Int)=4 by decide,if_false,if_true];rw[<-a];cases hu:u.isNumber with
  |false=>rfl
  |true=>exact congrArg (true&&·) (w2c (b hu) h1)
def okV(v:Fd):Prop:=(v.isText=true->okT v.text)/\(v.isNumber=true->okN v.number)
theorem w3c{s:q4a}{nums:List Int}{txs:List Txt}(hn:∀x,x∈nums<->x=0\/∃n,n∈s.numbers/\x∈v6s n)(hns:∀n,n∈s.numbers->okN n)(ht:y8t s.is s.begins txs)(hi:s.asText=false->s.is=[]/\s.begins=[])(v:Fd)(hv:okV v):
  ∃c,c∈q8s s nums txs/\v8r s (toF c) v:=by
 -- a number that stands for the value's
 have hnum:∃y,y∈nums/\(v.isNumber=true->v2h s.numbers y v.number):=by
  cases hvn:v.isNumber with
  |false=>exact⟨0,(hn 0).2 (.inl rfl),by simp⟩
  |true=>
   have near_mem:∀n x,okN x->(x=n - 1\/x=n\/x=n+1)->x∈v6s n:=fun n x hx h=>by
    unfold v6s;rw[cc9];exact⟨by simp;exact h,by simpa using hx⟩
   obtain⟨y,h1,h2⟩:=v6v (ns:=s.numbers) (out:=nums) ⟨0,(hn 0).2 (.inl rfl)⟩ (fun n h=>(hn n).2 (.inr ⟨n,h,near_mem n n (hns n h) (.inr (.inl rfl))⟩)) (fun n h h2=>(hn _).2 (.inr ⟨n,h,near_mem n _ h2 (.inl rfl)⟩))
    (fun m h _ h2=>(hn _).2 (.inr ⟨m,h,near_mem m _ h2 (.inr (.inr rfl))⟩)) hns v.number (hv.2 hvn)
   exact⟨y,h1,fun _=>h2⟩
 obtain⟨y,hy,hyS⟩:=hnum;have htx:v.isText=true->∃t,t∈txs/\w6e s.is s.begins t v.text:=fun h=>v8i ht.hi ht.hb v.text (hv.1 h)
 -- the number's part
 have hnv:∃z,z∈j7f s nums/\z.hasText=false/\(s.asNo=true->z.hasNumber=v.isNumber/\(z.hasNumber=true->v2h s.numbers z.number v.number))/\(s.has=true->z.hasNumber=v.isNumber):=by
  unfold j7f;by_cases ha:(s.asNo||s.has)=true
  ·rw[if_pos ha];cases hvn:v.isNumber with
   |false=>exact⟨zV,by simp,rfl,fun _=>⟨rfl,by simp[zV]⟩,fun _=>rfl⟩
   |true=>exact⟨nv y,cb9 _ (bq8 hy),rfl,fun _=>⟨rfl,fun _=>hyS hvn⟩,fun _=>rfl⟩
  ·rw[if_neg ha];rw[at9,not_or] at ha;exact⟨zV,by simp,rfl,fun h=>absurd h ha.1,fun h=>absurd h ha.2⟩
 obtain⟨z,hz,hz0,hz1,hz2⟩:=hnv;by_cases hvt:v.isText=true/\(s.asText||s.has)=true
 ·obtain⟨t,ht1,ht2⟩:=htx hvt.1;refine⟨tvs t z,?_,?_⟩
  ·unfold q8s;rw[if_pos hvt.2];exact List.mem_append_right _ (ad9.2 ⟨t,ht1,bq8 hz⟩)
  ·exact⟨fun _=>⟨hvt.1.symm,fun _=>ht2⟩,fun h=>⟨(hz1 h).1,fun h2=>(hz1 h).2 h2⟩,fun h=>by rw[hvt.1];simp[toF,tvs]⟩
 ·refine⟨z,by unfold q8s;exact cn8 _ hz,?_⟩;refine⟨fun h=>?_,fun h=>⟨(hz1 h).1,fun h2=>(hz1 h).2 h2⟩,fun h=>?_⟩
  ·have:v.isText=false:=by
    cases hvt2:v.isText with
    |false=>rfl
    |true=>exact absurd ⟨hvt2,by rw[h];rfl⟩ hvt
   exact⟨by rw[this];exact hz0,fun h2=>by rw[show(toF z).isText=false from hz0] at h2;cases h2⟩
  ·have:v.isText=false:=by
    cases hvt2:v.isText with
    |false=>rfl
    |true=>exact absurd ⟨hvt2,by rw[h];simp⟩ hvt
   rw[this]
   show(z.hasText||z.hasNumber)=_
   rw[hz0,hz2 h]
theorem w8o{s:q4a}{nums:List Int}{txs:List Txt}(hn:∀x,x∈nums->okN x)(ht:∀x,x∈txs->okT x){c:q0a}(hc:c∈q8s s nums txs):okV (toF c):=by
 have hnums:∀z,z∈j7f s nums->z.hasText=false/\(z.hasNumber=true->okN z.number):=by
  intro z hz;unfold j7f at hz;rcases at8.1 hz with e|hz
  ·rw[e];exact⟨rfl,by simp[zV]⟩
  ·split at hz
   ·obtain⟨n,hn2,rfl⟩:=bg9.1 hz;exact⟨rfl,fun _=>hn n hn2⟩
   ·simp at hz
 unfold q8s at hc;rcases cc8.1 hc with hc|hc
 ·obtain⟨h1,h2⟩:=hnums c hc;exact⟨fun h=>absurd (h1.symm.trans h) (by simp),h2⟩
 ·split at hc
  ·obtain⟨t,ht2,hc⟩:=ad9.1 hc;obtain⟨z,hz,rfl⟩:=bg9.1 hc;exact⟨fun _=>ht t ht2,fun h=>(hnums z hz).2 h⟩
  ·simp at hc
structure v2b(l:Lf):Prop where
 k:2<=l.k/\l.k<=5
 nm:q8k l.nm=true
 len:l.tx.length<=50
 tx:∀s,s∈l.tx->okT s
 n:l.k=5->okN l.n
 op:l.k=5->1<=l.op/\l.op<=5
 tx45:l.k=4\/l.k=5->l.tx=[]
theorem w4y{s:Txt}(h:j2i s=true):okT s:=by
 unfold j2i at h;rw[as9,decide_eq_true_eq,as8] at h;refine⟨h.1,fun c hc=>?_⟩;have:=h.2 c hc;unfold w6h at this;rw[as9,decide_eq_true_eq,decide_eq_true_eq] at this;exact this
theorem w7r(a:List Txt):∀(l:List Txt) (n:Nat),txC a l n=0->∀s,s∈l->j2i s=true
 |[],n,_,s,hs=>by simp at hs
 |x::l,n,h,s,hs=>by
  rw[txC] at h;cases hv:j2i x with
  |false=>rw[hv] at h;simp at h
  |true=>
   rw[hv] at h;simp only[bx8,cp8,if_false] at h;split at h
   ·cases h
   ·rcases at8.1 hs with e|hs
    ·rw[e];exact hv
    ·exact w7r a l (n+1) h s hs
theorem y4l{a:List Txt}(h:txF a=0):a.length<=50/\∀s,s∈a->okT s:=by
 unfold txF at h;split at h
 ·cases h
 ·split at h
  ·cases h
  ·exact⟨by omega,fun s hs=>w4y (w7r a a 0 h s hs)⟩
theorem j2v{k op n:Int}{nm:Txt}{tx:List Txt}{ks:List q6e}(h:q6j ⟨k,nm,tx,op,n,ks⟩=0)(hk:2<=k/\k<=5):v2b ⟨k,nm,tx,op,n⟩/\ks=[]:=by
 unfold q6j at h;dsimp only at h;rw[if_neg (by omega),if_neg (show ¬k=6 by omega),if_neg (show ¬7<=k by omega)] at h;split at h
 ·cases h
 ·rename_i h1;rw[at9,at9,at9,not_or,not_or,not_or] at h1;obtain⟨⟨⟨_,h2⟩,h3⟩,h4⟩:=h1;split at h
  ·cases h
  ·rename_i h5
   have hnm:q8k nm=true:=by
    cases hb:q8k nm with
    |true=>rfl
    |false=>rw[hb,decide_eq_true hk.1,decide_eq_true hk.2] at h5;simp at h5
   have hks:ks=[]:=by
    have:(ks.length==0)=true:=by simpa using h4
    exact ba8.1 (by simpa using this)
   have htx:¬(k=2\/k=3)->tx=[]:=by
    intro hn;have e1:(k==2)=false:=beq_false_of_ne (by omega);have e2:(k==3)=false:=beq_false_of_ne (by omega);rw[e1,e2] at h2;simp only[Bool.or_self,bz8,ai8,decide_eq_true_eq] at h2;exact ba8.1 (by omega)
   split at h
   ·rename_i h6;obtain⟨g1,g2⟩:=y4l h;exact⟨⟨hk,hnm,g1,g2,fun h=>by simp only at h;omega,fun h=>by simp only at h;omega,fun h=>by simp only at h;omega⟩,hks⟩
   ·rename_i h6;have:=htx h6;subst this;split at h
    ·rename_i h7;split at h
     ·cases h
     ·rename_i h8;split at h
      ·cases h
      ·rename_i h9;unfold v2d at h9;rw[at9,decide_eq_true_eq,decide_eq_true_eq] at h9;exact⟨⟨hk,hnm,by simp,by simp,fun _=>⟨by simp only;omega,by simp only;omega⟩,fun _=>⟨by simp only;omega,by simp only;omega⟩,fun _=>rfl⟩,hks⟩
    ·rename_i h7;exact⟨⟨hk,hnm,by simp,by simp,fun h=>absurd h h7,fun h=>absurd h h7,fun _=>rfl⟩,hks⟩
theorem z9d:∀t:Tr,t.flt=0->∀l,l∈t.lvs->v2b l:=Tr.ind fun k nm tx op n ks ih hz l hl=>by
 obtain⟨hnode,hfl⟩:=q2r hz;have hkk:=q2y hnode;dsimp only at hkk;rw[Tr.lvs] at hl;split at hl
 ·simp at hl
 ·split at hl
  ·obtain⟨t,ht,h⟩:=q4z.1 hl;exact ih t ht (q1n hfl ht) l h
  ·simp only[bp9] at hl;rw[hl];exact(j2v hnode (by omega)).1
theorem z5r:∀t:Tr,t.lvs.length<=t.cnt:=Tr.ind fun k nm tx op n ks ih=>by
 rw[Tr.lvs,Tr.cnt]
 have:∀l:List Tr,(∀t,t∈l->t∈ks)->(Tr.lvss l).length<=Tr.cnts l:=by
  intro l
  induction l with
  |nil=>intro _;simp[Tr.lvss,Tr.cnts]
  |cons t r ihr=>
   intro hm;rw[Tr.lvss,Tr.cnts,bj8];have h1:=ih t (hm t (by simp));have h2:=ihr fun u hu=>hm u (by simp[hu]);omega
 have h:=this ks fun _ h=>h;split
 ·simp
 ·split
  ·omega
  ·simp
theorem j6v{τ:Type}{T:Nat}{enc:τ->List V}{y:τ}:(mkK T enc y).t=T:=rfl
def w8z:q4a:=⟨[],[],[],false,false,false,2⟩
def z1i(all:MpS)(n:Txt):q4a:=match q7f all n with
 |some (some s)=>s
 |_=>w8z
def v8t(l:Lf)(s:q4a):q4a:=
 if l.k=2 then ⟨s.is++l.tx,s.begins,s.numbers,true,s.asNo,s.has,w64 (s.weight+((l.tx.length:Nat):Int))⟩
 else if l.k=3 then ⟨s.is,s.begins++l.tx,s.numbers,true,s.asNo,s.has,w64 (s.weight+w64 (2*((l.tx.length:Nat):Int)))⟩
 else if l.k=4 then ⟨s.is,s.begins,s.numbers,s.asText,s.asNo,true,s.weight⟩
 else ⟨s.is,s.begins,s.numbers++[l.n],s.asText,true,s.has,w64 (s.weight+2)⟩
def j6k(all:MpS)(l:Lf):MpS:=q0m all l.nm (some (v8t l (z1i all l.nm)))
theorem v7x{κ τ:Type}[DecidableEq κ](m:List (κ×τ))(k:κ)(v w:τ):q0m (q0m m k v) k w=q0m m k w:=by
 induction m with
 |nil=>simp[q0m]
 |cons p r ih=>
  rw[q0m];by_cases e:p.1=k
  ·rw[if_pos e,q0m,if_pos rfl,q0m,if_pos e]
  ·rw[if_neg e,q0m,if_neg e,ih,q0m,if_neg e]
structure Bd(all:MpS)(B:Nat):Prop where
 so:∀n,q7f all n≠some none
 li:∀n,(z1i all n).is.length<=B/\(z1i all n).begins.length<=B/\(z1i all n).numbers.length<=B
theorem z9m(all:MpS)(l:Lf)(n:Txt):z1i (j6k all l) n=if l.nm=n then v8t l (z1i all l.nm) else z1i all n:=by
 unfold j6k;by_cases e:l.nm=n
 ·rw[if_pos e]
  show(match q7f (q0m all l.nm _) n with|some (some s)=>s|_=>w8z)=_
  rw[q3m,if_pos e]
 ·rw[if_neg e]
  show(match q7f (q0m all l.nm _) n with|some (some s)=>s|_=>w8z)=_
  rw[q3m,if_neg e];rfl
theorem Bd.add{all:MpS}{B:Nat}(h:Bd all B){l:Lf}(hl:l.tx.length<=50):Bd (j6k all l) (B+50):=by
 refine⟨fun n=>?_,fun n=>?_⟩
 ·unfold j6k;rw[q3m];split
  ·simp
  ·exact h.so n
 ·rw[z9m];have h1:=h.li n;have h2:=h.li l.nm;split
  ·unfold v8t;split
   ·simp only[bj8];omega
   ·split
    ·simp only[bj8];omega
    ·split
     ·simp only;omega
     ·simp only[bj8,List.length_singleton];omega
  ·omega
theorem v0n(F:Nat)(all:MpS)(n:Txt)(h:q7f all n≠some none):∃xs,M89 F n all=some (xs,z1i all n)/\∀v,q0m xs n v=q0m all n v:=by
 unfold M89 z1i;cases hm:q7f all n with
 |none=>exact⟨_,rfl,fun v=>v7x _ _ _ _⟩
 |some q=>
  cases q with
  |none=>exact absurd hm h
  |some s=>exact⟨_,rfl,fun _=>rfl⟩
theorem v5f:∀(ls:List Lf) (all:MpS) (B:Nat),Bd all B->(∀l,l∈ls->v2b l)->Bd (ls.foldl j6k all) (B+50*ls.length)
 |[],all,B,h,_=>by simpa using h
 |l::r,all,B,h,hl=>by
  have:=v5f r (j6k all l) (B+50) (h.add (hl l (by simp)).len) fun m hm=>hl m (by simp[hm]);rw[by8];refine⟨this.so,fun n=>?_⟩;have h1:=this.li n;simp only[ca9];omega
theorem y0w:∀t:Tr,t.ok->t.flt=0->∀F,t.fu<=F->∀(all:MpS) (B:Nat),Bd all B->B+50*t.lvs.length<=1000000->M33 F t.cd all=some (t.lvs.foldl j6k all):=Tr.ind fun k nm tx op n ks ih ok hz F hF all B hB hb=>by
 rw[Tr.fu] at hF;have hlo:=z9d _ hz;obtain⟨hnode,hfl⟩:=q2r hz;obtain⟨F,rfl⟩:∃G,F=G+1:=⟨F - 1,by omega⟩
 show z6x (M33 F) F (Tr.mk k nm tx op n ks).cd all=_
 have hkk:=q2y hnode;dsimp only at hkk;have hk':k=1\/k=2\/k=3\/k=4\/k=5\/k=6\/k=7\/k=8:=by omega
 rw[Tr.lvs] at hb hlo ⊢;rw[Tr.cd]
 have hl1:∀(l:List Tr) (all:MpS) (B:Nat),Bd all B->(∀t,t∈l->t∈ks)->B+50*(Tr.lvss l).length<=1000000->q0z (M33 F) F (fun m=>some m) (Tr.cds l) all=some ((Tr.lvss l).foldl j6k all):=by
  intro l
  induction l with
  |nil=>intro all B _ _ _;rw[Tr.cds,Tr.lvss];rfl
  |cons t r ihr=>
   intro all B hB hm hb;rw[Tr.lvss,bj8] at hb;have ht:=hm t (by simp);rw[Tr.cds,q0z,ih t ht (Tr.oks_mem (Tr.okks ok).1 ht) (q1n hfl ht) F (by have:=Tr.fu_mem ht;omega) all B hB (by omega),cb8,Tr.lvss,List.foldl_append];exact ihr _ _ (v5f t.lvs all B hB fun l hl=>z9d t (q1n hfl ht) l hl) (fun u hu=>hm u (by simp[hu])) (by omega)
 have hl2:∀(l:List Tr) (all:MpS) (B:Nat),Bd all B->(∀t,t∈l->t∈ks)->B+50*(Tr.lvss l).length<=1000000->q0z (M33 F) F (fun m=>some m) (Tr.cds l) all=some ((Tr.lvss l).foldl j6k all):=by
  intro l
  induction l with
  |nil=>intro all B _ _ _;rw[Tr.cds,Tr.lvss];rfl
  |cons t r ihr=>
   intro all B hB hm hb;rw[Tr.lvss,bj8] at hb;have ht:=hm t (by simp);rw[Tr.cds,q0z,ih t ht (Tr.oks_mem (Tr.okks ok).1 ht) (q1n hfl ht) F (by have:=Tr.fu_mem ht;omega) all B hB (by omega),cb8,Tr.lvss,List.foldl_append];exact ihr _ _ (v5f t.lvs all B hB fun l hl=>z9d t (q1n hfl ht) l hl) (fun u hu=>hm u (by simp[hu])) (by omega)
 rcases hk' with e|e|e|e|e|e|e|e
 ·subst e;simp only[show ¬(1:Int)=2 by decide,show ¬(1:Int)=3 by decide,show ¬(1:Int)=4 by decide,show ¬(1:Int)=5 by decide,show ¬(1:Int)=6 by decide,show ¬(1:Int)=7 by decide,show ¬(1:Int)=8 by decide,if_false,if_true] at hb hlo ⊢;unfold z6x;simp only[j6v];refine(if_neg (show ¬Nat.beq 159 147=true by decide)).trans ?_;refine(if_neg (show ¬Nat.beq 159 148=true by decide)).trans ?_;refine(if_neg (show ¬Nat.beq 159 150=true by decide)).trans ?_;refine(if_neg (show ¬Nat.beq 159 152=true by decide)).trans ?_;refine(if_neg (show ¬Nat.beq 159 154=true by decide)).trans ?_;refine(if_neg (show ¬Nat.beq 159 156=true by decide)).trans ?_;refine(if_neg (show ¬Nat.beq 159 157=true by decide)).trans ?_;rfl
 ·subst e;simp only[show ¬(2:Int)=1 by decide,show ¬(2:Int)=3 by decide,show ¬(2:Int)=4 by decide,show ¬(2:Int)=5 by decide,show ¬(2:Int)=6 by decide,show ¬(2:Int)=7 by decide,show ¬(2:Int)=8 by decide,show ¬((2:Int)=6\/(2:Int)=7\/(2:Int)=8) by decide,if_false,if_true,List.length_singleton] at hb hlo ⊢;unfold z6x;simp only[j6v];refine(if_pos (show Nat.beq 147 147=true from rfl)).trans ?_;obtain⟨xs,e1,e2⟩:=v0n F all nm (hB.so nm);have h1:=hB.li nm;have h2:=(hlo ⟨2,nm,tx,op,n⟩ (by simp)).len;simp only at h2;rw[q9k v9z,cb8,e1,cb8,if_pos (by simp only[bj8,List.length_singleton];omega)];dsimp only;rw[e2];rfl
 ·subst e;simp only[show ¬(3:Int)=1 by decide,show ¬(3:Int)=2 by decide,show ¬(3:Int)=4 by decide,show ¬(3:Int)=5 by decide,show ¬(3:Int)=6 by decide,show ¬(3:Int)=7 by decide,show ¬(3:Int)=8 by decide,show ¬((3:Int)=6\/(3:Int)=7\/(3:Int)=8) by decide,if_false,if_true,List.length_singleton] at hb hlo ⊢;unfold z6x;simp only[j6v];refine(if_neg (show ¬Nat.beq 148 147=true by decide)).trans ?_;refine(if_pos (show Nat.beq 148 148=true from rfl)).trans ?_;obtain⟨xs,e1,e2⟩:=v0n F all nm (hB.so nm);have h1:=hB.li nm;have h2:=(hlo ⟨3,nm,tx,op,n⟩ (by simp)).len;simp only at h2;rw[q9k z7r,cb8,e1,cb8,if_pos (by simp only[bj8,List.length_singleton];omega)];dsimp only;rw[e2];rfl
 ·subst e;simp only[show ¬(4:Int)=1 by decide,show ¬(4:Int)=2 by decide,show ¬(4:Int)=3 by decide,show ¬(4:Int)=5 by decide,show ¬(4:Int)=6 by decide,show ¬(4:Int)=7 by decide,show ¬(4:Int)=8 by decide,show ¬((4:Int)=6\/(4:Int)=7\/(4:Int)=8) by decide,if_false,if_true,List.length_singleton] at hb hlo ⊢;unfold z6x;simp only[j6v];refine(if_neg (show ¬Nat.beq 150 147=true by decide)).trans ?_;refine(if_neg (show ¬Nat.beq 150 148=true by decide)).trans ?_;refine(if_pos (show Nat.beq 150 150=true from rfl)).trans ?_;obtain⟨xs,e1,e2⟩:=v0n F all nm (hB.so nm);rw[q9k v4e,cb8,e1,cb8];dsimp only;rw[e2];rfl
 ·subst e;simp only[show ¬(5:Int)=1 by decide,show ¬(5:Int)=2 by decide,show ¬(5:Int)=3 by decide,show ¬(5:Int)=4 by decide,show ¬(5:Int)=6 by decide,show ¬(5:Int)=7 by decide,show ¬(5:Int)=8 by decide,show ¬((5:Int)=6\/(5:Int)=7\/(5:Int)=8) by decide,if_false,if_true,List.length_singleton] at hb hlo ⊢;unfold z6x;simp only[j6v];refine(if_neg (show ¬Nat.beq 152 147=true by decide)).trans ?_;refine(if_neg (show ¬Nat.beq 152 148=true by decide)).trans ?_;refine(if_neg (show ¬Nat.beq 152 150=true by decide)).trans ?_;refine(if_pos (show Nat.beq 152 152=true from rfl)).trans ?_;obtain⟨xs,e1,e2⟩:=v0n F all nm (hB.so nm);have h1:=hB.li nm;have h2:=(hlo ⟨5,nm,tx,op,n⟩ (by simp)).len;simp only at h2;rw[q9k z6r,cb8,e1,cb8,if_pos (by simp only[bj8,List.length_singleton];omega)];dsimp only;rw[e2];rfl
 ·subst e;simp only[show ¬(6:Int)=1 by decide,show ¬(6:Int)=2 by decide,show ¬(6:Int)=3 by decide,show ¬(6:Int)=4 by decide,show ¬(6:Int)=5 by decide,show ¬(6:Int)=7 by decide,show ¬(6:Int)=8 by decide,if_false,if_true,or_true,true_or,or_false,false_or] at hb hlo ⊢;unfold z6x;simp only[j6v];refine(if_neg (show ¬Nat.beq 154 147=true by decide)).trans ?_;refine(if_neg (show ¬Nat.beq 154 148=true by decide)).trans ?_;refine(if_neg (show ¬Nat.beq 154 150=true by decide)).trans ?_;refine(if_neg (show ¬Nat.beq 154 152=true by decide)).trans ?_;refine(if_pos (show Nat.beq 154 154=true from rfl)).trans ?_;have h1:ks.length=1:=by rw[<-z7n hnode rfl];exact(Tr.toKs_len ks).symm
  match ks,h1,ih,ok,hb,hfl,hF with
  |[t],_,ih,ok,hb,hfl,hF=>
   rw[q9k v3e,cb8];simp only[Tr.lvss,aa8] at hb ⊢
   show(M33 F ((Tr.cds [t]).headD _) all).bind _=_
   rw[Tr.cds,cl9,ih t (by simp) (Tr.oks_mem (Tr.okks ok).1 (by simp)) (q1n hfl (by simp)) F (by have:=Tr.fu_mem (ks:=[t]) (t:=t) (by simp);omega) all B hB hb,cb8]
 ·subst e;simp only[show ¬(7:Int)=1 by decide,show ¬(7:Int)=2 by decide,show ¬(7:Int)=3 by decide,show ¬(7:Int)=4 by decide,show ¬(7:Int)=5 by decide,show ¬(7:Int)=6 by decide,show ¬(7:Int)=8 by decide,if_false,if_true,or_true,true_or,or_false,false_or] at hb hlo ⊢;unfold z6x;simp only[j6v];refine(if_neg (show ¬Nat.beq 156 147=true by decide)).trans ?_;refine(if_neg (show ¬Nat.beq 156 148=true by decide)).trans ?_;refine(if_neg (show ¬Nat.beq 156 150=true by decide)).trans ?_;refine(if_neg (show ¬Nat.beq 156 152=true by decide)).trans ?_;refine(if_neg (show ¬Nat.beq 156 154=true by decide)).trans ?_;refine(if_pos (show Nat.beq 156 156=true from rfl)).trans ?_;rw[q9k v6e,cb8,q3c];exact hl1 ks all B hB (fun _ h=>h) hb
 ·subst e;simp only[show ¬(8:Int)=1 by decide,show ¬(8:Int)=2 by decide,show ¬(8:Int)=3 by decide,show ¬(8:Int)=4 by decide,show ¬(8:Int)=5 by decide,show ¬(8:Int)=6 by decide,show ¬(8:Int)=7 by decide,if_false,if_true,or_true,true_or,or_false,false_or] at hb hlo ⊢;unfold z6x;simp only[j6v];refine(if_neg (show ¬Nat.beq 157 147=true by decide)).trans ?_;refine(if_neg (show ¬Nat.beq 157 148=true by decide)).trans ?_;refine(if_neg (show ¬Nat.beq 157 150=true by decide)).trans ?_;refine(if_neg (show ¬Nat.beq 157 152=true by decide)).trans ?_;refine(if_neg (show ¬Nat.beq 157 154=true by decide)).trans ?_;refine(if_neg (show ¬Nat.beq 157 156=true by decide)).trans ?_;refine(if_pos (show Nat.beq 157 157=true from rfl)).trans ?_;rw[q9k v5e,cb8,q3c];exact hl2 ks all B hB (fun _ h=>h) hb
end Go.Proofs.YtelmfadihfcgnaaGreatDoor
