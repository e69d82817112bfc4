/- Part of the proof: D6PC, D6PD, D6PE, D6PF, FA, D6QA, D6QB, D6QC, D6QD, D6QE, XR, D6QF. -/
import Derived.Test.YtelmfadihfcgnaaGreatDoorED6PB
import Init.Data.List.Lemmas
import Derived.Test.YtelmfadihfcgnaaGreatDoorEDD
set_option linter.unusedSimpArgs false
set_option linter.unusedVariables false
namespace Go.Proofs.YtelmfadihfcgnaaGreatDoor
open Go Go.Pv
set_option maxRecDepth 100000
mutual
theorem Tr.ind{P:Tr->Prop}(h:∀a b c d e ks,(∀t,t∈ks->P t)->P (.mk a b c d e ks)):∀t:Tr,P t
 | .mk a b c d e ks=>h a b c d e ks (Tr.inds h ks)
theorem Tr.inds{P:Tr->Prop}(h:∀a b c d e ks,(∀t,t∈ks->P t)->P (.mk a b c d e ks)):∀(ks:List Tr) (t:Tr),t∈ks->P t
 |[],_,hu=>absurd hu (by simp)
 |t::r,u,hu=>by
  rcases aq8.1 hu with e|hu
  ·rw[e];exact Tr.ind h t
  ·exact Tr.inds h r u hu
end
noncomputable section
mutual
def Tr.fu:Tr->Nat
 | .mk a b c d e ks=>c.length+ks.length+2+Tr.fus ks
def Tr.fus:List Tr->Nat
 |[]=>0
 |t::r=>t.fu+Tr.fus r
end
mutual
def Tr.cnt:Tr->Nat
 | .mk a b c d e ks=>1+Tr.cnts ks
def Tr.cnts:List Tr->Nat
 |[]=>0
 |t::r=>t.cnt+Tr.cnts r
end
mutual
def Tr.dep:Tr->Nat
 | .mk a b c d e ks=>1+Tr.deps ks
def Tr.deps:List Tr->Nat
 |[]=>0
 |t::r=>max t.dep (Tr.deps r)
end
mutual
def Tr.flt:Tr->Int
 | .mk a b c d e ks=>if cj ⟨a,b,c,d,e,Tr.toKs ks⟩=0 then Tr.flts ks else cj ⟨a,b,c,d,e,Tr.toKs ks⟩
def Tr.flts:List Tr->Int
 |[]=>0
 |t::r=>if t.flt=0 then Tr.flts r else t.flt
end
def Tr.toK(t:Tr):aw:=⟨ah t.toT,ce _,gW _⟩
end
theorem Tr.dec(t:Tr):dM ah t.toK=some t.toT:=Fi t
theorem Tr.toKs_map:∀ks:List Tr,Tr.toKs ks=ks.map Tr.toK
 |[]=>by simp[Tr.toKs]
 |t::r=>by rw[Tr.toKs,Tr.toKs_map r];rfl
theorem fH{ks:List Tr}{n:Nat}(h:n<ks.length):cq (Tr.toKs ks) (n:Int)=some (ks[n].toK):=by
 rw[Tr.toKs_map,bt (by simpa using h)];simp
theorem Tr.fu_mem:∀{ks:List Tr} {t:Tr},t∈ks->t.fu<=Tr.fus ks
 |u::r,t,h=>by
  rw[Tr.fus];rcases aq8.1 h with e|h
  ·subst e;omega
  ·have:=Tr.fu_mem h;omega
theorem Tr.oks_mem:∀{ks:List Tr} {t:Tr},Tr.oks ks->t∈ks->t.ok
 |u::r,t,ho,h=>by
  rw[Tr.oks] at ho;rcases aq8.1 h with e|h
  ·subst e;exact ho.1
  ·exact Tr.oks_mem ho.2 h
theorem jJ:maxLen=9223372036854775807:=by decide
theorem Tr.okX{a b c d e ks}(h:(Tr.mk a b c d e ks).ok):okX ⟨a,b,c,d,e,Tr.toKs ks⟩:=by
 rw[Tr.ok] at h;exact⟨h.2.1,h.2.2.1.1,h.2.2.1.2,by rw[show(Tr.toKs ks).length=ks.length from Tr.toKs_len ks];exact h.2.2.2.2.2.2⟩
theorem Tr.okks{a b c d e ks}(h:(Tr.mk a b c d e ks).ok):Tr.oks ks/\ks.length<=9223372036854775807:=by
 rw[Tr.ok,jJ] at h;exact⟨h.2.2.2.2.2.1,h.2.2.2.2.2.2⟩
theorem Tr.cnt_mem:∀{ks:List Tr} {t:Tr},t∈ks->t.cnt<=Tr.cnts ks
 |u::r,t,h=>by
  rw[Tr.cnts];rcases aq8.1 h with e|h
  ·subst e;omega
  ·have:=Tr.cnt_mem h;omega
theorem Ib(t:Tr):1<=t.cnt:=by cases t;rw[Tr.cnt];omega
theorem x5:∀ks:List Tr,ks.length<=Tr.cnts ks
 |[]=>by simp[Tr.cnts]
 |t::r=>by rw[Tr.cnts];have:=x5 r;have:=Ib t;simp;omega
theorem ws:∀(ks:List Tr),(∀t,t∈ks->t.dep<=t.cnt)->Tr.deps ks<=Tr.cnts ks
 |[],_=>by simp[Tr.deps]
 |t::r,h=>by
  rw[Tr.deps,Tr.cnts];have h1:=h t (by simp);have h2:=ws r fun u hu=>h u (by simp[hu]);omega
theorem Lj:∀t:Tr,t.dep<=t.cnt:=Tr.ind fun a b c d e ks ih=>by rw[Tr.dep,Tr.cnt];have:=ws ks ih;omega
theorem LL:∀t:Tr,t.ok->∀F,t.fu<=F->JU F t.toT=some t.flt:=Tr.ind fun a b c d e ks ih ok F hF=>by
 rw[Tr.fu] at hF;obtain⟨F,rfl⟩:∃G,F=G+1:=⟨F - 1,by omega⟩
 show qq (JU F) F (Tr.mk a b c d e ks).toT=_
 rw[Tr.toT,Gx F _ _ (Tr.okX ok),Tr.flt]
 have hl:∀l:List Tr,(∀t,t∈l->t∈ks)->iM (JU F) F (some 0) (Tr.toKs l)=some (Tr.flts l):=by
  intro l
  induction l with
  |nil=>intro _;simp only[Tr.toKs,iM,Tr.flts]
  |cons t r ihr=>
   intro hm;have ht:=hm t (by simp);rw[Tr.toKs_map,bi9,iM,Tr.dec,bv9,ih t ht (Tr.oks_mem (Tr.okks ok).1 ht) F (by have:=Tr.fu_mem ht;omega),bv9,<-Tr.toKs_map,ihr fun u hu=>hm u (by simp[hu]),Tr.flts];by_cases h0:t.flt=0<;>simp[h0]
 rw[hl ks fun _ h=>h];by_cases h0:cj ⟨a,b,c,d,e,Tr.toKs ks⟩=0
 ·simp[h0]
 ·rw[if_neg h0,if_pos (by simp[h0])]
theorem LG:∀t:Tr,t.ok->∀F,t.fu<=F->JR F t.toT=some t.flt:=Tr.ind fun a b c d e ks ih ok F hF=>by
 rw[Tr.fu] at hF;obtain⟨F,rfl⟩:∃G,F=G+1:=⟨F - 1,by omega⟩
 show yT (JR F) F (Tr.mk a b c d e ks).toT=_
 rw[Tr.toT,yT,I8 F _ (Tr.okX ok),bv9,Tr.flt,aA];have hk:=(Tr.okks ok).2;have hlen:(aG.mk a b c d e (Tr.toKs ks)).Kids.length=ks.length:=Tr.toKs_len ks;rw[hlen,if_pos (show((ks.length:Nat):Int)<=9223372036854775807 by omega),show(((ks.length:Nat):Int)).toNat=ks.length by omega]
 have hl:∀m n:Nat,n+m=ks.length->mj (JR F) F ⟨a,b,c,d,e,Tr.toKs ks⟩ (some 0) m (n:Int)=some (Tr.flts (ks.drop n)):=by
  intro m
  induction m with
  |zero=>intro n h;rw[mj,al9 (by omega),Tr.flts]
  |succ m ihm=>
   intro n h;have hn:n<ks.length:=by omega
   have ht:ks[n]∈ks:=ba9 _;rw[mj,fH hn,bv9,Tr.dec,bv9,ih _ ht (Tr.oks_mem (Tr.okks ok).1 ht) F (by have:=Tr.fu_mem ht;omega),bv9,show((n:Int)+1)=((n+1:Nat):Int) from rfl,ihm (n+1) (by omega),bq8 hn,Tr.flts];by_cases h0:ks[n].flt=0<;>simp[h0]
 have:=hl ks.length 0 (by omega);rw[show((0:Nat):Int)=0 from rfl,bp9] at this;rw[this];by_cases h0:cj ⟨a,b,c,d,e,Tr.toKs ks⟩=0
 ·simp[h0]
 ·rw[if_neg h0,if_pos (by simp[h0])]
theorem LI:∀t:Tr,t.ok->∀F,t.fu<=F->∀most:Nat,most<=60->JT F t.toT (most:Int)=some ((min t.cnt (most+1):Nat):Int):=Tr.ind fun a b c d e ks ih ok F hF most hmost=>by
 rw[Tr.fu] at hF;obtain⟨F,rfl⟩:∃G,F=G+1:=⟨F - 1,by omega⟩
 show yW (JT F) F (Tr.mk a b c d e ks).toT (most:Int)=_
 rw[Tr.toT,yW,aA,Tr.cnt];have hk:=(Tr.okks ok).2
 have hl:∀fuel n j:Nat,ks.length<fuel+j->j<=ks.length->n<=most+1->nZ (JT F) F ⟨a,b,c,d,e,Tr.toKs ks⟩ (most:Int) (fun n4=>some n4) fuel (n:Int) (j:Int)=some ((min (n+Tr.cnts (ks.drop j)) (most+1):Nat):Int):=by
  intro fuel
  induction fuel with
  |zero=>intro n j h1 h2;omega
  |succ fuel ihf=>
   intro n j h1 h2 h3;rw[nZ];have hlen:(aG.mk a b c d e (Tr.toKs ks)).Kids.length=ks.length:=Tr.toKs_len ks;rw[hlen];by_cases hj:j<ks.length
   ·rw[if_pos (decide_eq_true (by omega))];by_cases hn:n<=most
    ·have ht:ks[j]∈ks:=ba9 _
     rw[if_pos (decide_eq_true (by omega)),fH hj,bv9,Tr.dec,bv9,cc (by omega) (by omega),show((most:Int) - (n:Int))=((most - n:Nat):Int) by omega,
      ih _ ht (Tr.oks_mem (Tr.okks ok).1 ht) F (by have:=Tr.fu_mem ht;omega) (most - n) (by omega),bv9,cc (by omega) (by omega),cc (by omega) (by omega)]
     have:=ihf (n+min ks[j].cnt (most - n+1)) (j+1) (by omega) (by omega) (by omega);rw[show((n:Int)+((min ks[j].cnt (most - n+1):Nat):Int))=((n+min ks[j].cnt (most - n+1):Nat):Int) by omega,show((j:Int)+1)=((j+1:Nat):Int) from rfl,this,bq8 hj,Tr.cnts]
     congr 2
     omega
    ·rw[if_neg (by simp;omega)];have:n=most+1:=by omega
     subst this
     congr 2
     omega
   ·rw[if_neg (by simp;omega),al9 (by omega),Tr.cnts]
    congr 2
    omega
 have:=hl F 1 0 (by omega) (by omega) (by omega);rw[bp9] at this;exact this
theorem LH:∀t:Tr,t.ok->∀F,t.fu<=F->t.cnt<=60->JS F t.toT=some (t.dep:Int):=Tr.ind fun a b c d e ks ih ok F hF hc=>by
 rw[Tr.fu] at hF;rw[Tr.cnt] at hc;obtain⟨F,rfl⟩:∃G,F=G+1:=⟨F - 1,by omega⟩
 show yU (JS F) F (Tr.mk a b c d e ks).toT=_
 have hlen:(aG.mk a b c d e (Tr.toKs ks)).Kids.length=ks.length:=Tr.toKs_len ks;have hk:=(Tr.okks ok).2;rw[Tr.toT,yU,aA,hlen,if_pos (by omega),show(((ks.length:Nat):Int)).toNat=ks.length by omega,Tr.dep]
 have hl:∀m n q:Nat,n+m=ks.length->ml (JS F) F ⟨a,b,c,d,e,Tr.toKs ks⟩ (fun n3=>some (bh (n3+1))) m (n:Int) (q:Int)=some (bh (((max q (Tr.deps (ks.drop n)):Nat):Int)+1)):=by
  intro m
  induction m with
  |zero=>intro n q h;rw[ml,al9 (by omega),Tr.deps,Nat.max_zero]
  |succ m ihm=>
   intro n q h;have hn:n<ks.length:=by omega
   have ht:ks[n]∈ks:=ba9 _;rw[ml,fH hn,bv9,Tr.dec,bv9,ih _ ht (Tr.oks_mem (Tr.okks ok).1 ht) F (by have:=Tr.fu_mem ht;omega) (by have:=Tr.cnt_mem ht;omega),bv9];rw[show(if (ks[n].dep:Int)>(q:Int) then (ks[n].dep:Int) else (q:Int))=((max q ks[n].dep:Nat):Int) by split<;>omega,show((n:Int)+1)=((n+1:Nat):Int) from rfl,ihm (n+1) _ (by omega),bq8 hn,Tr.deps,Nat.max_assoc]
 have:=hl ks.length 0 0 (by omega);rw[bp9] at this;rw[show((0:Nat):Int)=0 from rfl] at this;rw[this];have h1:=ws ks fun t _=>Lj t;rw[cc (by omega) (by omega)]
 congr 1
 omega
theorem LN:∀t:Tr,t.ok->∀F,t.fu<=F->∀lvl:Int,1<=lvl->lvl<=13->∃a b:Int,JV F t.toT lvl=some (a,b)/\1<=a/\a<=61/\lvl<=b/\b<=13/\(12<b<->12<lvl+t.dep - 1)/\(b<=12->a=min (t.cnt:Int) 61):=Tr.ind fun a b c d e ks ih ok F hF lvl h1 h13=>by
 rw[Tr.fu] at hF;obtain⟨F,rfl⟩:∃G,F=G+1:=⟨F - 1,by omega⟩
 show ∃p q:Int,yX (JV F) F (Tr.mk a b c d e ks).toT lvl=some (p,q)/\_
 rw[Tr.toT,yX,Tr.dep,Tr.cnt];by_cases hq:lvl>12
 ·rw[if_pos (decide_eq_true hq)];exact⟨1,lvl,rfl,by omega,by omega,by omega,by omega,by omega,by omega⟩
 ·rw[if_neg (by simpa using hq),aA]
  have hl:∀l:List Tr,(∀t,t∈l->t∈ks)->∀n q:Int,1<=n->n<=61->lvl<=q->q<=13->∃p r:Int,mn (JV F) F lvl (fun n5 n6=>some (n5,n6)) (Tr.toKs l) n q=some (p,r)/\1<=p/\p<=61/\lvl<=r/\r<=13/\(12<r<->12<q\/12<lvl+Tr.deps l)/\(r<=12->p=min (n+(Tr.cnts l:Nat)) 61):=by
   intro l
   induction l with
   |nil=>
    intro _ n q g1 g2 g3 g4;refine⟨n,q,by simp only[Tr.toKs,mn],g1,g2,g3,g4,?_,?_⟩
    ·rw[Tr.deps];omega
    ·rw[Tr.cnts];omega
   |cons t r ihr=>
    intro hm n q g1 g2 g3 g4;have ht:=hm t (by simp);obtain⟨p',q',e1,e2,e3,e4,e5,e6,e7⟩:=ih t ht (Tr.oks_mem (Tr.okks ok).1 ht) F (by have:=Tr.fu_mem ht;omega) (lvl+1) (by omega) (by omega);rw[Tr.toKs_map,bi9,mn,Tr.dec,bv9,cc (by omega) (by omega),e1,bv9,<-Tr.toKs_map];dsimp only;rw[cc (by omega) (by omega)];obtain⟨p,s,f1,f2,f3,f4,f5,f6,f7⟩:=ihr (fun u hu=>hm u (by simp[hu])) (if 61<n+p' then 61 else n+p') (if q'>q then q' else q) (by split<;>omega) (by split<;>omega) (by split<;>omega) (by split<;>omega);refine⟨p,s,f1,f2,f3,f4,f5,?_,?_⟩
    ·rw[f6,Tr.deps];split<;>omega
    ·intro hs;have h7:=f7 hs;have hq':¬12<s:=by omega
     rw[f6] at hq';have:q'<=12:=by split at hq'<;>omega
     have h8:=e7 this;rw[h7,Tr.cnts];split<;>omega
  obtain⟨p,r,e1,e2,e3,e4,e5,e6,e7⟩:=hl ks (fun _ h=>h) 1 lvl (by omega) (by omega) (by omega) (by omega);refine⟨p,r,e1,e2,e3,e4,e5,?_,?_⟩
  ·rw[e6];omega
  ·intro h;rw[e7 h];omega
noncomputable def vT(t:Tr):Int:=if 60<t.cnt\/12<t.dep then 3 else t.flt
theorem Mb(t:Tr)(ok:t.ok)(F:Nat)(hF:t.fu<=F):MJ F t.toT=some (vT t):=by
 obtain⟨a,b,e1,e2,e3,e4,e5,e6,e7⟩:=LN t ok F hF 1 (by omega) (by omega);unfold MJ;rw[e1,bv9];dsimp only;unfold vT;by_cases hb:12<b
 ·have hd:=e6.1 hb;rw[if_pos (show 60<t.cnt\/12<t.dep by omega),if_pos (show decide (b>12)=true from decide_eq_true (by omega))];by_cases ha:a>60<;>simp[ha]
 ·have h7:=e7 (by omega);have hd:¬(12<t.dep):=fun h=>hb (e6.2 (by omega));by_cases hc:60<t.cnt
  ·rw[if_pos (decide_eq_true (by omega)),if_pos (Or.inl hc)]
  ·rw[if_neg (by simp;omega),if_neg (by simp;omega),if_neg (by omega),LL t ok F hF];rfl
theorem L4(t:Tr)(ok:t.ok)(F:Nat)(hF:t.fu<=F):MH F t.toT=some (vT t):=by
 have h:=LI t ok F hF 60 (by omega);rw[show((60:Nat):Int)=60 from rfl] at h;unfold MH vT;rw[h,bv9];by_cases hc:60<t.cnt
 ·rw[if_pos (decide_eq_true (by omega)),if_pos (Or.inl hc)]
 ·rw[if_neg (by simp;omega),LH t ok F hF (by omega),bv9];by_cases hd:12<t.dep
  ·rw[if_pos (decide_eq_true (by omega)),if_pos (Or.inr hd)]
  ·rw[if_neg (by simp;omega),if_neg (by omega),LG t ok F hF];rfl
end Go.Proofs.YtelmfadihfcgnaaGreatDoor
namespace Go.Proofs.YtelmfadihfcgnaaGreatDoor
open Go Go.Pv
set_option maxRecDepth 100000
def zV:aa:=⟨false,false,[],0⟩
def gV(m:List (B8×aa))(nm:B8):aa:=(aY m nm).getD zV
def vlT:List cR->List (B8×aa)->List (B8×aa)
 |[],m=>m
 |x::l,m=>vlT l (co m x.Name ⟨true,(gV m x.Name).hasNumber,x.Value,(gV m x.Name).number⟩)
def vlN:List bO->List (B8×aa)->List (B8×aa)
 |[],m=>m
 |x::l,m=>vlN l (co m x.Name ⟨(gV m x.Name).hasText,true,(gV m x.Name).text,x.N⟩)
def zl(f:iI):av:=⟨vlN f.Numbers (vlT f.Texts []),none⟩
end Go.Proofs.YtelmfadihfcgnaaGreatDoor
namespace Go.Proofs.YtelmfadihfcgnaaGreatDoor
open Go Go.Pv
set_option maxRecDepth 100000
noncomputable section
mutual
def Tr.cd:Tr->KV
 | .mk k nm tx op n ks=>
  if k=2 then uI 147 bQ ⟨nm,tx⟩ else if k=3 then uI 148 br ⟨nm,tx⟩ else if k=4 then uI 150 bR ⟨nm⟩
  else if k=5 then uI 152 bq ⟨nm,op,n⟩ else if k=6 then uI 154 cf ⟨(Tr.cds ks).headD ⟨0,.con (.bool true)⟩⟩ else if k=7 then uI 156 bT ⟨Tr.cds ks⟩
  else if k=8 then uI 157 bS ⟨Tr.cds ks⟩ else uI 159 cm ⟨⟩
def Tr.cds:List Tr->List KV
 |[]=>[]
 |t::r=>t.cd::Tr.cds r
end
end
theorem eU:∀{ks:List Tr} {t:Tr},Tr.flts ks=0->t∈ks->t.flt=0
 |u::r,t,h,hm=>by
  rw[Tr.flts] at h;by_cases h0:u.flt=0
  ·rw[if_pos h0] at h;rcases aq8.1 hm with e|hm
   ·rw[e];exact h0
   ·exact eU h hm
  ·rw[if_neg h0] at h;exact absurd h h0
theorem lP{a b c d e ks}(h:(Tr.mk a b c d e ks).flt=0):cj ⟨a,b,c,d,e,Tr.toKs ks⟩=0/\Tr.flts ks=0:=by
 rw[Tr.flt] at h;by_cases h0:cj ⟨a,b,c,d,e,Tr.toKs ks⟩=0
 ·rw[if_pos h0] at h;exact⟨h0,h⟩
 ·rw[if_neg h0] at h;exact absurd h h0
theorem mL{x:aG}(h:cj x=0):1<=x.Kind/\x.Kind<=8:=by
 unfold cj at h;by_cases hk:x.Kind<1\/8<x.Kind
 ·rw[if_pos hk] at h;cases h
 ·omega
theorem oK{x:aG}(h:cj x=0)(h6:x.Kind=6):x.Kids.length=1:=by
 unfold cj at h;rw[if_neg (by omega)] at h;by_cases h1:x.Kids.length=1
 ·exact h1
 ·have:(x.Kids.length==1)=false:=beq_false_of_ne h1;rw[if_pos h6,this] at h;simp at h
theorem L9:∀t:Tr,t.ok->t.flt=0->t.cnt<=60->∀F,t.fu<=F->JY F t.toT=some t.cd:=Tr.ind fun k nm tx op n ks ih ok hz hc F hF=>by
 rw[Tr.fu] at hF;rw[Tr.cnt] at hc;obtain⟨hnode,hfl⟩:=lP hz;obtain⟨F,rfl⟩:∃G,F=G+1:=⟨F - 1,by omega⟩
 show yZ (JY F) F (Tr.mk k nm tx op n ks).toT=_
 have hl:∀(kk:List KV->Option KV) (l:List Tr),(∀t,t∈l->t∈ks)->∀acc:List KV,acc.length+l.length<=60->mE (JY F) F kk (Tr.toKs l) acc=kk (acc++Tr.cds l):=by
  intro kk l
  induction l with
  |nil=>intro _ acc _;simp only[Tr.toKs,mE,Tr.cds,aa8]
  |cons t r ihr=>
   intro hm acc hlen;simp only[bt8] at hlen;have ht:=hm t (by simp)
   rw[Tr.toKs_map,bi9,mE,Tr.dec,bv9,ih t ht (Tr.oks_mem (Tr.okks ok).1 ht) (eU hfl ht) (by have:=Tr.cnt_mem ht;omega) F (by have:=Tr.fu_mem ht;omega),bv9,<-Tr.toKs_map,
    if_pos (by simp;omega),ihr (fun u hu=>hm u (by simp[hu])) _ (by simp;omega),Tr.cds]
   simp
 have hlen:=x5 ks;rw[Tr.toT,yZ,aA,hl _ ks (fun _ h=>h) [] (by simp;omega),Tr.cd,ad8];dsimp only;have b1:∀q:Int,((k==q)=true)<->k=q:=fun q=>beq_iff_eq;simp only[b1];by_cases h2:k=2
 ·rw[if_pos h2,if_pos h2]
 rw[if_neg h2,if_neg h2];by_cases h2:k=3
 ·rw[if_pos h2,if_pos h2]
 rw[if_neg h2,if_neg h2];by_cases h2:k=4
 ·rw[if_pos h2,if_pos h2]
 rw[if_neg h2,if_neg h2];by_cases h2:k=5
 ·rw[if_pos h2,if_pos h2]
 rw[if_neg h2,if_neg h2];by_cases h2:k=6
 ·rw[if_pos h2,if_pos h2];have h1:ks.length=1:=by rw[<-oK hnode h2];exact(Tr.toKs_len ks).symm
  match ks,h1 with
  |[t],_=>simp only[Tr.cds];rfl
 rw[if_neg h2,if_neg h2];by_cases h2:k=7
 ·rw[if_pos h2,if_pos h2]
 rw[if_neg h2,if_neg h2];by_cases h2:k=8
 ·rw[if_pos h2,if_pos h2]
 rw[if_neg h2,if_neg h2]
def zi(s w:B8):Bool:=decide (w.length<=s.length)&&(s.take w.length==w)
def yB(a op b:Int):Bool:=if op=1 then decide (a<b) else if op=2 then decide (a<=b) else if op=3 then a==b else if op=4 then decide (a>=b) else decide (a>b)
def Dq(k:Int)(s:B8)(l:List B8):Bool:=l.any fun w=>w==s||(k==3)&&zi s w
def nM(k op n:Int)(tx:List B8)(x:ab):Bool:=if k=4 then x.isText||x.isNumber else if k=5 then x.isNumber&&yB x.number op n else x.isText&&Dq k x.text tx
noncomputable section
end
theorem IZ(F:Nat)(op a b:Int):GS F op a b=some (yB a op b):=by
 unfold GS yB;simp only[beq_iff_eq]
 repeat (split;· rfl)
 rfl
theorem IF(F:Nat)(a op b:Int):GI F a op b=some (yB a op b):=by
 unfold GI yB;simp only[beq_iff_eq]
 repeat (split;· rfl)
 rfl
theorem BN(F:Nat)(s w:B8):GP F s w=some (zi s w):=by
 unfold GP zi;by_cases h:w.length<=s.length
 ·rw[if_pos (decide_eq_true (by omega)),if_pos ⟨by omega,by omega⟩,decide_eq_true h,show((w.length:Int)).toNat=w.length by omega];rfl
 ·rw[if_neg (by simp;omega),decide_eq_false h];rfl
theorem IX(F:Nat)(s w:B8):IY F s w=some (zi s w):=BN F s w
theorem BP(F:Nat)(s w:B8):CX F s w=some (zi s w):=by unfold CX;rw[BN];rfl
theorem tI(F:Nat)(x:aG)(v:ab)(hl:x.Texts.length<=9223372036854775807)(hv:v.isText=true):∀(fuel j:Nat),x.Texts.length<fuel+j->j<=x.Texts.length->je F x v (some false) fuel (j:Int)=some (Dq x.Kind v.text (x.Texts.drop j))
 |0,j,h1,h2=>by omega
 |fuel+1,j,h1,h2=>by
  rw[je];by_cases hj:j<x.Texts.length
  ·rw[if_pos (decide_eq_true (by omega)),if_pos hv,aA,bt hj,bv9];dsimp only;rw[cc (by omega) (by omega),show((j:Int)+1)=((j+1:Nat):Int) from rfl,tI F x v hl hv fuel (j+1) (by omega) (by omega),bq8 hj];simp only[Dq,cb8,bv9,IX];cases h3:(x.Texts[j]==v.text)
   ·cases h4:(x.Kind==3)
    ·simp
    ·cases h5:zi v.text x.Texts[j]<;>simp
   ·simp
  ·rw[if_neg (by simp;omega),al9 (by omega)];rfl
theorem Jj(F:Nat)(x:aG)(v:ab)(hl:x.Texts.length<=9223372036854775807)(hF:x.Texts.length<F):CZ F x v=some (nM x.Kind x.Op x.N x.Texts v):=by
 unfold CZ nM;simp only[beq_iff_eq];by_cases h4:x.Kind=4
 ·rw[if_pos h4,if_pos h4];cases v.isText<;>rfl
 ·rw[if_neg h4,if_neg h4];by_cases h5:x.Kind=5
  ·rw[if_pos h5,if_pos h5,IZ];cases v.isNumber<;>rfl
  ·rw[if_neg h5,if_neg h5,aA];cases hv:v.isText
   ·obtain⟨G,rfl⟩:∃G,F=G+1:=⟨F - 1,by omega⟩;rw[je,hv];simp
   ·have:=tI F x v hl hv F 0 (by omega) (by omega);rw[show((0:Nat):Int)=0 from rfl,bp9] at this;rw[this];rfl
end Go.Proofs.YtelmfadihfcgnaaGreatDoor
namespace Go.Proofs.YtelmfadihfcgnaaGreatDoor
open Go Go.Pv
set_option maxRecDepth 100000
section
variable{τ σ:Type}
theorem dL{enc:τ->List V}(inj:∀a b,enc a=enc b->a=b){T:Nat}{y:τ}:gF enc T (uI T enc y)=some y:=Hh inj rfl rfl
theorem bM{enc:τ->List V}{enc':σ->List V}{T T':Nat}{y:τ}(h:T≠T'):gF enc' T' (uI T enc y)=none:=Hg (x:=uI T enc y) h
end
theorem Fv{a b:Int}(h:iV a=iV b):a=b:=by injection h with h;injection h
theorem Fp(a b:da)(h:bQ a=bQ b):a=b:=by
 obtain⟨a1,a2⟩:=a;obtain⟨b1,b2⟩:=b;simp only[bQ,bx9,and_true] at h;have e1:=pC h.1;have e2:a2=b2:=sq (by injection h.2);subst e1 e2;rfl
theorem sD(a b:cx)(h:br a=br b):a=b:=by
 obtain⟨a1,a2⟩:=a;obtain⟨b1,b2⟩:=b;simp only[br,bx9,and_true] at h;have e1:=pC h.1;have e2:a2=b2:=sq (by injection h.2);subst e1 e2;rfl
theorem Bi(a b:cU)(h:bR a=bR b):a=b:=by
 obtain⟨a1⟩:=a;obtain⟨b1⟩:=b;simp only[bR,bx9,and_true] at h;have e1:=pC h;subst e1;rfl
theorem sC(a b:cw)(h:bq a=bq b):a=b:=by
 obtain⟨a1,a2,a3⟩:=a;obtain⟨b1,b2,b3⟩:=b;simp only[bq,bx9,and_true] at h;have e1:=pC h.1;have e2:=Fv h.2.1;have e3:=Fv h.2.2;subst e1 e2 e3;rfl
theorem KV.enc_inj{a b:KV}(h:a.enc=b.enc):a=b:=by
 obtain⟨a1,a2⟩:=a;obtain⟨b1,b2⟩:=b;simp only[KV.enc,bx9,and_true] at h
 injection h with h1 h2
 subst h1 h2;rfl
theorem xY{a b:List KV}(h:a.map KV.enc=b.map KV.enc):a=b:=List.map_inj_right (fun x y h=>KV.enc_inj h) |>.1 h
theorem Bh(a b:cT)(h:cf a=cf b):a=b:=by
 obtain⟨a1⟩:=a;obtain⟨b1⟩:=b;have e1:a1=b1:=KV.enc_inj h;subst e1;rfl
theorem Bk(a b:cW)(h:bT a=bT b):a=b:=by
 obtain⟨a1⟩:=a;obtain⟨b1⟩:=b;simp only[bT,bx9,and_true] at h;have e1:a1=b1:=xY (by injection h);subst e1;rfl
theorem Bj(a b:cV)(h:bS a=bS b):a=b:=by
 obtain⟨a1⟩:=a;obtain⟨b1⟩:=b;simp only[bS,bx9,and_true] at h;have e1:a1=b1:=xY (by injection h);subst e1;rfl
theorem Fo(a b:cK)(h:cm a=cm b):a=b:=rfl
def tv(b:Bool):Int:=if b=true then 1 else 2
theorem mq(F:Nat)(b:Bool):GA F b=some (tv b):=by cases b<;>rfl
theorem BJ{p:Bool}{n:Nat}:(if p=true then some ((n:Nat):Int) else some (-1)).bind (fun y3:Int=>some (decide (y3>=0)))=some p:=by
 cases p
 ·rfl
 ·simp
theorem wZ(F:Nat)(l:List B8)(s:B8):JW F l s=some (l.any fun w=>s==w):=by
 unfold JW Jf;have h:=Ct (g:=kN F s (some (-1))) (fun w=>s==w) (fun _=>rfl) (fun x l n=>by rw[kN]) l 0;rw[show((0:Nat):Int)=0 from rfl] at h;rw[aA,h];exact BJ
theorem CT(F:Nat)(l:List B8)(b c:Bool)(s:B8)(n:Int):tr F l b c s n=some (l.any fun w=>zi s w):=by
 unfold tr w8;have h:=Ct (g:=gj F b c s n (some (-1))) (fun w=>zi s w) (fun _=>rfl) (fun x l m=>by rw[gj,IG,BP,bv9,bv9]) l 0;rw[show((0:Nat):Int)=0 from rfl] at h;rw[aA,h];exact BJ
theorem F9(s:B8):zi s s=true:=by simp[zi]
theorem Kb(s:B8)(l:List B8):Dq 3 s l=l.any fun w=>zi s w:=by
 unfold Dq
 congr 1
 funext w
 by_cases h:w=s
 ·subst h;simp[F9]
 ·rw[beq_false_of_ne h];rfl
theorem Kc(s:B8)(l:List B8):Dq 2 s l=l.any fun w=>s==w:=by
 unfold Dq
 congr 1
 funext w
 rw[Lo];simp
section
variable(F:Nat)(f:iI)(nm:B8)
end
theorem Hj{t:Tr}(h:vT t=0):t.flt=0/\t.cnt<=60:=by
 unfold vT at h;by_cases h0:60<t.cnt\/12<t.dep
 ·rw[if_pos h0] at h;cases h
 ·rw[if_neg h0] at h;exact⟨h,by omega⟩
end Go.Proofs.YtelmfadihfcgnaaGreatDoor
namespace Go.Pv
abbrev bb:=B8
structure yR(is bg:List bb)(u v:bb):Prop where
 eq:∀e,e∈is->(u=e<->v=e)
 pre:∀b,b∈bg->(b <+: u<->b <+: v)
def sf(s:bb):Prop:=s.length<=1000/\∀c,c∈s->32<=c.toNat/\c.toNat<=126
structure dS(is bg:List bb)(p t:bb):Prop where
 pre:p <+: t
 ok:sf t
 not:t ∉ is
 no:∀b,b∈bg->p.length<b.length->¬b <+: t
theorem HQ(bg:List bb)(w:bb):∃p,(p∈bg\/p=[])/\p <+: w/\∀b,b∈bg->b <+: w->b.length<=p.length:=by
 induction bg with
 |nil=>simp_all
 |cons b r ih=>
  grind
theorem xK{is bg out:List bb}(hi:∀e,e∈is->e∈out)(hf:∀p,(p∈bg\/p=[])->(∃t,dS is bg p t/\t∈out)\/∀t,¬dS is bg p t)(w:bb)(hw:sf w):
  ∃t,t∈out/\yR is bg t w:=by
 by_cases hm:w∈is
 ·exact⟨w,hi w hm,⟨fun _ _=>Iff.rfl,fun _ _=>Iff.rfl⟩⟩
 obtain⟨p,h1,h2,h3⟩:=HQ bg w;have hF:dS is bg p w:=⟨h2,hw,hm,fun b hb hl hp=>by grind⟩;rcases hf p h1 with ⟨t,ht,hto⟩|hno
 ·refine⟨t,hto,⟨fun e he=>⟨fun h=>absurd (h ▸ he) ht.not,fun h=>absurd (h ▸ he) hm⟩,fun b hb=>⟨fun hp=>?_,fun hp=>?_⟩⟩⟩
  ·have hl:b.length<=p.length:=at9 fun h=>ht.no b hb h hp;exact(List.prefix_of_prefix_length_le hp ht.pre hl).trans h2
  ·exact(List.prefix_of_prefix_length_le hp h2 (h3 b hb hp)).trans ht.pre
 grind
structure th(ns:List Int)(x y:Int):Prop where
 lt:∀n,n∈ns->(x<n<->y<n)
 eq:∀n,n∈ns->(x=n<->y=n)
def ka(x:Int):Prop:=-1000000000000<=x/\x<=1000000000000
theorem M8(ns:List Int)(x:Int):(∃n,n∈ns/\x<=n/\∀m,m∈ns->x<=m->n<=m)\/∀n,n∈ns->n<x:=by
 induction ns<;>grind
theorem Fy(ns:List Int)(h:ns≠[]):∃m,m∈ns/\∀n,n∈ns->n<=m:=by
 induction ns with
 |nil=>grind
 |cons a r ih=>
  by_cases hr:r=[]
  ·simp_all
  grind
theorem AV{ns out:List Int}(h0:∃z,z∈out)(h1:∀n,n∈ns->n∈out)(h2:∀n,n∈ns->ka (n - 1)->n - 1∈out)(h3:∀m,m∈ns->(∀n,n∈ns->n<=m)->ka (m+1)->m+1∈out)(hns:∀n,n∈ns->ka n)(x:Int)(hx:ka x):
  ∃y,y∈out/\th ns y x:=by
 rcases M8 ns x with ⟨n,a1,a2,a3⟩|h
 ·by_cases e:x=n
  ·exact⟨n,h1 n a1,by subst e;exact⟨fun _ _=>Iff.rfl,fun _ _=>Iff.rfl⟩⟩
  ·have hk:=hns n a1;unfold ka at hk hx;refine⟨n - 1,h2 n a1 ⟨by omega,by omega⟩,⟨fun m hm=>?_,fun m hm=>?_⟩⟩
   ·grind
   grind
 ·by_cases hn:ns=[]
  ·obtain⟨z,hz⟩:=h0;exact⟨z,hz,by subst hn;exact⟨fun n h=>by simp at h,fun n h=>by simp at h⟩⟩
  ·obtain⟨m,b1,b2⟩:=Fy ns hn;have b3:=h m b1;have b4:=hns m b1;unfold ka at hx b4;refine⟨m+1,h3 m b1 b2 ⟨by omega,by omega⟩,⟨fun n hn=>?_,fun n hn=>?_⟩⟩
   ·grind
   grind
section
variable{α:Type}
def qu(s:bb->Option α)(n:bb)(x:α):bb->Option α:=fun m=>if m=n then some x else s m
def ext(s s':bb->Option α):Prop:=∀n x,s n=some x->s' n=some x
def nb(s:bb->Option α)(ns:List bb)(a:bb->α):bb->Option α:=fun m=>match s m with|some x=>some x|none=>if m∈ns then some (a m) else none
def qz? (P:(bb->Option α)->Option Bool) (can:bb->List α):List bb->(bb->Option α)->Option (bb->Option α)
 |[],s=>if P s=some true then some s else none
 |n::r,s=>match P s with
  |some true=>some s
  |some false=>none
  |none=>(can n).findSome? fun x=>qz? P can r (qu s n x)
variable{P:(bb->Option α)->Option Bool}{can:bb->List α}
theorem Hv{s:bb->Option α}{n:bb}{x:α}(h:s n=none):ext s (qu s n x):=fun m y hm=>by
 unfold qu
 grind
theorem pO:∀(ns:List bb) (s s':bb->Option α),ns.Nodup->(∀n,n∈ns->s n=none)->qz? P can ns s=some s'->
  P s'=some true/\ext s s'/\∀m x,s' m=some x->s m=some x\/(m∈ns/\x∈can m)
 |[],s,s',_,_,h=>by
  rw[qz?] at h;by_cases hp:P s=some true
  ·rw[if_pos hp] at h;cases h;exact⟨hp,fun _ _ h=>h,fun _ _ h=>.inl h⟩
  grind
 |n::r,s,s',hn,hs,h=>by
  rw[qz?] at h;cases hp:P s with
  |some b=>
   rw[hp] at h;cases b with
   |true=>cases h;exact⟨hp,fun _ _ h=>h,fun _ _ h=>.inl h⟩
   |false=>cases h
  |none=>
   rw[hp] at h;obtain⟨x,hx,h2⟩:=List.exists_of_findSome?_eq_some h;have hnn:=aa9.1 hn
   obtain⟨g1,g2,g3⟩:=pO r (qu s n x) s' hnn.2 (fun m hm=>by
    unfold qu
    grind) h2
   refine⟨g1,fun m y hm=>g2 m y (Hv (hs n (by simp)) m y hm),fun m y hm=>?_⟩;rcases g3 m y hm with h3|⟨h3,h4⟩
   ·unfold qu at h3
    grind
   grind
theorem Df{s:bb->Option α}{n:bb}{r:List bb}{a:bb->α}(h:s n=none):nb (qu s n (a n)) r a=nb s (n::r) a:=by
 funext m
 unfold nb qu
 grind
theorem Dg{s:bb->Option α}{a:bb->α}:nb s [] a=s:=by
 funext m
 grind [nb]
theorem Dh{s:bb->Option α}{ns:List bb}{a:bb->α}:ext s (nb s ns a):=fun m x h=>by
 grind [nb]
theorem sP(hm:∀s s' b,ext s s'->P s=some b->P s'=some b):∀(ns:List bb) (s:bb->Option α),ns.Nodup->(∀n,n∈ns->s n=none)->qz? P can ns s=none->
  ∀a:bb->α,(∀n,n∈ns->a n∈can n)->P (nb s ns a)≠some true
 |[],s,_,_,h,a,_=>by
  simp_all[qz?,Dg]
 |n::r,s,hn,hs,h,a,ha=>by
  rw[qz?] at h;cases hp:P s with
  |some b=>
   grind [Dh]
  |none=>
   rw[hp] at h;have hnn:=aa9.1 hn;have h2:=List.findSome?_eq_none_iff.1 h (a n) (ha n (by simp))
   have:=sP hm r (qu s n (a n)) hnn.2 (fun m hmm=>by
    unfold qu
    grind) h2 a (fun m hmm=>ha m (by simp[hmm]))
   simp_all[Df]
end
end Go.Pv
namespace Go.Proofs.YtelmfadihfcgnaaGreatDoor
open Go Go.Pv
set_option maxRecDepth 100000
abbrev Fd:=ab
def Av:Option Bool->Option Bool->Option Bool
 |some false,_=>some false
 |some true,b=>b
 |none,some false=>some false
 |none,_=>none
def MZ:Option Bool->Option Bool->Option Bool
 |some true,_=>some true
 |some false,b=>b
 |none,some true=>some true
 |none,_=>none
structure Lf where
 k:Int
 nm:bb
 tx:List bb
 op:Int
 n:Int
def Lf.one(l:Lf)(x:Fd):Bool:=nM l.k l.op l.n l.tx x
noncomputable section
mutual
def Tr.lvs:Tr->List Lf
 | .mk k nm tx op n ks=>if k=1 then [] else if k=6\/k=7\/k=8 then Tr.lvss ks else [⟨k,nm,tx,op,n⟩]
def Tr.lvss:List Tr->List Lf
 |[]=>[]
 |t::r=>Tr.lvs t++Tr.lvss r
end
mutual
def Tr.tr3(s:bb->Option Fd):Tr->Option Bool
 | .mk k nm tx op n ks=>if k=1 then some true else if k=6 then (Tr.all3 s ks).map (!·) else if k=7 then Tr.all3 s ks else if k=8 then Tr.any3 s ks else (s nm).map (nM k op n tx)
def Tr.all3(s:bb->Option Fd):List Tr->Option Bool
 |[]=>some true
 |t::r=>Av (Tr.tr3 s t) (Tr.all3 s r)
def Tr.any3(s:bb->Option Fd):List Tr->Option Bool
 |[]=>some false
 |t::r=>MZ (Tr.tr3 s t) (Tr.any3 s r)
end
mutual
def Tr.truA(a:bb->Fd):Tr->Bool
 | .mk k nm tx op n ks=>if k=1 then true else if k=6 then !(Tr.allA a ks) else if k=7 then Tr.allA a ks else if k=8 then Tr.anyA a ks else nM k op n tx (a nm)
def Tr.allA(a:bb->Fd):List Tr->Bool
 |[]=>true
 |t::r=>Tr.truA a t&&Tr.allA a r
def Tr.anyA(a:bb->Fd):List Tr->Bool
 |[]=>false
 |t::r=>Tr.truA a t||Tr.anyA a r
end
end
theorem iz{ks:List Tr}{l:Lf}:l∈Tr.lvss ks<->∃t,t∈ks/\l∈t.lvs:=by
 induction ks with
 |nil=>simp[Tr.lvss]
 |cons t r ih=>simp[Tr.lvss,ih]
theorem u9{a a' b b':Option Bool}{c:Bool}(h1:∀c,a=some c->a'=some c)(h2:∀c,b=some c->b'=some c)(h:Av a b=some c):Av a' b'=some c:=by
 cases a with
 |some x=>
  rw[h1 x rfl];cases x with
  |false=>exact h
  |true=>exact h2 c h
 |none=>
  cases b with
  |none=>cases h
  |some y=>
   cases y with
   |true=>cases h
   |false=>
    rw[h2 false rfl];cases h;cases a' with
    |none=>rfl
    |some z=>cases z<;>rfl
theorem Ep{a a' b b':Option Bool}{c:Bool}(h1:∀c,a=some c->a'=some c)(h2:∀c,b=some c->b'=some c)(h:MZ a b=some c):MZ a' b'=some c:=by
 cases a with
 |some x=>
  rw[h1 x rfl];cases x with
  |true=>exact h
  |false=>exact h2 c h
 |none=>
  cases b with
  |none=>cases h
  |some y=>
   cases y with
   |false=>cases h
   |true=>
    rw[h2 true rfl];cases h;cases a' with
    |none=>rfl
    |some z=>cases z<;>rfl
theorem pV{s s':bb->Option Fd}:∀ks:List Tr,(∀t,t∈ks->∀b,t.tr3 s=some b->t.tr3 s'=some b)->∀b,Tr.all3 s ks=some b->Tr.all3 s' ks=some b
 |[],_,b,h=>by rw[Tr.all3] at h ⊢;exact h
 |t::r,ih,b,h=>by
  rw[Tr.all3] at h ⊢;exact u9 (ih t (by simp)) (pV r fun u hu=>ih u (by simp[hu])) h
theorem u7{s s':bb->Option Fd}:∀ks:List Tr,(∀t,t∈ks->∀b,t.tr3 s=some b->t.tr3 s'=some b)->∀b,Tr.any3 s ks=some b->Tr.any3 s' ks=some b
 |[],_,b,h=>by rw[Tr.any3] at h ⊢;exact h
 |t::r,ih,b,h=>by
  rw[Tr.any3] at h ⊢;exact Ep (ih t (by simp)) (u7 r fun u hu=>ih u (by simp[hu])) h
theorem oz{s s':bb->Option Fd}(he:ext s s'):∀t:Tr,∀b,t.tr3 s=some b->t.tr3 s'=some b:=Tr.ind fun k nm tx op n ks ih b h=>by
 rw[Tr.tr3] at h ⊢;by_cases h1:k=1
 ·rw[if_pos h1] at h ⊢;exact h
 rw[if_neg h1] at h ⊢;by_cases h6:k=6
 ·rw[if_pos h6] at h ⊢;rw[ae9] at h;obtain⟨c,h1,h2⟩:=h;rw[pV ks ih c h1,<-h2];rfl
 rw[if_neg h6] at h ⊢;by_cases h7:k=7
 ·rw[if_pos h7] at h ⊢;exact pV ks ih b h
 rw[if_neg h7] at h ⊢;by_cases h8:k=8
 ·rw[if_pos h8] at h ⊢;exact u7 ks ih b h
 rw[if_neg h8] at h ⊢;rw[ae9] at h ⊢;obtain⟨x,h1,h2⟩:=h;exact⟨x,he _ _ h1,h2⟩
theorem lv{s:bb->Option Fd}{a:bb->Fd}:∀t:Tr,(∀l,l∈t.lvs->s l.nm=some (a l.nm))->t.tr3 s=some (t.truA a):=Tr.ind fun k nm tx op n ks ih h=>by
 rw[Tr.lvs] at h;rw[Tr.tr3,Tr.truA];by_cases h1:k=1
 ·rw[if_pos h1,if_pos h1]
 rw[if_neg h1] at h ⊢;rw[if_neg h1]
 have hall:(∀l,l∈Tr.lvss ks->s l.nm=some (a l.nm))->∀l:List Tr,(∀t,t∈l->t∈ks)->Tr.all3 s l=some (Tr.allA a l):=by
  intro hk l
  induction l with
  |nil=>intro _;rw[Tr.all3,Tr.allA]
  |cons t r ihr=>
   intro hm;rw[Tr.all3,Tr.allA,ih t (hm t (by simp)) (fun l hl=>hk l (iz.2 ⟨t,hm t (by simp),hl⟩)),ihr fun u hu=>hm u (by simp[hu])];cases t.truA a<;>rfl
 have hany:(∀l,l∈Tr.lvss ks->s l.nm=some (a l.nm))->∀l:List Tr,(∀t,t∈l->t∈ks)->Tr.any3 s l=some (Tr.anyA a l):=by
  intro hk l
  induction l with
  |nil=>intro _;rw[Tr.any3,Tr.anyA]
  |cons t r ihr=>
   intro hm;rw[Tr.any3,Tr.anyA,ih t (hm t (by simp)) (fun l hl=>hk l (iz.2 ⟨t,hm t (by simp),hl⟩)),ihr fun u hu=>hm u (by simp[hu])];cases t.truA a<;>rfl
 by_cases h6:k=6
 ·rw[if_pos (.inl h6)] at h;rw[if_pos h6,if_pos h6,hall h ks fun _ q=>q];rfl
 rw[if_neg h6,if_neg h6];by_cases h7:k=7
 ·rw[if_pos (.inr (.inl h7))] at h;rw[if_pos h7,if_pos h7,hall h ks fun _ q=>q]
 rw[if_neg h7,if_neg h7];by_cases h8:k=8
 ·rw[if_pos (.inr (.inr h8))] at h;rw[if_pos h8,if_pos h8,hany h ks fun _ q=>q]
 rw[if_neg (by simp[h6,h7,h8])] at h;rw[if_neg h8,if_neg h8,h ⟨k,nm,tx,op,n⟩ (by simp)];rfl
theorem nH{a b:bb->Fd}:∀t:Tr,(∀l,l∈t.lvs->l.one (a l.nm)=l.one (b l.nm))->t.truA a=t.truA b:=Tr.ind fun k nm tx op n ks ih h=>by
 rw[Tr.lvs] at h;rw[Tr.truA,Tr.truA];by_cases h1:k=1
 ·rw[if_pos h1,if_pos h1]
 rw[if_neg h1] at h ⊢;rw[if_neg h1]
 have hall:(∀l,l∈Tr.lvss ks->l.one (a l.nm)=l.one (b l.nm))->∀l:List Tr,(∀t,t∈l->t∈ks)->Tr.allA a l=Tr.allA b l:=by
  intro hk l
  induction l with
  |nil=>intro _;rw[Tr.allA,Tr.allA]
  |cons t r ihr=>
   intro hm;rw[Tr.allA,Tr.allA,ih t (hm t (by simp)) (fun l hl=>hk l (iz.2 ⟨t,hm t (by simp),hl⟩)),ihr fun u hu=>hm u (by simp[hu])]
 have hany:(∀l,l∈Tr.lvss ks->l.one (a l.nm)=l.one (b l.nm))->∀l:List Tr,(∀t,t∈l->t∈ks)->Tr.anyA a l=Tr.anyA b l:=by
  intro hk l
  induction l with
  |nil=>intro _;rw[Tr.anyA,Tr.anyA]
  |cons t r ihr=>
   intro hm;rw[Tr.anyA,Tr.anyA,ih t (hm t (by simp)) (fun l hl=>hk l (iz.2 ⟨t,hm t (by simp),hl⟩)),ihr fun u hu=>hm u (by simp[hu])]
 by_cases h6:k=6
 ·rw[if_pos (.inl h6)] at h;rw[if_pos h6,if_pos h6,hall h ks fun _ q=>q]
 rw[if_neg h6,if_neg h6];by_cases h7:k=7
 ·rw[if_pos (.inr (.inl h7))] at h;rw[if_pos h7,if_pos h7,hall h ks fun _ q=>q]
 rw[if_neg h7,if_neg h7];by_cases h8:k=8
 ·rw[if_pos (.inr (.inr h8))] at h;rw[if_pos h8,if_pos h8,hany h ks fun _ q=>q]
 rw[if_neg (by simp[h6,h7,h8])] at h;rw[if_neg h8,if_neg h8];exact h ⟨k,nm,tx,op,n⟩ (by simp)
end Go.Proofs.YtelmfadihfcgnaaGreatDoor
namespace Go.Proofs.YtelmfadihfcgnaaGreatDoor
open Go Go.Pv
set_option maxRecDepth 100000
def xB(x:aa):Fd:=⟨x.hasText,x.hasNumber,x.text,x.number⟩
abbrev JP:=List (bb×aa)
abbrev IC:=List (bb×Bool)
def sgm(m:JP)(kn:IC):bb->Option Fd:=fun n=>if (aY kn n).getD false=true then some (xB (gV m n)) else none
def rN:Option Bool->Int
 |none=>0
 |some true=>1
 |some false=>2
theorem vA(b:Bool):rN (some b)=tv b:=by cases b<;>rfl
section
variable(F:Nat)(m:JP)(kn:IC)(nm:B8)
theorem w7:Ay F ⟨m,some kn⟩ nm=some (gV m nm,(aY kn nm).getD false):=rfl
theorem Mj(op n:Int)(tx:List B8):GM F ⟨nm,tx⟩ ⟨m,some kn⟩=some (rN ((sgm m kn nm).map (nM 2 op n tx))):=by
 unfold GM sgm;rw[w7,bv9];dsimp only;cases (aY kn nm).getD false
 ·rfl
 ·rw[wZ,mq,bv9,mq,if_pos rfl,az9,vA];unfold nM xB;rw[Kc];cases (gV m nm).hasText<;>rfl
theorem Mi(op n:Int)(tx:List B8):GL F ⟨nm,tx⟩ ⟨m,some kn⟩=some (rN ((sgm m kn nm).map (nM 3 op n tx))):=by
 unfold GL sgm;rw[w7,bv9];dsimp only;cases (aY kn nm).getD false
 ·rfl
 ·rw[CT,mq,bv9,mq,if_pos rfl,az9,vA];unfold nM xB;rw[Kb];cases (gV m nm).hasText<;>rfl
theorem Mh(op n:Int)(tx:List B8):GK F ⟨nm⟩ ⟨m,some kn⟩=some (rN ((sgm m kn nm).map (nM 4 op n tx))):=by
 unfold GK sgm;rw[w7,bv9];dsimp only;cases (aY kn nm).getD false
 ·rfl
 ·rw[mq,mq,if_pos rfl,az9,vA];unfold nM xB;cases (gV m nm).hasText<;>rfl
theorem Mg(op n:Int)(tx:List B8):GJ F ⟨nm,op,n⟩ ⟨m,some kn⟩=some (rN ((sgm m kn nm).map (nM 5 op n tx))):=by
 unfold GJ sgm;rw[w7,bv9];dsimp only;cases (aY kn nm).getD false
 ·rfl
 ·rw[IF,mq,bv9,mq,if_pos rfl,az9,vA];unfold nM xB;cases (gV m nm).hasNumber<;>rfl
end
theorem JF(m:JP)(kn:IC):∀t:Tr,t.ok->t.flt=0->∀F,t.fu<=F->fM F t.cd ⟨m,some kn⟩=some (rN (t.tr3 (sgm m kn))):=Tr.ind fun k nm tx op n ks ih ok hz F hF=>by
 rw[Tr.fu] at hF;obtain⟨hnode,hfl⟩:=lP hz;obtain⟨F,rfl⟩:∃G,F=G+1:=⟨F - 1,by omega⟩
 show jT (fM F) F (Tr.mk k nm tx op n ks).cd ⟨m,some kn⟩=_
 have hkid:∀t,t∈ks->fM F t.cd ⟨m,some kn⟩=some (rN (t.tr3 (sgm m kn))):=fun t ht=>ih t ht (Tr.oks_mem (Tr.okks ok).1 ht) (eU hfl ht) F (by have:=Tr.fu_mem ht;omega);have hkk:=mL hnode;dsimp only at hkk;have hk':k=1\/k=2\/k=3\/k=4\/k=5\/k=6\/k=7\/k=8:=by omega
 rw[Tr.cd,Tr.tr3]
 have hall:∀(l:List Tr) (A:Option Bool),A≠some false->(∀t,t∈l->t∈ks)->hX (fM F) F ⟨m,some kn⟩ (fun n4=>some n4) (Tr.cds l) (rN A)=some (rN (Av A (Tr.all3 (sgm m kn) l))):=by
  intro l
  induction l with
  |nil=>
   intro A hA _;rw[Tr.cds,Tr.all3,hX];cases A with
   |none=>rfl
   |some b=>cases b<;>rfl
  |cons t r ihr=>
   intro A hA hm;rw[Tr.cds,hX,hkid t (hm t (by simp)),bv9,aA,Tr.all3];have hr:=fun B hB=>ihr B hB fun u hu=>hm u (by simp[hu]);cases t.tr3 (sgm m kn) with
   |none=>
    show hX _ _ _ _ _ 0=_
    rw[show(0:Int)=rN none from rfl,hr none (by simp)];cases A with
    |none=>cases Tr.all3 (sgm m kn) r with
     |none=>rfl
     |some b=>cases b<;>rfl
    |some a=>cases a with
     |false=>exact absurd rfl hA
     |true=>rfl
   |some b=>
    cases b with
    |false=>
     cases A with
     |none=>rfl
     |some a=>cases a with
      |false=>exact absurd rfl hA
      |true=>rfl
    |true=>exact hr A hA
 have hany:∀(l:List Tr) (A:Option Bool),A≠some true->(∀t,t∈l->t∈ks)->hO (fM F) F ⟨m,some kn⟩ (fun n4=>some n4) (Tr.cds l) (rN A)=some (rN (MZ A (Tr.any3 (sgm m kn) l))):=by
  intro l
  induction l with
  |nil=>
   intro A hA _;rw[Tr.cds,Tr.any3,hO];cases A with
   |none=>rfl
   |some b=>cases b<;>rfl
  |cons t r ihr=>
   intro A hA hm;rw[Tr.cds,hO,hkid t (hm t (by simp)),bv9,aA,Tr.any3];have hr:=fun B hB=>ihr B hB fun u hu=>hm u (by simp[hu]);cases t.tr3 (sgm m kn) with
   |none=>
    show hO _ _ _ _ _ 0=_
    rw[show(0:Int)=rN none from rfl,hr none (by simp)];cases A with
    |none=>cases Tr.any3 (sgm m kn) r with
     |none=>rfl
     |some b=>cases b<;>rfl
    |some a=>cases a with
     |true=>exact absurd rfl hA
     |false=>rfl
   |some b=>
    cases b with
    |true=>
     cases A with
     |none=>rfl
     |some a=>cases a with
      |true=>exact absurd rfl hA
      |false=>rfl
    |false=>exact hr A hA
 unfold jT;rcases hk' with e|e|e|e|e|e|e|e
 ·subst e;simp only[show ¬(1:Int)=2 by decide,show ¬(1:Int)=3 by decide,show ¬(1:Int)=4 by decide,show ¬(1:Int)=5 by decide,show ¬(1:Int)=6 by decide,show ¬(1:Int)=7 by decide,show ¬(1:Int)=8 by decide,if_false];rw[bM (by decide),bM (by decide),bM (by decide),bM (by decide),bM (by decide),bM (by decide),bM (by decide),dL Fo];rfl
 ·subst e;rw[if_pos rfl,dL Fp];exact Mj F m kn nm op n tx
 ·subst e;rw[if_neg (by decide),if_pos rfl,bM (by decide),dL sD];exact Mi F m kn nm op n tx
 ·subst e;rw[if_neg (by decide),if_neg (by decide),if_pos rfl,bM (by decide),bM (by decide),dL Bi];exact Mh F m kn nm op n tx
 ·subst e;rw[if_neg (by decide),if_neg (by decide),if_neg (by decide),if_pos rfl,bM (by decide),bM (by decide),bM (by decide),dL sC];exact Mg F m kn nm op n tx
 ·subst e;rw[if_neg (by decide),if_neg (by decide),if_neg (by decide),if_neg (by decide),if_pos rfl,bM (by decide),bM (by decide),bM (by decide),bM (by decide),dL Bh];have h1:ks.length=1:=by rw[<-oK hnode rfl];exact(Tr.toKs_len ks).symm
  match ks,h1,hkid with
  |[t],_,hkid=>
   show GH (fM F) F ⟨(Tr.cds [t]).headD _⟩ ⟨m,some kn⟩=_
   rw[Tr.cds,List.headD_cons,GH,hkid t (by simp),bv9,if_neg (by decide),if_pos rfl,Tr.all3,Tr.all3];cases t.tr3 (sgm m kn) with
   |none=>rfl
   |some b=>cases b<;>rfl
 ·subst e;rw[if_neg (by decide),if_neg (by decide),if_neg (by decide),if_neg (by decide),if_neg (by decide),if_pos rfl,bM (by decide),bM (by decide),bM (by decide),bM (by decide),bM (by decide),dL Bk];exact hall ks (some true) (by simp) fun _ h=>h
 ·subst e;rw[if_neg (by decide),if_neg (by decide),if_neg (by decide),if_neg (by decide),if_neg (by decide),if_neg (by decide),if_pos rfl,bM (by decide),bM (by decide),bM (by decide),bM (by decide),bM (by decide),bM (by decide),dL Bj];exact hany ks (some false) (by simp) fun _ h=>h
def KN{κ τ:Type}(m:List (κ×τ)):Prop:=(m.map (·.1)).Nodup
section
variable{κ τ:Type}[DecidableEq κ]
theorem Cg{m:List (κ×τ)}{k:κ}:aY m k=none<->k ∉ m.map (·.1):=by
 induction m with
 |nil=>simp[aY]
 |cons p r ih=>
  rw[aY];by_cases h:p.1=k
  ·rw[if_pos h];simp[h]
  ·rw[if_neg h,ih];simp only[bi9,aq8,not_or];exact⟨fun q=>⟨Ne.symm h,q⟩,fun q=>q.2⟩
theorem Ch{m:List (κ×τ)}{k:κ}{v:τ}(h:aY m k=some v):(k,v)∈m:=by
 induction m with
 |nil=>simp[aY] at h
 |cons p r ih=>
  rw[aY] at h;by_cases e:p.1=k
  ·rw[if_pos e] at h;cases h;subst e;simp
  ·rw[if_neg e] at h;exact bu8 _ (ih h)
theorem E3{m:List (κ×τ)}(hn:KN m){p:κ×τ}(h:p∈m):aY m p.1=some p.2:=by
 induction m with
 |nil=>simp at h
 |cons q r ih=>
  rw[aY];unfold KN at hn;rw[bi9,aa9] at hn;rcases aq8.1 h with e|h
  ·subst e;rw[if_pos rfl]
  ·rw[if_neg (fun e=>hn.1 (by rw[e];exact bk8 h)),ih hn.2 h]
theorem uQ{m:List (κ×τ)}{k:κ}{v:τ}:∀x,x∈(co m k v).map (·.1)<->x=k\/x∈m.map (·.1):=by
 induction m with
 |nil=>intro x;simp[co]
 |cons p r ih=>
  intro x;rw[co];by_cases h:p.1=k
  ·rw[if_pos h];simp[h]
  ·rw[if_neg h];simp only[bi9,aq8,ih];constructor
   ·rintro(h|h|h)
    ·exact .inr (.inl h)
    ·exact .inl h
    ·exact .inr (.inr h)
   ·rintro(h|h|h)
    ·exact .inr (.inl h)
    ·exact .inl h
    ·exact .inr (.inr h)
theorem KN.put{m:List (κ×τ)}{k:κ}{v:τ}(h:KN m):KN (co m k v):=by
 unfold KN at *
 induction m with
 |nil=>simp[co]
 |cons p r ih=>
  rw[bi9,aa9] at h;rw[co];by_cases e:p.1=k
  ·rw[if_pos e,bi9,aa9];exact⟨by rw[<-e];exact h.1,h.2⟩
  ·rw[if_neg e,bi9,aa9];exact⟨fun hx=>(uQ _).1 hx |>.elim e h.1,ih h.2⟩
theorem E4{m:List (κ×τ)}{k x:κ}(h:x∈(fC m k).map (·.1)):x∈m.map (·.1):=by
 induction m with
 |nil=>simp[fC] at h
 |cons p r ih=>
  rw[fC] at h;split at h
  ·exact bu8 _ h
  ·rw[bi9,aq8] at h ⊢;exact h.imp id ih
theorem KN.del{m:List (κ×τ)}{k:κ}(h:KN m):KN (fC m k):=by
 unfold KN at *
 induction m with
 |nil=>simp[fC]
 |cons p r ih=>
  rw[bi9,aa9] at h;rw[fC];split
  ·exact h.2
  ·rw[bi9,aa9];exact⟨fun hx=>h.1 (E4 hx),ih h.2⟩
theorem uJ{m:List (κ×τ)}{k x:κ}(h:KN m):aY (fC m k) x=if x=k then none else aY m x:=by
 unfold KN at h
 induction m with
 |nil=>simp[fC,aY]
 |cons p r ih=>
  rw[bi9,aa9] at h;rw[fC];by_cases e:p.1=k
  ·rw[if_pos e];by_cases ex:x=k
   ·rw[if_pos ex,Cg];rw[ex,<-e];exact h.1
   ·rw[if_neg ex,aY,if_neg (by rw[e];exact Ne.symm ex)]
  ·rw[if_neg e,aY,aY,ih h.2];by_cases ex:x=k
   ·rw[if_pos ex,if_pos ex,if_neg (by rw[ex];exact e)]
   ·rw[if_neg ex,if_neg ex]
end
abbrev Mp:=bb->Option aa
def zj(s:Mp):bb->Option Fd:=fun n=>(s n).map xB
structure CQ(m:JP)(kn:IC)(s:Mp):Prop where
 fm:∀n,aY m n=s n
 fk:∀n,aY kn n=(s n).map fun _=>true
 nm:KN m
 nk:KN kn
theorem CQ.sgm{m:JP}{kn:IC}{s:Mp}(h:CQ m kn s):sgm m kn=zj s:=by
 funext n
 unfold Go.Proofs.YtelmfadihfcgnaaGreatDoor.sgm zj gV;rw[h.fk,h.fm];cases s n<;>rfl
theorem Bq(P:Mp->Option Bool)(F0:Nat)(cs:List KV)(n0:Int)(hC:∀F m kn s,F0<=F->CQ m kn s->LW F ⟨m,some kn⟩ cs n0=some (rN (P s)))(by_:List (bb×List aa))(ns:List bb)(hn:ns.Nodup)(hlen:ns.length<=1000):
  ∀(rest pre:List bb),ns=pre++rest->∀F,F0+rest.length+1<=F->∀m kn s,CQ m kn s->(∀n,n∈rest->s n=none)->
   ∃m' kn',(match qz? P (fun n=>(aY by_ n).getD []) rest s with
    |some s'=>w5 F (pre.length:Int) by_ cs n0 ns m kn=some (true,m',kn')/\CQ m' kn' s'
    |none=>w5 F (pre.length:Int) by_ cs n0 ns m kn=some (false,m',kn')/\CQ m' kn' s)
 |[],pre,hns,F,hF,m,kn,s,hs,_=>by
  obtain⟨F,rfl⟩:∃G,F=G+1:=⟨F - 1,by omega⟩;have hl:ns.length=pre.length:=by rw[hns];simp
  have hh:=hC F m kn s (by simp at hF;omega) hs;refine⟨m,kn,?_⟩;rw[qz?]
  show match (if P s=some true then some s else none) with|some s'=>lg (w5 F) F _ _ _ _ _ _ _=_/\_|none=>lg (w5 F) F _ _ _ _ _ _ _=_/\_
  unfold lg;rw[hh,bv9];by_cases h1:P s=some true
  ·rw[if_pos h1];dsimp only;rw[show P s=some true from h1];exact⟨Y,hs⟩
  ·rw[if_neg h1];dsimp only;refine⟨?_,hs⟩;have h1:P s≠some true:=h1;cases h2:P s with
   |none=>
    show(if (((0:Int))==1)=true then _ else if ((0:Int)==2)=true then _ else if ((pre.length:Int)==((ns.length:Nat):Int))=true then _ else _)=_
    rw[if_neg (by decide),if_neg (by decide),if_pos (by simp[hl])]
   |some b=>
    cases b with
    |true=>exact absurd h2 h1
    |false=>rfl
 |n::r,pre,hns,F,hF,m,kn,s,hs,hno=>by
  obtain⟨F,rfl⟩:∃G,F=G+1:=⟨F - 1,by omega⟩;simp only[bt8] at hF;have hh:=hC F m kn s (by omega) hs;have hsn:=hno n (by simp)
  have hnd:n ∉ r:=by
   rw[hns,bw8] at hn;exact(aa9.1 hn.2.1).1
  have hl:ns.length=pre.length+(r.length+1):=by rw[hns];simp
  rw[qz?];cases h2:P s with
  |some b=>
   have h2':P s=some b:=h2;rw[h2'] at hh;refine⟨m,kn,?_⟩;cases b with
   |true=>
    dsimp only;refine⟨?_,hs⟩
    show lg (w5 F) F _ _ _ _ _ _ _=_
    unfold lg;rw[hh,bv9];rfl
   |false=>
    dsimp only;refine⟨?_,hs⟩
    show lg (w5 F) F _ _ _ _ _ _ _=_
    unfold lg;rw[hh,bv9];rfl
  |none=>
   have h2':P s=none:=h2;rw[h2'] at hh;dsimp only
   have hbody:w5 (F+1) (pre.length:Int) by_ cs n0 ns m kn=gQ (w5 F) F (pre.length:Int) by_ cs n0 ns n (fun m41 m42=>some (false,fC m41 n,fC m42 n)) ((aY by_ n).getD []) m (co kn n true):=by
    show lg (w5 F) F _ _ _ _ _ _ _=_
    unfold lg;rw[hh,bv9]
    show(if (((0:Int))==1)=true then _ else if ((0:Int)==2)=true then _ else if ((pre.length:Int)==((ns.length:Nat):Int))=true then _ else _)=_
    rw[if_neg (by decide),if_neg (by decide),if_neg (by simp;omega),bt (by omega),bv9];have:ns[pre.length]'(by omega)=n:=by simp[hns]
    rw[this];rfl
   rw[hbody]
   -- the loop over what the name can be
   have loop:∀(xs:List aa) (m1:JP) (kn1:IC),(∀k,k≠n->aY m1 k=s k)->(∀k,aY kn1 k=if k=n then some true else (s k).map fun _=>true)->KN m1->KN kn1->
     ∃m' kn',(match xs.findSome? (fun x=>qz? P (fun n=>(aY by_ n).getD []) r (qu s n x)) with
      |some s'=>gQ (w5 F) F (pre.length:Int) by_ cs n0 ns n (fun m41 m42=>some (false,fC m41 n,fC m42 n)) xs m1 kn1=some (true,m',kn')/\CQ m' kn' s'
      |none=>gQ (w5 F) F (pre.length:Int) by_ cs n0 ns n (fun m41 m42=>some (false,fC m41 n,fC m42 n)) xs m1 kn1=some (false,m',kn')/\CQ m' kn' s):=by
    intro xs
    induction xs with
    |nil=>
     intro m1 kn1 q1 q2 q3 q4;refine⟨fC m1 n,fC kn1 n,Y,fun k=>?_,fun k=>?_,q3.del,q4.del⟩
     ·rw[uJ q3];by_cases e:k=n
      ·rw[if_pos e,e,hsn]
      ·rw[if_neg e,q1 k e]
     ·rw[uJ q4];by_cases e:k=n
      ·rw[if_pos e,e,hsn];rfl
      ·rw[if_neg e,q2,if_neg e]
    |cons x xs ih=>
     intro m1 kn1 q1 q2 q3 q4
     have hst:CQ (co m1 n x) kn1 (qu s n x):=by
      refine⟨fun k=>?_,fun k=>?_,q3.put,q4⟩
      ·rw[dl];unfold qu;by_cases e:k=n
       ·rw[if_pos e.symm,if_pos e]
       ·rw[if_neg (Ne.symm e),if_neg e,q1 k e]
      ·rw[q2];unfold qu;by_cases e:k=n
       ·rw[if_pos e,if_pos e];rfl
       ·rw[if_neg e,if_neg e]
     obtain⟨m2,kn2,h3⟩:=Bq P F0 cs n0 hC by_ ns hn hlen r (pre++[n]) (by rw[hns];simp) F (by omega) (co m1 n x) kn1 (qu s n x) hst (fun k hk=>by
      unfold qu;rw[if_neg (show ¬k=n from fun e=>hnd (e ▸ hk))];exact hno k (by simp[hk]))
     rw[show((pre++[n]).length:Int)=(pre.length:Int)+1 by simp] at h3;rw[List.findSome?_cons];cases h4:qz? P (fun n=>(aY by_ n).getD []) r (qu s n x) with
     |some s'=>
      rw[h4] at h3;dsimp only at h3 ⊢;refine⟨m2,kn2,?_,h3.2⟩;rw[gQ,cc (by omega) (by omega),h3.1,bv9];rfl
     |none=>
      rw[h4] at h3;dsimp only at h3 ⊢;have h5:=h3.2
      obtain⟨m',kn',h6⟩:=ih m2 kn2 (fun k hk=>by rw[h5.fm];unfold qu;rw[if_neg hk]) (fun k=>by
       rw[h5.fk];unfold qu;by_cases e:k=n
       ·rw[if_pos e,if_pos e];rfl
       ·rw[if_neg e,if_neg e]) h5.nm h5.nk
      refine⟨m',kn',?_⟩
      have hstep:gQ (w5 F) F (pre.length:Int) by_ cs n0 ns n (fun m41 m42=>some (false,fC m41 n,fC m42 n)) (x::xs) m1 kn1=gQ (w5 F) F (pre.length:Int) by_ cs n0 ns n (fun m41 m42=>some (false,fC m41 n,fC m42 n)) xs m2 kn2:=by
       rw[gQ,cc (by omega) (by omega),h3.1,bv9];rfl
      rw[hstep];exact h6
   exact loop _ m (co kn n true) (fun k hk=>hs.fm k) (fun k=>by
    rw[dl,hs.fk];by_cases e:k=n
    ·rw[if_pos e.symm,if_pos e]
    ·rw[if_neg (Ne.symm e),if_neg e]) hs.nm hs.nk.put
termination_by rest=>rest.length
set_option maxRecDepth 1000000
theorem ND{α β:Type}{o o':Option α}(h:o=o'){f g:α->Option β}(hfg:∀y,f y=g y):o.bind f=o'.bind g:=by
 subst h;exact congrArg o.bind (funext hfg)
abbrev xl:=List (aa×Bool)×List (bb×List aa)
def iC(R:xl->aa->Option xl):List aa->xl->Option xl
 |[],p=>some p
 |x::l,p=>(R p x).bind (iC R l)
theorem mV(R:xl->aa->Option xl):∀(l l':List aa) (p:xl),iC R (l++l') p=(iC R l p).bind (iC R l')
 |[],l',p=>rfl
 |x::l,l',p=>by
  show(R p x).bind (iC R (l++l'))=((R p x).bind (iC R l)).bind (iC R l')
  rw[Option.bind_assoc]
  congr 1
  funext q
  exact mV R l l' q
def nv(n:Int):aa:=⟨false,true,[],n⟩
def Hn(t:bb)(v:aa):aa:=⟨true,v.hasNumber,t,v.number⟩
def nj(s:ae)(nums:List Int):List aa:=zV::(if (s.asNo||s.has)=true then nums.map nv else [])
def eL(s:ae)(nums:List Int)(txs:List bb):List aa:=
 nj s nums++(if (s.asText||s.has)=true then txs.flatMap (fun t=>(nj s nums).map (Hn t)) else [])
section
variable(R0:xl->aa->Option xl)(F:Nat)
theorem pY(k:List aa->Option xl):∀(l:List Int) (acc:List aa),acc.length+l.length<=1000000000000->gO F k l acc=k (acc++l.map nv)
 |[],acc,_=>by rw[gO];simp
 |x::l,acc,h=>by
  simp only[bt8] at h;rw[gO,if_pos (by simp;omega),pY k l _ (by simp;omega)];simp[nv]
theorem pX(k:List (aa×Bool)->List (bb×List aa)->Option xl):∀(l:List aa) (p:xl),gf R0 F k l p.1 p.2=(iC R0 l p).bind fun q=>k q.1 q.2
 |[],p=>by rw[gf];rfl
 |x::l,p=>by
  rw[gf]
  show _=((R0 p x).bind (iC R0 l)).bind fun q=>k q.1 q.2
  rw[Option.bind_assoc];exact ND Y fun y=>pX k l y
theorem vd(t:bb)(k:List (aa×Bool)->List (bb×List aa)->Option xl):∀(l:List aa) (p:xl),iL R0 F t k l p.1 p.2=(iC R0 (l.map (Hn t)) p).bind fun q=>k q.1 q.2
 |[],p=>by rw[iL];rfl
 |x::l,p=>by
  rw[iL]
  show _=((R0 p (Hn t x)).bind (iC R0 (l.map (Hn t)))).bind fun q=>k q.1 q.2
  rw[Option.bind_assoc];exact ND Y fun y=>vd t k l y
theorem jU(vs:List aa):∀(l:List bb) (p:xl),eM R0 F vs l p.1 p.2=iC R0 (l.flatMap fun t=>vs.map (Hn t)) p
 |[],p=>by rw[eM];rfl
 |t::l,p=>by
  rw[eM,aA,aA,vd,ac9,mV];exact ND Y fun y=>jU vs l y
theorem LJ(s:ae)(nums:List Int)(txs:List bb)(h1:za F s=some nums)(h2:qW F s=some txs)(hn:nums.length<=1000000)(p:xl):
  Oe R0 F s.is s.begins s.numbers s.asText s.asNo s.has s.weight p.1 p.2=iC R0 (eL s nums txs) p:=by
 obtain⟨a1,a2,a3,a4,a5,a6,a7⟩:=s;unfold Oe eL nj;dsimp only;have hz:(aa.mk false false ([]:B8) 0)=zV:=rfl;cases a5 with
 |true=>
  rw[if_pos rfl,h1,bv9,aA,pY F _ _ _ (by simp;omega),aA,pX];rw[hz,show((true||a6):Bool)=true from rfl,if_pos rfl,mV R0 (zV::List.map nv nums)];refine ND Y fun y=>?_;cases a4 with
  |false=>
   rw[if_pos (by decide)];cases a6 with
   |false=>rw[if_pos (by decide)];rfl
   |true=>rw[if_neg (by decide),h2,bv9,jU];rfl
  |true=>rw[if_neg (by decide),h2,bv9,jU];rfl
 |false=>
  rw[if_neg (by decide),aA]
  have key:∀vs:List aa,(jn (fun(m116:List (aa×Bool)) (m117:List (B8×(List aa)))=>if (!a4)=true then if (!a6)=true then some (m116,m117)
    else (qW F (ae.mk a1 a2 a3 a4 false a6 a7)).bind fun y132=>eM R0 F vs y132 m116 m117
    else (qW F (ae.mk a1 a2 a3 a4 false a6 a7)).bind fun y162=>eM R0 F vs y162 m116 m117) (fun k115=>gf R0 F k115 vs p.1 p.2)) =
    iC R0 (vs++if (a4||a6)=true then txs.flatMap (fun t=>vs.map (Hn t)) else []) p:=by
   intro vs;rw[aA,pX,mV];refine ND Y fun y=>?_;cases a4 with
   |false=>
    rw[if_pos (by decide)];cases a6 with
    |false=>rw[if_pos (by decide)];rfl
    |true=>rw[if_neg (by decide),h2,bv9,jU];rfl
   |true=>rw[if_neg (by decide),h2,bv9,jU];rfl
  cases a6 with
  |true=>
   rw[if_pos rfl,h1,bv9,aA,pY F _ _ _ (by simp;omega)];exact key _
  |false=>
   rw[if_neg (by decide)];exact key _
end
theorem wW(F:Nat)(nm:bb):∀(l:List aa) (p:xl),(∀x,(aY p.1 x).getD false=true<->x∈(aY p.2 nm).getD [])->((aY p.2 nm).getD []).length+l.length<=1000000000000->KN p.2->
  ∃q:xl,iC (fun p x=>kE F nm p.1 p.2 x) l p=some q/\(∀x,x∈(aY q.2 nm).getD []<->x∈(aY p.2 nm).getD []\/x∈l)/\(∀k,k≠nm->aY q.2 k=aY p.2 k)/\KN q.2
 |[],p,_,_,hk=>⟨p,rfl,fun x=>by simp,fun _ _=>rfl,hk⟩
 |x::l,p,h1,h2,hk=>by
  simp only[bt8] at h2
  show ∃q,(kE F nm p.1 p.2 x).bind _=some q/\_
  unfold kE;rw[aA];cases hs:(aY p.1 x).getD false with
  |true=>
   have hx:=(h1 x).1 hs;obtain⟨q,g1,g2,g3,g4⟩:=wW F nm l p h1 (by omega) hk;refine⟨q,by rw[if_neg (by decide),bv9];exact g1,fun y=>?_,g3,g4⟩;rw[g2 y,aq8];constructor
   ·rintro(h|h)
    ·exact .inl h
    ·exact .inr (.inr h)
   ·rintro(h|h|h)
    ·exact .inl h
    ·rw[h];exact .inl hx
    ·exact .inr h
  |false=>
   have hg:(aY (co p.2 nm ((aY p.2 nm).getD []++[x])) nm).getD []=(aY p.2 nm).getD []++[x]:=by rw[dl,if_pos rfl];rfl
   obtain⟨q,g1,g2,g3,g4⟩:=wW F nm l (co p.1 x true,co p.2 nm ((aY p.2 nm).getD []++[x])) (fun y=>by
    dsimp only;rw[hg,dl,bw9,bj9];by_cases e:x=y
    ·rw[if_pos e];simp[e]
    ·rw[if_neg e,h1 y];exact⟨.inl,fun h=>h.elim id fun h=>absurd h.symm e⟩) (by dsimp only;rw[hg];simp;omega) hk.put
   refine⟨q,by rw[if_pos (by decide),if_pos (by simp;omega),bv9];exact g1,fun y=>?_,fun k hk=>?_,g4⟩
   ·rw[g2 y];dsimp only;rw[hg,bw9,bj9,aq8];constructor
    ·rintro((h|h)|h)
     ·exact .inl h
     ·exact .inr (.inl h)
     ·exact .inr (.inr h)
    ·rintro(h|h|h)
     ·exact .inl (.inl h)
     ·exact .inl (.inr h)
     ·exact .inr h
   ·rw[g3 k hk];dsimp only;rw[dl,if_neg (Ne.symm hk)]
abbrev tk:=List (bb×Option ae)
structure Gv(F:Nat)(s:ae)(nums:List Int)(txs:List bb):Prop where
 n:za F s=some nums
 t:qW F s=some txs
 ln:nums.length<=1000000
 lc:(eL s nums txs).length<=1000000000000
theorem vo(F:Nat)(all:tk)(k:List bb->List (bb×List aa)->Option (List (bb×List aa)×List bb)):
  ∀(l:List bb) (l44:List bb) (m45:List (bb×List aa)),l.Nodup->KN m45->(∀n,n∈l->aY m45 n=none)->l44.length+l.length<=10000000->
   (∀n,n∈l->∃s nums txs,aY all n=some (some s)/\Gv F s nums txs)->
   ∃by_,mD F all k l l44 m45=k (l44++l) by_/\KN by_/\(∀n,n ∉ l->aY by_ n=aY m45 n)/\
    ∀n s nums txs,n∈l->aY all n=some (some s)->Gv F s nums txs->∀x,x∈(aY by_ n).getD []<->x∈eL s nums txs
 |[],l44,m45,_,hk,_,_,_=>⟨m45,by rw[mD];simp,hk,fun _ _=>rfl,fun n s nums txs h=>by simp at h⟩
 |n::r,l44,m45,hn,hk,hno,hl,hg=>by
  simp only[bt8] at hl;have hn':=aa9.1 hn;obtain⟨s,nums,txs,h1,h2⟩:=hg n (by simp);have hm:=hno n (by simp);obtain⟨q,g1,g2,g3,g4⟩:=wW F n (eL s nums txs) ([],m45) (fun x=>by dsimp only;rw[hm];simp[aY]) (by dsimp only;rw[hm];have:=h2.lc;simp;omega) hk
  obtain⟨by_,e1,e2,e3,e4⟩:=vo F all k r (l44++[n]) q.2 hn'.2 g4 (fun m hm2=>by
   rw[g3 m (fun e=>hn'.1 (e ▸ hm2))];exact hno m (by simp[hm2])) (by simp;omega) (fun m hm2=>hg m (by simp[hm2]))
  refine⟨by_,?_,e2,fun m hm2=>?_,fun m s' nums' txs' hm2 hs' hG x=>?_⟩
  ·rw[mD,if_pos (by simp;omega),h1]
   show(Option.bind (some s) fun x50=>_)=_
   rw[bv9];have:=LJ (fun p x=>kE F n p.1 p.2 x) F s nums txs h2.n h2.t h2.ln ([],m45);dsimp only at this;rw[this,g1,bv9,e1];simp
  ·simp only[aq8,not_or] at hm2;rw[e3 m hm2.2,g3 m hm2.1]
  ·rcases aq8.1 hm2 with e|hm2
   ·subst e;rw[h1] at hs';cases hs';have a1:=h2.n.symm.trans hG.n;have a2:=h2.t.symm.trans hG.t;cases a1;cases a2;rw[e3 m hn'.1,g2 x];dsimp only;rw[hm];simp
   ·exact e4 m s' nums' txs' hm2 hs' hG x
theorem ei(l:List bb):(eQ l).Perm l:=List.mergeSort_perm l _
theorem L5(F:Nat)(all:tk)(cs:List KV)(n0:Int)(hk:KN all)(hl:all.length<=1000)(hs:∀p,p∈all->p.1.length<=1000)(hg:∀n,n∈all.map (·.1)->∃s nums txs,aY all n=some (some s)/\Gv F s nums txs):
  ∃by_,MI F all cs n0=some (by_,eQ (all.map (·.1)))/\∀n s nums txs,aY all n=some (some s)->Gv F s nums txs->∀x,x∈(aY by_ n).getD []<->x∈eL s nums txs:=by
 have hp:=ei (all.map (·.1));have hlen:(eQ (all.map (·.1))).length=all.length:=by rw[hp.length_eq];simp
 obtain⟨by_,e1,e2,e3,e4⟩:=vo F all (fun l38 m39=>some (m39,l38)) (eQ (all.map (·.1))) [] [] (hp.nodup_iff.2 hk) (by simp[KN]) (fun n _=>rfl) (by simp;omega) (fun n hn=>hg n (hp.mem_iff.1 hn));refine⟨by_,?_,fun n s nums txs h1 h2=>e4 n s nums txs (hp.mem_iff.2 ?_) h1 h2⟩
 ·unfold MI xJ;rw[if_pos ⟨by omega,fun p hp=>by have:=hs p hp;omega⟩,bv9,aA,e1];simp
 ·exact bk8 (Ch h1)
end Go.Proofs.YtelmfadihfcgnaaGreatDoor
namespace Go.Pv
open Go
theorem Ia(l:List B8)(x:B8):x∈BA l<->x∈l:=by
 unfold BA Lib.compact Lib.compactUpTo;rw[bb8];constructor
 ·grind
 ·intro hx
  have key:∀j,j<l.length->∃i,i<=j/\Lib.keeps l.toArray i=true/\l.toArray[i]! = l.toArray[j]! := by
   intro j
   induction j with
   |zero=>simp_all[Lib.keeps]
   |succ j ih=>
    intro hj;by_cases he:l.toArray[j+1]! = l.toArray[j]!
    ·grind
    ·exact⟨j+1,ae8 _,by simp_all[Lib.keeps],rfl⟩
  grind [List.getElem_of_mem]
end Go.Pv
namespace Go.Proofs.YtelmfadihfcgnaaGreatDoor
open Go Go.Pv
set_option maxRecDepth 1000000
theorem FX(l:List Int)(x:Int):x∈BA l<->x∈l:=by
 unfold BA Lib.compact Lib.compactUpTo;rw[bb8];constructor
 ·rintro⟨j,hj,rfl⟩
  have hlt:=cj8.1 (bv8.1 hj).1;rw[getElem!_pos l.toArray j (by simpa using hlt)];simp
 ·intro hx
  have key:∀j,j<l.length->∃i,i<=j/\Lib.keeps l.toArray i=true/\l.toArray[i]! = l.toArray[j]! := by
   intro j
   induction j with
   |zero=>exact fun _=>⟨0,ae8 _,by simp[Lib.keeps],rfl⟩
   |succ j ih=>
    intro hj;by_cases he:l.toArray[j+1]! = l.toArray[j]!
    ·obtain⟨i,h1,h2,h3⟩:=ih (by omega);exact⟨i,by omega,h2,h3.trans he.symm⟩
    ·exact⟨j+1,ae8 _,by simp only[Lib.keeps,br8];exact decide_eq_true (.inr he),Y⟩
  obtain⟨j,hj,rfl⟩:=bf8 hx;obtain⟨i,h1,h2,h3⟩:=key j hj;refine⟨i,bv8.2 ⟨cj8.2 (by omega),h2⟩,?_⟩;rw[h3,getElem!_pos l.toArray j (by simpa using hj)];simp
instance (x:Int):Decidable (ka x):=by unfold ka;infer_instance
theorem Jk(F:Nat)(a:Int):ug F a=some (decide (ka a)):=by
 unfold ug;by_cases h:a ≥ -1000000000000
 ·rw[if_pos (decide_eq_true h)]
  congr 1
  exact decide_eq_decide.2 ⟨fun h2=>⟨h,h2⟩,fun h2=>h2.2⟩
 ·rw[if_neg (by simpa using h),decide_eq_false (fun h2=>h h2.1)]
theorem s3(F:Nat)(a:Int)(l:List Int)(K:List Int->Option (List Int))(h:l.length<=10000000):
  ((ug F a).bind fun y22=>jn (fun(l25:List Int)=>K l25) (fun k24=>if y22=true then if (l++([a]:List Int)).length*8<=140737488355328 then k24 (l++([a]:List Int)) else none else k24 l))=K (l++[a].filter fun x=>decide (ka x)):=by
 rw[Jk,bv9,aA];by_cases h2:ka a
 ·rw[if_pos (decide_eq_true h2),if_pos (by simp;omega)];simp[h2]
 ·rw[if_neg (by simpa using h2)];simp[h2]
def qx(n:Int):List Int:=[n - 1,n,n+1].filter fun x=>decide (ka x)
theorem AE(F:Nat)(n:Int)(hn:ka n)(k:List Int->Option (List Int))(l:List Int)(hl:l.length<=1000000):fO F n k 3 0 l=k (l++qx n):=by
 unfold ka at hn;have e1:bh (n - 1)=n - 1:=cc (by omega) (by omega);have e2:bh (n+1)=n+1:=cc (by omega) (by omega);have f1:∀(x:Int) (l:List Int),([x].filter fun x=>decide (ka x)).length<=1:=fun x l=>ab8 _ _;rw[fO,show cq ([bh (n - 1),n,bh (n+1)]:List Int) 0=some (bh (n - 1)) from rfl,bv9,s3 F _ l _ (by omega)];rw[fO,show cq ([bh (n - 1),n,bh (n+1)]:List Int) (0+1)=some n from rfl,bv9,s3 F _ _ _ (by have:=f1 (bh (n - 1)) l;simp only[be8];omega)];rw[fO,show cq ([bh (n - 1),n,bh (n+1)]:List Int) (0+1+1)=some (bh (n+1)) from rfl,bv9,s3 F _ _ _ (by have:=f1 (bh (n - 1)) l;have:=f1 n l;simp only[be8];omega)];rw[fO,e1,e2,bx8,bx8,<-ac8,<-ac8];rfl
theorem tD(F:Nat)(k:List Int->Option (List Int)):∀(ns:List Int) (l:List Int),(∀n,n∈ns->ka n)->l.length+3*ns.length<=1000000->ij F k ns l=k (l++ns.flatMap qx)
 |[],l,_,_=>by rw[ij];simp
 |n::r,l,h,hl=>by
  simp only[bt8] at hl;have hlen:(qx n).length<=3:=ab8 _ _;rw[ij,aA,aA,if_pos (by omega)]
  show fO F n _ 3 0 l=_
  rw[AE F n (h n (by simp)) _ l (by omega)]
  show ij F k r (l++qx n)=_
  rw[tD F k r _ (fun m hm=>h m (by simp[hm])) (by simp;omega)];simp
theorem Ja(F:Nat)(s:ae)(h:∀n,n∈s.numbers->ka n)(hl:s.numbers.length<=300000):
  ∃out,za F s=some out/\out.length<=900001/\∀x,x∈out<->x=0\/∃n,n∈s.numbers/\x∈qx n:=by
 have hlen:∀ns:List Int,(ns.flatMap qx).length<=3*ns.length:=by
  intro ns
  induction ns with
  |nil=>simp
  |cons n r ih=>
   have:(qx n).length<=3:=ab8 _ _;simp only[ac9,be8,bt8];omega
 have h1:=hlen s.numbers;obtain⟨w,hw⟩:∃w,w=[0]++s.numbers.flatMap qx:=⟨_,rfl⟩;have hwl:w.length<=900001:=by rw[hw,be8,List.length_singleton];omega
 have hs:(nl w).length=w.length:=List.length_mergeSort _;have hc:=wu (nl w);refine⟨BA (nl w),?_,by omega,fun x=>?_⟩
 ·unfold za;rw[aA,tD F _ _ _ h (by simp;omega),<-hw];unfold LU IR;rw[if_pos (by omega),bv9,if_pos hs,if_pos (by omega),bv9]
 ·rw[FX,show x∈nl w<->x∈w from (List.mergeSort_perm _ _).mem_iff,hw];simp
end Go.Proofs.YtelmfadihfcgnaaGreatDoor
