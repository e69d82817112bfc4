/- Part of the proof. -/
import Derived.Test.YtelmfadihfcgnaaGreatDoorFD7PB
import Init.Data.List.Lemmas
set_option linter.unusedSimpArgs false
set_option linter.unusedVariables false
namespace Go.Proofs.YtelmfadihfcgnaaGreatDoor
open Go Go.Pv
set_option maxRecDepth 100000
mutual
theorem Tr.ind{P:Tr->Prop}(h:∀a b c d e ks,(∀t,t∈ks->P t)->P (.mk a b c d e ks)):∀t:Tr,P t
 | .mk a b c d e ks=>h a b c d e ks (Tr.inds h ks)
theorem Tr.inds{P:Tr->Prop}(h:∀a b c d e ks,(∀t,t∈ks->P t)->P (.mk a b c d e ks)):∀(ks:List Tr) (t:Tr),t∈ks->P t
 |[],_,hu=>absurd hu (by simp)
 |t::r,u,hu=>by
  rcases aq9.1 hu with e|hu
  ·rw[e];exact Tr.ind h t
  ·exact Tr.inds h r u hu
end
noncomputable section
mutual
def Tr.fu:Tr->Nat
 | .mk a b c d e ks=>c.length+ks.length+2+Tr.fus ks
def Tr.fus:List Tr->Nat
 |[]=>0
 |t::r=>t.fu+Tr.fus r
end
mutual
def Tr.cnt:Tr->Nat
 | .mk a b c d e ks=>1+Tr.cnts ks
def Tr.cnts:List Tr->Nat
 |[]=>0
 |t::r=>t.cnt+Tr.cnts r
end
mutual
def Tr.dep:Tr->Nat
 | .mk a b c d e ks=>1+Tr.deps ks
def Tr.deps:List Tr->Nat
 |[]=>0
 |t::r=>max t.dep (Tr.deps r)
end
mutual
def Tr.flt:Tr->Int
 | .mk a b c d e ks=>if cI ⟨a,b,c,d,e,Tr.toKs ks⟩=0 then Tr.flts ks else cI ⟨a,b,c,d,e,Tr.toKs ks⟩
def Tr.flts:List Tr->Int
 |[]=>0
 |t::r=>if t.flt=0 then Tr.flts r else t.flt
end
def Tr.toK(t:Tr):aR:=⟨ag t.toT,cc _,iO _⟩
end
theorem Tr.dec(t:Tr):er ag t.toK=some t.toT:=HX t
theorem Tr.toKs_map:∀ks:List Tr,Tr.toKs ks=ks.map Tr.toK
 |[]=>by simp[Tr.toKs]
 |t::r=>by rw[Tr.toKs,Tr.toKs_map r];rfl
theorem gj{ks:List Tr}{n:Nat}(h:n<ks.length):cH (Tr.toKs ks) (n:Int)=some (ks[n].toK):=by
 simp_all[Tr.toKs_map,bU]
theorem Tr.fu_mem:∀{ks:List Tr} {t:Tr},t∈ks->t.fu<=Tr.fus ks
 |u::r,t,h=>by
  rw[Tr.fus];rcases aq9.1 h with e|h
  ·grind
  ·have:=Tr.fu_mem h;omega
theorem Tr.oks_mem:∀{ks:List Tr} {t:Tr},Tr.oks ks->t∈ks->t.ok
 |u::r,t,ho,h=>by
  rw[Tr.oks] at ho;rcases aq9.1 h with e|h
  ·subst e;exact ho.1
  ·exact Tr.oks_mem ho.2 h
theorem eH:maxLen=9223372036854775807:=by decide
theorem Tr.okX{a b c d e ks}(h:(Tr.mk a b c d e ks).ok):okX ⟨a,b,c,d,e,Tr.toKs ks⟩:=by
 rw[Tr.ok] at h;exact⟨h.2.1,h.2.2.1.1,h.2.2.1.2,by simp_all[Tr.toKs_len]⟩
theorem Tr.okks{a b c d e ks}(h:(Tr.mk a b c d e ks).ok):Tr.oks ks/\ks.length<=9223372036854775807:=by
 simp_all[Tr.ok,eH]
theorem Tr.cnt_mem:∀{ks:List Tr} {t:Tr},t∈ks->t.cnt<=Tr.cnts ks
 |u::r,t,h=>by
  rw[Tr.cnts];rcases aq9.1 h with e|h
  ·grind
  ·have:=Tr.cnt_mem h;omega
theorem KS(t:Tr):1<=t.cnt:=by cases t;rw[Tr.cnt];omega
theorem Af:∀ks:List Tr,ks.length<=Tr.cnts ks
 |[]=>by grind
 |t::r=>by rw[Tr.cnts];have:=Af r;have:=KS t;simp;omega
theorem yq:∀(ks:List Tr),(∀t,t∈ks->t.dep<=t.cnt)->Tr.deps ks<=Tr.cnts ks
 |[],_=>by simp[Tr.deps]
 |t::r,h=>by
  rw[Tr.deps,Tr.cnts];have h1:=h t (by simp);have h2:=yq r fun u hu=>h u (by simp[hu]);omega
theorem Oq:∀t:Tr,t.dep<=t.cnt:=Tr.ind fun a b c d e ks ih=>by simp_all[Tr.dep,Tr.cnt,yq]
theorem OY:∀t:Tr,t.ok->∀F,t.fu<=F->MZ F t.toT=some t.flt:=Tr.ind fun a b c d e ks ih ok F hF=>by
 rw[Tr.fu] at hF;obtain⟨F,rfl⟩:∃G,F=G+1:=⟨F - 1,by omega⟩
 show r5 (MZ F) F (Tr.mk a b c d e ks).toT=_
 rw[Tr.toT,I6 F _ _ (Tr.okX ok),Tr.flt]
 have hl:∀l:List Tr,(∀t,t∈l->t∈ks)->kr (MZ F) F (some 0) (Tr.toKs l)=some (Tr.flts l):=by
  intro l
  induction l with
  |nil=>simp_all[Tr.toKs,kr,Tr.flts]
  |cons t r ihr=>
   intro hm;have ht:=hm t (by simp);rw[Tr.toKs_map,bh9,kr,Tr.dec,bt9,ih t ht (Tr.oks_mem (Tr.okks ok).1 ht) F (by have:=Tr.fu_mem ht;omega),bt9,<-Tr.toKs_map,ihr fun u hu=>hm u (by simp[hu]),Tr.flts]
   grind
 grind
theorem OT:∀t:Tr,t.ok->∀F,t.fu<=F->MW F t.toT=some t.flt:=Tr.ind fun a b c d e ks ih ok F hF=>by
 rw[Tr.fu] at hF;obtain⟨F,rfl⟩:∃G,F=G+1:=⟨F - 1,by omega⟩
 show A3 (MW F) F (Tr.mk a b c d e ks).toT=_
 rw[Tr.toT,A3,LZ F _ (Tr.okX ok),bt9,Tr.flt,az];have hk:=(Tr.okks ok).2;have hlen:(aH.mk a b c d e (Tr.toKs ks)).Kids.length=ks.length:=Tr.toKs_len ks;rw[hlen,if_pos (show((ks.length:Nat):Int)<=9223372036854775807 by omega),show(((ks.length:Nat):Int)).toNat=ks.length by omega]
 have hl:∀m n:Nat,n+m=ks.length->nq (MW F) F ⟨a,b,c,d,e,Tr.toKs ks⟩ (some 0) m (n:Int)=some (Tr.flts (ks.drop n)):=by
  intro m
  induction m with
  |zero=>simp_all[nq,Tr.flts]
  |succ m ihm=>
   intro n h;have hn:n<ks.length:=by omega
   have ht:ks[n]∈ks:=az8 _;rw[nq,gj hn,bt9,Tr.dec,bt9,ih _ ht (Tr.oks_mem (Tr.okks ok).1 ht) F (by have:=Tr.fu_mem ht;omega),bt9,show((n:Int)+1)=((n+1:Nat):Int) from rfl,ihm (n+1) (by omega),bo8 hn,Tr.flts]
   grind
 have:=hl ks.length 0 (by omega)
 grind
theorem OV:∀t:Tr,t.ok->∀F,t.fu<=F->∀most:Nat,most<=60->MY F t.toT (most:Int)=some ((min t.cnt (most+1):Nat):Int):=Tr.ind fun a b c d e ks ih ok F hF most hmost=>by
 rw[Tr.fu] at hF;obtain⟨F,rfl⟩:∃G,F=G+1:=⟨F - 1,by omega⟩
 show A5 (MY F) F (Tr.mk a b c d e ks).toT (most:Int)=_
 rw[Tr.toT,A5,az,Tr.cnt];have hk:=(Tr.okks ok).2
 have hl:∀fuel n j:Nat,ks.length<fuel+j->j<=ks.length->n<=most+1->pq (MY F) F ⟨a,b,c,d,e,Tr.toKs ks⟩ (most:Int) (fun n4=>some n4) fuel (n:Int) (j:Int)=some ((min (n+Tr.cnts (ks.drop j)) (most+1):Nat):Int):=by
  intro fuel
  induction fuel with
  |zero=>grind
  |succ fuel ihf=>
   intro n j h1 h2 h3;rw[pq];have hlen:(aH.mk a b c d e (Tr.toKs ks)).Kids.length=ks.length:=Tr.toKs_len ks;rw[hlen];by_cases hj:j<ks.length
   ·rw[if_pos (decide_eq_true (by omega))];by_cases hn:n<=most
    ·have ht:ks[j]∈ks:=az8 _
     rw[if_pos (decide_eq_true (by omega)),gj hj,bt9,Tr.dec,bt9,cA (by omega) (by omega),show((most:Int) - (n:Int))=((most - n:Nat):Int) by omega,
      ih _ ht (Tr.oks_mem (Tr.okks ok).1 ht) F (by have:=Tr.fu_mem ht;omega) (most - n) (by omega),bt9,cA (by omega) (by omega),cA (by omega) (by omega)]
     have:=ihf (n+min ks[j].cnt (most - n+1)) (j+1) (by omega) (by omega) (by omega);rw[show((n:Int)+((min ks[j].cnt (most - n+1):Nat):Int))=((n+min ks[j].cnt (most - n+1):Nat):Int) by omega,show((j:Int)+1)=((j+1:Nat):Int) from rfl,this,bo8 hj,Tr.cnts]
     grind
    grind
   ·rw[if_neg (by simp;omega),al9 (by omega),Tr.cnts]
    grind
 have:=hl F 1 0 (by omega) (by omega) (by omega)
 grind
theorem OU:∀t:Tr,t.ok->∀F,t.fu<=F->t.cnt<=60->MX F t.toT=some (t.dep:Int):=Tr.ind fun a b c d e ks ih ok F hF hc=>by
 rw[Tr.fu] at hF;rw[Tr.cnt] at hc;obtain⟨F,rfl⟩:∃G,F=G+1:=⟨F - 1,by omega⟩
 show A4 (MX F) F (Tr.mk a b c d e ks).toT=_
 have hlen:(aH.mk a b c d e (Tr.toKs ks)).Kids.length=ks.length:=Tr.toKs_len ks;have hk:=(Tr.okks ok).2;rw[Tr.toT,A4,az,hlen,if_pos (by omega),show(((ks.length:Nat):Int)).toNat=ks.length by omega,Tr.dep]
 have hl:∀m n q:Nat,n+m=ks.length->nr (MX F) F ⟨a,b,c,d,e,Tr.toKs ks⟩ (fun n3=>some (bt (n3+1))) m (n:Int) (q:Int)=some (bt (((max q (Tr.deps (ks.drop n)):Nat):Int)+1)):=by
  intro m
  induction m with
  |zero=>simp_all[nr,Tr.deps]
  |succ m ihm=>
   intro n q h;have hn:n<ks.length:=by omega
   have ht:ks[n]∈ks:=az8 _;rw[nr,gj hn,bt9,Tr.dec,bt9,ih _ ht (Tr.oks_mem (Tr.okks ok).1 ht) F (by have:=Tr.fu_mem ht;omega) (by have:=Tr.cnt_mem ht;omega),bt9];rw[show(if (ks[n].dep:Int)>(q:Int) then (ks[n].dep:Int) else (q:Int))=((max q ks[n].dep:Nat):Int) by grind,show((n:Int)+1)=((n+1:Nat):Int) from rfl,ihm (n+1) _ (by omega),bo8 hn,Tr.deps,Nat.max_assoc]
 have:=hl ks.length 0 0 (by omega);rw[bn8] at this;rw[show((0:Nat):Int)=0 from rfl] at this;rw[this];have h1:=yq ks fun t _=>Oq t;rw[cA (by omega) (by omega)]
 grind
theorem OZ:∀t:Tr,t.ok->∀F,t.fu<=F->∀lvl:Int,1<=lvl->lvl<=13->∃a b:Int,M0 F t.toT lvl=some (a,b)/\1<=a/\a<=61/\lvl<=b/\b<=13/\(12<b<->12<lvl+t.dep - 1)/\(b<=12->a=min (t.cnt:Int) 61):=Tr.ind fun a b c d e ks ih ok F hF lvl h1 h13=>by
 rw[Tr.fu] at hF;obtain⟨F,rfl⟩:∃G,F=G+1:=⟨F - 1,by omega⟩
 show ∃p q:Int,A6 (M0 F) F (Tr.mk a b c d e ks).toT lvl=some (p,q)/\_
 rw[Tr.toT,A6,Tr.dep,Tr.cnt];by_cases hq:lvl>12
 ·rw[if_pos (decide_eq_true hq)]
  grind
 ·rw[if_neg (by grind),az]
  have hl:∀l:List Tr,(∀t,t∈l->t∈ks)->∀n q:Int,1<=n->n<=61->lvl<=q->q<=13->∃p r:Int,nt (M0 F) F lvl (fun n5 n6=>some (n5,n6)) (Tr.toKs l) n q=some (p,r)/\1<=p/\p<=61/\lvl<=r/\r<=13/\(12<r<->12<q\/12<lvl+Tr.deps l)/\(r<=12->p=min (n+(Tr.cnts l:Nat)) 61):=by
   intro l
   induction l with
   |nil=>
    intro _ n q g1 g2 g3 g4;refine⟨n,q,by simp only[Tr.toKs,nt],g1,g2,g3,g4,?_,?_⟩
    ·rw[Tr.deps];omega
    grind [Tr.cnts]
   |cons t r ihr=>
    intro hm n q g1 g2 g3 g4;have ht:=hm t (by simp);obtain⟨p',q',e1,e2,e3,e4,e5,e6,e7⟩:=ih t ht (Tr.oks_mem (Tr.okks ok).1 ht) F (by have:=Tr.fu_mem ht;omega) (lvl+1) (by omega) (by omega);rw[Tr.toKs_map,bh9,nt,Tr.dec,bt9,cA (by omega) (by omega),e1,bt9,<-Tr.toKs_map];dsimp only;rw[cA (by omega) (by omega)];obtain⟨p,s,f1,f2,f3,f4,f5,f6,f7⟩:=ihr (fun u hu=>hm u (by simp[hu])) (if 61<n+p' then 61 else n+p') (if q'>q then q' else q) (by grind) (by grind) (by grind) (by grind);refine⟨p,s,f1,f2,f3,f4,f5,?_,?_⟩
    ·rw[f6,Tr.deps];omega
    ·intro hs;have h7:=f7 hs;have hq':¬12<s:=by omega
     rw[f6] at hq';have:q'<=12:=by grind
     have h8:=e7 this;rw[h7,Tr.cnts];omega
  obtain⟨p,r,e1,e2,e3,e4,e5,e6,e7⟩:=hl ks (fun _ h=>h) 1 lvl (by omega) (by omega) (by omega) (by omega)<;>grind
noncomputable def vT(t:Tr):Int:=if 60<t.cnt\/12<t.dep then 3 else t.flt
theorem Pq(t:Tr)(ok:t.ok)(F:Nat)(hF:t.fu<=F):P4 F t.toT=some (vT t):=by
 obtain⟨a,b,e1,e2,e3,e4,e5,e6,e7⟩:=OZ t ok F hF 1 (by omega) (by omega);unfold P4;rw[e1,bt9];dsimp only;unfold vT;by_cases hb:12<b
 ·grind
 ·have h7:=e7 (by omega);have hd:¬(12<t.dep):=fun h=>hb (e6.2 (by omega));by_cases hc:60<t.cnt
  ·grind
  ·rw[if_neg (by simp;omega),if_neg (by simp;omega),if_neg (by omega),OY t ok F hF];rfl
theorem Pj(t:Tr)(ok:t.ok)(F:Nat)(hF:t.fu<=F):P1 F t.toT=some (vT t):=by
 have h:=OV t ok F hF 60 (by omega);rw[show((60:Nat):Int)=60 from rfl] at h;unfold P1 vT;rw[h,bt9];by_cases hc:60<t.cnt
 ·grind
 ·rw[if_neg (by simp;omega),OU t ok F hF (by omega),bt9];by_cases hd:12<t.dep
  ·grind
  ·rw[if_neg (by simp;omega),if_neg (by omega),OT t ok F hF];rfl
end Go.Proofs.YtelmfadihfcgnaaGreatDoor
namespace Go.Proofs.YtelmfadihfcgnaaGreatDoor
open Go Go.Pv
set_option maxRecDepth 100000
def okTFact'(f:aW):Prop:=pc f.Kind/\pc f.Subject/\(∀p,p∈f.Texts->pc p.Name/\pc p.Value)/\f.Texts.length<=maxLen/\(∀p,p∈f.Numbers->pc p.Name)/\f.Numbers.length<=maxLen
def PN(a b:B8):Bool:=Op.bytesLess a b||a==b
def Eg(a:List bu):List bu->Nat->Int
 |[],_=>0
 |x::l,n=>if cO x.Name=false then 8 else if je x.Value=false then 2 else if (decide (0<n)&&PN x.Name (a.getD (n - 1) ⟨[],[]⟩).Name)=true then 10 else Eg a l (n+1)
def FL(a:List aL):List aL->Nat->Int
 |[],_=>0
 |x::l,n=>if cO x.Name=false then 8 else if pQ x.N=true then 9 else if (decide (0<n)&&PN x.Name (a.getD (n - 1) ⟨[],0⟩).Name)=true then 10 else FL a l (n+1)
theorem kS{α:Type}{a:List α}{x:α}{l:List α}{n:Nat}(h:a.drop n=x::l):n<a.length/\cH a (n:Int)=some x/\x∈a/\a.drop (n+1)=l:=by
 have hn:n<a.length:=by
  rcases bm8 n a.length with h2|h2
  ·exact h2
  ·rw[al9 h2] at h;cases h
 rw[bo8 hn] at h
 injection h with hx hd
 exact⟨hn,by rw[bU hn,hx],hx ▸ az8 _,hd⟩
theorem xd(F:Nat)(f:aW)(hf:okTFact' f)(k:Option Int):∀(l:List bu) (n:Nat),f.Texts.drop n=l->nO F f k l (n:Int)=if Eg f.Texts l n=0 then k else some (Eg f.Texts l n)
 |[],n,_=>by simp[nO,Eg]
 |x::l,n,h=>by
  obtain⟨hn,hi,hm,hd⟩:=kS h;have hx:=hf.2.2.1 x hm;rw[nO,lR F _ hx.1,bt9,az,show((n:Int)+1)=((n+1:Nat):Int) from rfl,xd F f hf k l (n+1) hd,ta F _ hx.2,Eg];cases cO x.Name
  ·simp
  ·simp only[bp9,cf9,if_false,bt9];cases je x.Value
   ·simp
   ·simp only[bp9,cf9,if_false];by_cases h0:0<n
    ·rw[if_pos (decide_eq_true (by omega)),uf (d:=⟨[],[]⟩) h0 (by omega) hf.2.2.2.1,bt9,decide_eq_true h0];simp only[ah9,PN];cases (Op.bytesLess x.Name (f.Texts.getD (n - 1) ⟨[],[]⟩).Name||x.Name==(f.Texts.getD (n - 1) ⟨[],[]⟩).Name)<;>simp
    ·rw[if_neg (by simp;omega),decide_eq_false h0];simp
theorem xc(F:Nat)(f:aW)(hf:okTFact' f)(k:Option Int):∀(l:List aL) (n:Nat),f.Numbers.drop n=l->nN F f k l (n:Int)=if FL f.Numbers l n=0 then k else some (FL f.Numbers l n)
 |[],n,_=>by simp[nN,FL]
 |x::l,n,h=>by
  obtain⟨hn,hi,hm,hd⟩:=kS h;have hx:=hf.2.2.2.2.1 x hm;rw[nN,lR F _ hx,bt9,az,show((n:Int)+1)=((n+1:Nat):Int) from rfl,xc F f hf k l (n+1) hd,JA,FL];cases cO x.Name
  ·simp
  ·simp only[bp9,cf9,if_false,bt9];cases pQ x.N
   ·simp only[bp9,br9,cf9,if_false];by_cases h0:0<n
    ·rw[if_pos (decide_eq_true (by omega)),uf (d:=⟨[],0⟩) h0 (by omega) hf.2.2.2.2.2,bt9,decide_eq_true h0];simp only[ah9,PN];cases (Op.bytesLess x.Name (f.Numbers.getD (n - 1) ⟨[],0⟩).Name||x.Name==(f.Numbers.getD (n - 1) ⟨[],0⟩).Name)<;>simp
    ·rw[if_neg (by simp;omega),decide_eq_false h0];simp
   ·simp
def vF(f:aW):Int:=if cO f.Kind=false then 8 else if je f.Subject=false then 2 else if 30<f.Texts.length then 3 else if Eg f.Texts f.Texts 0=0 then (if 30<f.Numbers.length then 3 else FL f.Numbers f.Numbers 0) else Eg f.Texts f.Texts 0
theorem Pc(F:Nat)(f:aW)(hf:okTFact' f):RR F f=some (vF f):=by
 unfold RR vF;have h1:=fun k=>xd F f hf k f.Texts 0 rfl;have h2:=xc F f hf (some 0) f.Numbers 0 rfl;rw[show((0:Nat):Int)=0 from rfl] at h1 h2;rw[lR F _ hf.1,ta F _ hf.2.1];simp only[az,h1,h2,bt9,show decide (((f.Texts.length:Nat):Int)>30)=decide (30<f.Texts.length) from decide_eq_decide.2 (by omega),show decide (((f.Numbers.length:Nat):Int)>30)=decide (30<f.Numbers.length) from decide_eq_decide.2 (by omega)];by_cases a1:cO f.Kind=true<;>by_cases a2:je f.Subject=true<;>by_cases a3:30<f.Texts.length<;>by_cases a4:Eg f.Texts f.Texts 0=0<;>by_cases a5:30<f.Numbers.length<;>by_cases a6:FL f.Numbers f.Numbers 0=0<;>simp[a1,a2,a3,a4,a5,a6]
def fT(nm:B8):List bu->Bool×B8->Bool×B8
 |[],p=>p
 |x::l,p=>if (x.Name==nm)=true then fT nm l (true,x.Value) else fT nm l p
def fN(nm:B8):List aL->Bool×Int->Bool×Int
 |[],p=>p
 |x::l,p=>if (x.Name==nm)=true then fN nm l (true,x.N) else fN nm l p
def oU(f:aW)(nm:B8):ah:=⟨(fT nm f.Texts (false,[])).1,(fN nm f.Numbers (false,0)).1,(fT nm f.Texts (false,[])).2,(fN nm f.Numbers (false,0)).2⟩
def zV:ac:=⟨false,false,[],0⟩
def gV(m:List (B8×ac))(nm:B8):ac:=(aY m nm).getD zV
def PF:List bu->List (B8×ac)->List (B8×ac)
 |[],m=>m
 |x::l,m=>PF l (cK m x.Name ⟨true,(gV m x.Name).hasNumber,x.Value,(gV m x.Name).number⟩)
def PG:List aL->List (B8×ac)->List (B8×ac)
 |[],m=>m
 |x::l,m=>PG l (cK m x.Name ⟨(gV m x.Name).hasText,true,(gV m x.Name).text,x.N⟩)
def j4(f:aW):aq:=⟨PG f.Numbers (PF f.Texts []),none⟩
theorem Ib(m:List (B8×ac))(k nm:B8)(v:ac):gV (cK m k v) nm=if k=nm then v else gV m nm:=by
 unfold gV;rw[dM];split<;>rfl
theorem CL(nm:B8):∀(l:List bu) (m:List (B8×ac)),gV (PF l m) nm=⟨(fT nm l ((gV m nm).hasText,(gV m nm).text)).1,(gV m nm).hasNumber,(fT nm l ((gV m nm).hasText,(gV m nm).text)).2,(gV m nm).number⟩
 |[],m=>by rw[PF,fT]
 |x::l,m=>by
  rw[PF,CL nm l,Ib,fT];by_cases h:x.Name=nm
  ·subst h;rw[if_pos rfl,if_pos (by simp)]
  ·rw[if_neg h,if_neg (by simp[h])]
theorem CM(nm:B8):∀(l:List aL) (m:List (B8×ac)),gV (PG l m) nm=⟨(gV m nm).hasText,(fN nm l ((gV m nm).hasNumber,(gV m nm).number)).1,(gV m nm).text,(fN nm l ((gV m nm).hasNumber,(gV m nm).number)).2⟩
 |[],m=>by rw[PG,fN]
 |x::l,m=>by
  rw[PG,CM nm l,Ib,fN];by_cases h:x.Name=nm
  ·subst h;rw[if_pos rfl,if_pos (by simp)]
  ·rw[if_neg h,if_neg (by simp[h])]
theorem F3(f:aW)(nm:B8):gV (j4 f).by_ nm=⟨(oU f nm).isText,(oU f nm).isNumber,(oU f nm).text,(oU f nm).number⟩:=by
 unfold j4 oU;dsimp only;rw[CM,CL];rfl
theorem xb(F:Nat)(k:List (B8×ac)->Option aq):∀(l:List bu) m,py F k l m=k (PF l m)
 |[],m=>rfl
 |x::l,m=>by rw[py,xb F k l];rfl
theorem xa(F:Nat)(k:List (B8×ac)->Option aq):∀(l:List aL) m,px F k l m=k (PG l m)
 |[],m=>rfl
 |x::l,m=>by rw[px,xa F k l];rfl
theorem Pb(F:Nat)(f:aW):RQ F f=some (j4 f):=by
 unfold RQ;simp only[az,xb,xa];rfl
end Go.Proofs.YtelmfadihfcgnaaGreatDoor
namespace Go.Proofs.YtelmfadihfcgnaaGreatDoor
open Go Go.Pv
set_option maxRecDepth 100000
noncomputable section
mutual
def Tr.cd:Tr->KV
 | .mk k nm tx op n ks=>
  if k=2 then vm 147 ci ⟨nm,tx⟩ else if k=3 then vm 148 bL ⟨nm,tx⟩ else if k=4 then vm 150 cj ⟨nm⟩
  else if k=5 then vm 152 bK ⟨nm,op,n⟩ else if k=6 then vm 154 cz ⟨(Tr.cds ks).headD ⟨0,.con (.bool true)⟩⟩ else if k=7 then vm 156 cn ⟨Tr.cds ks⟩
  else if k=8 then vm 157 cm ⟨Tr.cds ks⟩ else vm 159 cC ⟨⟩
def Tr.cds:List Tr->List KV
 |[]=>[]
 |t::r=>t.cd::Tr.cds r
end
end
theorem gn:∀{ks:List Tr} {t:Tr},Tr.flts ks=0->t∈ks->t.flt=0
 |u::r,t,h,hm=>by
  rw[Tr.flts] at h;by_cases h0:u.flt=0
  ·rw[if_pos h0] at h;rcases aq9.1 hm with e|hm
   ·rw[e];exact h0
   ·exact gn h hm
  grind
theorem kR{a b c d e ks}(h:(Tr.mk a b c d e ks).flt=0):cI ⟨a,b,c,d,e,Tr.toKs ks⟩=0/\Tr.flts ks=0:=by
 rw[Tr.flt] at h
 grind
theorem kJ{x:aH}(h:cI x=0):1<=x.Kind/\x.Kind<=8:=by
 unfold cI at h
 grind
theorem mG{x:aH}(h:cI x=0)(h6:x.Kind=6):x.Kids.length=1:=by
 simp_all[cI]
theorem Jg:∀t:Tr,t.ok->t.flt=0->t.cnt<=60->∀F,t.fu<=F->Ln F t.toT=some t.cd:=Tr.ind fun k nm tx op n ks ih ok hz hc F hF=>by
 rw[Tr.fu] at hF;rw[Tr.cnt] at hc;obtain⟨hnode,hfl⟩:=kR hz;obtain⟨F,rfl⟩:∃G,F=G+1:=⟨F - 1,by omega⟩
 show A9 (Ln F) F (Tr.mk k nm tx op n ks).toT=_
 have hl:∀(kk:List KV->Option KV) (l:List Tr),(∀t,t∈l->t∈ks)->∀acc:List KV,acc.length+l.length<=60->nR (Ln F) F kk (Tr.toKs l) acc=kk (acc++Tr.cds l):=by
  intro kk l
  induction l with
  |nil=>simp_all[Tr.toKs,nR,Tr.cds]
  |cons t r ihr=>
   intro hm acc hlen;simp only[br8] at hlen;have ht:=hm t (by simp)
   rw[Tr.toKs_map,bh9,nR,Tr.dec,bt9,ih t ht (Tr.oks_mem (Tr.okks ok).1 ht) (gn hfl ht) (by have:=Tr.cnt_mem ht;omega) F (by have:=Tr.fu_mem ht;omega),bt9,<-Tr.toKs_map,
    if_pos (by simp;omega),ihr (fun u hu=>hm u (by simp[hu])) _ (by simp;omega),Tr.cds]
   simp
 have hlen:=Af ks;rw[Tr.toT,A9,az,hl _ ks (fun _ h=>h) [] (by simp;omega),Tr.cd,ad9];dsimp only;have b1:∀q:Int,((k==q)=true)<->k=q:=fun q=>beq_iff_eq;simp only[b1];by_cases h2:k=2
 ·grind
 rw[if_neg h2,if_neg h2];by_cases h2:k=3
 ·grind
 rw[if_neg h2,if_neg h2];by_cases h2:k=4
 ·grind
 rw[if_neg h2,if_neg h2];by_cases h2:k=5
 ·grind
 rw[if_neg h2,if_neg h2];by_cases h2:k=6
 ·rw[if_pos h2,if_pos h2];have h1:ks.length=1:=by rw[<-mG hnode h2];exact(Tr.toKs_len ks).symm
  match ks,h1 with
  |[t],_=>simp only[Tr.cds];rfl
 grind
def Bq(s w:B8):Bool:=decide (w.length<=s.length)&&(s.take w.length==w)
def AI(a op b:Int):Bool:=if op=1 then decide (a<b) else if op=2 then decide (a<=b) else if op=3 then a==b else if op=4 then decide (a>=b) else decide (a>b)
def Gb(k:Int)(s:B8)(l:List B8):Bool:=l.any fun w=>w==s||(k==3)&&Bq s w
def iz(k op n:Int)(tx:List B8)(x:ah):Bool:=if k=4 then x.isText||x.isNumber else if k=5 then x.isNumber&&AI x.number op n else x.isText&&Gb k x.text tx
noncomputable section
mutual
def Tr.tru(f:aW):Tr->Bool
 | .mk k nm tx op n ks=>if k=1 then true else if k=6 then !(Tr.allT f ks) else if k=7 then Tr.allT f ks else if k=8 then Tr.anyT f ks else iz k op n tx (oU f nm)
def Tr.allT(f:aW):List Tr->Bool
 |[]=>true
 |t::r=>Tr.tru f t&&Tr.allT f r
def Tr.anyT(f:aW):List Tr->Bool
 |[]=>false
 |t::r=>Tr.tru f t||Tr.anyT f r
end
end
theorem LP(F:Nat)(op a b:Int):Jq F op a b=some (AI a op b):=by
 unfold Jq AI
 grind
theorem D4(F:Nat)(a op b:Int):Jh F a op b=some (AI a op b):=by
 unfold Jh AI
 grind
theorem D5(F:Nat)(s w:B8):Jk F s w=some (Bq s w):=by
 unfold Jk Bq
 grind
theorem LN(F:Nat)(s w:B8):LO F s w=some (Bq s w):=D5 F s w
theorem zb(F:Nat)(s w:B8):CE F s w=some (Bq s w):=by simp_all[CE,D5]
theorem vj(F:Nat)(x:aH)(v:ah)(hl:x.Texts.length<=9223372036854775807)(hv:v.isText=true):∀(fuel j:Nat),x.Texts.length<fuel+j->j<=x.Texts.length->j3 F x v (some false) fuel (j:Int)=some (Gb x.Kind v.text (x.Texts.drop j))
 |0,j,h1,h2=>by omega
 |fuel+1,j,h1,h2=>by
  rw[j3];by_cases hj:j<x.Texts.length
  ·rw[if_pos (decide_eq_true (by omega)),if_pos hv,az,bU hj,bt9];dsimp only;rw[cA (by omega) (by omega),show((j:Int)+1)=((j+1:Nat):Int) from rfl,vj F x v hl hv fuel (j+1) (by omega) (by omega),bo8 hj]
   grind [Gb,LN]
  ·rw[if_neg (by simp;omega),al9 (by omega)];rfl
theorem Mf(F:Nat)(x:aH)(v:ah)(hl:x.Texts.length<=9223372036854775807)(hF:x.Texts.length<F):FF F x v=some (iz x.Kind x.Op x.N x.Texts v):=by
 unfold FF iz;simp only[beq_iff_eq];by_cases h4:x.Kind=4
 ·grind
 ·rw[if_neg h4,if_neg h4];by_cases h5:x.Kind=5
  ·rw[if_pos h5,if_pos h5,LP];grind
  ·rw[if_neg h5,if_neg h5,az];cases hv:v.isText
   ·obtain⟨G,rfl⟩:∃G,F=G+1:=⟨F - 1,by omega⟩
    grind [j3]
   ·have:=vj F x v hl hv F 0 (by omega) (by omega)
    grind
end Go.Proofs.YtelmfadihfcgnaaGreatDoor
namespace Go.Proofs.YtelmfadihfcgnaaGreatDoor
open Go Go.Pv
set_option maxRecDepth 100000
section
variable{τ σ:Type}
theorem dh{enc:τ->List V}(inj:∀a b,enc a=enc b->a=b){T:Nat}{y:τ}:iw enc T (vm T enc y)=some y:=JT inj rfl rfl
theorem aV{enc:τ->List V}{enc':σ->List V}{T T':Nat}{y:τ}(h:T≠T'):iw enc' T' (vm T enc y)=none:=JS (x:=vm T enc y) h
end
theorem BW(a b:dD)(h:ci a=ci b):a=b:=by
 obtain⟨a1,a2⟩:=a;obtain⟨b1,b2⟩:=b;simp only[ci,bv9,and_true] at h
 grind [tW]
theorem pf(a b:cT)(h:bL a=bL b):a=b:=by
 obtain⟨a1,a2⟩:=a;obtain⟨b1,b2⟩:=b;simp only[bL,bv9,and_true] at h
 grind [tW]
theorem ya(a b:dp)(h:cj a=cj b):a=b:=by
 obtain⟨a1⟩:=a<;>simp_all[cj]
theorem pe(a b:cS)(h:bK a=bK b):a=b:=by
 obtain⟨a1,a2,a3⟩:=a<;>simp_all[bK]
theorem KV.enc_inj{a b:KV}(h:a.enc=b.enc):a=b:=by
 obtain⟨a1,a2⟩:=a<;>simp_all[KV.enc]
theorem Aa{a b:List KV}(h:a.map KV.enc=b.map KV.enc):a=b:=List.map_inj_right (fun x y h=>KV.enc_inj h) |>.1 h
theorem x5(a b:dn)(h:cz a=cz b):a=b:=by
 obtain⟨a1⟩:=a;obtain⟨b1⟩:=b;have e1:a1=b1:=KV.enc_inj h
 grind
theorem yc(a b:dt)(h:cn a=cn b):a=b:=by
 obtain⟨a1⟩:=a;obtain⟨b1⟩:=b;simp only[cn,bv9,and_true] at h
 grind [Aa]
theorem yb(a b:dq)(h:cm a=cm b):a=b:=by
 obtain⟨a1⟩:=a;obtain⟨b1⟩:=b;simp only[cm,bv9,and_true] at h
 grind [Aa]
theorem Ak(a b:de)(h:cC a=cC b):a=b:=rfl
def tv(b:Bool):Int:=if b=true then 1 else 2
theorem fe(F:Nat)(b:Bool):Fv F b=some (tv b):=by cases b<;>rfl
theorem DL{p:Bool}{n:Nat}:(if p=true then some ((n:Nat):Int) else some (-1)).bind (fun y3:Int=>some (decide (y3>=0)))=some p:=by
 cases p
 ·rfl
 ·simp
theorem u4(F:Nat)(l:List B8)(s:B8):M1 F l s=some (l.any fun w=>s==w):=by
 unfold M1 L8;have h:=E0 (g:=l0 F s (some (-1))) (fun w=>s==w) (fun _=>rfl) (fun x l n=>by rw[l0]) l 0
 grind [az,DL]
theorem xk(F:Nat)(l:List B8)(b c:Bool)(s:B8)(n:Int):u5 F l b c s n=some (l.any fun w=>Bq s w):=by
 unfold u5 yX;have h:=E0 (g:=gR F b c s n (some (-1))) (fun w=>Bq s w) (fun _=>rfl) (fun x l m=>by simp_all[gR,Lq,zb]) l 0
 grind [az,DL]
theorem IL(s:B8):Bq s s=true:=by simp[Bq]
theorem J2(s:B8)(l:List B8):Gb 3 s l=l.any fun w=>Bq s w:=by
 unfold Gb
 congr 1
 funext w
 simp_all[IL]
theorem J3(s:B8)(l:List B8):Gb 2 s l=l.any fun w=>s==w:=by
 unfold Gb
 grind
section
variable(F:Nat)(f:aW)(nm:B8)
theorem s8:Bb F (j4 f) nm=some (⟨(oU f nm).isText,(oU f nm).isNumber,(oU f nm).text,(oU f nm).number⟩,true):=by
 rw[<-F3];rfl
theorem Ls(op n:Int)(tx:List B8):CA F ⟨nm,tx⟩ (j4 f)=some (tv (iz 2 op n tx (oU f nm))):=by
 unfold CA;rw[s8,bt9];dsimp only;rw[u4,fe,bt9,fe];unfold iz;rw[J3];cases (oU f nm).isText<;>rfl
theorem Lr(op n:Int)(tx:List B8):Cz F ⟨nm,tx⟩ (j4 f)=some (tv (iz 3 op n tx (oU f nm))):=by
 unfold Cz;rw[s8,bt9];dsimp only;rw[xk,fe,bt9,fe];unfold iz;rw[J2];cases (oU f nm).isText<;>rfl
theorem Lp(op n:Int)(tx:List B8):Cy F ⟨nm⟩ (j4 f)=some (tv (iz 4 op n tx (oU f nm))):=by
 unfold Cy;rw[s8,bt9];dsimp only;rw[fe,fe];unfold iz;cases (oU f nm).isText<;>rfl
theorem Lo(op n:Int)(tx:List B8):Cx F ⟨nm,op,n⟩ (j4 f)=some (tv (iz 5 op n tx (oU f nm))):=by
 unfold Cx;rw[s8,bt9];dsimp only;rw[D4,fe,bt9,fe];unfold iz;cases (oU f nm).isNumber<;>rfl
end
theorem KC(f:aW):∀t:Tr,t.ok->t.flt=0->∀F,t.fu<=F->dP F t.cd (j4 f)=some (tv (t.tru f)):=Tr.ind fun k nm tx op n ks ih ok hz F hF=>by
 rw[Tr.fu] at hF;obtain⟨hnode,hfl⟩:=kR hz;obtain⟨F,rfl⟩:∃G,F=G+1:=⟨F - 1,by omega⟩
 show gO (dP F) F (Tr.mk k nm tx op n ks).cd (j4 f)=_
 have hkid:∀t,t∈ks->dP F t.cd (j4 f)=some (tv (t.tru f)):=fun t ht=>ih t ht (Tr.oks_mem (Tr.okks ok).1 ht) (gn hfl ht) F (by have:=Tr.fu_mem ht;omega);have hkk:=kJ hnode;dsimp only at hkk;have hk':k=1\/k=2\/k=3\/k=4\/k=5\/k=6\/k=7\/k=8:=by omega
 rw[Tr.cd,Tr.tru]
 have hall:∀l:List Tr,(∀t,t∈l->t∈ks)->gz (dP F) F (j4 f) (fun n4=>some n4) (Tr.cds l) 1=some (tv (Tr.allT f l)):=by
  intro l
  induction l with
  |nil=>intro _;rw[Tr.cds,Tr.allT];rfl
  |cons t r ihr=>
   intro hm;rw[Tr.cds,gz,hkid t (hm t (by simp)),bt9,az,Tr.allT];cases t.tru f
   ·rfl
   ·exact ihr fun u hu=>hm u (by simp[hu])
 have hany:∀l:List Tr,(∀t,t∈l->t∈ks)->gy (dP F) F (j4 f) (fun n4=>some n4) (Tr.cds l) 2=some (tv (Tr.anyT f l)):=by
  intro l
  induction l with
  |nil=>intro _;rw[Tr.cds,Tr.anyT];rfl
  |cons t r ihr=>
   intro hm;rw[Tr.cds,gy,hkid t (hm t (by simp)),bt9,az,Tr.anyT];cases t.tru f
   ·exact ihr fun u hu=>hm u (by simp[hu])
   ·rfl
 unfold gO;rcases hk' with e|e|e|e|e|e|e|e
 ·subst e;simp only[show ¬(1:Int)=2 by decide,show ¬(1:Int)=3 by decide,show ¬(1:Int)=4 by decide,show ¬(1:Int)=5 by decide,show ¬(1:Int)=6 by decide,show ¬(1:Int)=7 by decide,show ¬(1:Int)=8 by decide,if_false];rw[aV (by decide),aV (by decide),aV (by decide),aV (by decide),aV (by decide),aV (by decide),aV (by decide),dh Ak];rfl
 ·subst e;rw[if_pos rfl,dh BW];exact Ls F f nm op n tx
 ·subst e;rw[if_neg (by decide),if_pos rfl,aV (by decide),dh pf];exact Lr F f nm op n tx
 ·subst e;rw[if_neg (by decide),if_neg (by decide),if_pos rfl,aV (by decide),aV (by decide),dh ya];exact Lp F f nm op n tx
 ·subst e;rw[if_neg (by decide),if_neg (by decide),if_neg (by decide),if_pos rfl,aV (by decide),aV (by decide),aV (by decide),dh pe];exact Lo F f nm op n tx
 ·subst e;rw[if_neg (by decide),if_neg (by decide),if_neg (by decide),if_neg (by decide),if_pos rfl,aV (by decide),aV (by decide),aV (by decide),aV (by decide),dh x5];have h1:ks.length=1:=by rw[<-mG hnode rfl];exact(Tr.toKs_len ks).symm
  match ks,h1,hkid with
  |[t],_,hkid=>
   show Cw (dP F) F ⟨(Tr.cds [t]).headD _⟩ (j4 f)=_
   rw[Tr.cds,List.headD_cons,Cw,hkid t (by simp),bt9,if_neg (by decide),if_pos rfl,Tr.allT,Tr.allT];cases t.tru f<;>rfl
 ·subst e;rw[if_neg (by decide),if_neg (by decide),if_neg (by decide),if_neg (by decide),if_neg (by decide),if_pos rfl,aV (by decide),aV (by decide),aV (by decide),aV (by decide),aV (by decide),dh yc];exact hall ks fun _ h=>h
 ·subst e;rw[if_neg (by decide),if_neg (by decide),if_neg (by decide),if_neg (by decide),if_neg (by decide),if_neg (by decide),if_pos rfl,aV (by decide),aV (by decide),aV (by decide),aV (by decide),aV (by decide),aV (by decide),dh yb];exact hany ks fun _ h=>h
theorem SP:∀t:Tr,t.cd.t∈([147,148,150,152,154,156,157,159]:List Nat)
 | .mk k nm tx op n ks=>by
  rw[Tr.cd]
  repeat (split;· simp[vm])
  simp[vm]
theorem JV{t:Tr}(h:vT t=0):t.flt=0/\t.cnt<=60:=by
 unfold vT at h
 grind
end Go.Proofs.YtelmfadihfcgnaaGreatDoor
namespace Go.Pv
abbrev bj:=B8
structure A0(is bg:List bj)(u v:bj):Prop where
 eq:∀e,e∈is->(u=e<->v=e)
 pre:∀b,b∈bg->(b <+: u<->b <+: v)
def qY(s:bj):Prop:=s.length<=1000/\∀c,c∈s->32<=c.toNat/\c.toNat<=126
structure ez(is bg:List bj)(p t:bj):Prop where
 pre:p <+: t
 ok:qY t
 not:t ∉ is
 no:∀b,b∈bg->p.length<b.length->¬b <+: t
theorem Ku(bg:List bj)(w:bj):∃p,(p∈bg\/p=[])/\p <+: w/\∀b,b∈bg->b <+: w->b.length<=p.length:=by
 induction bg with
 |nil=>simp_all
 |cons b r ih=>
  grind
theorem zL{is bg out:List bj}(hi:∀e,e∈is->e∈out)(hf:∀p,(p∈bg\/p=[])->(∃t,ez is bg p t/\t∈out)\/∀t,¬ez is bg p t)(w:bj)(hw:qY w):
  ∃t,t∈out/\A0 is bg t w:=by
 by_cases hm:w∈is
 ·exact⟨w,hi w hm,⟨fun _ _=>Iff.rfl,fun _ _=>Iff.rfl⟩⟩
 obtain⟨p,h1,h2,h3⟩:=Ku bg w;have hF:ez is bg p w:=⟨h2,hw,hm,fun b hb hl hp=>by grind⟩;rcases hf p h1 with ⟨t,ht,hto⟩|hno
 ·refine⟨t,hto,⟨fun e he=>⟨fun h=>absurd (h ▸ he) ht.not,fun h=>absurd (h ▸ he) hm⟩,fun b hb=>⟨fun hp=>?_,fun hp=>?_⟩⟩⟩
  ·have hl:b.length<=p.length:=as8 fun h=>ht.no b hb h hp;exact(List.prefix_of_prefix_length_le hp ht.pre hl).trans h2
  ·exact(List.prefix_of_prefix_length_le hp h2 (h3 b hb hp)).trans ht.pre
 grind
structure uV(ns:List Int)(x y:Int):Prop where
 lt:∀n,n∈ns->(x<n<->y<n)
 eq:∀n,n∈ns->(x=n<->y=n)
def ka(x:Int):Prop:=-1000000000000<=x/\x<=1000000000000
theorem Qy(ns:List Int)(x:Int):(∃n,n∈ns/\x<=n/\∀m,m∈ns->x<=m->n<=m)\/∀n,n∈ns->n<x:=by
 induction ns<;>grind
theorem H9(ns:List Int)(h:ns≠[]):∃m,m∈ns/\∀n,n∈ns->n<=m:=by
 induction ns with
 |nil=>grind
 |cons a r ih=>
  by_cases hr:r=[]
  ·simp_all
  grind
theorem C1{ns out:List Int}(h0:∃z,z∈out)(h1:∀n,n∈ns->n∈out)(h2:∀n,n∈ns->ka (n - 1)->n - 1∈out)(h3:∀m,m∈ns->(∀n,n∈ns->n<=m)->ka (m+1)->m+1∈out)(hns:∀n,n∈ns->ka n)(x:Int)(hx:ka x):
  ∃y,y∈out/\uV ns y x:=by
 rcases Qy ns x with ⟨n,a1,a2,a3⟩|h
 ·by_cases e:x=n
  ·exact⟨n,h1 n a1,by subst e;exact⟨fun _ _=>Iff.rfl,fun _ _=>Iff.rfl⟩⟩
  ·have hk:=hns n a1;unfold ka at hk hx;refine⟨n - 1,h2 n a1 ⟨by omega,by omega⟩,⟨fun m hm=>?_,fun m hm=>?_⟩⟩
   ·grind
   grind
 ·by_cases hn:ns=[]
  ·obtain⟨z,hz⟩:=h0;exact⟨z,hz,by subst hn;exact⟨fun n h=>by simp at h,fun n h=>by simp at h⟩⟩
  ·obtain⟨m,b1,b2⟩:=H9 ns hn;have b3:=h m b1;have b4:=hns m b1;unfold ka at hx b4;refine⟨m+1,h3 m b1 b2 ⟨by omega,by omega⟩,⟨fun n hn=>?_,fun n hn=>?_⟩⟩
   ·grind
   grind
section
variable{α:Type}
def r9(s:bj->Option α)(n:bj)(x:α):bj->Option α:=fun m=>if m=n then some x else s m
def ext(s s':bj->Option α):Prop:=∀n x,s n=some x->s' n=some x
def oK(s:bj->Option α)(ns:List bj)(a:bj->α):bj->Option α:=fun m=>match s m with|some x=>some x|none=>if m∈ns then some (a m) else none
def sj? (P:(bj->Option α)->Option Bool) (can:bj->List α):List bj->(bj->Option α)->Option (bj->Option α)
 |[],s=>if P s=some true then some s else none
 |n::r,s=>match P s with
  |some true=>some s
  |some false=>none
  |none=>(can n).findSome? fun x=>sj? P can r (r9 s n x)
variable{P:(bj->Option α)->Option Bool}{can:bj->List α}
theorem Kc{s:bj->Option α}{n:bj}{x:α}(h:s n=none):ext s (r9 s n x):=fun m y hm=>by
 unfold r9
 grind
theorem ro:∀(ns:List bj) (s s':bj->Option α),ns.Nodup->(∀n,n∈ns->s n=none)->sj? P can ns s=some s'->
  P s'=some true/\ext s s'/\∀m x,s' m=some x->s m=some x\/(m∈ns/\x∈can m)
 |[],s,s',_,_,h=>by
  rw[sj?] at h;by_cases hp:P s=some true
  ·rw[if_pos hp] at h;cases h;exact⟨hp,fun _ _ h=>h,fun _ _ h=>.inl h⟩
  grind
 |n::r,s,s',hn,hs,h=>by
  rw[sj?] at h;cases hp:P s with
  |some b=>
   rw[hp] at h;cases b with
   |true=>cases h;exact⟨hp,fun _ _ h=>h,fun _ _ h=>.inl h⟩
   |false=>cases h
  |none=>
   rw[hp] at h;obtain⟨x,hx,h2⟩:=List.exists_of_findSome?_eq_some h;have hnn:=aa9.1 hn
   obtain⟨g1,g2,g3⟩:=ro r (r9 s n x) s' hnn.2 (fun m hm=>by
    unfold r9
    grind) h2
   refine⟨g1,fun m y hm=>g2 m y (Kc (hs n (by simp)) m y hm),fun m y hm=>?_⟩;rcases g3 m y hm with h3|⟨h3,h4⟩
   ·unfold r9 at h3
    grind
   grind
theorem FX{s:bj->Option α}{n:bj}{r:List bj}{a:bj->α}(h:s n=none):oK (r9 s n (a n)) r a=oK s (n::r) a:=by
 funext m
 unfold oK r9
 grind
theorem FY{s:bj->Option α}{a:bj->α}:oK s [] a=s:=by
 funext m
 grind [oK]
theorem FZ{s:bj->Option α}{ns:List bj}{a:bj->α}:ext s (oK s ns a):=fun m x h=>by
 grind [oK]
theorem ut(hm:∀s s' b,ext s s'->P s=some b->P s'=some b):∀(ns:List bj) (s:bj->Option α),ns.Nodup->(∀n,n∈ns->s n=none)->sj? P can ns s=none->
  ∀a:bj->α,(∀n,n∈ns->a n∈can n)->P (oK s ns a)≠some true
 |[],s,_,_,h,a,_=>by
  simp_all[sj?,FY]
 |n::r,s,hn,hs,h,a,ha=>by
  rw[sj?] at h;cases hp:P s with
  |some b=>
   grind [FZ]
  |none=>
   rw[hp] at h;have hnn:=aa9.1 hn;have h2:=List.findSome?_eq_none_iff.1 h (a n) (ha n (by simp))
   have:=ut hm r (r9 s n (a n)) hnn.2 (fun m hmm=>by
    unfold r9
    grind) h2 a (fun m hmm=>ha m (by simp[hmm]))
   simp_all[FX]
end
end Go.Pv
namespace Go.Proofs.YtelmfadihfcgnaaGreatDoor
open Go Go.Pv
set_option maxRecDepth 100000
abbrev Fd:=ah
def Fr:Option Bool->Option Bool->Option Bool
 |some false,_=>some false
 |some true,b=>b
 |none,some false=>some false
 |none,_=>none
def Qn:Option Bool->Option Bool->Option Bool
 |some true,_=>some true
 |some false,b=>b
 |none,some true=>some true
 |none,_=>none
structure Lf where
 k:Int
 nm:bj
 tx:List bj
 op:Int
 n:Int
def Lf.one(l:Lf)(x:Fd):Bool:=iz l.k l.op l.n l.tx x
noncomputable section
mutual
def Tr.lvs:Tr->List Lf
 | .mk k nm tx op n ks=>if k=1 then [] else if k=6\/k=7\/k=8 then Tr.lvss ks else [⟨k,nm,tx,op,n⟩]
def Tr.lvss:List Tr->List Lf
 |[]=>[]
 |t::r=>Tr.lvs t++Tr.lvss r
end
mutual
def Tr.tr3(s:bj->Option Fd):Tr->Option Bool
 | .mk k nm tx op n ks=>if k=1 then some true else if k=6 then (Tr.all3 s ks).map (!·) else if k=7 then Tr.all3 s ks else if k=8 then Tr.any3 s ks else (s nm).map (iz k op n tx)
def Tr.all3(s:bj->Option Fd):List Tr->Option Bool
 |[]=>some true
 |t::r=>Fr (Tr.tr3 s t) (Tr.all3 s r)
def Tr.any3(s:bj->Option Fd):List Tr->Option Bool
 |[]=>some false
 |t::r=>Qn (Tr.tr3 s t) (Tr.any3 s r)
end
mutual
def Tr.truA(a:bj->Fd):Tr->Bool
 | .mk k nm tx op n ks=>if k=1 then true else if k=6 then !(Tr.allA a ks) else if k=7 then Tr.allA a ks else if k=8 then Tr.anyA a ks else iz k op n tx (a nm)
def Tr.allA(a:bj->Fd):List Tr->Bool
 |[]=>true
 |t::r=>Tr.truA a t&&Tr.allA a r
def Tr.anyA(a:bj->Fd):List Tr->Bool
 |[]=>false
 |t::r=>Tr.truA a t||Tr.anyA a r
end
end
theorem jk{ks:List Tr}{l:Lf}:l∈Tr.lvss ks<->∃t,t∈ks/\l∈t.lvs:=by
 induction ks<;>simp_all[Tr.lvss]
theorem Fq{a a' b b':Option Bool}{c:Bool}(h1:∀c,a=some c->a'=some c)(h2:∀c,b=some c->b'=some c)(h:Fr a b=some c):Fr a' b'=some c:=by
 cases a with
 |some x=>
  rw[h1 x rfl];cases x with
  |false=>exact h
  |true=>exact h2 c h
 |none=>
  cases b with
  |none=>cases h
  |some y=>
   cases y with
   |true=>cases h
   |false=>
    rw[h2 false rfl];cases h;cases a' with
    |none=>rfl
    |some z=>cases z<;>rfl
theorem G2{a a' b b':Option Bool}{c:Bool}(h1:∀c,a=some c->a'=some c)(h2:∀c,b=some c->b'=some c)(h:Qn a b=some c):Qn a' b'=some c:=by
 cases a with
 |some x=>
  rw[h1 x rfl];cases x with
  |true=>exact h
  |false=>exact h2 c h
 |none=>
  cases b with
  |none=>cases h
  |some y=>
   cases y with
   |false=>cases h
   |true=>
    rw[h2 true rfl];cases h;cases a' with
    |none=>rfl
    |some z=>cases z<;>rfl
theorem rz{s s':bj->Option Fd}:∀ks:List Tr,(∀t,t∈ks->∀b,t.tr3 s=some b->t.tr3 s'=some b)->∀b,Tr.all3 s ks=some b->Tr.all3 s' ks=some b
 |[],_,b,h=>by simp_all[Tr.all3]
 |t::r,ih,b,h=>by
  rw[Tr.all3] at h ⊢;exact Fq (ih t (by simp)) (rz r fun u hu=>ih u (by simp[hu])) h
theorem wQ{s s':bj->Option Fd}:∀ks:List Tr,(∀t,t∈ks->∀b,t.tr3 s=some b->t.tr3 s'=some b)->∀b,Tr.any3 s ks=some b->Tr.any3 s' ks=some b
 |[],_,b,h=>by simp_all[Tr.any3]
 |t::r,ih,b,h=>by
  rw[Tr.any3] at h ⊢;exact G2 (ih t (by simp)) (wQ r fun u hu=>ih u (by simp[hu])) h
theorem tw{s s':bj->Option Fd}(he:ext s s'):∀t:Tr,∀b,t.tr3 s=some b->t.tr3 s'=some b:=Tr.ind fun k nm tx op n ks ih b h=>by
 rw[Tr.tr3] at h ⊢;by_cases h1:k=1
 ·grind
 rw[if_neg h1] at h ⊢;by_cases h6:k=6
 ·rw[if_pos h6] at h ⊢
  grind [Option.map_eq_some_iff,rz]
 rw[if_neg h6] at h ⊢;by_cases h7:k=7
 ·rw[if_pos h7] at h ⊢;grind [rz]
 rw[if_neg h7] at h ⊢;by_cases h8:k=8
 ·rw[if_pos h8] at h ⊢;grind [wQ]
 rw[if_neg h8] at h ⊢;rw[ad8] at h ⊢;obtain⟨x,h1,h2⟩:=h;exact⟨x,he _ _ h1,h2⟩
theorem pL{s:bj->Option Fd}{a:bj->Fd}:∀t:Tr,(∀l,l∈t.lvs->s l.nm=some (a l.nm))->t.tr3 s=some (t.truA a):=Tr.ind fun k nm tx op n ks ih h=>by
 rw[Tr.lvs] at h;rw[Tr.tr3,Tr.truA];by_cases h1:k=1
 ·grind
 rw[if_neg h1] at h ⊢;rw[if_neg h1]
 have hall:(∀l,l∈Tr.lvss ks->s l.nm=some (a l.nm))->∀l:List Tr,(∀t,t∈l->t∈ks)->Tr.all3 s l=some (Tr.allA a l):=by
  intro hk l
  induction l with
  |nil=>grind [Tr.all3,Tr.allA]
  |cons t r ihr=>
   intro hm;rw[Tr.all3,Tr.allA,ih t (hm t (by simp)) (fun l hl=>hk l (jk.2 ⟨t,hm t (by simp),hl⟩)),ihr fun u hu=>hm u (by simp[hu])];cases t.truA a<;>rfl
 have hany:(∀l,l∈Tr.lvss ks->s l.nm=some (a l.nm))->∀l:List Tr,(∀t,t∈l->t∈ks)->Tr.any3 s l=some (Tr.anyA a l):=by
  intro hk l
  induction l with
  |nil=>grind [Tr.any3,Tr.anyA]
  |cons t r ihr=>
   intro hm;rw[Tr.any3,Tr.anyA,ih t (hm t (by simp)) (fun l hl=>hk l (jk.2 ⟨t,hm t (by simp),hl⟩)),ihr fun u hu=>hm u (by simp[hu])];cases t.truA a<;>rfl
 by_cases h6:k=6
 ·grind
 rw[if_neg h6,if_neg h6];by_cases h7:k=7
 ·grind
 rw[if_neg h7,if_neg h7];by_cases h8:k=8
 ·grind
 simp_all
theorem tr{a b:bj->Fd}:∀t:Tr,(∀l,l∈t.lvs->l.one (a l.nm)=l.one (b l.nm))->t.truA a=t.truA b:=Tr.ind fun k nm tx op n ks ih h=>by
 rw[Tr.lvs] at h;rw[Tr.truA,Tr.truA];by_cases h1:k=1
 ·grind
 rw[if_neg h1] at h ⊢;rw[if_neg h1]
 have hall:(∀l,l∈Tr.lvss ks->l.one (a l.nm)=l.one (b l.nm))->∀l:List Tr,(∀t,t∈l->t∈ks)->Tr.allA a l=Tr.allA b l:=by
  intro hk l
  induction l with
  |nil=>simp_all[Tr.allA]
  |cons t r ihr=>
   intro hm;rw[Tr.allA,Tr.allA,ih t (hm t (by simp)) (fun l hl=>hk l (jk.2 ⟨t,hm t (by simp),hl⟩)),ihr fun u hu=>hm u (by simp[hu])]
 have hany:(∀l,l∈Tr.lvss ks->l.one (a l.nm)=l.one (b l.nm))->∀l:List Tr,(∀t,t∈l->t∈ks)->Tr.anyA a l=Tr.anyA b l:=by
  intro hk l
  induction l with
  |nil=>simp_all[Tr.anyA]
  |cons t r ihr=>
   intro hm;rw[Tr.anyA,Tr.anyA,ih t (hm t (by simp)) (fun l hl=>hk l (jk.2 ⟨t,hm t (by simp),hl⟩)),ihr fun u hu=>hm u (by simp[hu])]
 by_cases h6:k=6
 ·grind
 rw[if_neg h6,if_neg h6];by_cases h7:k=7
 ·grind
 rw[if_neg h7,if_neg h7];by_cases h8:k=8
 ·grind
 rw[if_neg (by grind)] at h;rw[if_neg h8,if_neg h8];exact h ⟨k,nm,tx,op,n⟩ (by simp)
theorem Ge(f:aW):∀t:Tr,t.tru f=t.truA (oU f):=Tr.ind fun k nm tx op n ks ih=>by
 rw[Tr.tru,Tr.truA]
 have hall:∀l:List Tr,(∀t,t∈l->t∈ks)->Tr.allT f l=Tr.allA (oU f) l:=by
  intro l
  induction l with
  |nil=>intro _;rw[Tr.allT,Tr.allA]
  |cons t r ihr=>intro hm;rw[Tr.allT,Tr.allA,ih t (hm t (by simp)),ihr fun u hu=>hm u (by simp[hu])]
 have hany:∀l:List Tr,(∀t,t∈l->t∈ks)->Tr.anyT f l=Tr.anyA (oU f) l:=by
  intro l
  induction l with
  |nil=>intro _;rw[Tr.anyT,Tr.anyA]
  |cons t r ihr=>intro hm;rw[Tr.anyT,Tr.anyA,ih t (hm t (by simp)),ihr fun u hu=>hm u (by simp[hu])]
 rw[hall ks fun _ h=>h,hany ks fun _ h=>h]
end Go.Proofs.YtelmfadihfcgnaaGreatDoor
namespace Go.Proofs.YtelmfadihfcgnaaGreatDoor
open Go Go.Pv
set_option maxRecDepth 100000
def qN(x:ac):Fd:=⟨x.hasText,x.hasNumber,x.text,x.number⟩
abbrev vO:=List (bj×ac)
abbrev Ll:=List (bj×Bool)
def sgm(m:vO)(kn:Ll):bj->Option Fd:=fun n=>if (aY kn n).getD false=true then some (qN (gV m n)) else none
def zB:Option Bool->Int
 |none=>0
 |some true=>1
 |some false=>2
theorem tp(b:Bool):zB (some b)=tv b:=by cases b<;>rfl
section
variable(F:Nat)(m:vO)(kn:Ll)(nm:B8)
theorem yW:Bb F ⟨m,some kn⟩ nm=some (gV m nm,(aY kn nm).getD false):=rfl
theorem PA(op n:Int)(tx:List B8):CA F ⟨nm,tx⟩ ⟨m,some kn⟩=some (zB ((sgm m kn nm).map (iz 2 op n tx))):=by
 unfold CA sgm;rw[yW,bt9];dsimp only;cases (aY kn nm).getD false
 ·rfl
 ·rw[u4,fe,bt9,fe,if_pos rfl,ay8,tp]
  grind [iz,qN,J3]
theorem Pz(op n:Int)(tx:List B8):Cz F ⟨nm,tx⟩ ⟨m,some kn⟩=some (zB ((sgm m kn nm).map (iz 3 op n tx))):=by
 unfold Cz sgm;rw[yW,bt9];dsimp only;cases (aY kn nm).getD false
 ·rfl
 ·rw[xk,fe,bt9,fe,if_pos rfl,ay8,tp]
  grind [iz,qN,J2]
theorem Py(op n:Int)(tx:List B8):Cy F ⟨nm⟩ ⟨m,some kn⟩=some (zB ((sgm m kn nm).map (iz 4 op n tx))):=by
 unfold Cy sgm;rw[yW,bt9];dsimp only;cases (aY kn nm).getD false
 ·rfl
 ·rw[fe,fe,if_pos rfl,ay8,tp]
  grind [iz,qN]
theorem Px(op n:Int)(tx:List B8):Cx F ⟨nm,op,n⟩ ⟨m,some kn⟩=some (zB ((sgm m kn nm).map (iz 5 op n tx))):=by
 unfold Cx sgm;rw[yW,bt9];dsimp only;cases (aY kn nm).getD false
 ·rfl
 ·rw[D4,fe,bt9,fe,if_pos rfl,ay8,tp]
  grind [iz,qN]
end
theorem QK(m:vO)(kn:Ll):∀t:Tr,t.ok->t.flt=0->∀F,t.fu<=F->dP F t.cd ⟨m,some kn⟩=some (zB (t.tr3 (sgm m kn))):=Tr.ind fun k nm tx op n ks ih ok hz F hF=>by
 rw[Tr.fu] at hF;obtain⟨hnode,hfl⟩:=kR hz;obtain⟨F,rfl⟩:∃G,F=G+1:=⟨F - 1,by omega⟩
 show gO (dP F) F (Tr.mk k nm tx op n ks).cd ⟨m,some kn⟩=_
 have hkid:∀t,t∈ks->dP F t.cd ⟨m,some kn⟩=some (zB (t.tr3 (sgm m kn))):=fun t ht=>ih t ht (Tr.oks_mem (Tr.okks ok).1 ht) (gn hfl ht) F (by have:=Tr.fu_mem ht;omega);have hkk:=kJ hnode;dsimp only at hkk;have hk':k=1\/k=2\/k=3\/k=4\/k=5\/k=6\/k=7\/k=8:=by omega
 rw[Tr.cd,Tr.tr3]
 have hall:∀(l:List Tr) (A:Option Bool),A≠some false->(∀t,t∈l->t∈ks)->gz (dP F) F ⟨m,some kn⟩ (fun n4=>some n4) (Tr.cds l) (zB A)=some (zB (Fr A (Tr.all3 (sgm m kn) l))):=by
  intro l
  induction l with
  |nil=>
   intro A hA _;rw[Tr.cds,Tr.all3,gz];cases A with
   |none=>rfl
   |some b=>cases b<;>rfl
  |cons t r ihr=>
   intro A hA hm;rw[Tr.cds,gz,hkid t (hm t (by simp)),bt9,az,Tr.all3];have hr:=fun B hB=>ihr B hB fun u hu=>hm u (by simp[hu]);cases t.tr3 (sgm m kn) with
   |none=>
    show gz _ _ _ _ _ 0=_
    rw[show(0:Int)=zB none from rfl,hr none (by simp)];cases A with
    |none=>cases Tr.all3 (sgm m kn) r with
     |none=>rfl
     |some b=>cases b<;>rfl
    |some a=>cases a with
     |false=>grind
     |true=>rfl
   |some b=>
    cases b with
    |false=>
     cases A with
     |none=>rfl
     |some a=>cases a with
      |false=>grind
      |true=>rfl
    |true=>exact hr A hA
 have hany:∀(l:List Tr) (A:Option Bool),A≠some true->(∀t,t∈l->t∈ks)->gy (dP F) F ⟨m,some kn⟩ (fun n4=>some n4) (Tr.cds l) (zB A)=some (zB (Qn A (Tr.any3 (sgm m kn) l))):=by
  intro l
  induction l with
  |nil=>
   intro A hA _;rw[Tr.cds,Tr.any3,gy];cases A with
   |none=>rfl
   |some b=>cases b<;>rfl
  |cons t r ihr=>
   intro A hA hm;rw[Tr.cds,gy,hkid t (hm t (by simp)),bt9,az,Tr.any3];have hr:=fun B hB=>ihr B hB fun u hu=>hm u (by simp[hu]);cases t.tr3 (sgm m kn) with
   |none=>
    show gy _ _ _ _ _ 0=_
    rw[show(0:Int)=zB none from rfl,hr none (by simp)];cases A with
    |none=>cases Tr.any3 (sgm m kn) r with
     |none=>rfl
     |some b=>cases b<;>rfl
    |some a=>cases a with
     |true=>grind
     |false=>rfl
   |some b=>
    cases b with
    |true=>
     cases A with
     |none=>rfl
     |some a=>cases a with
      |true=>grind
      |false=>rfl
    |false=>exact hr A hA
 unfold gO;rcases hk' with e|e|e|e|e|e|e|e
 ·subst e;simp only[show ¬(1:Int)=2 by decide,show ¬(1:Int)=3 by decide,show ¬(1:Int)=4 by decide,show ¬(1:Int)=5 by decide,show ¬(1:Int)=6 by decide,show ¬(1:Int)=7 by decide,show ¬(1:Int)=8 by decide,if_false];rw[aV (by decide),aV (by decide),aV (by decide),aV (by decide),aV (by decide),aV (by decide),aV (by decide),dh Ak];rfl
 ·subst e;rw[if_pos rfl,dh BW];exact PA F m kn nm op n tx
 ·subst e;rw[if_neg (by decide),if_pos rfl,aV (by decide),dh pf];exact Pz F m kn nm op n tx
 ·subst e;rw[if_neg (by decide),if_neg (by decide),if_pos rfl,aV (by decide),aV (by decide),dh ya];exact Py F m kn nm op n tx
 ·subst e;rw[if_neg (by decide),if_neg (by decide),if_neg (by decide),if_pos rfl,aV (by decide),aV (by decide),aV (by decide),dh pe];exact Px F m kn nm op n tx
 ·subst e;rw[if_neg (by decide),if_neg (by decide),if_neg (by decide),if_neg (by decide),if_pos rfl,aV (by decide),aV (by decide),aV (by decide),aV (by decide),dh x5];have h1:ks.length=1:=by rw[<-mG hnode rfl];exact(Tr.toKs_len ks).symm
  match ks,h1,hkid with
  |[t],_,hkid=>
   show Cw (dP F) F ⟨(Tr.cds [t]).headD _⟩ ⟨m,some kn⟩=_
   rw[Tr.cds,List.headD_cons,Cw,hkid t (by simp),bt9,if_neg (by decide),if_pos rfl,Tr.all3,Tr.all3];cases t.tr3 (sgm m kn) with
   |none=>rfl
   |some b=>cases b<;>rfl
 ·subst e;rw[if_neg (by decide),if_neg (by decide),if_neg (by decide),if_neg (by decide),if_neg (by decide),if_pos rfl,aV (by decide),aV (by decide),aV (by decide),aV (by decide),aV (by decide),dh yc];exact hall ks (some true) (by simp) fun _ h=>h
 ·subst e;rw[if_neg (by decide),if_neg (by decide),if_neg (by decide),if_neg (by decide),if_neg (by decide),if_neg (by decide),if_pos rfl,aV (by decide),aV (by decide),aV (by decide),aV (by decide),aV (by decide),aV (by decide),dh yb];exact hany ks (some false) (by simp) fun _ h=>h
def KN{κ τ:Type}(m:List (κ×τ)):Prop:=(m.map (·.1)).Nodup
section
variable{κ τ:Type}[DecidableEq κ]
theorem q9{m:List (κ×τ)}{k:κ}:aY m k=none<->k ∉ m.map (·.1):=by
 induction m with
 |nil=>simp[aY]
 |cons p r ih=>
  rw[aY]
  grind
theorem EE{m:List (κ×τ)}{k:κ}{v:τ}(h:aY m k=some v):(k,v)∈m:=by
 induction m with
 |nil=>simp[aY] at h
 |cons p r ih=>
  rw[aY] at h
  grind
theorem HF{m:List (κ×τ)}(hn:KN m){p:κ×τ}(h:p∈m):aY m p.1=some p.2:=by
 induction m with
 |nil=>simp at h
 |cons q r ih=>
  rw[aY];unfold KN at hn;rw[bh9,aa9] at hn;rcases aq9.1 h with e|h
  ·grind
  ·rw[if_neg (fun e=>hn.1 (by grind)),ih hn.2 h]
theorem wA{m:List (κ×τ)}{k:κ}{v:τ}:∀x,x∈(cK m k v).map (·.1)<->x=k\/x∈m.map (·.1):=by
 induction m with
 |nil=>grind [cK]
 |cons p r ih=>
  intro x;rw[cK]
  grind
theorem KN.put{m:List (κ×τ)}{k:κ}{v:τ}(h:KN m):KN (cK m k v):=by
 unfold KN at *
 induction m with
 |nil=>simp[cK]
 |cons p r ih=>
  rw[bh9,aa9] at h;rw[cK];by_cases e:p.1=k
  ·grind
  simp_all[wA]
theorem HG{m:List (κ×τ)}{k x:κ}(h:x∈(iP m k).map (·.1)):x∈m.map (·.1):=by
 induction m<;>grind [iP]
theorem KN.del{m:List (κ×τ)}{k:κ}(h:KN m):KN (iP m k):=by
 unfold KN at *
 induction m<;>grind [iP,HG]
theorem wu{m:List (κ×τ)}{k x:κ}(h:KN m):aY (iP m k) x=if x=k then none else aY m x:=by
 unfold KN at h
 induction m with
 |nil=>simp[iP,aY]
 |cons p r ih=>
  rw[bh9,aa9] at h;rw[iP];by_cases e:p.1=k
  ·simp_all[q9,aY,Ne.symm]
  ·rw[if_neg e,aY,aY,ih h.2]
   grind
end
abbrev M4:=bj->Option ac
def wM(s:M4):bj->Option Fd:=fun n=>(s n).map qN
structure DW(m:vO)(kn:Ll)(s:M4):Prop where
 fm:∀n,aY m n=s n
 fk:∀n,aY kn n=(s n).map fun _=>true
 nm:KN m
 nk:KN kn
theorem DW.sgm{m:vO}{kn:Ll}{s:M4}(h:DW m kn s):sgm m kn=wM s:=by
 funext n
 unfold Go.Proofs.YtelmfadihfcgnaaGreatDoor.sgm wM gV;rw[h.fk,h.fm];cases s n<;>rfl
theorem Dq(P:M4->Option Bool)(F0:Nat)(c1:List KV)(n1:List Int)(c2:List KV)(n2:List Int)(hC:∀F m kn s,F0<=F->DW m kn s->O3 F ⟨m,some kn⟩ c1 n1 c2 n2=some (zB (P s)))(by_:List (bj×List ac))(ns:List bj)(hn:ns.Nodup)(hlen:ns.length<=1000):
  ∀(rest pre:List bj),ns=pre++rest->∀F,F0+rest.length+1<=F->∀m kn s,DW m kn s->(∀n,n∈rest->s n=none)->
   ∃m' kn',(match sj? P (fun n=>(aY by_ n).getD []) rest s with
    |some s'=>zp F (pre.length:Int) by_ c1 n1 c2 n2 ns m kn=some (true,m',kn')/\DW m' kn' s'
    |none=>zp F (pre.length:Int) by_ c1 n1 c2 n2 ns m kn=some (false,m',kn')/\DW m' kn' s)
 |[],pre,hns,F,hF,m,kn,s,hs,_=>by
  obtain⟨F,rfl⟩:∃G,F=G+1:=⟨F - 1,by omega⟩;have hl:ns.length=pre.length:=by rw[hns];simp
  have hh:=hC F m kn s (by grind) hs;refine⟨m,kn,?_⟩;rw[sj?]
  show match (if P s=some true then some s else none) with|some s'=>mq (zp F) F _ _ _ _ _ _ _ _ _=_/\_|none=>mq (zp F) F _ _ _ _ _ _ _ _ _=_/\_
  unfold mq;rw[hh,bt9];by_cases h1:P s=some true
  ·rw[if_pos h1];dsimp only;rw[show P s=some true from h1];exact⟨Y,hs⟩
  ·rw[if_neg h1];dsimp only;refine⟨?_,hs⟩;have h1:P s≠some true:=h1;cases h2:P s with
   |none=>
    show(if (((0:Int))==1)=true then _ else if ((0:Int)==2)=true then _ else if ((pre.length:Int)==((ns.length:Nat):Int))=true then _ else _)=_
    grind
   |some b=>
    cases b with
    |true=>grind
    |false=>rfl
 |n::r,pre,hns,F,hF,m,kn,s,hs,hno=>by
  obtain⟨F,rfl⟩:∃G,F=G+1:=⟨F - 1,by omega⟩;simp only[br8] at hF;have hh:=hC F m kn s (by omega) hs;have hsn:=hno n (by simp)
  have hnd:n ∉ r:=by
   rw[hns,bu8] at hn;exact(aa9.1 hn.2.1).1
  have hl:ns.length=pre.length+(r.length+1):=by rw[hns];simp
  rw[sj?];cases h2:P s with
  |some b=>
   have h2':P s=some b:=h2;rw[h2'] at hh;refine⟨m,kn,?_⟩;cases b with
   |true=>
    dsimp only;refine⟨?_,hs⟩
    show mq (zp F) F _ _ _ _ _ _ _ _ _=_
    unfold mq;rw[hh,bt9];rfl
   |false=>
    dsimp only;refine⟨?_,hs⟩
    show mq (zp F) F _ _ _ _ _ _ _ _ _=_
    unfold mq;rw[hh,bt9];rfl
  |none=>
   have h2':P s=none:=h2;rw[h2'] at hh;dsimp only
   have hbody:zp (F+1) (pre.length:Int) by_ c1 n1 c2 n2 ns m kn=kw (zp F) F (pre.length:Int) by_ c1 n1 c2 n2 ns n (fun m41 m42=>some (false,iP m41 n,iP m42 n)) ((aY by_ n).getD []) m (cK kn n true):=by
    show mq (zp F) F _ _ _ _ _ _ _ _ _=_
    unfold mq;rw[hh,bt9]
    show(if (((0:Int))==1)=true then _ else if ((0:Int)==2)=true then _ else if ((pre.length:Int)==((ns.length:Nat):Int))=true then _ else _)=_
    rw[if_neg (by decide),if_neg (by decide),if_neg (by simp;omega),bU (by omega),bt9];have:ns[pre.length]'(by omega)=n:=by simp[hns]
    rw[this];rfl
   rw[hbody]
   -- the loop over what the name can be
   have loop:∀(xs:List ac) (m1:vO) (kn1:Ll),(∀k,k≠n->aY m1 k=s k)->(∀k,aY kn1 k=if k=n then some true else (s k).map fun _=>true)->KN m1->KN kn1->
     ∃m' kn',(match xs.findSome? (fun x=>sj? P (fun n=>(aY by_ n).getD []) r (r9 s n x)) with
      |some s'=>kw (zp F) F (pre.length:Int) by_ c1 n1 c2 n2 ns n (fun m41 m42=>some (false,iP m41 n,iP m42 n)) xs m1 kn1=some (true,m',kn')/\DW m' kn' s'
      |none=>kw (zp F) F (pre.length:Int) by_ c1 n1 c2 n2 ns n (fun m41 m42=>some (false,iP m41 n,iP m42 n)) xs m1 kn1=some (false,m',kn')/\DW m' kn' s):=by
    intro xs
    induction xs with
    |nil=>
     intro m1 kn1 q1 q2 q3 q4;refine⟨iP m1 n,iP kn1 n,Y,fun k=>?_,fun k=>?_,q3.del,q4.del⟩
     ·simp_all[wu]
     simp_all[wu]
    |cons x xs ih=>
     intro m1 kn1 q1 q2 q3 q4
     have hst:DW (cK m1 n x) kn1 (r9 s n x):=by
      refine⟨fun k=>?_,fun k=>?_,q3.put,q4⟩
      ·rw[dM];unfold r9
       grind
      ·rw[q2];unfold r9
       grind
     obtain⟨m2,kn2,h3⟩:=Dq P F0 c1 n1 c2 n2 hC by_ ns hn hlen r (pre++[n]) (by grind) F (by omega) (cK m1 n x) kn1 (r9 s n x) hst (fun k hk=>by
      unfold r9
      grind)
     rw[show((pre++[n]).length:Int)=(pre.length:Int)+1 by simp] at h3;rw[List.findSome?_cons];cases h4:sj? P (fun n=>(aY by_ n).getD []) r (r9 s n x) with
     |some s'=>
      grind [kw,cA]
     |none=>
      rw[h4] at h3;dsimp only at h3 ⊢;have h5:=h3.2
      obtain⟨m',kn',h6⟩:=ih m2 kn2 (fun k hk=>by rw[h5.fm];simp_all[r9]) (fun k=>by
       rw[h5.fk];unfold r9
       grind) h5.nm h5.nk
      refine⟨m',kn',?_⟩
      grind [kw,cA]
   exact loop _ m (cK kn n true) (fun k hk=>hs.fm k) (fun k=>by
    rw[dM,hs.fk]
    grind) hs.nm hs.nk.put
termination_by rest=>rest.length
set_option maxRecDepth 1000000
theorem Q6{α β:Type}{o o':Option α}(h:o=o'){f g:α->Option β}(hfg:∀y,f y=g y):o.bind f=o'.bind g:=by
 subst h;exact congrArg o.bind (funext hfg)
abbrev zn:=List (ac×Bool)×List (bj×List ac)
def jp(R:zn->ac->Option zn):List ac->zn->Option zn
 |[],p=>some p
 |x::l,p=>(R p x).bind (jp R l)
theorem oo(R:zn->ac->Option zn):∀(l l':List ac) (p:zn),jp R (l++l') p=(jp R l p).bind (jp R l')
 |[],l',p=>rfl
 |x::l,l',p=>by
  show(R p x).bind (jp R (l++l'))=((R p x).bind (jp R l)).bind (jp R l')
  rw[Option.bind_assoc]
  congr 1
  funext q
  exact oo R l l' q
def nv(n:Int):ac:=⟨false,true,[],n⟩
def J4(t:bj)(v:ac):ac:=⟨true,v.hasNumber,t,v.number⟩
def oQ(s:ai)(nums:List Int):List ac:=zV::(if (s.asNo||s.has)=true then nums.map nv else [])
def fy(s:ai)(nums:List Int)(txs:List bj):List ac:=
 oQ s nums++(if (s.asText||s.has)=true then txs.flatMap (fun t=>(oQ s nums).map (J4 t)) else [])
section
variable(R0:zn->ac->Option zn)(F:Nat)
theorem rC(k:List ac->Option zn):∀(l:List Int) (acc:List ac),acc.length+l.length<=4000000000000->iI F k l acc=k (acc++l.map nv)
 |[],acc,_=>by rw[iI];simp
 |x::l,acc,h=>by
  simp only[br8] at h;rw[iI,if_pos (by simp;omega),rC k l _ (by simp;omega)];simp[nv]
theorem rB(k:List (ac×Bool)->List (bj×List ac)->Option zn):∀(l:List ac) (p:zn),gP R0 F k l p.1 p.2=(jp R0 l p).bind fun q=>k q.1 q.2
 |[],p=>by rw[gP];rfl
 |x::l,p=>by
  rw[gP]
  show _=((R0 p x).bind (jp R0 l)).bind fun q=>k q.1 q.2
  rw[Option.bind_assoc];exact Q6 Y fun y=>rB k l y
theorem wU(t:bj)(k:List (ac×Bool)->List (bj×List ac)->Option zn):∀(l:List ac) (p:zn),jx R0 F t k l p.1 p.2=(jp R0 (l.map (J4 t)) p).bind fun q=>k q.1 q.2
 |[],p=>by rw[jx];rfl
 |x::l,p=>by
  rw[jx]
  show _=((R0 p (J4 t x)).bind (jp R0 (l.map (J4 t)))).bind fun q=>k q.1 q.2
  rw[Option.bind_assoc];exact Q6 Y fun y=>wU t k l y
theorem kW(vs:List ac):∀(l:List bj) (p:zn),fA R0 F vs l p.1 p.2=jp R0 (l.flatMap fun t=>vs.map (J4 t)) p
 |[],p=>by rw[fA];rfl
 |t::l,p=>by
  rw[fA,az,az,wU,ab8,oo];exact Q6 Y fun y=>kW vs l y
theorem OW(s:ai)(nums:List Int)(txs:List bj)(h1:Be F s=some nums)(h2:sG F s=some txs)(hn:nums.length<=2000000)(p:zn):
  RF R0 F s.is s.begins s.numbers s.asText s.asNo s.has s.weight p.1 p.2=jp R0 (fy s nums txs) p:=by
 obtain⟨a1,a2,a3,a4,a5,a6,a7⟩:=s;unfold RF fy oQ;dsimp only;have hz:(ac.mk false false ([]:B8) 0)=zV:=rfl;cases a5 with
 |true=>
  rw[if_pos rfl,h1,bt9,az,rC F _ _ _ (by simp;omega),az,rB];rw[hz,show((true||a6):Bool)=true from rfl,if_pos rfl,oo R0 (zV::List.map nv nums)];refine Q6 Y fun y=>?_;cases a4 with
  |false=>
   rw[if_pos (by decide)];cases a6 with
   |false=>rw[if_pos (by decide)];rfl
   |true=>simp_all[kW]
  |true=>simp_all[kW]
 |false=>
  rw[if_neg (by decide),az]
  have key:∀vs:List ac,(jn (fun(m116:List (ac×Bool)) (m117:List (B8×(List ac)))=>if (!a4)=true then if (!a6)=true then some (m116,m117)
    else (sG F (ai.mk a1 a2 a3 a4 false a6 a7)).bind fun y132=>fA R0 F vs y132 m116 m117
    else (sG F (ai.mk a1 a2 a3 a4 false a6 a7)).bind fun y162=>fA R0 F vs y162 m116 m117) (fun k115=>gP R0 F k115 vs p.1 p.2)) =
    jp R0 (vs++if (a4||a6)=true then txs.flatMap (fun t=>vs.map (J4 t)) else []) p:=by
   intro vs;rw[az,rB,oo];refine Q6 Y fun y=>?_;cases a4 with
   |false=>
    rw[if_pos (by decide)];cases a6 with
    |false=>rw[if_pos (by decide)];rfl
    |true=>simp_all[kW]
   |true=>simp_all[kW]
  cases a6 with
  |true=>
   rw[if_pos rfl,h1,bt9,az,rC F _ _ _ (by simp;omega)];exact key _
  |false=>
   grind
end
theorem yS(F:Nat)(nm:bj):∀(l:List ac) (p:zn),(∀x,(aY p.1 x).getD false=true<->x∈(aY p.2 nm).getD [])->((aY p.2 nm).getD []).length+l.length<=4000000000000->KN p.2->
  ∃q:zn,jp (fun p x=>lQ F nm p.1 p.2 x) l p=some q/\(∀x,x∈(aY q.2 nm).getD []<->x∈(aY p.2 nm).getD []\/x∈l)/\(∀k,k≠nm->aY q.2 k=aY p.2 k)/\KN q.2
 |[],p,_,_,hk=>⟨p,rfl,fun x=>by simp,fun _ _=>rfl,hk⟩
 |x::l,p,h1,h2,hk=>by
  simp only[br8] at h2
  show ∃q,(lQ F nm p.1 p.2 x).bind _=some q/\_
  unfold lQ;rw[az];cases hs:(aY p.1 x).getD false with
  |true=>
   have hx:=(h1 x).1 hs;obtain⟨q,g1,g2,g3,g4⟩:=yS F nm l p h1 (by omega) hk;refine⟨q,by rw[if_neg (by decide),bt9];exact g1,fun y=>?_,g3,g4⟩
   grind
  |false=>
   have hg:(aY (cK p.2 nm ((aY p.2 nm).getD []++[x])) nm).getD []=(aY p.2 nm).getD []++[x]:=by rw[dM,if_pos rfl];rfl
   obtain⟨q,g1,g2,g3,g4⟩:=yS F nm l (cK p.1 x true,cK p.2 nm ((aY p.2 nm).getD []++[x])) (fun y=>by
    dsimp only;rw[hg,dM,bu9,bi9]
    grind) (by grind) hk.put
   refine⟨q,by rw[if_pos (by decide),if_pos (by simp;omega),bt9];exact g1,fun y=>?_,fun k hk=>?_,g4⟩
   ·grind
   simp_all[dM,Ne.symm]
abbrev sF:=List (bj×Option ai)
structure Gv(F:Nat)(s:ai)(nums:List Int)(txs:List bj):Prop where
 n:Be F s=some nums
 t:sG F s=some txs
 ln:nums.length<=2000000
 lc:(fy s nums txs).length<=4000000000000
theorem xh(F:Nat)(all:sF)(k:List bj->List (bj×List ac)->Option (List (bj×List ac)×List bj)):
  ∀(l:List bj) (l44:List bj) (m45:List (bj×List ac)),l.Nodup->KN m45->(∀n,n∈l->aY m45 n=none)->l44.length+l.length<=10000000->
   (∀n,n∈l->∃s nums txs,aY all n=some (some s)/\Gv F s nums txs)->
   ∃by_,nQ F all k l l44 m45=k (l44++l) by_/\KN by_/\(∀n,n ∉ l->aY by_ n=aY m45 n)/\
    ∀n s nums txs,n∈l->aY all n=some (some s)->Gv F s nums txs->∀x,x∈(aY by_ n).getD []<->x∈fy s nums txs
 |[],l44,m45,_,hk,_,_,_=>⟨m45,by rw[nQ];simp,hk,fun _ _=>rfl,fun n s nums txs h=>by simp at h⟩
 |n::r,l44,m45,hn,hk,hno,hl,hg=>by
  simp only[br8] at hl;have hn':=aa9.1 hn;obtain⟨s,nums,txs,h1,h2⟩:=hg n (by simp);have hm:=hno n (by simp);obtain⟨q,g1,g2,g3,g4⟩:=yS F n (fy s nums txs) ([],m45) (fun x=>by simp_all[aY]) (by dsimp only;rw[hm];have:=h2.lc;simp;omega) hk
  obtain⟨by_,e1,e2,e3,e4⟩:=xh F all k r (l44++[n]) q.2 hn'.2 g4 (fun m hm2=>by
   grind) (by simp;omega) (fun m hm2=>hg m (by simp[hm2]))
  refine⟨by_,?_,e2,fun m hm2=>?_,fun m s' nums' txs' hm2 hs' hG x=>?_⟩
  ·rw[nQ,if_pos (by simp;omega),h1]
   show(Option.bind (some s) fun x50=>_)=_
   rw[bt9];have:=OW (fun p x=>lQ F n p.1 p.2 x) F s nums txs h2.n h2.t h2.ln ([],m45)
   grind
  ·grind
  ·rcases aq9.1 hm2 with e|hm2
   ·subst e;rw[h1] at hs';cases hs';have a1:=h2.n.symm.trans hG.n;have a2:=h2.t.symm.trans hG.t
    grind
   grind
theorem dY(l:List bj):(eA l).Perm l:=List.mergeSort_perm l _
theorem Pm(F:Nat)(all:sF)(c1:List KV)(n1:List Int)(c2:List KV)(n2:List Int)(hk:KN all)(hl:all.length<=1000)(hs:∀p,p∈all->p.1.length<=1000)(hg:∀n,n∈all.map (·.1)->∃s nums txs,aY all n=some (some s)/\Gv F s nums txs):
  ∃by_,Pn F all c1 n1 c2 n2=some (by_,eA (all.map (·.1)))/\∀n s nums txs,aY all n=some (some s)->Gv F s nums txs->∀x,x∈(aY by_ n).getD []<->x∈fy s nums txs:=by
 have hp:=dY (all.map (·.1));have hlen:(eA (all.map (·.1))).length=all.length:=by rw[hp.length_eq];simp
 obtain⟨by_,e1,e2,e3,e4⟩:=xh F all (fun l38 m39=>some (m39,l38)) (eA (all.map (·.1))) [] [] (hp.nodup_iff.2 hk) (by simp[KN]) (fun n _=>rfl) (by simp;omega) (fun n hn=>hg n (hp.mem_iff.1 hn));refine⟨by_,?_,fun n s nums txs h1 h2=>e4 n s nums txs (hp.mem_iff.2 ?_) h1 h2⟩
 ·unfold Pn rJ;rw[if_pos ⟨by omega,fun p hp=>by grind⟩,bt9,az,e1];simp
 ·exact bj8 (EE h1)
end Go.Proofs.YtelmfadihfcgnaaGreatDoor
namespace Go.Pv
open Go
theorem EP(a b:B8):(Di a b||Di b a)=true:=by
 grind [Di,uJ]
theorem EO(a b c:B8)(h:Di a b=true)(h':Di b c=true):Di a c=true:=by
 grind [Di,yy,kU]
theorem EG{a b:B8}(h:Di a b=true)(hne:a≠b):Op.bytesLess a b=true:=by
 grind [yy,Di]
theorem xU{l:List B8}(h:l.Pairwise (fun a b=>Di a b=true))(hn:l.Nodup):l.Pairwise (fun a b=>Op.bytesLess a b=true):=by
 induction l with
 |nil=>exact .nil
 |cons x l ih=>
  grind [List.pairwise_cons,EG]
def Kd(l:List B8):List B8:=l.mergeSort Di
theorem Ei(l:List B8):(Kd l).Perm l:=List.mergeSort_perm _ _
theorem GP(l:List B8):(Kd l).Pairwise (fun a b=>Di a b=true):=List.pairwise_mergeSort EO EP l
theorem MQ(a b:B8):(a<b)<->Op.bytesLess a b=true:=by
 induction a generalizing b with
 |nil=>cases b<;>simp[Op.bytesLess]
 |cons x a ih=>
  cases b<;>simp_all[Op.bytesLess,List.cons_lt_cons_iff]
theorem N1(a b:B8):decide (a<=b)=Di a b:=by
 unfold Di;rw[<-Bool.not_inj_iff,Bool.not_not];cases h:Op.bytesLess b a
 ·simp only[Bool.not_eq_eq_eq_not,br9,decide_eq_true_eq];exact fun hh=>by simp_all[MQ]
 simp_all[MQ]
theorem Gd(l:List B8):eA l=Kd l:=by
 simp_all[eA,Kd,N1]
theorem KR(l:List B8)(x:B8):x∈Dy l<->x∈l:=by
 unfold Dy Lib.compact Lib.compactUpTo;rw[bb9];constructor
 ·grind
 ·intro hx
  have key:∀j,j<l.length->∃i,i<=j/\Lib.keeps l.toArray i=true/\l.toArray[i]! = l.toArray[j]! := by
   intro j
   induction j with
   |zero=>simp_all[Lib.keeps]
   |succ j ih=>
    intro hj;by_cases he:l.toArray[j+1]! = l.toArray[j]!
    ·grind
    ·exact⟨j+1,ae9 _,by simp_all[Lib.keeps],rfl⟩
  grind [List.getElem_of_mem]
end Go.Pv
