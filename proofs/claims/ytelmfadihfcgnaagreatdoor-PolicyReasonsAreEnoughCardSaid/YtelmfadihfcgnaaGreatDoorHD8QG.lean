/- Part of the proof. -/
import Derived.Test.YtelmfadihfcgnaaGreatDoorHD8PD
import Init.Data.List.Lemmas
set_option linter.unusedSimpArgs false
set_option linter.unusedVariables false
namespace Go.Proofs.YtelmfadihfcgnaaGreatDoor
open Go Go.Pv
set_option maxRecDepth 100000
noncomputable section
mutual
def Tr.cd:Tr->KV
 | .mk k nm tx op n ks=>
  if k=2 then tP 147 bR ⟨nm,tx⟩ else if k=3 then tP 148 bz ⟨nm,tx⟩ else if k=4 then tP 150 bS ⟨nm⟩
  else if k=5 then tP 152 bx ⟨nm,op,n⟩ else if k=6 then tP 154 b8 ⟨(Tr.cds ks).headD ⟨0,.con (.bool true)⟩⟩ else if k=7 then tP 156 bU ⟨Tr.cds ks⟩
  else if k=8 then tP 157 bT ⟨Tr.cds ks⟩ else tP 159 ce ⟨⟩
def Tr.cds:List Tr->List KV
 |[]=>[]
 |t::r=>t.cd::Tr.cds r
end
end
theorem fe:∀{ks:List Tr} {t:Tr},Tr.flts ks=0->t∈ks->t.flt=0
 |u::r,t,h,hm=>by
  rw[Tr.flts] at h;by_cases h0:u.flt=0
  ·rw[if_pos h0] at h;rcases as9.1 hm with e|hm
   ·rw[e];exact h0
   ·exact fe h hm
  grind
theorem iQ{a b c d e ks}(h:(Tr.mk a b c d e ks).flt=0):cV ⟨a,b,c,d,e,Tr.toKs ks⟩=0/\Tr.flts ks=0:=by
 rw[Tr.flt] at h
 grind
theorem ix{x:aV}(h:cV x=0):1<=x.Kind/\x.Kind<=8:=by
 unfold cV at h
 grind
theorem jV{x:aV}(h:cV x=0)(h6:x.Kind=6):x.Kids.length=1:=by
 simp_all[cV]
theorem Hc:∀t:Tr,t.ok->t.flt=0->t.cnt<=60->∀F,t.fu<=F->Ja F t.toT=some t.cd:=Tr.ind fun k nm tx op n ks ih ok hz hc F hF=>by
 rw[Tr.fu] at hF;rw[Tr.cnt] at hc;obtain⟨hnode,hfl⟩:=iQ hz;obtain⟨F,rfl⟩:∃G,F=G+1:=⟨F - 1,by omega⟩
 show zq (Ja F) F (Tr.mk k nm tx op n ks).toT=_
 have hl:∀(kk:List KV->Option KV) (l:List Tr),(∀t,t∈l->t∈ks)->∀acc:List KV,acc.length+l.length<=60->ms (Ja F) F kk (Tr.toKs l) acc=kk (acc++Tr.cds l):=by
  intro kk l
  induction l with
  |nil=>simp_all[Tr.toKs,ms,Tr.cds]
  |cons t r ihr=>
   intro hm acc hlen;simp only[bx9] at hlen;have ht:=hm t (by simp)
   rw[Tr.toKs_map,bm9,ms,Tr.dec,by8,ih t ht (Tr.oks_mem (Tr.okks ok).1 ht) (fe hfl ht) (by have:=Tr.cnt_mem ht;omega) F (by have:=Tr.fu_mem ht;omega),by8,<-Tr.toKs_map,
    if_pos (by simp;omega),ihr (fun u hu=>hm u (by simp[hu])) _ (by simp;omega),Tr.cds]
   simp
 have hlen:=yr ks;rw[Tr.toT,zq,aH,hl _ ks (fun _ h=>h) [] (by simp;omega),Tr.cd,ad9];dsimp only;have b1:∀q:Int,((k==q)=true)<->k=q:=fun q=>beq_iff_eq;simp only[b1];by_cases h2:k=2
 ·grind
 rw[if_neg h2,if_neg h2];by_cases h2:k=3
 ·grind
 rw[if_neg h2,if_neg h2];by_cases h2:k=4
 ·grind
 rw[if_neg h2,if_neg h2];by_cases h2:k=5
 ·grind
 rw[if_neg h2,if_neg h2];by_cases h2:k=6
 ·rw[if_pos h2,if_pos h2];have h1:ks.length=1:=by rw[<-jV hnode h2];exact(Tr.toKs_len ks).symm
  match ks,h1 with
  |[t],_=>simp only[Tr.cds];rfl
 grind
def AM(s w:B8):Bool:=decide (w.length<=s.length)&&(s.take w.length==w)
def yS(a op b:Int):Bool:=if op=1 then decide (a<b) else if op=2 then decide (a<=b) else if op=3 then a==b else if op=4 then decide (a>=b) else decide (a>b)
def Ea(k:Int)(s:B8)(l:List B8):Bool:=l.any fun w=>w==s||(k==3)&&AM s w
def gZ(k op n:Int)(tx:List B8)(x:ab):Bool:=if k=4 then x.isText||x.isNumber else if k=5 then x.isNumber&&yS x.number op n else x.isText&&Ea k x.text tx
noncomputable section
mutual
def Tr.tru(f:aZ):Tr->Bool
 | .mk k nm tx op n ks=>if k=1 then true else if k=6 then !(Tr.allT f ks) else if k=7 then Tr.allT f ks else if k=8 then Tr.anyT f ks else gZ k op n tx (jJ f nm)
def Tr.allT(f:aZ):List Tr->Bool
 |[]=>true
 |t::r=>Tr.tru f t&&Tr.allT f r
def Tr.anyT(f:aZ):List Tr->Bool
 |[]=>false
 |t::r=>Tr.tru f t||Tr.anyT f r
end
end
theorem Jt(F:Nat)(op a b:Int):Hk F op a b=some (yS a op b):=by
 unfold Hk yS
 grind
theorem Ch(F:Nat)(a op b:Int):He F a op b=some (yS a op b):=by
 unfold He yS
 grind
theorem Cj(F:Nat)(s w:B8):Hi F s w=some (AM s w):=by
 unfold Hi AM
 grind
theorem Jr(F:Nat)(s w:B8):Js F s w=some (AM s w):=Cj F s w
theorem Ck(F:Nat)(s w:B8):Du F s w=some (AM s w):=by simp_all[Du,Cj]
theorem tN(F:Nat)(x:aV)(v:ab)(hl:x.Texts.length<=9223372036854775807)(hv:v.isText=true):∀(fuel j:Nat),x.Texts.length<fuel+j->j<=x.Texts.length->jr F x v (some false) fuel (j:Int)=some (Ea x.Kind v.text (x.Texts.drop j))
 |0,j,h1,h2=>by omega
 |fuel+1,j,h1,h2=>by
  rw[jr];by_cases hj:j<x.Texts.length
  ·rw[if_pos (decide_eq_true (by omega)),if_pos hv,aH,bQ hj,by8];dsimp only;rw[cS (by omega) (by omega),show((j:Int)+1)=((j+1:Nat):Int) from rfl,tN F x v hl hv fuel (j+1) (by omega) (by omega),bu8 hj]
   grind [Ea,Jr]
  ·rw[if_neg (by simp;omega),al8 (by omega)];rfl
theorem Co(F:Nat)(x:aV)(v:ab)(hl:x.Texts.length<=9223372036854775807)(hF:x.Texts.length<F):A9 F x v=some (gZ x.Kind x.Op x.N x.Texts v):=by
 unfold A9 gZ;simp only[beq_iff_eq];by_cases h4:x.Kind=4
 ·grind
 ·rw[if_neg h4,if_neg h4];by_cases h5:x.Kind=5
  ·rw[if_pos h5,if_pos h5,Jt];grind
  ·rw[if_neg h5,if_neg h5,aH];cases hv:v.isText
   ·obtain⟨G,rfl⟩:∃G,F=G+1:=⟨F - 1,by omega⟩
    grind [jr]
   ·have:=tN F x v hl hv F 0 (by omega) (by omega)
    grind
end Go.Proofs.YtelmfadihfcgnaaGreatDoor
namespace Go.Proofs.YtelmfadihfcgnaaGreatDoor
open Go Go.Pv
set_option maxRecDepth 100000
section
variable{τ σ:Type}
theorem cI{enc:τ->List V}(inj:∀a b,enc a=enc b->a=b){T:Nat}{y:τ}:gJ enc T (tP T enc y)=some y:=HI inj rfl rfl
theorem aO{enc:τ->List V}{enc':σ->List V}{T T':Nat}{y:τ}(h:T≠T'):gJ enc' T' (tP T enc y)=none:=HH (x:=tP T enc y) h
end
theorem Ao(a b:cT)(h:bR a=bR b):a=b:=by
 obtain⟨a1,a2⟩:=a;obtain⟨b1,b2⟩:=b;simp only[bR,ca8,and_true] at h
 grind [su]
theorem nH(a b:cq)(h:bz a=bz b):a=b:=by
 obtain⟨a1,a2⟩:=a;obtain⟨b1,b2⟩:=b;simp only[bz,ca8,and_true] at h
 grind [su]
theorem ww(a b:cN)(h:bS a=bS b):a=b:=by
 obtain⟨a1⟩:=a<;>simp_all[bS]
theorem nG(a b:cp)(h:bx a=bx b):a=b:=by
 obtain⟨a1,a2,a3⟩:=a<;>simp_all[bx]
theorem KV.enc_inj{a b:KV}(h:a.enc=b.enc):a=b:=by
 obtain⟨a1,a2⟩:=a<;>simp_all[KV.enc]
theorem yo{a b:List KV}(h:a.map KV.enc=b.map KV.enc):a=b:=List.map_inj_right (fun x y h=>KV.enc_inj h) |>.1 h
theorem wv(a b:cM)(h:b8 a=b8 b):a=b:=by
 obtain⟨a1⟩:=a;obtain⟨b1⟩:=b;have e1:a1=b1:=KV.enc_inj h
 grind
theorem wy(a b:cP)(h:bU a=bU b):a=b:=by
 obtain⟨a1⟩:=a;obtain⟨b1⟩:=b;simp only[bU,ca8,and_true] at h
 grind [yo]
theorem wx(a b:cO)(h:bT a=bT b):a=b:=by
 obtain⟨a1⟩:=a;obtain⟨b1⟩:=b;simp only[bT,ca8,and_true] at h
 grind [yo]
theorem yw(a b:cG)(h:ce a=ce b):a=b:=rfl
def tv(b:Bool):Int:=if b=true then 1 else 2
theorem eT(F:Nat)(b:Bool):G8 F b=some (tv b):=by cases b<;>rfl
theorem G0{p:Bool}{n:Nat}:(if p=true then some ((n:Nat):Int) else some (-1)).bind (fun y3:Int=>some (decide (y3>=0)))=some p:=by
 cases p
 ·rfl
 ·simp
theorem kH(F:Nat)(l:List B8)(s:B8):DG F l s=some (l.any fun w=>s==w):=by
 unfold DG JB;have h:=Ir (g:=kP F s (some (-1))) (fun w=>s==w) (fun _=>rfl) (fun x l n=>by rw[kP]) l 0
 grind [aH,G0]
theorem Ci(F:Nat)(l:List B8)(b c:Bool)(s:B8)(n:Int):Hf F l b c s n=some (l.any fun w=>AM s w):=by
 unfold Hf Jg;have h:=Ir (g:=kK F b c s n (some (-1))) (fun w=>AM s w) (fun _=>rfl) (fun x l m=>by simp_all[kK,Jd,Ck]) l 0
 grind [aH,G0]
theorem GM(s:B8):AM s s=true:=by simp[AM]
theorem HM(s:B8)(l:List B8):Ea 3 s l=l.any fun w=>AM s w:=by
 unfold Ea
 congr 1
 funext w
 simp_all[GM]
theorem HN(s:B8)(l:List B8):Ea 2 s l=l.any fun w=>s==w:=by
 unfold Ea
 grind
section
variable(F:Nat)(f:aZ)(nm:B8)
theorem rF:zt F (eV f) nm=some (⟨(jJ f nm).isText,(jJ f nm).isNumber,(jJ f nm).text,(jJ f nm).number⟩,true):=by
 rw[<-xI];rfl
theorem Jf(op n:Int)(tx:List B8):A5 F ⟨nm,tx⟩ (eV f)=some (tv (gZ 2 op n tx (jJ f nm))):=by
 unfold A5;rw[rF,by8];dsimp only;rw[kH,eT,by8,eT];unfold gZ;rw[HN];cases (jJ f nm).isText<;>rfl
theorem Je(op n:Int)(tx:List B8):A4 F ⟨nm,tx⟩ (eV f)=some (tv (gZ 3 op n tx (jJ f nm))):=by
 unfold A4;rw[rF,by8];dsimp only;rw[Ci,eT,by8,eT];unfold gZ;rw[HM];cases (jJ f nm).isText<;>rfl
theorem Jc(op n:Int)(tx:List B8):A3 F ⟨nm⟩ (eV f)=some (tv (gZ 4 op n tx (jJ f nm))):=by
 unfold A3;rw[rF,by8];dsimp only;rw[eT,eT];unfold gZ;cases (jJ f nm).isText<;>rfl
theorem Jb(op n:Int)(tx:List B8):A2 F ⟨nm,op,n⟩ (eV f)=some (tv (gZ 5 op n tx (jJ f nm))):=by
 unfold A2;rw[rF,by8];dsimp only;rw[Ch,eT,by8,eT];unfold gZ;cases (jJ f nm).isNumber<;>rfl
end
theorem BO(f:aZ):∀t:Tr,t.ok->t.flt=0->∀F,t.fu<=F->cX F t.cd (eV f)=some (tv (t.tru f)):=Tr.ind fun k nm tx op n ks ih ok hz F hF=>by
 rw[Tr.fu] at hF;obtain⟨hnode,hfl⟩:=iQ hz;obtain⟨F,rfl⟩:∃G,F=G+1:=⟨F - 1,by omega⟩
 show gn (cX F) F (Tr.mk k nm tx op n ks).cd (eV f)=_
 have hkid:∀t,t∈ks->cX F t.cd (eV f)=some (tv (t.tru f)):=fun t ht=>ih t ht (Tr.oks_mem (Tr.okks ok).1 ht) (fe hfl ht) F (by have:=Tr.fu_mem ht;omega);have hkk:=ix hnode;dsimp only at hkk;have hk':k=1\/k=2\/k=3\/k=4\/k=5\/k=6\/k=7\/k=8:=by omega
 rw[Tr.cd,Tr.tru]
 have hall:∀l:List Tr,(∀t,t∈l->t∈ks)->fR (cX F) F (eV f) (fun n4=>some n4) (Tr.cds l) 1=some (tv (Tr.allT f l)):=by
  intro l
  induction l with
  |nil=>intro _;rw[Tr.cds,Tr.allT];rfl
  |cons t r ihr=>
   intro hm;rw[Tr.cds,fR,hkid t (hm t (by simp)),by8,aH,Tr.allT];cases t.tru f
   ·rfl
   ·exact ihr fun u hu=>hm u (by simp[hu])
 have hany:∀l:List Tr,(∀t,t∈l->t∈ks)->fQ (cX F) F (eV f) (fun n4=>some n4) (Tr.cds l) 2=some (tv (Tr.anyT f l)):=by
  intro l
  induction l with
  |nil=>intro _;rw[Tr.cds,Tr.anyT];rfl
  |cons t r ihr=>
   intro hm;rw[Tr.cds,fQ,hkid t (hm t (by simp)),by8,aH,Tr.anyT];cases t.tru f
   ·exact ihr fun u hu=>hm u (by simp[hu])
   ·rfl
 unfold gn;rcases hk' with e|e|e|e|e|e|e|e
 ·subst e;simp only[show ¬(1:Int)=2 by decide,show ¬(1:Int)=3 by decide,show ¬(1:Int)=4 by decide,show ¬(1:Int)=5 by decide,show ¬(1:Int)=6 by decide,show ¬(1:Int)=7 by decide,show ¬(1:Int)=8 by decide,if_false];rw[aO (by decide),aO (by decide),aO (by decide),aO (by decide),aO (by decide),aO (by decide),aO (by decide),cI yw];rfl
 ·subst e;rw[if_pos rfl,cI Ao];exact Jf F f nm op n tx
 ·subst e;rw[if_neg (by decide),if_pos rfl,aO (by decide),cI nH];exact Je F f nm op n tx
 ·subst e;rw[if_neg (by decide),if_neg (by decide),if_pos rfl,aO (by decide),aO (by decide),cI ww];exact Jc F f nm op n tx
 ·subst e;rw[if_neg (by decide),if_neg (by decide),if_neg (by decide),if_pos rfl,aO (by decide),aO (by decide),aO (by decide),cI nG];exact Jb F f nm op n tx
 ·subst e;rw[if_neg (by decide),if_neg (by decide),if_neg (by decide),if_neg (by decide),if_pos rfl,aO (by decide),aO (by decide),aO (by decide),aO (by decide),cI wv];have h1:ks.length=1:=by rw[<-jV hnode rfl];exact(Tr.toKs_len ks).symm
  match ks,h1,hkid with
  |[t],_,hkid=>
   show A0 (cX F) F ⟨(Tr.cds [t]).headD _⟩ (eV f)=_
   rw[Tr.cds,List.headD_cons,A0,hkid t (by simp),by8,if_neg (by decide),if_pos rfl,Tr.allT,Tr.allT];cases t.tru f<;>rfl
 ·subst e;rw[if_neg (by decide),if_neg (by decide),if_neg (by decide),if_neg (by decide),if_neg (by decide),if_pos rfl,aO (by decide),aO (by decide),aO (by decide),aO (by decide),aO (by decide),cI wy];exact hall ks fun _ h=>h
 ·subst e;rw[if_neg (by decide),if_neg (by decide),if_neg (by decide),if_neg (by decide),if_neg (by decide),if_neg (by decide),if_pos rfl,aO (by decide),aO (by decide),aO (by decide),aO (by decide),aO (by decide),aO (by decide),cI wx];exact hany ks fun _ h=>h
theorem Pq:∀t:Tr,t.cd.t∈([147,148,150,152,154,156,157,159]:List Nat)
 | .mk k nm tx op n ks=>by
  rw[Tr.cd]
  repeat (split;· simp[tP])
  simp[tP]
theorem Bi{t:Tr}(h:vT t=0):t.flt=0/\t.cnt<=60:=by
 unfold vT at h
 grind
end Go.Proofs.YtelmfadihfcgnaaGreatDoor
namespace Go.Pv
abbrev bb:=B8
structure zj(is bg:List bb)(u v:bb):Prop where
 eq:∀e,e∈is->(u=e<->v=e)
 pre:∀b,b∈bg->(b <+: u<->b <+: v)
def qf(s:bb):Prop:=s.length<=1000/\∀c,c∈s->32<=c.toNat/\c.toNat<=126
structure dT(is bg:List bb)(p t:bb):Prop where
 pre:p <+: t
 ok:qf t
 not:t ∉ is
 no:∀b,b∈bg->p.length<b.length->¬b <+: t
theorem Ig(bg:List bb)(w:bb):∃p,(p∈bg\/p=[])/\p <+: w/\∀b,b∈bg->b <+: w->b.length<=p.length:=by
 induction bg with
 |nil=>simp_all
 |cons b r ih=>
  grind
theorem xZ{is bg out:List bb}(hi:∀e,e∈is->e∈out)(hf:∀p,(p∈bg\/p=[])->(∃t,dT is bg p t/\t∈out)\/∀t,¬dT is bg p t)(w:bb)(hw:qf w):
  ∃t,t∈out/\zj is bg t w:=by
 by_cases hm:w∈is
 ·exact⟨w,hi w hm,⟨fun _ _=>Iff.rfl,fun _ _=>Iff.rfl⟩⟩
 obtain⟨p,h1,h2,h3⟩:=Ig bg w;have hF:dT is bg p w:=⟨h2,hw,hm,fun b hb hl hp=>by grind⟩;rcases hf p h1 with ⟨t,ht,hto⟩|hno
 ·refine⟨t,hto,⟨fun e he=>⟨fun h=>absurd (h ▸ he) ht.not,fun h=>absurd (h ▸ he) hm⟩,fun b hb=>⟨fun hp=>?_,fun hp=>?_⟩⟩⟩
  ·have hl:b.length<=p.length:=au8 fun h=>ht.no b hb h hp;exact(List.prefix_of_prefix_length_le hp ht.pre hl).trans h2
  ·exact(List.prefix_of_prefix_length_le hp h2 (h3 b hb hp)).trans ht.pre
 grind
structure tw(ns:List Int)(x y:Int):Prop where
 lt:∀n,n∈ns->(x<n<->y<n)
 eq:∀n,n∈ns->(x=n<->y=n)
def jT(x:Int):Prop:=-1000000000000<=x/\x<=1000000000000
theorem Nh(ns:List Int)(x:Int):(∃n,n∈ns/\x<=n/\∀m,m∈ns->x<=m->n<=m)\/∀n,n∈ns->n<x:=by
 induction ns<;>grind
theorem Gc(ns:List Int)(h:ns≠[]):∃m,m∈ns/\∀n,n∈ns->n<=m:=by
 induction ns with
 |nil=>grind
 |cons a r ih=>
  by_cases hr:r=[]
  ·simp_all
  grind
theorem Bw{ns out:List Int}(h0:∃z,z∈out)(h1:∀n,n∈ns->n∈out)(h2:∀n,n∈ns->jT (n - 1)->n - 1∈out)(h3:∀m,m∈ns->(∀n,n∈ns->n<=m)->jT (m+1)->m+1∈out)(hns:∀n,n∈ns->jT n)(x:Int)(hx:jT x):
  ∃y,y∈out/\tw ns y x:=by
 rcases Nh ns x with ⟨n,a1,a2,a3⟩|h
 ·by_cases e:x=n
  ·exact⟨n,h1 n a1,by subst e;exact⟨fun _ _=>Iff.rfl,fun _ _=>Iff.rfl⟩⟩
  ·have hk:=hns n a1;unfold jT at hk hx;refine⟨n - 1,h2 n a1 ⟨by omega,by omega⟩,⟨fun m hm=>?_,fun m hm=>?_⟩⟩
   ·grind
   grind
 ·by_cases hn:ns=[]
  ·obtain⟨z,hz⟩:=h0;exact⟨z,hz,by subst hn;exact⟨fun n h=>by simp at h,fun n h=>by simp at h⟩⟩
  ·obtain⟨m,b1,b2⟩:=Gc ns hn;have b3:=h m b1;have b4:=hns m b1;unfold jT at hx b4;refine⟨m+1,h3 m b1 b2 ⟨by omega,by omega⟩,⟨fun n hn=>?_,fun n hn=>?_⟩⟩
   ·grind
   grind
section
variable{α:Type}
def om(s:bb->Option α)(n:bb)(x:α):bb->Option α:=fun m=>if m=n then some x else s m
def ext(s s':bb->Option α):Prop:=∀n x,s n=some x->s' n=some x
def lq(s:bb->Option α)(ns:List bb)(a:bb->α):bb->Option α:=fun m=>match s m with|some x=>some x|none=>if m∈ns then some (a m) else none
def qH? (P:(bb->Option α)->Option Bool) (can:bb->List α):List bb->(bb->Option α)->Option (bb->Option α)
 |[],s=>if P s=some true then some s else none
 |n::r,s=>match P s with
  |some true=>some s
  |some false=>none
  |none=>(can n).findSome? fun x=>qH? P can r (om s n x)
variable{P:(bb->Option α)->Option Bool}{can:bb->List α}
theorem HW{s:bb->Option α}{n:bb}{x:α}(h:s n=none):ext s (om s n x):=fun m y hm=>by
 unfold om
 grind
theorem pC:∀(ns:List bb) (s s':bb->Option α),ns.Nodup->(∀n,n∈ns->s n=none)->qH? P can ns s=some s'->
  P s'=some true/\ext s s'/\∀m x,s' m=some x->s m=some x\/(m∈ns/\x∈can m)
 |[],s,s',_,_,h=>by
  rw[qH?] at h;by_cases hp:P s=some true
  ·rw[if_pos hp] at h;cases h;exact⟨hp,fun _ _ h=>h,fun _ _ h=>.inl h⟩
  grind
 |n::r,s,s',hn,hs,h=>by
  rw[qH?] at h;cases hp:P s with
  |some b=>
   rw[hp] at h;cases b with
   |true=>cases h;exact⟨hp,fun _ _ h=>h,fun _ _ h=>.inl h⟩
   |false=>cases h
  |none=>
   rw[hp] at h;obtain⟨x,hx,h2⟩:=List.exists_of_findSome?_eq_some h;have hnn:=aa9.1 hn
   obtain⟨g1,g2,g3⟩:=pC r (om s n x) s' hnn.2 (fun m hm=>by
    unfold om
    grind) h2
   refine⟨g1,fun m y hm=>g2 m y (HW (hs n (by simp)) m y hm),fun m y hm=>?_⟩;rcases g3 m y hm with h3|⟨h3,h4⟩
   ·unfold om at h3
    grind
   grind
theorem DW{s:bb->Option α}{n:bb}{r:List bb}{a:bb->α}(h:s n=none):lq (om s n (a n)) r a=lq s (n::r) a:=by
 funext m
 unfold lq om
 grind
theorem DX{s:bb->Option α}{a:bb->α}:lq s [] a=s:=by
 funext m
 grind [lq]
theorem D3{s:bb->Option α}{ns:List bb}{a:bb->α}:ext s (lq s ns a):=fun m x h=>by
 grind [lq]
theorem sP(hm:∀s s' b,ext s s'->P s=some b->P s'=some b):∀(ns:List bb) (s:bb->Option α),ns.Nodup->(∀n,n∈ns->s n=none)->qH? P can ns s=none->
  ∀a:bb->α,(∀n,n∈ns->a n∈can n)->P (lq s ns a)≠some true
 |[],s,_,_,h,a,_=>by
  simp_all[qH?,DX]
 |n::r,s,hn,hs,h,a,ha=>by
  rw[qH?] at h;cases hp:P s with
  |some b=>
   grind [D3]
  |none=>
   rw[hp] at h;have hnn:=aa9.1 hn;have h2:=List.findSome?_eq_none_iff.1 h (a n) (ha n (by simp))
   have:=sP hm r (om s n (a n)) hnn.2 (fun m hmm=>by
    unfold om
    grind) h2 a (fun m hmm=>ha m (by simp[hmm]))
   simp_all[DW]
end
end Go.Pv
namespace Go.Proofs.YtelmfadihfcgnaaGreatDoor
open Go Go.Pv
set_option maxRecDepth 100000
abbrev Fd:=ab
def G1:Option Bool->Option Bool->Option Bool
 |some false,_=>some false
 |some true,b=>b
 |none,some false=>some false
 |none,_=>none
def M5:Option Bool->Option Bool->Option Bool
 |some true,_=>some true
 |some false,b=>b
 |none,some true=>some true
 |none,_=>none
structure Lf where
 k:Int
 nm:bb
 tx:List bb
 op:Int
 n:Int
def Lf.one(l:Lf)(x:Fd):Bool:=gZ l.k l.op l.n l.tx x
noncomputable section
mutual
def Tr.lvs:Tr->List Lf
 | .mk k nm tx op n ks=>if k=1 then [] else if k=6\/k=7\/k=8 then Tr.lvss ks else [⟨k,nm,tx,op,n⟩]
def Tr.lvss:List Tr->List Lf
 |[]=>[]
 |t::r=>Tr.lvs t++Tr.lvss r
end
mutual
def Tr.tr3(s:bb->Option Fd):Tr->Option Bool
 | .mk k nm tx op n ks=>if k=1 then some true else if k=6 then (Tr.all3 s ks).map (!·) else if k=7 then Tr.all3 s ks else if k=8 then Tr.any3 s ks else (s nm).map (gZ k op n tx)
def Tr.all3(s:bb->Option Fd):List Tr->Option Bool
 |[]=>some true
 |t::r=>G1 (Tr.tr3 s t) (Tr.all3 s r)
def Tr.any3(s:bb->Option Fd):List Tr->Option Bool
 |[]=>some false
 |t::r=>M5 (Tr.tr3 s t) (Tr.any3 s r)
end
mutual
def Tr.truA(a:bb->Fd):Tr->Bool
 | .mk k nm tx op n ks=>if k=1 then true else if k=6 then !(Tr.allA a ks) else if k=7 then Tr.allA a ks else if k=8 then Tr.anyA a ks else gZ k op n tx (a nm)
def Tr.allA(a:bb->Fd):List Tr->Bool
 |[]=>true
 |t::r=>Tr.truA a t&&Tr.allA a r
def Tr.anyA(a:bb->Fd):List Tr->Bool
 |[]=>false
 |t::r=>Tr.truA a t||Tr.anyA a r
end
end
theorem iJ{ks:List Tr}{l:Lf}:l∈Tr.lvss ks<->∃t,t∈ks/\l∈t.lvs:=by
 induction ks<;>simp_all[Tr.lvss]
theorem Dm{a a' b b':Option Bool}{c:Bool}(h1:∀c,a=some c->a'=some c)(h2:∀c,b=some c->b'=some c)(h:G1 a b=some c):G1 a' b'=some c:=by
 cases a with
 |some x=>
  rw[h1 x rfl];cases x with
  |false=>exact h
  |true=>exact h2 c h
 |none=>
  cases b with
  |none=>cases h
  |some y=>
   cases y with
   |true=>cases h
   |false=>
    rw[h2 false rfl];cases h;cases a' with
    |none=>rfl
    |some z=>cases z<;>rfl
theorem E7{a a' b b':Option Bool}{c:Bool}(h1:∀c,a=some c->a'=some c)(h2:∀c,b=some c->b'=some c)(h:M5 a b=some c):M5 a' b'=some c:=by
 cases a with
 |some x=>
  rw[h1 x rfl];cases x with
  |true=>exact h
  |false=>exact h2 c h
 |none=>
  cases b with
  |none=>cases h
  |some y=>
   cases y with
   |false=>cases h
   |true=>
    rw[h2 true rfl];cases h;cases a' with
    |none=>rfl
    |some z=>cases z<;>rfl
theorem pK{s s':bb->Option Fd}:∀ks:List Tr,(∀t,t∈ks->∀b,t.tr3 s=some b->t.tr3 s'=some b)->∀b,Tr.all3 s ks=some b->Tr.all3 s' ks=some b
 |[],_,b,h=>by simp_all[Tr.all3]
 |t::r,ih,b,h=>by
  rw[Tr.all3] at h ⊢;exact Dm (ih t (by simp)) (pK r fun u hu=>ih u (by simp[hu])) h
theorem vg{s s':bb->Option Fd}:∀ks:List Tr,(∀t,t∈ks->∀b,t.tr3 s=some b->t.tr3 s'=some b)->∀b,Tr.any3 s ks=some b->Tr.any3 s' ks=some b
 |[],_,b,h=>by simp_all[Tr.any3]
 |t::r,ih,b,h=>by
  rw[Tr.any3] at h ⊢;exact E7 (ih t (by simp)) (vg r fun u hu=>ih u (by simp[hu])) h
theorem rQ{s s':bb->Option Fd}(he:ext s s'):∀t:Tr,∀b,t.tr3 s=some b->t.tr3 s'=some b:=Tr.ind fun k nm tx op n ks ih b h=>by
 rw[Tr.tr3] at h ⊢;by_cases h1:k=1
 ·grind
 rw[if_neg h1] at h ⊢;by_cases h6:k=6
 ·rw[if_pos h6] at h ⊢
  grind [Option.map_eq_some_iff,pK]
 rw[if_neg h6] at h ⊢;by_cases h7:k=7
 ·rw[if_pos h7] at h ⊢;grind [pK]
 rw[if_neg h7] at h ⊢;by_cases h8:k=8
 ·rw[if_pos h8] at h ⊢;grind [vg]
 rw[if_neg h8] at h ⊢;rw[ad8] at h ⊢;obtain⟨x,h1,h2⟩:=h;exact⟨x,he _ _ h1,h2⟩
theorem ot{s:bb->Option Fd}{a:bb->Fd}:∀t:Tr,(∀l,l∈t.lvs->s l.nm=some (a l.nm))->t.tr3 s=some (t.truA a):=Tr.ind fun k nm tx op n ks ih h=>by
 rw[Tr.lvs] at h;rw[Tr.tr3,Tr.truA];by_cases h1:k=1
 ·grind
 rw[if_neg h1] at h ⊢;rw[if_neg h1]
 have hall:(∀l,l∈Tr.lvss ks->s l.nm=some (a l.nm))->∀l:List Tr,(∀t,t∈l->t∈ks)->Tr.all3 s l=some (Tr.allA a l):=by
  intro hk l
  induction l with
  |nil=>grind [Tr.all3,Tr.allA]
  |cons t r ihr=>
   intro hm;rw[Tr.all3,Tr.allA,ih t (hm t (by simp)) (fun l hl=>hk l (iJ.2 ⟨t,hm t (by simp),hl⟩)),ihr fun u hu=>hm u (by simp[hu])];cases t.truA a<;>rfl
 have hany:(∀l,l∈Tr.lvss ks->s l.nm=some (a l.nm))->∀l:List Tr,(∀t,t∈l->t∈ks)->Tr.any3 s l=some (Tr.anyA a l):=by
  intro hk l
  induction l with
  |nil=>grind [Tr.any3,Tr.anyA]
  |cons t r ihr=>
   intro hm;rw[Tr.any3,Tr.anyA,ih t (hm t (by simp)) (fun l hl=>hk l (iJ.2 ⟨t,hm t (by simp),hl⟩)),ihr fun u hu=>hm u (by simp[hu])];cases t.truA a<;>rfl
 by_cases h6:k=6
 ·grind
 rw[if_neg h6,if_neg h6];by_cases h7:k=7
 ·grind
 rw[if_neg h7,if_neg h7];by_cases h8:k=8
 ·grind
 simp_all
theorem nE{a b:bb->Fd}:∀t:Tr,(∀l,l∈t.lvs->l.one (a l.nm)=l.one (b l.nm))->t.truA a=t.truA b:=Tr.ind fun k nm tx op n ks ih h=>by
 rw[Tr.lvs] at h;rw[Tr.truA,Tr.truA];by_cases h1:k=1
 ·grind
 rw[if_neg h1] at h ⊢;rw[if_neg h1]
 have hall:(∀l,l∈Tr.lvss ks->l.one (a l.nm)=l.one (b l.nm))->∀l:List Tr,(∀t,t∈l->t∈ks)->Tr.allA a l=Tr.allA b l:=by
  intro hk l
  induction l with
  |nil=>simp_all[Tr.allA]
  |cons t r ihr=>
   intro hm;rw[Tr.allA,Tr.allA,ih t (hm t (by simp)) (fun l hl=>hk l (iJ.2 ⟨t,hm t (by simp),hl⟩)),ihr fun u hu=>hm u (by simp[hu])]
 have hany:(∀l,l∈Tr.lvss ks->l.one (a l.nm)=l.one (b l.nm))->∀l:List Tr,(∀t,t∈l->t∈ks)->Tr.anyA a l=Tr.anyA b l:=by
  intro hk l
  induction l with
  |nil=>simp_all[Tr.anyA]
  |cons t r ihr=>
   intro hm;rw[Tr.anyA,Tr.anyA,ih t (hm t (by simp)) (fun l hl=>hk l (iJ.2 ⟨t,hm t (by simp),hl⟩)),ihr fun u hu=>hm u (by simp[hu])]
 by_cases h6:k=6
 ·grind
 rw[if_neg h6,if_neg h6];by_cases h7:k=7
 ·grind
 rw[if_neg h7,if_neg h7];by_cases h8:k=8
 ·grind
 rw[if_neg (by grind)] at h;rw[if_neg h8,if_neg h8];exact h ⟨k,nm,tx,op,n⟩ (by simp)
theorem xQ(f:aZ):∀t:Tr,t.tru f=t.truA (jJ f):=Tr.ind fun k nm tx op n ks ih=>by
 rw[Tr.tru,Tr.truA]
 have hall:∀l:List Tr,(∀t,t∈l->t∈ks)->Tr.allT f l=Tr.allA (jJ f) l:=by
  intro l
  induction l with
  |nil=>intro _;rw[Tr.allT,Tr.allA]
  |cons t r ihr=>intro hm;rw[Tr.allT,Tr.allA,ih t (hm t (by simp)),ihr fun u hu=>hm u (by simp[hu])]
 have hany:∀l:List Tr,(∀t,t∈l->t∈ks)->Tr.anyT f l=Tr.anyA (jJ f) l:=by
  intro l
  induction l with
  |nil=>intro _;rw[Tr.anyT,Tr.anyA]
  |cons t r ihr=>intro hm;rw[Tr.anyT,Tr.anyA,ih t (hm t (by simp)),ihr fun u hu=>hm u (by simp[hu])]
 rw[hall ks fun _ h=>h,hany ks fun _ h=>h]
end Go.Proofs.YtelmfadihfcgnaaGreatDoor
namespace Go.Proofs.YtelmfadihfcgnaaGreatDoor
open Go Go.Pv
set_option maxRecDepth 100000
def uv(x:aa):Fd:=⟨x.hasText,x.hasNumber,x.text,x.number⟩
abbrev zl:=List (bb×aa)
abbrev HC:=List (bb×Bool)
def sgm(m:zl)(kn:HC):bb->Option Fd:=fun n=>if (aG kn n).getD false=true then some (uv (gV m n)) else none
def xy:Option Bool->Int
 |none=>0
 |some true=>1
 |some false=>2
theorem vD(b:Bool):xy (some b)=tv b:=by cases b<;>rfl
section
variable(F:Nat)(m:zl)(kn:HC)(nm:B8)
theorem xm:zt F ⟨m,some kn⟩ nm=some (gV m nm,(aG kn nm).getD false):=rfl
theorem Mt(op n:Int)(tx:List B8):A5 F ⟨nm,tx⟩ ⟨m,some kn⟩=some (xy ((sgm m kn nm).map (gZ 2 op n tx))):=by
 unfold A5 sgm;rw[xm,by8];dsimp only;cases (aG kn nm).getD false
 ·rfl
 ·rw[kH,eT,by8,eT,if_pos rfl,ba8,vD]
  grind [gZ,uv,HN]
theorem Ms(op n:Int)(tx:List B8):A4 F ⟨nm,tx⟩ ⟨m,some kn⟩=some (xy ((sgm m kn nm).map (gZ 3 op n tx))):=by
 unfold A4 sgm;rw[xm,by8];dsimp only;cases (aG kn nm).getD false
 ·rfl
 ·rw[Ci,eT,by8,eT,if_pos rfl,ba8,vD]
  grind [gZ,uv,HM]
theorem Mr(op n:Int)(tx:List B8):A3 F ⟨nm⟩ ⟨m,some kn⟩=some (xy ((sgm m kn nm).map (gZ 4 op n tx))):=by
 unfold A3 sgm;rw[xm,by8];dsimp only;cases (aG kn nm).getD false
 ·rfl
 ·rw[eT,eT,if_pos rfl,ba8,vD]
  grind [gZ,uv]
theorem Mq(op n:Int)(tx:List B8):A2 F ⟨nm,op,n⟩ ⟨m,some kn⟩=some (xy ((sgm m kn nm).map (gZ 5 op n tx))):=by
 unfold A2 sgm;rw[xm,by8];dsimp only;cases (aG kn nm).getD false
 ·rfl
 ·rw[Ch,eT,by8,eT,if_pos rfl,ba8,vD]
  grind [gZ,uv]
end
theorem Ns(m:zl)(kn:HC):∀t:Tr,t.ok->t.flt=0->∀F,t.fu<=F->cX F t.cd ⟨m,some kn⟩=some (xy (t.tr3 (sgm m kn))):=Tr.ind fun k nm tx op n ks ih ok hz F hF=>by
 rw[Tr.fu] at hF;obtain⟨hnode,hfl⟩:=iQ hz;obtain⟨F,rfl⟩:∃G,F=G+1:=⟨F - 1,by omega⟩
 show gn (cX F) F (Tr.mk k nm tx op n ks).cd ⟨m,some kn⟩=_
 have hkid:∀t,t∈ks->cX F t.cd ⟨m,some kn⟩=some (xy (t.tr3 (sgm m kn))):=fun t ht=>ih t ht (Tr.oks_mem (Tr.okks ok).1 ht) (fe hfl ht) F (by have:=Tr.fu_mem ht;omega);have hkk:=ix hnode;dsimp only at hkk;have hk':k=1\/k=2\/k=3\/k=4\/k=5\/k=6\/k=7\/k=8:=by omega
 rw[Tr.cd,Tr.tr3]
 have hall:∀(l:List Tr) (A:Option Bool),A≠some false->(∀t,t∈l->t∈ks)->fR (cX F) F ⟨m,some kn⟩ (fun n4=>some n4) (Tr.cds l) (xy A)=some (xy (G1 A (Tr.all3 (sgm m kn) l))):=by
  intro l
  induction l with
  |nil=>
   intro A hA _;rw[Tr.cds,Tr.all3,fR];cases A with
   |none=>rfl
   |some b=>cases b<;>rfl
  |cons t r ihr=>
   intro A hA hm;rw[Tr.cds,fR,hkid t (hm t (by simp)),by8,aH,Tr.all3];have hr:=fun B hB=>ihr B hB fun u hu=>hm u (by simp[hu]);cases t.tr3 (sgm m kn) with
   |none=>
    show fR _ _ _ _ _ 0=_
    rw[show(0:Int)=xy none from rfl,hr none (by simp)];cases A with
    |none=>cases Tr.all3 (sgm m kn) r with
     |none=>rfl
     |some b=>cases b<;>rfl
    |some a=>cases a with
     |false=>grind
     |true=>rfl
   |some b=>
    cases b with
    |false=>
     cases A with
     |none=>rfl
     |some a=>cases a with
      |false=>grind
      |true=>rfl
    |true=>exact hr A hA
 have hany:∀(l:List Tr) (A:Option Bool),A≠some true->(∀t,t∈l->t∈ks)->fQ (cX F) F ⟨m,some kn⟩ (fun n4=>some n4) (Tr.cds l) (xy A)=some (xy (M5 A (Tr.any3 (sgm m kn) l))):=by
  intro l
  induction l with
  |nil=>
   intro A hA _;rw[Tr.cds,Tr.any3,fQ];cases A with
   |none=>rfl
   |some b=>cases b<;>rfl
  |cons t r ihr=>
   intro A hA hm;rw[Tr.cds,fQ,hkid t (hm t (by simp)),by8,aH,Tr.any3];have hr:=fun B hB=>ihr B hB fun u hu=>hm u (by simp[hu]);cases t.tr3 (sgm m kn) with
   |none=>
    show fQ _ _ _ _ _ 0=_
    rw[show(0:Int)=xy none from rfl,hr none (by simp)];cases A with
    |none=>cases Tr.any3 (sgm m kn) r with
     |none=>rfl
     |some b=>cases b<;>rfl
    |some a=>cases a with
     |true=>grind
     |false=>rfl
   |some b=>
    cases b with
    |true=>
     cases A with
     |none=>rfl
     |some a=>cases a with
      |true=>grind
      |false=>rfl
    |false=>exact hr A hA
 unfold gn;rcases hk' with e|e|e|e|e|e|e|e
 ·subst e;simp only[show ¬(1:Int)=2 by decide,show ¬(1:Int)=3 by decide,show ¬(1:Int)=4 by decide,show ¬(1:Int)=5 by decide,show ¬(1:Int)=6 by decide,show ¬(1:Int)=7 by decide,show ¬(1:Int)=8 by decide,if_false];rw[aO (by decide),aO (by decide),aO (by decide),aO (by decide),aO (by decide),aO (by decide),aO (by decide),cI yw];rfl
 ·subst e;rw[if_pos rfl,cI Ao];exact Mt F m kn nm op n tx
 ·subst e;rw[if_neg (by decide),if_pos rfl,aO (by decide),cI nH];exact Ms F m kn nm op n tx
 ·subst e;rw[if_neg (by decide),if_neg (by decide),if_pos rfl,aO (by decide),aO (by decide),cI ww];exact Mr F m kn nm op n tx
 ·subst e;rw[if_neg (by decide),if_neg (by decide),if_neg (by decide),if_pos rfl,aO (by decide),aO (by decide),aO (by decide),cI nG];exact Mq F m kn nm op n tx
 ·subst e;rw[if_neg (by decide),if_neg (by decide),if_neg (by decide),if_neg (by decide),if_pos rfl,aO (by decide),aO (by decide),aO (by decide),aO (by decide),cI wv];have h1:ks.length=1:=by rw[<-jV hnode rfl];exact(Tr.toKs_len ks).symm
  match ks,h1,hkid with
  |[t],_,hkid=>
   show A0 (cX F) F ⟨(Tr.cds [t]).headD _⟩ ⟨m,some kn⟩=_
   rw[Tr.cds,List.headD_cons,A0,hkid t (by simp),by8,if_neg (by decide),if_pos rfl,Tr.all3,Tr.all3];cases t.tr3 (sgm m kn) with
   |none=>rfl
   |some b=>cases b<;>rfl
 ·subst e;rw[if_neg (by decide),if_neg (by decide),if_neg (by decide),if_neg (by decide),if_neg (by decide),if_pos rfl,aO (by decide),aO (by decide),aO (by decide),aO (by decide),aO (by decide),cI wy];exact hall ks (some true) (by simp) fun _ h=>h
 ·subst e;rw[if_neg (by decide),if_neg (by decide),if_neg (by decide),if_neg (by decide),if_neg (by decide),if_neg (by decide),if_pos rfl,aO (by decide),aO (by decide),aO (by decide),aO (by decide),aO (by decide),aO (by decide),cI wx];exact hany ks (some false) (by simp) fun _ h=>h
def KN{κ τ:Type}(m:List (κ×τ)):Prop:=(m.map (·.1)).Nodup
section
variable{κ τ:Type}[DecidableEq κ]
theorem CL{m:List (κ×τ)}{k:κ}:aG m k=none<->k ∉ m.map (·.1):=by
 induction m with
 |nil=>simp[aG]
 |cons p r ih=>
  rw[aG]
  grind
theorem CM{m:List (κ×τ)}{k:κ}{v:τ}(h:aG m k=some v):(k,v)∈m:=by
 induction m with
 |nil=>simp[aG] at h
 |cons p r ih=>
  rw[aG] at h
  grind
theorem FK{m:List (κ×τ)}(hn:KN m){p:κ×τ}(h:p∈m):aG m p.1=some p.2:=by
 induction m with
 |nil=>simp at h
 |cons q r ih=>
  rw[aG];unfold KN at hn;rw[bm9,aa9] at hn;rcases as9.1 h with e|h
  ·grind
  ·rw[if_neg (fun e=>hn.1 (by grind)),ih hn.2 h]
theorem uY{m:List (κ×τ)}{k:κ}{v:τ}:∀x,x∈(bM m k v).map (·.1)<->x=k\/x∈m.map (·.1):=by
 induction m with
 |nil=>grind [bM]
 |cons p r ih=>
  intro x;rw[bM]
  grind
theorem KN.put{m:List (κ×τ)}{k:κ}{v:τ}(h:KN m):KN (bM m k v):=by
 unfold KN at *
 induction m with
 |nil=>simp[bM]
 |cons p r ih=>
  rw[bm9,aa9] at h;rw[bM];by_cases e:p.1=k
  ·grind
  simp_all[uY]
theorem FL{m:List (κ×τ)}{k x:κ}(h:x∈(di m k).map (·.1)):x∈m.map (·.1):=by
 induction m<;>grind [di]
theorem KN.del{m:List (κ×τ)}{k:κ}(h:KN m):KN (di m k):=by
 unfold KN at *
 induction m<;>grind [di,FL]
theorem pu{m:List (κ×τ)}{k x:κ}(h:KN m):aG (di m k) x=if x=k then none else aG m x:=by
 unfold KN at h
 induction m with
 |nil=>simp[di,aG]
 |cons p r ih=>
  rw[bm9,aa9] at h;rw[di];by_cases e:p.1=k
  ·simp_all[CL,aG,Ne.symm]
  ·rw[if_neg e,aG,aG,ih h.2]
   grind
end
abbrev Mx:=bb->Option aa
def wU(s:Mx):bb->Option Fd:=fun n=>(s n).map uv
structure DE(m:zl)(kn:HC)(s:Mx):Prop where
 fm:∀n,aG m n=s n
 fk:∀n,aG kn n=(s n).map fun _=>true
 nm:KN m
 nk:KN kn
theorem DE.sgm{m:zl}{kn:HC}{s:Mx}(h:DE m kn s):sgm m kn=wU s:=by
 funext n
 unfold Go.Proofs.YtelmfadihfcgnaaGreatDoor.sgm wU gV;rw[h.fk,h.fm];cases s n<;>rfl
theorem BS(P:Mx->Option Bool)(F0:Nat)(hb:Bool)(cd:KV)(hC:∀F m kn s,F0<=F->DE m kn s->Mi F ⟨m,some kn⟩ hb cd=some (xy (P s)))(by_:List (bb×List aa))(ns:List bb)(hn:ns.Nodup)(hlen:ns.length<=1000):
  ∀(rest pre:List bb),ns=pre++rest->∀F,F0+rest.length+1<=F->∀m kn s,DE m kn s->(∀n,n∈rest->s n=none)->
   ∃m' kn',(match qH? P (fun n=>(aG by_ n).getD []) rest s with
    |some s'=>xF F (pre.length:Int) by_ hb cd ns m kn=some (true,m',kn')/\DE m' kn' s'
    |none=>xF F (pre.length:Int) by_ hb cd ns m kn=some (false,m',kn')/\DE m' kn' s)
 |[],pre,hns,F,hF,m,kn,s,hs,_=>by
  obtain⟨F,rfl⟩:∃G,F=G+1:=⟨F - 1,by omega⟩;have hl:ns.length=pre.length:=by rw[hns];simp
  have hh:=hC F m kn s (by grind) hs;refine⟨m,kn,?_⟩;rw[qH?]
  show match (if P s=some true then some s else none) with|some s'=>ld (xF F) F _ _ _ _ _ _ _=_/\_|none=>ld (xF F) F _ _ _ _ _ _ _=_/\_
  unfold ld;rw[hh,by8];by_cases h1:P s=some true
  ·rw[if_pos h1];dsimp only;rw[show P s=some true from h1];exact⟨Y,hs⟩
  ·rw[if_neg h1];dsimp only;refine⟨?_,hs⟩;have h1:P s≠some true:=h1;cases h2:P s with
   |none=>
    show(if (((0:Int))==1)=true then _ else if ((0:Int)==2)=true then _ else if ((pre.length:Int)==((ns.length:Nat):Int))=true then _ else _)=_
    grind
   |some b=>
    cases b with
    |true=>grind
    |false=>rfl
 |n::r,pre,hns,F,hF,m,kn,s,hs,hno=>by
  obtain⟨F,rfl⟩:∃G,F=G+1:=⟨F - 1,by omega⟩;simp only[bx9] at hF;have hh:=hC F m kn s (by omega) hs;have hsn:=hno n (by simp)
  have hnd:n ∉ r:=by
   rw[hns,ca9] at hn;exact(aa9.1 hn.2.1).1
  have hl:ns.length=pre.length+(r.length+1):=by rw[hns];simp
  rw[qH?];cases h2:P s with
  |some b=>
   have h2':P s=some b:=h2;rw[h2'] at hh;refine⟨m,kn,?_⟩;cases b with
   |true=>
    dsimp only;refine⟨?_,hs⟩
    show ld (xF F) F _ _ _ _ _ _ _=_
    unfold ld;rw[hh,by8];rfl
   |false=>
    dsimp only;refine⟨?_,hs⟩
    show ld (xF F) F _ _ _ _ _ _ _=_
    unfold ld;rw[hh,by8];rfl
  |none=>
   have h2':P s=none:=h2;rw[h2'] at hh;dsimp only
   have hbody:xF (F+1) (pre.length:Int) by_ hb cd ns m kn=jG (xF F) F (pre.length:Int) by_ hb cd ns n (fun m41 m42=>some (false,di m41 n,di m42 n)) ((aG by_ n).getD []) m (bM kn n true):=by
    show ld (xF F) F _ _ _ _ _ _ _=_
    unfold ld;rw[hh,by8]
    show(if (((0:Int))==1)=true then _ else if ((0:Int)==2)=true then _ else if ((pre.length:Int)==((ns.length:Nat):Int))=true then _ else _)=_
    rw[if_neg (by decide),if_neg (by decide),if_neg (by simp;omega),bQ (by omega),by8];have:ns[pre.length]'(by omega)=n:=by simp[hns]
    rw[this];rfl
   rw[hbody]
   -- the loop over what the name can be
   have loop:∀(xs:List aa) (m1:zl) (kn1:HC),(∀k,k≠n->aG m1 k=s k)->(∀k,aG kn1 k=if k=n then some true else (s k).map fun _=>true)->KN m1->KN kn1->
     ∃m' kn',(match xs.findSome? (fun x=>qH? P (fun n=>(aG by_ n).getD []) r (om s n x)) with
      |some s'=>jG (xF F) F (pre.length:Int) by_ hb cd ns n (fun m41 m42=>some (false,di m41 n,di m42 n)) xs m1 kn1=some (true,m',kn')/\DE m' kn' s'
      |none=>jG (xF F) F (pre.length:Int) by_ hb cd ns n (fun m41 m42=>some (false,di m41 n,di m42 n)) xs m1 kn1=some (false,m',kn')/\DE m' kn' s):=by
    intro xs
    induction xs with
    |nil=>
     intro m1 kn1 q1 q2 q3 q4;refine⟨di m1 n,di kn1 n,Y,fun k=>?_,fun k=>?_,q3.del,q4.del⟩
     ·simp_all[pu]
     simp_all[pu]
    |cons x xs ih=>
     intro m1 kn1 q1 q2 q3 q4
     have hst:DE (bM m1 n x) kn1 (om s n x):=by
      refine⟨fun k=>?_,fun k=>?_,q3.put,q4⟩
      ·rw[cL];unfold om
       grind
      ·rw[q2];unfold om
       grind
     obtain⟨m2,kn2,h3⟩:=BS P F0 hb cd hC by_ ns hn hlen r (pre++[n]) (by grind) F (by omega) (bM m1 n x) kn1 (om s n x) hst (fun k hk=>by
      unfold om
      grind)
     rw[show((pre++[n]).length:Int)=(pre.length:Int)+1 by simp] at h3;rw[List.findSome?_cons];cases h4:qH? P (fun n=>(aG by_ n).getD []) r (om s n x) with
     |some s'=>
      grind [jG,cS]
     |none=>
      rw[h4] at h3;dsimp only at h3 ⊢;have h5:=h3.2
      obtain⟨m',kn',h6⟩:=ih m2 kn2 (fun k hk=>by rw[h5.fm];simp_all[om]) (fun k=>by
       rw[h5.fk];unfold om
       grind) h5.nm h5.nk
      refine⟨m',kn',?_⟩
      grind [jG,cS]
   exact loop _ m (bM kn n true) (fun k hk=>hs.fm k) (fun k=>by
    rw[cL,hs.fk]
    grind) hs.nm hs.nk.put
termination_by rest=>rest.length
set_option maxRecDepth 1000000
theorem NL{α β:Type}{o o':Option α}(h:o=o'){f g:α->Option β}(hfg:∀y,f y=g y):o.bind f=o'.bind g:=by
 subst h;exact congrArg o.bind (funext hfg)
abbrev xC:=List (aa×Bool)×List (bb×List aa)
def iP(R:xC->aa->Option xC):List aa->xC->Option xC
 |[],p=>some p
 |x::l,p=>(R p x).bind (iP R l)
theorem mN(R:xC->aa->Option xC):∀(l l':List aa) (p:xC),iP R (l++l') p=(iP R l p).bind (iP R l')
 |[],l',p=>rfl
 |x::l,l',p=>by
  show(R p x).bind (iP R (l++l'))=((R p x).bind (iP R l)).bind (iP R l')
  rw[Option.bind_assoc]
  congr 1
  funext q
  exact mN R l l' q
def nv(n:Int):aa:=⟨false,true,[],n⟩
def HO(t:bb)(v:aa):aa:=⟨true,v.hasNumber,t,v.number⟩
def nb(s:ae)(nums:List Int):List aa:=zV::(if (s.asNo||s.has)=true then nums.map nv else [])
def eS(s:ae)(nums:List Int)(txs:List bb):List aa:=
 nb s nums++(if (s.asText||s.has)=true then txs.flatMap (fun t=>(nb s nums).map (HO t)) else [])
section
variable(R0:xC->aa->Option xC)(F:Nat)
theorem pO(k:List aa->Option xC):∀(l:List Int) (acc:List aa),acc.length+l.length<=1000000000000->gP F k l acc=k (acc++l.map nv)
 |[],acc,_=>by rw[gP];simp
 |x::l,acc,h=>by
  simp only[bx9] at h;rw[gP,if_pos (by simp;omega),pO k l _ (by simp;omega)];simp[nv]
theorem pM(k:List (aa×Bool)->List (bb×List aa)->Option xC):∀(l:List aa) (p:xC),go R0 F k l p.1 p.2=(iP R0 l p).bind fun q=>k q.1 q.2
 |[],p=>by rw[go];rfl
 |x::l,p=>by
  rw[go]
  show _=((R0 p x).bind (iP R0 l)).bind fun q=>k q.1 q.2
  rw[Option.bind_assoc];exact NL Y fun y=>pM k l y
theorem vk(t:bb)(k:List (aa×Bool)->List (bb×List aa)->Option xC):∀(l:List aa) (p:xC),eK R0 F t k l p.1 p.2=(iP R0 (l.map (HO t)) p).bind fun q=>k q.1 q.2
 |[],p=>by rw[eK];rfl
 |x::l,p=>by
  rw[eK]
  show _=((R0 p (HO t x)).bind (iP R0 (l.map (HO t)))).bind fun q=>k q.1 q.2
  rw[Option.bind_assoc];exact NL Y fun y=>vk t k l y
theorem j9(vs:List aa):∀(l:List bb) (p:xC),dm R0 F vs l p.1 p.2=iP R0 (l.flatMap fun t=>vs.map (HO t)) p
 |[],p=>by rw[dm];rfl
 |t::l,p=>by
  rw[dm,aH,aH,vk,ab8,mN];exact NL Y fun y=>j9 vs l y
theorem L3(s:ae)(nums:List Int)(txs:List bb)(h1:zu F s=some nums)(h2:q9 F s=some txs)(hn:nums.length<=1000000)(p:xC):
  Oh R0 F s.is s.begins s.numbers s.asText s.asNo s.has s.weight p.1 p.2=iP R0 (eS s nums txs) p:=by
 obtain⟨a1,a2,a3,a4,a5,a6,a7⟩:=s;unfold Oh eS nb;dsimp only;have hz:(aa.mk false false ([]:B8) 0)=zV:=rfl;cases a5 with
 |true=>
  rw[if_pos rfl,h1,by8,aH,pO F _ _ _ (by simp;omega),aH,pM];rw[hz,show((true||a6):Bool)=true from rfl,if_pos rfl,mN R0 (zV::List.map nv nums)];refine NL Y fun y=>?_;cases a4 with
  |false=>
   rw[if_pos (by decide)];cases a6 with
   |false=>rw[if_pos (by decide)];rfl
   |true=>simp_all[j9]
  |true=>simp_all[j9]
 |false=>
  rw[if_neg (by decide),aH]
  have key:∀vs:List aa,(jn (fun(m116:List (aa×Bool)) (m117:List (B8×(List aa)))=>if (!a4)=true then if (!a6)=true then some (m116,m117)
    else (q9 F (ae.mk a1 a2 a3 a4 false a6 a7)).bind fun y132=>dm R0 F vs y132 m116 m117
    else (q9 F (ae.mk a1 a2 a3 a4 false a6 a7)).bind fun y162=>dm R0 F vs y162 m116 m117) (fun k115=>go R0 F k115 vs p.1 p.2)) =
    iP R0 (vs++if (a4||a6)=true then txs.flatMap (fun t=>vs.map (HO t)) else []) p:=by
   intro vs;rw[aH,pM,mN];refine NL Y fun y=>?_;cases a4 with
   |false=>
    rw[if_pos (by decide)];cases a6 with
    |false=>rw[if_pos (by decide)];rfl
    |true=>simp_all[j9]
   |true=>simp_all[j9]
  cases a6 with
  |true=>
   rw[if_pos rfl,h1,by8,aH,pO F _ _ _ (by simp;omega)];exact key _
  |false=>
   grind
end
theorem xi(F:Nat)(nm:bb):∀(l:List aa) (p:xC),(∀x,(aG p.1 x).getD false=true<->x∈(aG p.2 nm).getD [])->((aG p.2 nm).getD []).length+l.length<=1000000000000->KN p.2->
  ∃q:xC,iP (fun p x=>kI F nm p.1 p.2 x) l p=some q/\(∀x,x∈(aG q.2 nm).getD []<->x∈(aG p.2 nm).getD []\/x∈l)/\(∀k,k≠nm->aG q.2 k=aG p.2 k)/\KN q.2
 |[],p,_,_,hk=>⟨p,rfl,fun x=>by simp,fun _ _=>rfl,hk⟩
 |x::l,p,h1,h2,hk=>by
  simp only[bx9] at h2
  show ∃q,(kI F nm p.1 p.2 x).bind _=some q/\_
  unfold kI;rw[aH];cases hs:(aG p.1 x).getD false with
  |true=>
   have hx:=(h1 x).1 hs;obtain⟨q,g1,g2,g3,g4⟩:=xi F nm l p h1 (by omega) hk;refine⟨q,by rw[if_neg (by decide),by8];exact g1,fun y=>?_,g3,g4⟩
   grind
  |false=>
   have hg:(aG (bM p.2 nm ((aG p.2 nm).getD []++[x])) nm).getD []=(aG p.2 nm).getD []++[x]:=by rw[cL,if_pos rfl];rfl
   obtain⟨q,g1,g2,g3,g4⟩:=xi F nm l (bM p.1 x true,bM p.2 nm ((aG p.2 nm).getD []++[x])) (fun y=>by
    dsimp only;rw[hg,cL,bz8,bn9]
    grind) (by grind) hk.put
   refine⟨q,by rw[if_pos (by decide),if_pos (by simp;omega),by8];exact g1,fun y=>?_,fun k hk=>?_,g4⟩
   ·grind
   simp_all[cL,Ne.symm]
abbrev vi:=List (bb×Option ae)
structure Gv(F:Nat)(s:ae)(nums:List Int)(txs:List bb):Prop where
 n:zu F s=some nums
 t:q9 F s=some txs
 ln:nums.length<=1000000
 lc:(eS s nums txs).length<=1000000000000
theorem pR(F:Nat)(all:vi)(fx:zl)(k:List bb->List (bb×List aa)->zl->HC->Option (List (bb×List aa)×List bb×zl×HC)):
  ∀(l:List bb) (l44:List bb) (m45:List (bb×List aa)) (m66:zl) (m67:HC),l.Nodup->KN m45->KN m66->KN m67->(∀n,n∈l->aG m45 n=none)->l44.length+l.length<=10000000->
   (∀n,n∈l->aG fx n=none->∃s nums txs,aG all n=some (some s)/\Gv F s nums txs)->
   ∃by_ m kn,gp F all fx k l l44 m45 m66 m67=k (l44++l.filter fun n=>(aG fx n).isNone) by_ m kn/\KN by_/\KN m/\KN kn/\(∀n,n ∉ l->aG by_ n=aG m45 n)/\
    (∀n,aG m n=if n∈l/\(aG fx n).isSome=true then aG fx n else aG m66 n)/\(∀n,aG kn n=if n∈l/\(aG fx n).isSome=true then some true else aG m67 n)/\
    ∀n s nums txs,n∈l->aG fx n=none->aG all n=some (some s)->Gv F s nums txs->∀x,x∈(aG by_ n).getD []<->x∈eS s nums txs
 |[],l44,m45,m66,m67,_,hk,h6,h7,_,_,_=>⟨m45,m66,m67,by rw[gp];simp,hk,h6,h7,fun _ _=>rfl,by simp,by simp,fun n s nums txs h=>by simp at h⟩
 |n::r,l44,m45,m66,m67,hn,hk,h6,h7,hno,hl,hg=>by
  simp only[bx9] at hl;have hn':=aa9.1 hn;have hm:=hno n (by simp);cases hf:aG fx n with
  |some v=>
   obtain⟨by_,m,kn,e1,e2,e5,e6,e3,e7,e8,e4⟩:=pR F all fx k r l44 m45 (bM m66 n v) (bM m67 n true) hn'.2 hk h6.put h7.put (fun m hm2=>hno m (by simp[hm2])) (by omega) (fun m hm2=>hg m (by simp[hm2]));refine⟨by_,m,kn,?_,e2,e5,e6,fun m hm2=>e3 m (by simp at hm2;exact hm2.2),fun x=>?_,fun x=>?_,fun m s' nums' txs' hm2 hf' hs' hG x=>?_⟩
   ·rw[gp,aH,hf,if_pos (by rfl),bx8];refine e1.trans ?_;rw[aa8,hf];rfl
   ·rw[e7,cL];by_cases e:x=n
    ·subst e;simp[hn'.1,hf]
    ·simp[e,Ne.symm e]
   ·rw[e8,cL];by_cases e:x=n
    ·subst e;simp[hn'.1,hf]
    ·simp[e,Ne.symm e]
   ·rcases as9.1 hm2 with e|hm2
    ·subst e;rw[hf] at hf';cases hf'
    ·exact e4 m s' nums' txs' hm2 hf' hs' hG x
  |none=>
   obtain⟨s,nums,txs,h1,h2⟩:=hg n (by simp) hf;obtain⟨q,g1,g2,g3,g4⟩:=xi F n (eS s nums txs) ([],m45) (fun x=>by simp_all[aG]) (by dsimp only;rw[hm];have:=h2.lc;simp;omega) hk
   obtain⟨by_,m,kn,e1,e2,e5,e6,e3,e7,e8,e4⟩:=pR F all fx k r (l44++[n]) q.2 m66 m67 hn'.2 g4 h6 h7 (fun m hm2=>by
    grind) (by simp;omega) (fun m hm2=>hg m (by simp[hm2]))
   refine⟨by_,m,kn,?_,e2,e5,e6,fun m hm2=>?_,fun x=>?_,fun x=>?_,fun m s' nums' txs' hm2 hf' hs' hG x=>?_⟩
   ·rw[gp,aH,hf,if_neg (by simp),if_pos (by simp;omega),h1]
    show(Option.bind (some s) fun x50=>_)=_
    rw[by8];have:=L3 (fun p x=>kI F n p.1 p.2 x) F s nums txs h2.n h2.t h2.ln ([],m45);dsimp only at this;rw[this,g1,by8];refine e1.trans ?_;rw[aa8,hf];simp
   ·grind
   ·rw[e7];by_cases e:x=n
    ·subst e;simp[hn'.1,hf]
    ·simp[e]
   ·rw[e8];by_cases e:x=n
    ·subst e;simp[hn'.1,hf]
    ·simp[e]
   ·rcases as9.1 hm2 with e|hm2
    ·subst e;rw[h1] at hs';cases hs';have a1:=h2.n.symm.trans hG.n;have a2:=h2.t.symm.trans hG.t
     grind
    exact e4 m s' nums' txs' hm2 hf' hs' hG x
theorem dg(l:List bb):(dU l).Perm l:=List.mergeSort_perm l _
def yJ(all:vi)(fx:zl):Mx:=fun n=>if n∈all.map (·.1) then aG fx n else none
theorem Mk(F:Nat)(all:vi)(hb:Bool)(cd:KV)(fx:zl)(hk:KN all)(hl:all.length<=1000)(hs:∀p,p∈all->p.1.length<=1000)(hg:∀n,n∈all.map (·.1)->aG fx n=none->∃s nums txs,aG all n=some (some s)/\Gv F s nums txs):
  ∃by_ m kn,HD F all hb cd fx=some (by_,(dU (all.map (·.1))).filter (fun n=>(aG fx n).isNone),m,kn)/\DE m kn (yJ all fx)/\∀n s nums txs,aG fx n=none->aG all n=some (some s)->Gv F s nums txs->∀x,x∈(aG by_ n).getD []<->x∈eS s nums txs:=by
 have hp:=dg (all.map (·.1));have hlen:(dU (all.map (·.1))).length=all.length:=by rw[hp.length_eq];simp
 obtain⟨by_,m,kn,e1,e2,e5,e6,e3,e7,e8,e4⟩:=pR F all fx (fun l54 m55 m56 m57=>some (m55,l54,m56,m57)) (dU (all.map (·.1))) [] [] [] [] (hp.nodup_iff.2 hk) (by simp[KN]) (by simp[KN]) (by simp[KN]) (fun n _=>rfl) (by simp;omega) (fun n hn=>hg n (hp.mem_iff.1 hn));refine⟨by_,m,kn,?_,⟨fun n=>?_,fun n=>?_,e5,e6⟩,fun n s nums txs h0 h1 h2=>e4 n s nums txs (hp.mem_iff.2 ?_) h0 h1 h2⟩
 ·unfold HD qc;rw[if_pos ⟨by omega,fun p hp=>by grind⟩,by8,aH,e1];simp
 ·rw[e7];unfold yJ;simp only[hp.mem_iff];by_cases h:n∈all.map (·.1)
  ·cases hf:aG fx n<;>simp[h,aG]
  ·simp[h,aG]
 ·rw[e8];unfold yJ;simp only[hp.mem_iff];by_cases h:n∈all.map (·.1)
  ·cases hf:aG fx n<;>simp[h,aG]
  ·simp[h,aG]
 ·exact bo8 (CM h1)
end Go.Proofs.YtelmfadihfcgnaaGreatDoor
namespace Go.Pv
open Go
theorem CS(a b:B8):(BK a b||BK b a)=true:=by
 grind [BK,oP]
theorem CR(a b c:B8)(h:BK a b=true)(h':BK b c=true):BK a c=true:=by
 grind [BK,pH,fM]
theorem CN{a b:B8}(h:BK a b=true)(hne:a≠b):Op.bytesLess a b=true:=by
 grind [pH,BK]
theorem wg{l:List B8}(h:l.Pairwise (fun a b=>BK a b=true))(hn:l.Nodup):l.Pairwise (fun a b=>Op.bytesLess a b=true):=by
 induction l with
 |nil=>exact .nil
 |cons x l ih=>
  grind [List.pairwise_cons,CN]
def HX(l:List B8):List B8:=l.mergeSort BK
theorem Cx(l:List B8):(HX l).Perm l:=List.mergeSort_perm _ _
theorem EO(l:List B8):(HX l).Pairwise (fun a b=>BK a b=true):=List.pairwise_mergeSort CR CS l
theorem J6(a b:B8):(a<b)<->Op.bytesLess a b=true:=by
 induction a generalizing b with
 |nil=>cases b<;>simp[Op.bytesLess]
 |cons x a ih=>
  cases b<;>simp_all[Op.bytesLess,List.cons_lt_cons_iff]
theorem Lg(a b:B8):decide (a<=b)=BK a b:=by
 unfold BK;rw[<-Bool.not_inj_iff,Bool.not_not];cases h:Op.bytesLess b a
 ·simp only[Bool.not_eq_eq_eq_not,bw8,decide_eq_true_eq];exact fun hh=>by simp_all[J6]
 simp_all[J6]
theorem Ec(l:List B8):dU l=HX l:=by
 simp_all[dU,HX,Lg]
theorem IF(l:List B8)(x:B8):x∈B0 l<->x∈l:=by
 unfold B0 Lib.compact Lib.compactUpTo;rw[bf9];constructor
 ·grind
 ·intro hx
  have key:∀j,j<l.length->∃i,i<=j/\Lib.keeps l.toArray i=true/\l.toArray[i]! = l.toArray[j]! := by
   intro j
   induction j with
   |zero=>simp_all[Lib.keeps]
   |succ j ih=>
    intro hj;by_cases he:l.toArray[j+1]! = l.toArray[j]!
    ·grind
    ·exact⟨j+1,ae9 _,by simp_all[Lib.keeps],rfl⟩
  grind [List.getElem_of_mem]
end Go.Pv
namespace Go.Proofs.YtelmfadihfcgnaaGreatDoor
open Go Go.Pv
set_option maxRecDepth 1000000
theorem GB(l:List Int)(x:Int):x∈B0 l<->x∈l:=by
 unfold B0 Lib.compact Lib.compactUpTo;rw[bf9];constructor
 ·grind
 ·intro hx
  have key:∀j,j<l.length->∃i,i<=j/\Lib.keeps l.toArray i=true/\l.toArray[i]! = l.toArray[j]! := by
   intro j
   induction j with
   |zero=>simp_all[Lib.keeps]
   |succ j ih=>
    intro hj;by_cases he:l.toArray[j+1]! = l.toArray[j]!
    ·grind
    ·exact⟨j+1,ae9 _,by simp_all[Lib.keeps],rfl⟩
  grind [List.getElem_of_mem]
instance (x:Int):Decidable (jT x):=by unfold jT;infer_instance
theorem JC(F:Nat)(a:Int):tO F a=some (decide (jT a)):=by
 unfold tO;by_cases h:a ≥ -1000000000000
 ·rw[if_pos (decide_eq_true h)]
  congr 1
  exact decide_eq_decide.2 ⟨fun h2=>⟨h,h2⟩,fun h2=>h2.2⟩
 ·rw[if_neg (by grind),decide_eq_false (fun h2=>h h2.1)]
theorem tc(F:Nat)(a:Int)(l:List Int)(K:List Int->Option (List Int))(h:l.length<=10000000):
  ((tO F a).bind fun y22=>jn (fun(l25:List Int)=>K l25) (fun k24=>if y22=true then if (l++([a]:List Int)).length*8<=140737488355328 then k24 (l++([a]:List Int)) else none else k24 l))=K (l++[a].filter fun x=>decide (jT x)):=by
 rw[JC,by8,aH]
 grind
def qD(n:Int):List Int:=[n - 1,n,n+1].filter fun x=>decide (jT x)
theorem A8(F:Nat)(n:Int)(hn:jT n)(k:List Int->Option (List Int))(l:List Int)(hl:l.length<=1000000):fS F n k 3 0 l=k (l++qD n):=by
 unfold jT at hn;have e1:bE (n - 1)=n - 1:=cS (by omega) (by omega);have e2:bE (n+1)=n+1:=cS (by omega) (by omega);have f1:∀(x:Int) (l:List Int),([x].filter fun x=>decide (jT x)).length<=1:=fun x l=>ab9 _ _;rw[fS,show ct ([bE (n - 1),n,bE (n+1)]:List Int) 0=some (bE (n - 1)) from rfl,by8,tc F _ l _ (by omega)];rw[fS,show ct ([bE (n - 1),n,bE (n+1)]:List Int) (0+1)=some n from rfl,by8,tc F _ _ _ (by grind)];rw[fS,show ct ([bE (n - 1),n,bE (n+1)]:List Int) (0+1+1)=some (bE (n+1)) from rfl,by8,tc F _ _ _ (by grind)];rw[fS,e1,e2,cb9,cb9,<-ac9,<-ac9];rfl
theorem tJ(F:Nat)(k:List Int->Option (List Int)):∀(ns:List Int) (l:List Int),(∀n,n∈ns->jT n)->l.length+3*ns.length<=1000000->io F k ns l=k (l++ns.flatMap qD)
 |[],l,_,_=>by rw[io];simp
 |n::r,l,h,hl=>by
  simp only[bx9] at hl;have hlen:(qD n).length<=3:=ab9 _ _;rw[io,aH,aH,if_pos (by omega)]
  show fS F n _ 3 0 l=_
  rw[A8 F n (h n (by simp)) _ l (by omega)]
  show io F k r (l++qD n)=_
  rw[tJ F k r _ (fun m hm=>h m (by simp[hm])) (by simp;omega)];simp
theorem Jv(F:Nat)(s:ae)(h:∀n,n∈s.numbers->jT n)(hl:s.numbers.length<=300000):
  ∃out,zu F s=some out/\out.length<=900001/\∀x,x∈out<->x=0\/∃n,n∈s.numbers/\x∈qD n:=by
 have hlen:∀ns:List Int,(ns.flatMap qD).length<=3*ns.length:=by
  intro ns
  induction ns with
  |nil=>simp
  |cons n r ih=>
   grind [qD]
 have h1:=hlen s.numbers;obtain⟨w,hw⟩:∃w,w=[0]++s.numbers.flatMap qD:=⟨_,rfl⟩;have hwl:w.length<=900001:=by rw[hw,bi8,List.length_singleton];omega
 have hs:(u5 w).length=w.length:=List.length_mergeSort _;have hc:=wJ (u5 w);refine⟨B0 (u5 w),?_,by omega,fun x=>?_⟩
 ·unfold zu;rw[aH,tJ F _ _ _ h (by simp;omega),<-hw];unfold OP Jm
  grind
 simp_all[GB,u5]
theorem mR{s w:bb}:AM s w=true<->w <+: s:=by
 unfold AM;rw[aq9,decide_eq_true_eq,beq_iff_eq];constructor
 ·grind
 ·intro h;exact⟨h.length_le,(List.prefix_iff_eq_take.1 h).symm⟩
def zG(n:Nat)(bg:List bb)(y:bb):Bool:=bg.any fun b=>decide (n<b.length)&&AM y b
theorem fH{n:Nat}{bg:List bb}{y:bb}:zG n bg y=false<->∀b,b∈bg->n<b.length->¬b <+: y:=by
 simp_all[zG,mR]
theorem Ji(F:Nat)(s:bb)(bg:List bb)(n:Nat):Hg F s bg (n:Int)=some (zG n bg s):=by
 unfold Hg xo xn
 have h:=Ir (g:=gq F (n:Int) s (some (-1))) (fun b=>decide (n<b.length)&&AM s b) (fun _=>rfl) (fun x l m=>by
  rw[gq,Jh];by_cases h:n<x.length
  ·simp_all[Ck]
  grind) bg 0
 rw[show((0:Nat):Int)=0 from rfl] at h;rw[aH,h];rw[G0 (n:=0+bg.findIdx fun b=>decide (n<b.length)&&AM s b)];rfl
theorem IE:∀c:Fin 127,32<=c.val->(Utf8.encode (IntKind.wrap .i32 (c.val:Int))).data.toList=[UInt8.ofNat c.val]:=by decide
theorem xG:∀c:Fin 127,IntKind.wrap .u8 ((c.val:Int)+1)=(c.val:Int)+1:=by decide
theorem wL:∀c:Fin 127,(UInt8.ofNat c.val).toNat=c.val:=by decide
def ek(n:Nat)(bg:List bb)(x:bb)(c:Nat):List bb:=((List.range' c (127 - c)).map fun i=>x++[UInt8.ofNat i]).filter fun y=>!zG n bg y
theorem sC{n:Nat}{bg:List bb}{x:bb}{c:Nat}(h:c<=126):ek n bg x c=(if zG n bg (x++[UInt8.ofNat c])=true then [] else [x++[UInt8.ofNat c]])++ek n bg x (c+1):=by
 unfold ek;rw[show 127 - c=(127 - (c+1))+1 by omega,List.range'_succ,bm9,aa8]
 grind
theorem tG(F:Nat)(a1:bb)(a2 a3:List bb)(x:bb)(k:List bb->Option (bb×Bool))(hx:x.length<=1000):∀(d c:Nat),c+d=127->32<=c->∀fuel,d<fuel->∀l:List bb,l.length+d<=10000000->
  jm F a1 a2 a3 x k fuel (c:Int) l=match (ek a1.length a2 x c).find? (fun y=>!(a3.any fun w=>y==w)) with
   |some y=>some (y,true)
   |none=>k (l++ek a1.length a2 x c)
 |0,c,hc,h32,fuel,hf,l,hl=>by
  obtain⟨fuel,rfl⟩:∃g,fuel=g+1:=⟨fuel - 1,by omega⟩<;>simp_all[ek,jm]
 |d+1,c,hc,h32,fuel,hf,l,hl=>by
  obtain⟨fuel,rfl⟩:∃g,fuel=g+1:=⟨fuel - 1,by omega⟩;have h1:=IE ⟨c,by omega⟩ h32;have h2:=xG ⟨c,by omega⟩;dsimp only at h1 h2;rw[jm,if_pos (decide_eq_true (by omega)),aH,h1,h2,if_pos (by simp;omega),Ji,by8,sC (by omega)];have ih:=tG F a1 a2 a3 x k hx d (c+1) (by omega) (by omega) fuel (by omega);rw[show((c+1:Nat):Int)=(c:Int)+1 by omega] at ih;cases hb:zG a1.length a2 (x++[UInt8.ofNat c]) with
  |true=>
   grind
  |false=>
   simp only[cj8,if_false];rw[kH,by8]
   grind
theorem gD{n:Nat}{bg:List bb}{x y:bb}:y∈ek n bg x 32<->(∃c:UInt8,32<=c.toNat/\c.toNat<=126/\y=x++[c])/\zG n bg y=false:=by
 unfold ek;rw[bz9,bf9];constructor
 ·rintro⟨⟨i,hi,rfl⟩,h⟩
  rw[List.mem_range'_1] at hi;have:=wL ⟨i,by omega⟩
  grind
 ·rintro⟨⟨c,h1,h2,rfl⟩,h⟩
  refine⟨⟨c.toNat,?_,?_⟩,by rw[h];rfl⟩
  ·grind
  ·simp
theorem sB(n:Nat)(bg:List bb)(x:bb):(ek n bg x 32).Nodup:=by
 unfold ek;refine List.Nodup.sublist List.filter_sublist ?_;rw[List.nodup_iff_pairwise_ne,List.pairwise_map];refine(List.nodup_iff_pairwise_ne.1 List.nodup_range').imp_of_mem fun {a b} ha hb h e=>h ?_;rw[List.mem_range'_1] at ha hb;have h1:=wL ⟨a,by omega⟩;have h2:=wL ⟨b,by omega⟩
 simp_all
theorem FW(n:Nat)(bg:List bb)(x:bb):(ek n bg x 32).length<=95:=by
 grind [ek]
theorem iw{α:Type}[DecidableEq α]:∀{l m:List α},l.Nodup->(∀x,x∈l->x∈m)->l.length<=m.length
 |[],m,_,_=>ai8 _
 |x::l,m,hn,hs=>by
  have hn':=aa9.1 hn;have:=iw (l:=l) (m:=m.erase x) hn'.2 fun y hy=>(List.mem_erase_of_ne (show y≠x from fun e=>hn'.1 (e ▸ hy))).2 (hs y (by simp[hy]))
  grind
structure Qu(a1:bb)(a2 a3:List bb)(l:List bb)(n:Nat):Prop where
 nd:l.Nodup
 hd:l[0]? = some a1
 ok:∀q,q∈l->a1 <+: q/\qf q/\zG a1.length a2 q=false
 par:∀j q,l[j]? = some q->0<j->q∈a3/\∃i p c,i<n/\l[i]? = some p/\q=p++[c]
 cl:∀j q,j<n->l[j]? = some q->q∈a3/\(q.length<1000->∀y,y∈ek a1.length a2 q 32->y∈l)
theorem Qu.len{a1:bb}{a2 a3 l:List bb}{n:Nat}(h:Qu a1 a2 a3 l n):l.length<=a3.length+1:=by
 match l,h.hd,h with
 |x::r,_,h=>
  have:=iw (aa9.1 h.nd).2 fun y hy=>by
   obtain⟨j,hj⟩:=bc8 hy;exact(h.par (j+1) y (by grind) (by omega)).1
  grind
theorem xb{l:List bb}{x:bb}:(l.any fun w=>x==w)=true<->x∈l:=by
 grind
theorem oc(F:Nat)(a1:bb)(a2 a3:List bb)(k4:Option (bb×Bool))(hF:200<=F)(ha:a3.length<=1000000):∀(fuel n:Nat) (l:List bb),Qu a1 a2 a3 l n->n<=l.length->a3.length+2<=n+fuel->
  (∃t,ig F a1 a2 a3 k4 fuel (n:Int) l=some (t,true)/\dT a3 a2 a1 t)\/(ig F a1 a2 a3 k4 fuel (n:Int) l=k4/\∃l',Qu a1 a2 a3 l' l'.length)
 |0,n,l,h,hn,hf=>by have:=h.len;omega
 |fuel+1,n,l,h,hn,hf=>by
  have hll:=h.len;rw[ig];by_cases hnl:n<l.length
  ·rw[if_pos (decide_eq_true (by omega)),aH,bQ hnl,by8,kH,by8];have hx:l[n]? = some l[n]:=az9 hnl;obtain⟨x,hxe⟩:∃x,x=l[n]:=⟨_,rfl⟩;rw[<-hxe] at hx ⊢;have hxm:=ay9 hx;obtain⟨o1,o2,o3⟩:=h.ok x hxm;cases hm:a3.any fun w=>x==w with
   |false=>
    simp only[bw8,if_true];refine .inl ⟨x,Y,o1,o2,fun hx3=>?_,fH.1 o3⟩
    grind
   |true=>
    have hx3:=xb.1 hm;simp only[bv9,cj8,if_false];have hw:bE ((n:Int)+1)=((n+1:Nat):Int):=by rw[cS (by omega) (by omega)];rfl
    by_cases h1000:x.length=1000
    ·rw[if_pos (by grind)];rw[hw];refine oc F a1 a2 a3 k4 hF ha fuel (n+1) l ⟨h.nd,h.hd,h.ok,fun j q hj h0=>?_,fun j q hj hq=>?_⟩ hnl (by omega)
     ·obtain⟨g1,i,p,c,g2,g3⟩:=h.par j q hj h0<;>grind
     ·by_cases e:j=n
      ·grind
      ·exact h.cl j q (by omega) hq
    ·rw[if_neg (by simp;omega),aH];have hxl:x.length<=1000:=o2.1;have hin:=tG F a1 a2 a3 x (fun l19=>(fun l11=>ig F a1 a2 a3 k4 fuel (bE ((n:Int)+1)) l11) l19) hxl 95 32 rfl (by omega) F (by omega) l (by omega);rw[show((32:Nat):Int)=32 from rfl] at hin;rw[hin]
     have hok:∀y,y∈ek a1.length a2 x 32->a1 <+: y/\qf y/\zG a1.length a2 y=false:=by
      intro y hy;obtain⟨⟨c,c1,c2,rfl⟩,hb⟩:=gD.1 hy;refine⟨o1.trans (List.prefix_append _ _),⟨by simp;omega,fun d hd=>?_⟩,hb⟩;rcases bz8.1 hd with hd|hd
      ·exact o2.2 d hd
      ·grind
     cases hfd:(ek a1.length a2 x 32).find? (fun y=>!(a3.any fun w=>y==w)) with
     |some y=>
      have hy:=List.mem_of_find?_eq_some hfd;have hp:=List.find?_some hfd;obtain⟨p1,p2,p3⟩:=hok y hy;refine .inl ⟨y,Y,p1,p2,fun h3=>?_,fH.1 p3⟩
      grind
     |none=>
      dsimp only;rw[hw]
      have hall:∀y,y∈ek a1.length a2 x 32->y∈a3:=fun y hy=>by
       grind
      refine oc F a1 a2 a3 k4 hF ha fuel (n+1) (l++ek a1.length a2 x 32) ⟨?_,?_,fun q hq=>?_,fun j q hj h0=>?_,fun j q hj hq=>?_⟩ (by simp;omega) (by omega)
      ·rw[ca9];refine⟨h.nd,sB _ _ _,fun a hal b hbk e=>?_⟩;subst e;obtain⟨⟨c,c1,c2,rfl⟩,hb⟩:=gD.1 hbk;obtain⟨j,hj⟩:=bc8 hal;by_cases h0:j=0
       ·subst h0;rw[h.hd] at hj
        grind
       ·obtain⟨_,i,p,d,g2,g3,g4⟩:=h.par j _ hj (by omega);have e2:=List.append_inj' g4 rfl;rw[<-e2.1] at g3;have hi:i<l.length:=(bd9.1 g3).1;have:=(bq9 hi h.nd).1 (g3.trans hx.symm);omega
      ·rw[at8 (by grind)];exact h.hd
      ·rcases bz8.1 hq with hq|hq
       ·exact h.ok q hq
       grind
      ·by_cases hjl:j<l.length
       ·rw[at8 hjl] at hj;obtain⟨g1,i,p,c,g2,g3,g4⟩:=h.par j q hj h0;exact⟨g1,i,p,c,by omega,by grind,g4⟩
       ·rw[au9 (by omega)] at hj;have hq:=ay9 hj;obtain⟨⟨c,c1,c2,rfl⟩,hb⟩:=gD.1 hq;exact⟨hall _ hq,n,x,c,by omega,by grind,rfl⟩
      ·by_cases e:j=n
       ·grind
       ·rw[at8 (by omega)] at hq;obtain⟨g1,g2⟩:=h.cl j q (by omega) hq<;>simp_all
  grind
theorem Qu.none{a1:bb}{a2 a3 l:List bb}(h:Qu a1 a2 a3 l l.length)(t:bb):¬dT a3 a2 a1 t:=by
 intro hf
 have key:∀k,a1.length+k<=t.length->t.take (a1.length+k)∈l:=by
  intro k
  induction k with
  |zero=>
   intro _;rw[bg8,<-List.prefix_iff_eq_take.1 hf.pre];exact ay9 h.hd
  |succ k ih=>
   intro hk;have hp:=ih (by omega);obtain⟨j,hj⟩:=bc8 hp;have hlt:a1.length+k<t.length:=by omega
   obtain⟨_,g⟩:=h.cl j _ (bd9.1 hj).1 hj;have hlen:(t.take (a1.length+k)).length<1000:=by have:=hf.ok.1;simp;omega
   refine g hlen _ (gD.2 ⟨⟨t[a1.length+k],?_,?_,?_⟩,fH.2 fun b hb hl hp=>?_⟩)
   ·exact(hf.ok.2 _ (bc9 hlt)).1
   ·exact(hf.ok.2 _ (bc9 hlt)).2
   ·grind [List.take_succ_eq_append_getElem]
   ·exact hf.no b hb hl (hp.trans (List.take_prefix _ _))
 have hle:=hf.pre.length_le;have:=key (t.length - a1.length) (by omega);rw[show a1.length+(t.length - a1.length)=t.length by omega,List.take_length] at this;obtain⟨j,hj⟩:=bc8 this;exact hf.not (h.cl j t (bd9.1 hj).1 hj).1
theorem Jl(F:Nat)(a1:bb)(a2 a3:List bb)(hF:a3.length+200<=F)(ha:a3.length<=1000000)(h1:qf a1):
  (∃t,Hj F a1 a2 a3=some (t,true)/\dT a3 a2 a1 t)\/(Hj F a1 a2 a3=some ([],false)/\∀t,¬dT a3 a2 a1 t):=by
 have hq:Qu a1 a2 a3 [a1] 0:=by
  refine⟨by simp,rfl,fun q hq=>?_,fun j q hj h0=>?_,fun j q hj _=>by omega⟩
  ·simp only[bn9] at hq;subst hq;exact⟨List.prefix_refl _,h1,fH.2 fun b _ hl hp=>by grind⟩
  ·grind
 rcases oc F a1 a2 a3 (some (([]:B8),false)) (by omega) ha F 0 [a1] hq (by simp) (by omega) with ⟨t,e,h⟩|⟨e,l',h⟩
 ·exact .inl ⟨t,e,h⟩
 ·exact .inr ⟨e,fun t=>h.none t⟩
end Go.Proofs.YtelmfadihfcgnaaGreatDoor
