/- Part of the proof. -/
import Derived.Test.YtelmfadihfcgnaaGreatDoorGD4PC
import Init.Data.List.Lemmas
set_option linter.unusedSimpArgs false
set_option linter.unusedVariables false
namespace Go.Proofs.YtelmfadihfcgnaaGreatDoor
open Go Go.Pv
set_option maxRecDepth 100000
def okTFact'(f:bC):Prop:=uu f.Kind/\uu f.Subject/\(∀p,p∈f.Texts->uu p.Name/\uu p.Value)/\f.Texts.length<=maxLen/\(∀p,p∈f.Numbers->uu p.Name)/\f.Numbers.length<=maxLen
def Mk(a b:B8):Bool:=Op.bytesLess a b||a==b
def zt(a:List dB):List dB->Nat->Int
 |[],_=>0
 |x::l,n=>if cV x.Name=false then 8 else if jZ x.Value=false then 2 else if (decide (0<n)&&Mk x.Name (a.getD (n - 1) ⟨[],[]⟩).Name)=true then 10 else zt a l (n+1)
def Bm(a:List cp):List cp->Nat->Int
 |[],_=>0
 |x::l,n=>if cV x.Name=false then 8 else if pf x.N=true then 9 else if (decide (0<n)&&Mk x.Name (a.getD (n - 1) ⟨[],0⟩).Name)=true then 10 else Bm a l (n+1)
theorem iq{α:Type}{a:List α}{x:α}{l:List α}{n:Nat}(h:a.drop n=x::l):n<a.length/\cn a (n:Int)=some x/\x∈a/\a.drop (n+1)=l:=by
 have hn:n<a.length:=by
  rcases bp9 n a.length with h2|h2
  ·exact h2
  ·rw[al9 h2] at h;cases h
 rw[br8 hn] at h
 injection h with hx hd
 exact⟨hn,by rw[bF hn,hx],hx ▸ ba8 _,hd⟩
theorem vc(F:Nat)(f:bC)(hf:okTFact' f)(k:Option Int):∀(l:List dB) (n:Nat),f.Texts.drop n=l->mj F f k l (n:Int)=if zt f.Texts l n=0 then k else some (zt f.Texts l n)
 |[],n,_=>by simp[mj,zt]
 |x::l,n,h=>by
  obtain⟨hn,hi,hm,hd⟩:=iq h;have hx:=hf.2.2.1 x hm;rw[mj,w5 F _ hx.1,bw9,aF,show((n:Int)+1)=((n+1:Nat):Int) from rfl,vc F f hf k l (n+1) hd,xf F _ hx.2,zt];cases cV x.Name
  ·simp
  ·simp only[bs9,ch8,if_false,bw9];cases jZ x.Value
   ·simp
   ·simp only[bs9,ch8,if_false];by_cases h0:0<n
    ·rw[if_pos (decide_eq_true (by omega)),lE (d:=⟨[],[]⟩) h0 (by omega) hf.2.2.2.1,bw9,decide_eq_true h0];simp only[ag8,Mk];cases (Op.bytesLess x.Name (f.Texts.getD (n - 1) ⟨[],[]⟩).Name||x.Name==(f.Texts.getD (n - 1) ⟨[],[]⟩).Name)<;>simp
    ·rw[if_neg (by simp;omega),decide_eq_false h0];simp
theorem va(F:Nat)(f:bC)(hf:okTFact' f)(k:Option Int):∀(l:List cp) (n:Nat),f.Numbers.drop n=l->mi F f k l (n:Int)=if Bm f.Numbers l n=0 then k else some (Bm f.Numbers l n)
 |[],n,_=>by simp[mi,Bm]
 |x::l,n,h=>by
  obtain⟨hn,hi,hm,hd⟩:=iq h;have hx:=hf.2.2.2.2.1 x hm;rw[mi,w5 F _ hx,bw9,aF,show((n:Int)+1)=((n+1:Nat):Int) from rfl,va F f hf k l (n+1) hd,G1,Bm];cases cV x.Name
  ·simp
  ·simp only[bs9,ch8,if_false,bw9];cases pf x.N
   ·simp only[bs9,bu9,ch8,if_false];by_cases h0:0<n
    ·rw[if_pos (decide_eq_true (by omega)),lE (d:=⟨[],0⟩) h0 (by omega) hf.2.2.2.2.2,bw9,decide_eq_true h0];simp only[ag8,Mk];cases (Op.bytesLess x.Name (f.Numbers.getD (n - 1) ⟨[],0⟩).Name||x.Name==(f.Numbers.getD (n - 1) ⟨[],0⟩).Name)<;>simp
    ·rw[if_neg (by simp;omega),decide_eq_false h0];simp
   ·simp
def vF(f:bC):Int:=if cV f.Kind=false then 8 else if jZ f.Subject=false then 2 else if 30<f.Texts.length then 3 else if zt f.Texts f.Texts 0=0 then (if 30<f.Numbers.length then 3 else Bm f.Numbers f.Numbers 0) else zt f.Texts f.Texts 0
theorem AI(F:Nat)(f:bC)(hf:okTFact' f):NO F f=some (vF f):=by
 unfold NO vF;have h1:=fun k=>vc F f hf k f.Texts 0 rfl;have h2:=va F f hf (some 0) f.Numbers 0 rfl;rw[show((0:Nat):Int)=0 from rfl] at h1 h2;rw[w5 F _ hf.1,xf F _ hf.2.1];simp only[aF,h1,h2,bw9,show decide (((f.Texts.length:Nat):Int)>30)=decide (30<f.Texts.length) from decide_eq_decide.2 (by omega),show decide (((f.Numbers.length:Nat):Int)>30)=decide (30<f.Numbers.length) from decide_eq_decide.2 (by omega)];by_cases a1:cV f.Kind=true<;>by_cases a2:jZ f.Subject=true<;>by_cases a3:30<f.Texts.length<;>by_cases a4:zt f.Texts f.Texts 0=0<;>by_cases a5:30<f.Numbers.length<;>by_cases a6:Bm f.Numbers f.Numbers 0=0<;>simp[a1,a2,a3,a4,a5,a6]
def fT(nm:B8):List dB->Bool×B8->Bool×B8
 |[],p=>p
 |x::l,p=>if (x.Name==nm)=true then fT nm l (true,x.Value) else fT nm l p
def fN(nm:B8):List cp->Bool×Int->Bool×Int
 |[],p=>p
 |x::l,p=>if (x.Name==nm)=true then fN nm l (true,x.N) else fN nm l p
def nC(f:bC)(nm:B8):ab:=⟨(fT nm f.Texts (false,[])).1,(fN nm f.Numbers (false,0)).1,(fT nm f.Texts (false,[])).2,(fN nm f.Numbers (false,0)).2⟩
def zV:aa:=⟨false,false,[],0⟩
def gV(m:List (B8×aa))(nm:B8):aa:=(aH m nm).getD zV
def Md:List dB->List (B8×aa)->List (B8×aa)
 |[],m=>m
 |x::l,m=>Md l (bI m x.Name ⟨true,(gV m x.Name).hasNumber,x.Value,(gV m x.Name).number⟩)
def Me:List cp->List (B8×aa)->List (B8×aa)
 |[],m=>m
 |x::l,m=>Me l (bI m x.Name ⟨(gV m x.Name).hasText,true,(gV m x.Name).text,x.N⟩)
def eQ(f:bC):aq:=⟨Me f.Numbers (Md f.Texts []),none⟩
theorem FO(m:List (B8×aa))(k nm:B8)(v:aa):gV (bI m k v) nm=if k=nm then v else gV m nm:=by
 unfold gV;rw[cL];split<;>rfl
theorem AZ(nm:B8):∀(l:List dB) (m:List (B8×aa)),gV (Md l m) nm=⟨(fT nm l ((gV m nm).hasText,(gV m nm).text)).1,(gV m nm).hasNumber,(fT nm l ((gV m nm).hasText,(gV m nm).text)).2,(gV m nm).number⟩
 |[],m=>by rw[Md,fT]
 |x::l,m=>by
  rw[Md,AZ nm l,FO,fT];by_cases h:x.Name=nm
  ·subst h;rw[if_pos rfl,if_pos (by simp)]
  ·rw[if_neg h,if_neg (by simp[h])]
theorem A0(nm:B8):∀(l:List cp) (m:List (B8×aa)),gV (Me l m) nm=⟨(gV m nm).hasText,(fN nm l ((gV m nm).hasNumber,(gV m nm).number)).1,(gV m nm).text,(fN nm l ((gV m nm).hasNumber,(gV m nm).number)).2⟩
 |[],m=>by rw[Me,fN]
 |x::l,m=>by
  rw[Me,A0 nm l,FO,fN];by_cases h:x.Name=nm
  ·subst h;rw[if_pos rfl,if_pos (by simp)]
  ·rw[if_neg h,if_neg (by simp[h])]
theorem xq(f:bC)(nm:B8):gV (eQ f).by_ nm=⟨(nC f nm).isText,(nC f nm).isNumber,(nC f nm).text,(nC f nm).number⟩:=by
 unfold eQ nC;dsimp only;rw[A0,AZ];rfl
theorem u9(F:Nat)(k:List (B8×aa)->Option aq):∀(l:List dB) m,nP F k l m=k (Md l m)
 |[],m=>rfl
 |x::l,m=>by rw[nP,u9 F k l];rfl
theorem u7(F:Nat)(k:List (B8×aa)->Option aq):∀(l:List cp) m,nO F k l m=k (Me l m)
 |[],m=>rfl
 |x::l,m=>by rw[nO,u7 F k l];rfl
theorem LW(F:Nat)(f:bC):NN F f=some (eQ f):=by
 unfold NN;simp only[aF,u9,u7];rfl
theorem vh(F:Nat)(f:bC)(hf:okTFact' f)(k:Option Int):∀(l:List dB) (n:Nat),f.Texts.drop n=l->mo F f k l (n:Int)=if zt f.Texts l n=0 then k else some (zt f.Texts l n)
 |[],n,_=>by simp[mo,zt]
 |x::l,n,h=>by
  obtain⟨hn,hi,hm,hd⟩:=iq h;have hx:=hf.2.2.1 x hm;rw[mo,wY F _ hx.1,bw9,aF,show((n:Int)+1)=((n+1:Nat):Int) from rfl,vh F f hf k l (n+1) hd,hi,bw9,AG F _ hx.2,zt];cases cV x.Name
  ·simp
  ·simp only[bs9,ch8,if_false,bw9];cases jZ x.Value
   ·simp
   ·simp only[bs9,ch8,if_false];by_cases h0:0<n
    ·rw[if_pos (decide_eq_true (by omega)),lE (d:=⟨[],[]⟩) h0 (by omega) hf.2.2.2.1,bw9,decide_eq_true h0];simp only[ag8,Mk];cases (Op.bytesLess x.Name (f.Texts.getD (n - 1) ⟨[],[]⟩).Name||x.Name==(f.Texts.getD (n - 1) ⟨[],[]⟩).Name)<;>simp
    ·rw[if_neg (by simp;omega),decide_eq_false h0];simp
theorem vg(F:Nat)(f:bC)(hf:okTFact' f)(k:Option Int):∀(l:List cp) (n:Nat),f.Numbers.drop n=l->mn F f k l (n:Int)=if Bm f.Numbers l n=0 then k else some (Bm f.Numbers l n)
 |[],n,_=>by simp[mn,Bm]
 |x::l,n,h=>by
  obtain⟨hn,hi,hm,hd⟩:=iq h;have hx:=hf.2.2.2.2.1 x hm;rw[mn,wY F _ hx,bw9,aF,show((n:Int)+1)=((n+1:Nat):Int) from rfl,vg F f hf k l (n+1) hd,hi,bw9,nl,Bm];cases cV x.Name
  ·simp
  ·simp only[bs9,ch8,if_false,bw9];cases pf x.N
   ·simp only[bs9,bu9,ch8,if_false];by_cases h0:0<n
    ·rw[if_pos (decide_eq_true (by omega)),lE (d:=⟨[],0⟩) h0 (by omega) hf.2.2.2.2.2,bw9,decide_eq_true h0];simp only[ag8,Mk];cases (Op.bytesLess x.Name (f.Numbers.getD (n - 1) ⟨[],0⟩).Name||x.Name==(f.Numbers.getD (n - 1) ⟨[],0⟩).Name)<;>simp
    ·rw[if_neg (by simp;omega),decide_eq_false h0];simp
   ·simp
theorem AO(F:Nat)(f:bC)(hf:okTFact' f):NV F f=some (vF f):=by
 unfold NV vF;have h1:=fun k=>vh F f hf k f.Texts 0 rfl;have h2:=vg F f hf (some 0) f.Numbers 0 rfl;rw[show((0:Nat):Int)=0 from rfl] at h1 h2;rw[wY F _ hf.1,AG F _ hf.2.1];simp only[aF,h1,h2,bw9,show decide (((f.Texts.length:Nat):Int)>30)=decide (30<f.Texts.length) from decide_eq_decide.2 (by omega),show decide (((f.Numbers.length:Nat):Int)>30)=decide (30<f.Numbers.length) from decide_eq_decide.2 (by omega)];by_cases a1:cV f.Kind=true<;>by_cases a2:jZ f.Subject=true<;>by_cases a3:30<f.Texts.length<;>by_cases a4:zt f.Texts f.Texts 0=0<;>by_cases a5:30<f.Numbers.length<;>by_cases a6:Bm f.Numbers f.Numbers 0=0<;>simp[a1,a2,a3,a4,a5,a6]
theorem pC(F:Nat)(f:bC)(nm:B8)(k:Bool->B8->Option ab):∀(m n:Nat) (b:Bool) (s:B8),n+m=f.Texts.length->md F f nm k m (n:Int) b s=k (fT nm (f.Texts.drop n) (b,s)).1 (fT nm (f.Texts.drop n) (b,s)).2
 |0,n,b,s,h=>by rw[md,al9 (by omega),fT]
 |m+1,n,b,s,h=>by
  have hn:n<f.Texts.length:=by omega
  rw[md,bF hn,bw9,aF,br8 hn,fT];by_cases h0:(f.Texts[n].Name==nm)=true
  ·rw[if_pos h0,if_pos h0,bw9];exact pC F f nm k m (n+1) true _ (by omega)
  ·rw[if_neg h0,if_neg h0];exact pC F f nm k m (n+1) b s (by omega)
theorem pB(F:Nat)(f:bC)(nm:B8)(k:Bool->Int->Option ab):∀(m n:Nat) (b:Bool) (s:Int),n+m=f.Numbers.length->mc F f nm k m (n:Int) b s=k (fN nm (f.Numbers.drop n) (b,s)).1 (fN nm (f.Numbers.drop n) (b,s)).2
 |0,n,b,s,h=>by rw[mc,al9 (by omega),fN]
 |m+1,n,b,s,h=>by
  have hn:n<f.Numbers.length:=by omega
  rw[mc,bF hn,bw9,aF,br8 hn,fN];by_cases h0:(f.Numbers[n].Name==nm)=true
  ·rw[if_pos h0,if_pos h0,bw9];exact pB F f nm k m (n+1) true _ (by omega)
  ·rw[if_neg h0,if_neg h0];exact pB F f nm k m (n+1) b s (by omega)
theorem GK(F:Nat)(f:bC)(nm:B8)(hf:okTFact' f):Mp F f nm=some (nC f nm):=by
 have h1:=hf.2.2.2.1;have h2:=hf.2.2.2.2.2;rw[mz] at h1 h2;unfold Mp;simp only[aF];rw[if_pos (by omega),show(((f.Texts.length:Nat):Int)).toNat=f.Texts.length by omega,show(((f.Numbers.length:Nat):Int)).toNat=f.Numbers.length by omega];have e1:=fun k=>pC F f nm k f.Texts.length 0 false [] (by omega);have e2:=fun k=>pB F f nm k f.Numbers.length 0 false 0 (by omega);simp only[show((0:Nat):Int)=0 from rfl,bq9] at e1 e2;rw[e1,if_pos (by omega),e2];rfl
end Go.Proofs.YtelmfadihfcgnaaGreatDoor
namespace Go.Proofs.YtelmfadihfcgnaaGreatDoor
open Go Go.Pv
set_option maxRecDepth 100000
noncomputable section
mutual
def Tr.cd:Tr->KV
 | .mk k nm tx op n ks=>
  if k=2 then uA 147 bK ⟨nm,tx⟩ else if k=3 then uA 148 bt ⟨nm,tx⟩ else if k=4 then uA 150 bM ⟨nm⟩
  else if k=5 then uA 152 br ⟨nm,op,n⟩ else if k=6 then uA 154 bU ⟨(Tr.cds ks).headD ⟨0,.con (.bool true)⟩⟩ else if k=7 then uA 156 bO ⟨Tr.cds ks⟩
  else if k=8 then uA 157 bN ⟨Tr.cds ks⟩ else uA 159 bZ ⟨⟩
def Tr.cds:List Tr->List KV
 |[]=>[]
 |t::r=>t.cd::Tr.cds r
end
end
theorem eU:∀{ks:List Tr} {t:Tr},Tr.flts ks=0->t∈ks->t.flt=0
 |u::r,t,h,hm=>by
  rw[Tr.flts] at h;by_cases h0:u.flt=0
  ·rw[if_pos h0] at h;rcases aq8.1 hm with e|hm
   ·rw[e];exact h0
   ·exact eU h hm
  grind
theorem iI{a b c d e ks}(h:(Tr.mk a b c d e ks).flt=0):cc ⟨a,b,c,d,e,Tr.toKs ks⟩=0/\Tr.flts ks=0:=by
 rw[Tr.flt] at h
 grind
theorem ip{x:aC}(h:cc x=0):1<=x.Kind/\x.Kind<=8:=by
 unfold cc at h
 grind
theorem jJ{x:aC}(h:cc x=0)(h6:x.Kind=6):x.Kids.length=1:=by
 simp_all[cc]
theorem LZ:∀t:Tr,t.ok->t.flt=0->t.cnt<=60->∀F,t.fu<=F->JX F t.toT=some t.cd:=Tr.ind fun k nm tx op n ks ih ok hz hc F hF=>by
 rw[Tr.fu] at hF;rw[Tr.cnt] at hc;obtain⟨hnode,hfl⟩:=iI hz;obtain⟨F,rfl⟩:∃G,F=G+1:=⟨F - 1,by omega⟩
 show yX (JX F) F (Tr.mk k nm tx op n ks).toT=_
 have hl:∀(kk:List KV->Option KV) (l:List Tr),(∀t,t∈l->t∈ks)->∀acc:List KV,acc.length+l.length<=60->ml (JX F) F kk (Tr.toKs l) acc=kk (acc++Tr.cds l):=by
  intro kk l
  induction l with
  |nil=>simp_all[Tr.toKs,ml,Tr.cds]
  |cons t r ihr=>
   intro hm acc hlen;simp only[bu8] at hlen;have ht:=hm t (by simp)
   rw[Tr.toKs_map,bi8,ml,Tr.dec,bw9,ih t ht (Tr.oks_mem (Tr.okks ok).1 ht) (eU hfl ht) (by have:=Tr.cnt_mem ht;omega) F (by have:=Tr.fu_mem ht;omega),bw9,<-Tr.toKs_map,
    if_pos (by simp;omega),ihr (fun u hu=>hm u (by simp[hu])) _ (by simp;omega),Tr.cds]
   simp
 have hlen:=xY ks;rw[Tr.toT,yX,aF,hl _ ks (fun _ h=>h) [] (by simp;omega),Tr.cd,ad9];dsimp only;have b1:∀q:Int,((k==q)=true)<->k=q:=fun q=>beq_iff_eq;simp only[b1];by_cases h2:k=2
 ·grind
 rw[if_neg h2,if_neg h2];by_cases h2:k=3
 ·grind
 rw[if_neg h2,if_neg h2];by_cases h2:k=4
 ·grind
 rw[if_neg h2,if_neg h2];by_cases h2:k=5
 ·grind
 rw[if_neg h2,if_neg h2];by_cases h2:k=6
 ·rw[if_pos h2,if_pos h2];have h1:ks.length=1:=by rw[<-jJ hnode h2];exact(Tr.toKs_len ks).symm
  match ks,h1 with
  |[t],_=>simp only[Tr.cds];rfl
 grind
def As(s w:B8):Bool:=decide (w.length<=s.length)&&(s.take w.length==w)
def yx(a op b:Int):Bool:=if op=1 then decide (a<b) else if op=2 then decide (a<=b) else if op=3 then a==b else if op=4 then decide (a>=b) else decide (a>b)
def DE(k:Int)(s:B8)(l:List B8):Bool:=l.any fun w=>w==s||(k==3)&&As s w
def gU(k op n:Int)(tx:List B8)(x:ab):Bool:=if k=4 then x.isText||x.isNumber else if k=5 then x.isNumber&&yx x.number op n else x.isText&&DE k x.text tx
noncomputable section
mutual
def Tr.tru(f:bC):Tr->Bool
 | .mk k nm tx op n ks=>if k=1 then true else if k=6 then !(Tr.allT f ks) else if k=7 then Tr.allT f ks else if k=8 then Tr.anyT f ks else gU k op n tx (nC f nm)
def Tr.allT(f:bC):List Tr->Bool
 |[]=>true
 |t::r=>Tr.tru f t&&Tr.allT f r
def Tr.anyT(f:bC):List Tr->Bool
 |[]=>false
 |t::r=>Tr.tru f t||Tr.anyT f r
end
end
theorem IZ(F:Nat)(op a b:Int):GX F op a b=some (yx a op b):=by
 unfold GX yx
 grind
theorem BU(F:Nat)(a op b:Int):GQ F a op b=some (yx a op b):=by
 unfold GQ yx
 grind
theorem BW(F:Nat)(s w:B8):GV F s w=some (As s w):=by
 unfold GV As
 grind
theorem IX(F:Nat)(s w:B8):IY F s w=some (As s w):=BW F s w
theorem BX(F:Nat)(s w:B8):Dc F s w=some (As s w):=by simp_all[Dc,BW]
theorem tq(F:Nat)(x:aC)(v:ab)(hl:x.Texts.length<=9223372036854775807)(hv:v.isText=true):∀(fuel j:Nat),x.Texts.length<fuel+j->j<=x.Texts.length->jh F x v (some false) fuel (j:Int)=some (DE x.Kind v.text (x.Texts.drop j))
 |0,j,h1,h2=>by omega
 |fuel+1,j,h1,h2=>by
  rw[jh];by_cases hj:j<x.Texts.length
  ·rw[if_pos (decide_eq_true (by omega)),if_pos hv,aF,bF hj,bw9];dsimp only;rw[cm (by omega) (by omega),show((j:Int)+1)=((j+1:Nat):Int) from rfl,tq F x v hl hv fuel (j+1) (by omega) (by omega),br8 hj]
   grind [DE,IX]
  ·rw[if_neg (by simp;omega),al9 (by omega)];rfl
theorem B3(F:Nat)(x:aC)(v:ab)(hl:x.Texts.length<=9223372036854775807)(hF:x.Texts.length<F):AS F x v=some (gU x.Kind x.Op x.N x.Texts v):=by
 unfold AS gU;simp only[beq_iff_eq];by_cases h4:x.Kind=4
 ·grind
 ·rw[if_neg h4,if_neg h4];by_cases h5:x.Kind=5
  ·rw[if_pos h5,if_pos h5,IZ];grind
  ·rw[if_neg h5,if_neg h5,aF];cases hv:v.isText
   ·obtain⟨G,rfl⟩:∃G,F=G+1:=⟨F - 1,by omega⟩
    grind [jh]
   ·have:=tq F x v hl hv F 0 (by omega) (by omega)
    grind
end Go.Proofs.YtelmfadihfcgnaaGreatDoor
namespace Go.Proofs.YtelmfadihfcgnaaGreatDoor
open Go Go.Pv
set_option maxRecDepth 100000
section
variable{τ σ:Type}
theorem cI{enc:τ->List V}(inj:∀a b,enc a=enc b->a=b){T:Nat}{y:τ}:gH enc T (uA T enc y)=some y:=Hj inj rfl rfl
theorem aO{enc:τ->List V}{enc':σ->List V}{T T':Nat}{y:τ}(h:T≠T'):gH enc' T' (uA T enc y)=none:=Hi (x:=uA T enc y) h
end
theorem zY(a b:cT)(h:bK a=bK b):a=b:=by
 obtain⟨a1,a2⟩:=a;obtain⟨b1,b2⟩:=b;simp only[bK,by9,and_true] at h
 grind [rW]
theorem nz(a b:ct)(h:bt a=bt b):a=b:=by
 obtain⟨a1,a2⟩:=a;obtain⟨b1,b2⟩:=b;simp only[bt,by9,and_true] at h
 grind [rW]
theorem v7(a b:cO)(h:bM a=bM b):a=b:=by
 obtain⟨a1⟩:=a<;>simp_all[bM]
theorem ny(a b:cr)(h:br a=br b):a=b:=by
 obtain⟨a1,a2,a3⟩:=a<;>simp_all[br]
theorem KV.enc_inj{a b:KV}(h:a.enc=b.enc):a=b:=by
 obtain⟨a1,a2⟩:=a<;>simp_all[KV.enc]
theorem xV{a b:List KV}(h:a.map KV.enc=b.map KV.enc):a=b:=List.map_inj_right (fun x y h=>KV.enc_inj h) |>.1 h
theorem v6(a b:cN)(h:bU a=bU b):a=b:=by
 obtain⟨a1⟩:=a;obtain⟨b1⟩:=b;have e1:a1=b1:=KV.enc_inj h
 grind
theorem wc(a b:cQ)(h:bO a=bO b):a=b:=by
 obtain⟨a1⟩:=a;obtain⟨b1⟩:=b;simp only[bO,by9,and_true] at h
 grind [xV]
theorem v8(a b:cP)(h:bN a=bN b):a=b:=by
 obtain⟨a1⟩:=a;obtain⟨b1⟩:=b;simp only[bN,by9,and_true] at h
 grind [xV]
theorem x5(a b:cH)(h:bZ a=bZ b):a=b:=rfl
def tv(b:Bool):Int:=if b=true then 1 else 2
theorem eN(F:Nat)(b:Bool):GL F b=some (tv b):=by cases b<;>rfl
theorem GA{p:Bool}{n:Nat}:(if p=true then some ((n:Nat):Int) else some (-1)).bind (fun y3:Int=>some (decide (y3>=0)))=some p:=by
 cases p
 ·rfl
 ·simp
theorem tc(F:Nat)(l:List B8)(s:B8):JV F l s=some (l.any fun w=>s==w):=by
 unfold JV Ji;have h:=HZ (g:=kI F s (some (-1))) (fun w=>s==w) (fun _=>rfl) (fun x l n=>by rw[kI]) l 0
 grind [aF,GA]
theorem BV(F:Nat)(l:List B8)(b c:Bool)(s:B8)(n:Int):GR F l b c s n=some (l.any fun w=>As s w):=by
 unfold GR IJ;have h:=HZ (g:=kD F b c s n (some (-1))) (fun w=>As s w) (fun _=>rfl) (fun x l m=>by simp_all[kD,IG,BX]) l 0
 grind [aF,GA]
theorem Gk(s:B8):As s s=true:=by simp[As]
theorem Ho(s:B8)(l:List B8):DE 3 s l=l.any fun w=>As s w:=by
 unfold DE
 congr 1
 funext w
 simp_all[Gk]
theorem Hp(s:B8)(l:List B8):DE 2 s l=l.any fun w=>s==w:=by
 unfold DE
 grind
section
variable(F:Nat)(f:bC)(nm:B8)
theorem rf:yZ F (eQ f) nm=some (⟨(nC f nm).isText,(nC f nm).isNumber,(nC f nm).text,(nC f nm).number⟩,true):=by
 rw[<-xq];rfl
theorem II(op n:Int)(tx:List B8):AN F ⟨nm,tx⟩ (eQ f)=some (tv (gU 2 op n tx (nC f nm))):=by
 unfold AN;rw[rf,bw9];dsimp only;rw[tc,eN,bw9,eN];unfold gU;rw[Hp];cases (nC f nm).isText<;>rfl
theorem IH(op n:Int)(tx:List B8):AM F ⟨nm,tx⟩ (eQ f)=some (tv (gU 3 op n tx (nC f nm))):=by
 unfold AM;rw[rf,bw9];dsimp only;rw[BV,eN,bw9,eN];unfold gU;rw[Ho];cases (nC f nm).isText<;>rfl
theorem IF(op n:Int)(tx:List B8):AL F ⟨nm⟩ (eQ f)=some (tv (gU 4 op n tx (nC f nm))):=by
 unfold AL;rw[rf,bw9];dsimp only;rw[eN,eN];unfold gU;cases (nC f nm).isText<;>rfl
theorem IE(op n:Int)(tx:List B8):AK F ⟨nm,op,n⟩ (eQ f)=some (tv (gU 5 op n tx (nC f nm))):=by
 unfold AK;rw[rf,bw9];dsimp only;rw[BU,eN,bw9,eN];unfold gU;cases (nC f nm).isNumber<;>rfl
end
theorem H0(f:bC):∀t:Tr,t.ok->t.flt=0->∀F,t.fu<=F->de F t.cd (eQ f)=some (tv (t.tru f)):=Tr.ind fun k nm tx op n ks ih ok hz F hF=>by
 rw[Tr.fu] at hF;obtain⟨hnode,hfl⟩:=iI hz;obtain⟨F,rfl⟩:∃G,F=G+1:=⟨F - 1,by omega⟩
 show gi (de F) F (Tr.mk k nm tx op n ks).cd (eQ f)=_
 have hkid:∀t,t∈ks->de F t.cd (eQ f)=some (tv (t.tru f)):=fun t ht=>ih t ht (Tr.oks_mem (Tr.okks ok).1 ht) (eU hfl ht) F (by have:=Tr.fu_mem ht;omega);have hkk:=ip hnode;dsimp only at hkk;have hk':k=1\/k=2\/k=3\/k=4\/k=5\/k=6\/k=7\/k=8:=by omega
 rw[Tr.cd,Tr.tru]
 have hall:∀l:List Tr,(∀t,t∈l->t∈ks)->fQ (de F) F (eQ f) (fun n4=>some n4) (Tr.cds l) 1=some (tv (Tr.allT f l)):=by
  intro l
  induction l with
  |nil=>intro _;rw[Tr.cds,Tr.allT];rfl
  |cons t r ihr=>
   intro hm;rw[Tr.cds,fQ,hkid t (hm t (by simp)),bw9,aF,Tr.allT];cases t.tru f
   ·rfl
   ·exact ihr fun u hu=>hm u (by simp[hu])
 have hany:∀l:List Tr,(∀t,t∈l->t∈ks)->fO (de F) F (eQ f) (fun n4=>some n4) (Tr.cds l) 2=some (tv (Tr.anyT f l)):=by
  intro l
  induction l with
  |nil=>intro _;rw[Tr.cds,Tr.anyT];rfl
  |cons t r ihr=>
   intro hm;rw[Tr.cds,fO,hkid t (hm t (by simp)),bw9,aF,Tr.anyT];cases t.tru f
   ·exact ihr fun u hu=>hm u (by simp[hu])
   ·rfl
 unfold gi;rcases hk' with e|e|e|e|e|e|e|e
 ·subst e;simp only[show ¬(1:Int)=2 by decide,show ¬(1:Int)=3 by decide,show ¬(1:Int)=4 by decide,show ¬(1:Int)=5 by decide,show ¬(1:Int)=6 by decide,show ¬(1:Int)=7 by decide,show ¬(1:Int)=8 by decide,if_false];rw[aO (by decide),aO (by decide),aO (by decide),aO (by decide),aO (by decide),aO (by decide),aO (by decide),cI x5];rfl
 ·subst e;rw[if_pos rfl,cI zY];exact II F f nm op n tx
 ·subst e;rw[if_neg (by decide),if_pos rfl,aO (by decide),cI nz];exact IH F f nm op n tx
 ·subst e;rw[if_neg (by decide),if_neg (by decide),if_pos rfl,aO (by decide),aO (by decide),cI v7];exact IF F f nm op n tx
 ·subst e;rw[if_neg (by decide),if_neg (by decide),if_neg (by decide),if_pos rfl,aO (by decide),aO (by decide),aO (by decide),cI ny];exact IE F f nm op n tx
 ·subst e;rw[if_neg (by decide),if_neg (by decide),if_neg (by decide),if_neg (by decide),if_pos rfl,aO (by decide),aO (by decide),aO (by decide),aO (by decide),cI v6];have h1:ks.length=1:=by rw[<-jJ hnode rfl];exact(Tr.toKs_len ks).symm
  match ks,h1,hkid with
  |[t],_,hkid=>
   show AJ (de F) F ⟨(Tr.cds [t]).headD _⟩ (eQ f)=_
   rw[Tr.cds,List.headD_cons,AJ,hkid t (by simp),bw9,if_neg (by decide),if_pos rfl,Tr.allT,Tr.allT];cases t.tru f<;>rfl
 ·subst e;rw[if_neg (by decide),if_neg (by decide),if_neg (by decide),if_neg (by decide),if_neg (by decide),if_pos rfl,aO (by decide),aO (by decide),aO (by decide),aO (by decide),aO (by decide),cI wc];exact hall ks fun _ h=>h
 ·subst e;rw[if_neg (by decide),if_neg (by decide),if_neg (by decide),if_neg (by decide),if_neg (by decide),if_neg (by decide),if_pos rfl,aO (by decide),aO (by decide),aO (by decide),aO (by decide),aO (by decide),aO (by decide),cI v8];exact hany ks fun _ h=>h
theorem Hk{t:Tr}(h:vT t=0):t.flt=0/\t.cnt<=60:=by
 unfold vT at h
 grind
end Go.Proofs.YtelmfadihfcgnaaGreatDoor
namespace Go.Pv
abbrev ba:=B8
structure yM(is bg:List ba)(u v:ba):Prop where
 eq:∀e,e∈is->(u=e<->v=e)
 pre:∀b,b∈bg->(b <+: u<->b <+: v)
def pS(s:ba):Prop:=s.length<=1000/\∀c,c∈s->32<=c.toNat/\c.toNat<=126
structure dR(is bg:List ba)(p t:ba):Prop where
 pre:p <+: t
 ok:pS t
 not:t ∉ is
 no:∀b,b∈bg->p.length<b.length->¬b <+: t
theorem HQ(bg:List ba)(w:ba):∃p,(p∈bg\/p=[])/\p <+: w/\∀b,b∈bg->b <+: w->b.length<=p.length:=by
 induction bg with
 |nil=>simp_all
 |cons b r ih=>
  grind
theorem xH{is bg out:List ba}(hi:∀e,e∈is->e∈out)(hf:∀p,(p∈bg\/p=[])->(∃t,dR is bg p t/\t∈out)\/∀t,¬dR is bg p t)(w:ba)(hw:pS w):
  ∃t,t∈out/\yM is bg t w:=by
 by_cases hm:w∈is
 ·exact⟨w,hi w hm,⟨fun _ _=>Iff.rfl,fun _ _=>Iff.rfl⟩⟩
 obtain⟨p,h1,h2,h3⟩:=HQ bg w;have hF:dR is bg p w:=⟨h2,hw,hm,fun b hb hl hp=>by grind⟩;rcases hf p h1 with ⟨t,ht,hto⟩|hno
 ·refine⟨t,hto,⟨fun e he=>⟨fun h=>absurd (h ▸ he) ht.not,fun h=>absurd (h ▸ he) hm⟩,fun b hb=>⟨fun hp=>?_,fun hp=>?_⟩⟩⟩
  ·have hl:b.length<=p.length:=at9 fun h=>ht.no b hb h hp;exact(List.prefix_of_prefix_length_le hp ht.pre hl).trans h2
  ·exact(List.prefix_of_prefix_length_le hp h2 (h3 b hb hp)).trans ht.pre
 grind
structure sX(ns:List Int)(x y:Int):Prop where
 lt:∀n,n∈ns->(x<n<->y<n)
 eq:∀n,n∈ns->(x=n<->y=n)
def jH(x:Int):Prop:=-1000000000000<=x/\x<=1000000000000
theorem MJ(ns:List Int)(x:Int):(∃n,n∈ns/\x<=n/\∀m,m∈ns->x<=m->n<=m)\/∀n,n∈ns->n<x:=by
 induction ns<;>grind
theorem FM(ns:List Int)(h:ns≠[]):∃m,m∈ns/\∀n,n∈ns->n<=m:=by
 induction ns with
 |nil=>grind
 |cons a r ih=>
  by_cases hr:r=[]
  ·simp_all
  grind
theorem Bf{ns out:List Int}(h0:∃z,z∈out)(h1:∀n,n∈ns->n∈out)(h2:∀n,n∈ns->jH (n - 1)->n - 1∈out)(h3:∀m,m∈ns->(∀n,n∈ns->n<=m)->jH (m+1)->m+1∈out)(hns:∀n,n∈ns->jH n)(x:Int)(hx:jH x):
  ∃y,y∈out/\sX ns y x:=by
 rcases MJ ns x with ⟨n,a1,a2,a3⟩|h
 ·by_cases e:x=n
  ·exact⟨n,h1 n a1,by subst e;exact⟨fun _ _=>Iff.rfl,fun _ _=>Iff.rfl⟩⟩
  ·have hk:=hns n a1;unfold jH at hk hx;refine⟨n - 1,h2 n a1 ⟨by omega,by omega⟩,⟨fun m hm=>?_,fun m hm=>?_⟩⟩
   ·grind
   grind
 ·by_cases hn:ns=[]
  ·obtain⟨z,hz⟩:=h0;exact⟨z,hz,by subst hn;exact⟨fun n h=>by simp at h,fun n h=>by simp at h⟩⟩
  ·obtain⟨m,b1,b2⟩:=FM ns hn;have b3:=h m b1;have b4:=hns m b1;unfold jH at hx b4;refine⟨m+1,h3 m b1 b2 ⟨by omega,by omega⟩,⟨fun n hn=>?_,fun n hn=>?_⟩⟩
   ·grind
   grind
section
variable{α:Type}
def oc(s:ba->Option α)(n:ba)(x:α):ba->Option α:=fun m=>if m=n then some x else s m
def ext(s s':ba->Option α):Prop:=∀n x,s n=some x->s' n=some x
def ld(s:ba->Option α)(ns:List ba)(a:ba->α):ba->Option α:=fun m=>match s m with|some x=>some x|none=>if m∈ns then some (a m) else none
def qn? (P:(ba->Option α)->Option Bool) (can:ba->List α):List ba->(ba->Option α)->Option (ba->Option α)
 |[],s=>if P s=some true then some s else none
 |n::r,s=>match P s with
  |some true=>some s
  |some false=>none
  |none=>(can n).findSome? fun x=>qn? P can r (oc s n x)
variable{P:(ba->Option α)->Option Bool}{can:ba->List α}
theorem Hx{s:ba->Option α}{n:ba}{x:α}(h:s n=none):ext s (oc s n x):=fun m y hm=>by
 unfold oc
 grind
theorem po:∀(ns:List ba) (s s':ba->Option α),ns.Nodup->(∀n,n∈ns->s n=none)->qn? P can ns s=some s'->
  P s'=some true/\ext s s'/\∀m x,s' m=some x->s m=some x\/(m∈ns/\x∈can m)
 |[],s,s',_,_,h=>by
  rw[qn?] at h;by_cases hp:P s=some true
  ·rw[if_pos hp] at h;cases h;exact⟨hp,fun _ _ h=>h,fun _ _ h=>.inl h⟩
  grind
 |n::r,s,s',hn,hs,h=>by
  rw[qn?] at h;cases hp:P s with
  |some b=>
   rw[hp] at h;cases b with
   |true=>cases h;exact⟨hp,fun _ _ h=>h,fun _ _ h=>.inl h⟩
   |false=>cases h
  |none=>
   rw[hp] at h;obtain⟨x,hx,h2⟩:=List.exists_of_findSome?_eq_some h;have hnn:=aa9.1 hn
   obtain⟨g1,g2,g3⟩:=po r (oc s n x) s' hnn.2 (fun m hm=>by
    unfold oc
    grind) h2
   refine⟨g1,fun m y hm=>g2 m y (Hx (hs n (by simp)) m y hm),fun m y hm=>?_⟩;rcases g3 m y hm with h3|⟨h3,h4⟩
   ·unfold oc at h3
    grind
   grind
theorem Ds{s:ba->Option α}{n:ba}{r:List ba}{a:ba->α}(h:s n=none):ld (oc s n (a n)) r a=ld s (n::r) a:=by
 funext m
 unfold ld oc
 grind
theorem Dt{s:ba->Option α}{a:ba->α}:ld s [] a=s:=by
 funext m
 grind [ld]
theorem Du{s:ba->Option α}{ns:List ba}{a:ba->α}:ext s (ld s ns a):=fun m x h=>by
 grind [ld]
theorem sw(hm:∀s s' b,ext s s'->P s=some b->P s'=some b):∀(ns:List ba) (s:ba->Option α),ns.Nodup->(∀n,n∈ns->s n=none)->qn? P can ns s=none->
  ∀a:ba->α,(∀n,n∈ns->a n∈can n)->P (ld s ns a)≠some true
 |[],s,_,_,h,a,_=>by
  simp_all[qn?,Dt]
 |n::r,s,hn,hs,h,a,ha=>by
  rw[qn?] at h;cases hp:P s with
  |some b=>
   grind [Du]
  |none=>
   rw[hp] at h;have hnn:=aa9.1 hn;have h2:=List.findSome?_eq_none_iff.1 h (a n) (ha n (by simp))
   have:=sw hm r (oc s n (a n)) hnn.2 (fun m hmm=>by
    unfold oc
    grind) h2 a (fun m hmm=>ha m (by simp[hmm]))
   simp_all[Ds]
end
end Go.Pv
namespace Go.Proofs.YtelmfadihfcgnaaGreatDoor
open Go Go.Pv
set_option maxRecDepth 100000
abbrev Fd:=ab
def GB:Option Bool->Option Bool->Option Bool
 |some false,_=>some false
 |some true,b=>b
 |none,some false=>some false
 |none,_=>none
def MB:Option Bool->Option Bool->Option Bool
 |some true,_=>some true
 |some false,b=>b
 |none,some true=>some true
 |none,_=>none
structure Lf where
 k:Int
 nm:ba
 tx:List ba
 op:Int
 n:Int
def Lf.one(l:Lf)(x:Fd):Bool:=gU l.k l.op l.n l.tx x
noncomputable section
mutual
def Tr.lvs:Tr->List Lf
 | .mk k nm tx op n ks=>if k=1 then [] else if k=6\/k=7\/k=8 then Tr.lvss ks else [⟨k,nm,tx,op,n⟩]
def Tr.lvss:List Tr->List Lf
 |[]=>[]
 |t::r=>Tr.lvs t++Tr.lvss r
end
mutual
def Tr.tr3(s:ba->Option Fd):Tr->Option Bool
 | .mk k nm tx op n ks=>if k=1 then some true else if k=6 then (Tr.all3 s ks).map (!·) else if k=7 then Tr.all3 s ks else if k=8 then Tr.any3 s ks else (s nm).map (gU k op n tx)
def Tr.all3(s:ba->Option Fd):List Tr->Option Bool
 |[]=>some true
 |t::r=>GB (Tr.tr3 s t) (Tr.all3 s r)
def Tr.any3(s:ba->Option Fd):List Tr->Option Bool
 |[]=>some false
 |t::r=>MB (Tr.tr3 s t) (Tr.any3 s r)
end
mutual
def Tr.truA(a:ba->Fd):Tr->Bool
 | .mk k nm tx op n ks=>if k=1 then true else if k=6 then !(Tr.allA a ks) else if k=7 then Tr.allA a ks else if k=8 then Tr.anyA a ks else gU k op n tx (a nm)
def Tr.allA(a:ba->Fd):List Tr->Bool
 |[]=>true
 |t::r=>Tr.truA a t&&Tr.allA a r
def Tr.anyA(a:ba->Fd):List Tr->Bool
 |[]=>false
 |t::r=>Tr.truA a t||Tr.anyA a r
end
end
theorem iz{ks:List Tr}{l:Lf}:l∈Tr.lvss ks<->∃t,t∈ks/\l∈t.lvs:=by
 induction ks<;>simp_all[Tr.lvss]
theorem C4{a a' b b':Option Bool}{c:Bool}(h1:∀c,a=some c->a'=some c)(h2:∀c,b=some c->b'=some c)(h:GB a b=some c):GB a' b'=some c:=by
 cases a with
 |some x=>
  rw[h1 x rfl];cases x with
  |false=>exact h
  |true=>exact h2 c h
 |none=>
  cases b with
  |none=>cases h
  |some y=>
   cases y with
   |true=>cases h
   |false=>
    rw[h2 false rfl];cases h;cases a' with
    |none=>rfl
    |some z=>cases z<;>rfl
theorem EF{a a' b b':Option Bool}{c:Bool}(h1:∀c,a=some c->a'=some c)(h2:∀c,b=some c->b'=some c)(h:MB a b=some c):MB a' b'=some c:=by
 cases a with
 |some x=>
  rw[h1 x rfl];cases x with
  |true=>exact h
  |false=>exact h2 c h
 |none=>
  cases b with
  |none=>cases h
  |some y=>
   cases y with
   |false=>cases h
   |true=>
    rw[h2 true rfl];cases h;cases a' with
    |none=>rfl
    |some z=>cases z<;>rfl
theorem px{s s':ba->Option Fd}:∀ks:List Tr,(∀t,t∈ks->∀b,t.tr3 s=some b->t.tr3 s'=some b)->∀b,Tr.all3 s ks=some b->Tr.all3 s' ks=some b
 |[],_,b,h=>by simp_all[Tr.all3]
 |t::r,ih,b,h=>by
  rw[Tr.all3] at h ⊢;exact C4 (ih t (by simp)) (px r fun u hu=>ih u (by simp[hu])) h
theorem uX{s s':ba->Option Fd}:∀ks:List Tr,(∀t,t∈ks->∀b,t.tr3 s=some b->t.tr3 s'=some b)->∀b,Tr.any3 s ks=some b->Tr.any3 s' ks=some b
 |[],_,b,h=>by simp_all[Tr.any3]
 |t::r,ih,b,h=>by
  rw[Tr.any3] at h ⊢;exact EF (ih t (by simp)) (uX r fun u hu=>ih u (by simp[hu])) h
theorem rz{s s':ba->Option Fd}(he:ext s s'):∀t:Tr,∀b,t.tr3 s=some b->t.tr3 s'=some b:=Tr.ind fun k nm tx op n ks ih b h=>by
 rw[Tr.tr3] at h ⊢;by_cases h1:k=1
 ·grind
 rw[if_neg h1] at h ⊢;by_cases h6:k=6
 ·rw[if_pos h6] at h ⊢
  grind [Option.map_eq_some_iff,px]
 rw[if_neg h6] at h ⊢;by_cases h7:k=7
 ·rw[if_pos h7] at h ⊢;grind [px]
 rw[if_neg h7] at h ⊢;by_cases h8:k=8
 ·rw[if_pos h8] at h ⊢;grind [uX]
 rw[if_neg h8] at h ⊢;rw[ad8] at h ⊢;obtain⟨x,h1,h2⟩:=h;exact⟨x,he _ _ h1,h2⟩
theorem oh{s:ba->Option Fd}{a:ba->Fd}:∀t:Tr,(∀l,l∈t.lvs->s l.nm=some (a l.nm))->t.tr3 s=some (t.truA a):=Tr.ind fun k nm tx op n ks ih h=>by
 rw[Tr.lvs] at h;rw[Tr.tr3,Tr.truA];by_cases h1:k=1
 ·grind
 rw[if_neg h1] at h ⊢;rw[if_neg h1]
 have hall:(∀l,l∈Tr.lvss ks->s l.nm=some (a l.nm))->∀l:List Tr,(∀t,t∈l->t∈ks)->Tr.all3 s l=some (Tr.allA a l):=by
  intro hk l
  induction l with
  |nil=>grind [Tr.all3,Tr.allA]
  |cons t r ihr=>
   intro hm;rw[Tr.all3,Tr.allA,ih t (hm t (by simp)) (fun l hl=>hk l (iz.2 ⟨t,hm t (by simp),hl⟩)),ihr fun u hu=>hm u (by simp[hu])];cases t.truA a<;>rfl
 have hany:(∀l,l∈Tr.lvss ks->s l.nm=some (a l.nm))->∀l:List Tr,(∀t,t∈l->t∈ks)->Tr.any3 s l=some (Tr.anyA a l):=by
  intro hk l
  induction l with
  |nil=>grind [Tr.any3,Tr.anyA]
  |cons t r ihr=>
   intro hm;rw[Tr.any3,Tr.anyA,ih t (hm t (by simp)) (fun l hl=>hk l (iz.2 ⟨t,hm t (by simp),hl⟩)),ihr fun u hu=>hm u (by simp[hu])];cases t.truA a<;>rfl
 by_cases h6:k=6
 ·grind
 rw[if_neg h6,if_neg h6];by_cases h7:k=7
 ·grind
 rw[if_neg h7,if_neg h7];by_cases h8:k=8
 ·grind
 simp_all
theorem ry{a b:ba->Fd}:∀t:Tr,(∀l,l∈t.lvs->l.one (a l.nm)=l.one (b l.nm))->t.truA a=t.truA b:=Tr.ind fun k nm tx op n ks ih h=>by
 rw[Tr.lvs] at h;rw[Tr.truA,Tr.truA];by_cases h1:k=1
 ·grind
 rw[if_neg h1] at h ⊢;rw[if_neg h1]
 have hall:(∀l,l∈Tr.lvss ks->l.one (a l.nm)=l.one (b l.nm))->∀l:List Tr,(∀t,t∈l->t∈ks)->Tr.allA a l=Tr.allA b l:=by
  intro hk l
  induction l with
  |nil=>simp_all[Tr.allA]
  |cons t r ihr=>
   intro hm;rw[Tr.allA,Tr.allA,ih t (hm t (by simp)) (fun l hl=>hk l (iz.2 ⟨t,hm t (by simp),hl⟩)),ihr fun u hu=>hm u (by simp[hu])]
 have hany:(∀l,l∈Tr.lvss ks->l.one (a l.nm)=l.one (b l.nm))->∀l:List Tr,(∀t,t∈l->t∈ks)->Tr.anyA a l=Tr.anyA b l:=by
  intro hk l
  induction l with
  |nil=>simp_all[Tr.anyA]
  |cons t r ihr=>
   intro hm;rw[Tr.anyA,Tr.anyA,ih t (hm t (by simp)) (fun l hl=>hk l (iz.2 ⟨t,hm t (by simp),hl⟩)),ihr fun u hu=>hm u (by simp[hu])]
 by_cases h6:k=6
 ·grind
 rw[if_neg h6,if_neg h6];by_cases h7:k=7
 ·grind
 rw[if_neg h7,if_neg h7];by_cases h8:k=8
 ·grind
 rw[if_neg (by grind)] at h;rw[if_neg h8,if_neg h8];exact h ⟨k,nm,tx,op,n⟩ (by simp)
end Go.Proofs.YtelmfadihfcgnaaGreatDoor
namespace Go.Proofs.YtelmfadihfcgnaaGreatDoor
open Go Go.Pv
set_option maxRecDepth 100000
def t8(x:aa):Fd:=⟨x.hasText,x.hasNumber,x.text,x.number⟩
abbrev yO:=List (ba×aa)
abbrev Hc:=List (ba×Bool)
def sgm(m:yO)(kn:Hc):ba->Option Fd:=fun n=>if (aH kn n).getD false=true then some (t8 (gV m n)) else none
def xh:Option Bool->Int
 |none=>0
 |some true=>1
 |some false=>2
theorem vl(b:Bool):xh (some b)=tv b:=by cases b<;>rfl
section
variable(F:Nat)(m:yO)(kn:Hc)(nm:B8)
theorem w7:yZ F ⟨m,some kn⟩ nm=some (gV m nm,(aH kn nm).getD false):=rfl
theorem L9(op n:Int)(tx:List B8):AN F ⟨nm,tx⟩ ⟨m,some kn⟩=some (xh ((sgm m kn nm).map (gU 2 op n tx))):=by
 unfold AN sgm;rw[w7,bw9];dsimp only;cases (aH kn nm).getD false
 ·rfl
 ·rw[tc,eN,bw9,eN,if_pos rfl,az9,vl]
  grind [gU,t8,Hp]
theorem L8(op n:Int)(tx:List B8):AM F ⟨nm,tx⟩ ⟨m,some kn⟩=some (xh ((sgm m kn nm).map (gU 3 op n tx))):=by
 unfold AM sgm;rw[w7,bw9];dsimp only;cases (aH kn nm).getD false
 ·rfl
 ·rw[BV,eN,bw9,eN,if_pos rfl,az9,vl]
  grind [gU,t8,Ho]
theorem L5(op n:Int)(tx:List B8):AL F ⟨nm⟩ ⟨m,some kn⟩=some (xh ((sgm m kn nm).map (gU 4 op n tx))):=by
 unfold AL sgm;rw[w7,bw9];dsimp only;cases (aH kn nm).getD false
 ·rfl
 ·rw[eN,eN,if_pos rfl,az9,vl]
  grind [gU,t8]
theorem L4(op n:Int)(tx:List B8):AK F ⟨nm,op,n⟩ ⟨m,some kn⟩=some (xh ((sgm m kn nm).map (gU 5 op n tx))):=by
 unfold AK sgm;rw[w7,bw9];dsimp only;cases (aH kn nm).getD false
 ·rfl
 ·rw[BU,eN,bw9,eN,if_pos rfl,az9,vl]
  grind [gU,t8]
end
theorem MW(m:yO)(kn:Hc):∀t:Tr,t.ok->t.flt=0->∀F,t.fu<=F->de F t.cd ⟨m,some kn⟩=some (xh (t.tr3 (sgm m kn))):=Tr.ind fun k nm tx op n ks ih ok hz F hF=>by
 rw[Tr.fu] at hF;obtain⟨hnode,hfl⟩:=iI hz;obtain⟨F,rfl⟩:∃G,F=G+1:=⟨F - 1,by omega⟩
 show gi (de F) F (Tr.mk k nm tx op n ks).cd ⟨m,some kn⟩=_
 have hkid:∀t,t∈ks->de F t.cd ⟨m,some kn⟩=some (xh (t.tr3 (sgm m kn))):=fun t ht=>ih t ht (Tr.oks_mem (Tr.okks ok).1 ht) (eU hfl ht) F (by have:=Tr.fu_mem ht;omega);have hkk:=ip hnode;dsimp only at hkk;have hk':k=1\/k=2\/k=3\/k=4\/k=5\/k=6\/k=7\/k=8:=by omega
 rw[Tr.cd,Tr.tr3]
 have hall:∀(l:List Tr) (A:Option Bool),A≠some false->(∀t,t∈l->t∈ks)->fQ (de F) F ⟨m,some kn⟩ (fun n4=>some n4) (Tr.cds l) (xh A)=some (xh (GB A (Tr.all3 (sgm m kn) l))):=by
  intro l
  induction l with
  |nil=>
   intro A hA _;rw[Tr.cds,Tr.all3,fQ];cases A with
   |none=>rfl
   |some b=>cases b<;>rfl
  |cons t r ihr=>
   intro A hA hm;rw[Tr.cds,fQ,hkid t (hm t (by simp)),bw9,aF,Tr.all3];have hr:=fun B hB=>ihr B hB fun u hu=>hm u (by simp[hu]);cases t.tr3 (sgm m kn) with
   |none=>
    show fQ _ _ _ _ _ 0=_
    rw[show(0:Int)=xh none from rfl,hr none (by simp)];cases A with
    |none=>cases Tr.all3 (sgm m kn) r with
     |none=>rfl
     |some b=>cases b<;>rfl
    |some a=>cases a with
     |false=>grind
     |true=>rfl
   |some b=>
    cases b with
    |false=>
     cases A with
     |none=>rfl
     |some a=>cases a with
      |false=>grind
      |true=>rfl
    |true=>exact hr A hA
 have hany:∀(l:List Tr) (A:Option Bool),A≠some true->(∀t,t∈l->t∈ks)->fO (de F) F ⟨m,some kn⟩ (fun n4=>some n4) (Tr.cds l) (xh A)=some (xh (MB A (Tr.any3 (sgm m kn) l))):=by
  intro l
  induction l with
  |nil=>
   intro A hA _;rw[Tr.cds,Tr.any3,fO];cases A with
   |none=>rfl
   |some b=>cases b<;>rfl
  |cons t r ihr=>
   intro A hA hm;rw[Tr.cds,fO,hkid t (hm t (by simp)),bw9,aF,Tr.any3];have hr:=fun B hB=>ihr B hB fun u hu=>hm u (by simp[hu]);cases t.tr3 (sgm m kn) with
   |none=>
    show fO _ _ _ _ _ 0=_
    rw[show(0:Int)=xh none from rfl,hr none (by simp)];cases A with
    |none=>cases Tr.any3 (sgm m kn) r with
     |none=>rfl
     |some b=>cases b<;>rfl
    |some a=>cases a with
     |true=>grind
     |false=>rfl
   |some b=>
    cases b with
    |true=>
     cases A with
     |none=>rfl
     |some a=>cases a with
      |true=>grind
      |false=>rfl
    |false=>exact hr A hA
 unfold gi;rcases hk' with e|e|e|e|e|e|e|e
 ·subst e;simp only[show ¬(1:Int)=2 by decide,show ¬(1:Int)=3 by decide,show ¬(1:Int)=4 by decide,show ¬(1:Int)=5 by decide,show ¬(1:Int)=6 by decide,show ¬(1:Int)=7 by decide,show ¬(1:Int)=8 by decide,if_false];rw[aO (by decide),aO (by decide),aO (by decide),aO (by decide),aO (by decide),aO (by decide),aO (by decide),cI x5];rfl
 ·subst e;rw[if_pos rfl,cI zY];exact L9 F m kn nm op n tx
 ·subst e;rw[if_neg (by decide),if_pos rfl,aO (by decide),cI nz];exact L8 F m kn nm op n tx
 ·subst e;rw[if_neg (by decide),if_neg (by decide),if_pos rfl,aO (by decide),aO (by decide),cI v7];exact L5 F m kn nm op n tx
 ·subst e;rw[if_neg (by decide),if_neg (by decide),if_neg (by decide),if_pos rfl,aO (by decide),aO (by decide),aO (by decide),cI ny];exact L4 F m kn nm op n tx
 ·subst e;rw[if_neg (by decide),if_neg (by decide),if_neg (by decide),if_neg (by decide),if_pos rfl,aO (by decide),aO (by decide),aO (by decide),aO (by decide),cI v6];have h1:ks.length=1:=by rw[<-jJ hnode rfl];exact(Tr.toKs_len ks).symm
  match ks,h1,hkid with
  |[t],_,hkid=>
   show AJ (de F) F ⟨(Tr.cds [t]).headD _⟩ ⟨m,some kn⟩=_
   rw[Tr.cds,List.headD_cons,AJ,hkid t (by simp),bw9,if_neg (by decide),if_pos rfl,Tr.all3,Tr.all3];cases t.tr3 (sgm m kn) with
   |none=>rfl
   |some b=>cases b<;>rfl
 ·subst e;rw[if_neg (by decide),if_neg (by decide),if_neg (by decide),if_neg (by decide),if_neg (by decide),if_pos rfl,aO (by decide),aO (by decide),aO (by decide),aO (by decide),aO (by decide),cI wc];exact hall ks (some true) (by simp) fun _ h=>h
 ·subst e;rw[if_neg (by decide),if_neg (by decide),if_neg (by decide),if_neg (by decide),if_neg (by decide),if_neg (by decide),if_pos rfl,aO (by decide),aO (by decide),aO (by decide),aO (by decide),aO (by decide),aO (by decide),cI v8];exact hany ks (some false) (by simp) fun _ h=>h
def KN{κ τ:Type}(m:List (κ×τ)):Prop:=(m.map (·.1)).Nodup
section
variable{κ τ:Type}[DecidableEq κ]
theorem Ct{m:List (κ×τ)}{k:κ}:aH m k=none<->k ∉ m.map (·.1):=by
 induction m with
 |nil=>simp[aH]
 |cons p r ih=>
  rw[aH]
  grind
theorem Cu{m:List (κ×τ)}{k:κ}{v:τ}(h:aH m k=some v):(k,v)∈m:=by
 induction m with
 |nil=>simp[aH] at h
 |cons p r ih=>
  rw[aH] at h
  grind
theorem Fm{m:List (κ×τ)}(hn:KN m){p:κ×τ}(h:p∈m):aH m p.1=some p.2:=by
 induction m with
 |nil=>simp at h
 |cons q r ih=>
  rw[aH];unfold KN at hn;rw[bi8,aa9] at hn;rcases aq8.1 h with e|h
  ·grind
  ·rw[if_neg (fun e=>hn.1 (by grind)),ih hn.2 h]
theorem uI{m:List (κ×τ)}{k:κ}{v:τ}:∀x,x∈(bI m k v).map (·.1)<->x=k\/x∈m.map (·.1):=by
 induction m with
 |nil=>grind [bI]
 |cons p r ih=>
  intro x;rw[bI]
  grind
theorem KN.put{m:List (κ×τ)}{k:κ}{v:τ}(h:KN m):KN (bI m k v):=by
 unfold KN at *
 induction m with
 |nil=>simp[bI]
 |cons p r ih=>
  rw[bi8,aa9] at h;rw[bI];by_cases e:p.1=k
  ·grind
  simp_all[uI]
theorem Fo{m:List (κ×τ)}{k x:κ}(h:x∈(dj m k).map (·.1)):x∈m.map (·.1):=by
 induction m<;>grind [dj]
theorem KN.del{m:List (κ×τ)}{k:κ}(h:KN m):KN (dj m k):=by
 unfold KN at *
 induction m<;>grind [dj,Fo]
theorem pi{m:List (κ×τ)}{k x:κ}(h:KN m):aH (dj m k) x=if x=k then none else aH m x:=by
 unfold KN at h
 induction m with
 |nil=>simp[dj,aH]
 |cons p r ih=>
  rw[bi8,aa9] at h;rw[dj];by_cases e:p.1=k
  ·simp_all[Ct,aH,Ne.symm]
  ·rw[if_neg e,aH,aH,ih h.2]
   grind
end
abbrev Mb:=ba->Option aa
def wC(s:Mb):ba->Option Fd:=fun n=>(s n).map t8
structure Dj(m:yO)(kn:Hc)(s:Mb):Prop where
 fm:∀n,aH m n=s n
 fk:∀n,aH kn n=(s n).map fun _=>true
 nm:KN m
 nk:KN kn
theorem Dj.sgm{m:yO}{kn:Hc}{s:Mb}(h:Dj m kn s):sgm m kn=wC s:=by
 funext n
 unfold Go.Proofs.YtelmfadihfcgnaaGreatDoor.sgm wC gV;rw[h.fk,h.fm];cases s n<;>rfl
theorem BC(P:Mb->Option Bool)(F0:Nat)(hb:Bool)(cd:KV)(hC:∀F m kn s,F0<=F->Dj m kn s->LV F ⟨m,some kn⟩ hb cd=some (xh (P s)))(by_:List (ba×List aa))(ns:List ba)(hn:ns.Nodup)(hlen:ns.length<=1000):
  ∀(rest pre:List ba),ns=pre++rest->∀F,F0+rest.length+1<=F->∀m kn s,Dj m kn s->(∀n,n∈rest->s n=none)->
   ∃m' kn',(match qn? P (fun n=>(aH by_ n).getD []) rest s with
    |some s'=>xn F (pre.length:Int) by_ hb cd ns m kn=some (true,m',kn')/\Dj m' kn' s'
    |none=>xn F (pre.length:Int) by_ hb cd ns m kn=some (false,m',kn')/\Dj m' kn' s)
 |[],pre,hns,F,hF,m,kn,s,hs,_=>by
  obtain⟨F,rfl⟩:∃G,F=G+1:=⟨F - 1,by omega⟩;have hl:ns.length=pre.length:=by rw[hns];simp
  have hh:=hC F m kn s (by grind) hs;refine⟨m,kn,?_⟩;rw[qn?]
  show match (if P s=some true then some s else none) with|some s'=>kT (xn F) F _ _ _ _ _ _ _=_/\_|none=>kT (xn F) F _ _ _ _ _ _ _=_/\_
  unfold kT;rw[hh,bw9];by_cases h1:P s=some true
  ·rw[if_pos h1];dsimp only;rw[show P s=some true from h1];exact⟨Y,hs⟩
  ·rw[if_neg h1];dsimp only;refine⟨?_,hs⟩;have h1:P s≠some true:=h1;cases h2:P s with
   |none=>
    show(if (((0:Int))==1)=true then _ else if ((0:Int)==2)=true then _ else if ((pre.length:Int)==((ns.length:Nat):Int))=true then _ else _)=_
    grind
   |some b=>
    cases b with
    |true=>grind
    |false=>rfl
 |n::r,pre,hns,F,hF,m,kn,s,hs,hno=>by
  obtain⟨F,rfl⟩:∃G,F=G+1:=⟨F - 1,by omega⟩;simp only[bu8] at hF;have hh:=hC F m kn s (by omega) hs;have hsn:=hno n (by simp)
  have hnd:n ∉ r:=by
   rw[hns,bx8] at hn;exact(aa9.1 hn.2.1).1
  have hl:ns.length=pre.length+(r.length+1):=by rw[hns];simp
  rw[qn?];cases h2:P s with
  |some b=>
   have h2':P s=some b:=h2;rw[h2'] at hh;refine⟨m,kn,?_⟩;cases b with
   |true=>
    dsimp only;refine⟨?_,hs⟩
    show kT (xn F) F _ _ _ _ _ _ _=_
    unfold kT;rw[hh,bw9];rfl
   |false=>
    dsimp only;refine⟨?_,hs⟩
    show kT (xn F) F _ _ _ _ _ _ _=_
    unfold kT;rw[hh,bw9];rfl
  |none=>
   have h2':P s=none:=h2;rw[h2'] at hh;dsimp only
   have hbody:xn (F+1) (pre.length:Int) by_ hb cd ns m kn=ju (xn F) F (pre.length:Int) by_ hb cd ns n (fun m41 m42=>some (false,dj m41 n,dj m42 n)) ((aH by_ n).getD []) m (bI kn n true):=by
    show kT (xn F) F _ _ _ _ _ _ _=_
    unfold kT;rw[hh,bw9]
    show(if (((0:Int))==1)=true then _ else if ((0:Int)==2)=true then _ else if ((pre.length:Int)==((ns.length:Nat):Int))=true then _ else _)=_
    rw[if_neg (by decide),if_neg (by decide),if_neg (by simp;omega),bF (by omega),bw9];have:ns[pre.length]'(by omega)=n:=by simp[hns]
    rw[this];rfl
   rw[hbody]
   -- the loop over what the name can be
   have loop:∀(xs:List aa) (m1:yO) (kn1:Hc),(∀k,k≠n->aH m1 k=s k)->(∀k,aH kn1 k=if k=n then some true else (s k).map fun _=>true)->KN m1->KN kn1->
     ∃m' kn',(match xs.findSome? (fun x=>qn? P (fun n=>(aH by_ n).getD []) r (oc s n x)) with
      |some s'=>ju (xn F) F (pre.length:Int) by_ hb cd ns n (fun m41 m42=>some (false,dj m41 n,dj m42 n)) xs m1 kn1=some (true,m',kn')/\Dj m' kn' s'
      |none=>ju (xn F) F (pre.length:Int) by_ hb cd ns n (fun m41 m42=>some (false,dj m41 n,dj m42 n)) xs m1 kn1=some (false,m',kn')/\Dj m' kn' s):=by
    intro xs
    induction xs with
    |nil=>
     intro m1 kn1 q1 q2 q3 q4;refine⟨dj m1 n,dj kn1 n,Y,fun k=>?_,fun k=>?_,q3.del,q4.del⟩
     ·simp_all[pi]
     simp_all[pi]
    |cons x xs ih=>
     intro m1 kn1 q1 q2 q3 q4
     have hst:Dj (bI m1 n x) kn1 (oc s n x):=by
      refine⟨fun k=>?_,fun k=>?_,q3.put,q4⟩
      ·rw[cL];unfold oc
       grind
      ·rw[q2];unfold oc
       grind
     obtain⟨m2,kn2,h3⟩:=BC P F0 hb cd hC by_ ns hn hlen r (pre++[n]) (by grind) F (by omega) (bI m1 n x) kn1 (oc s n x) hst (fun k hk=>by
      unfold oc
      grind)
     rw[show((pre++[n]).length:Int)=(pre.length:Int)+1 by simp] at h3;rw[List.findSome?_cons];cases h4:qn? P (fun n=>(aH by_ n).getD []) r (oc s n x) with
     |some s'=>
      grind [ju,cm]
     |none=>
      rw[h4] at h3;dsimp only at h3 ⊢;have h5:=h3.2
      obtain⟨m',kn',h6⟩:=ih m2 kn2 (fun k hk=>by rw[h5.fm];simp_all[oc]) (fun k=>by
       rw[h5.fk];unfold oc
       grind) h5.nm h5.nk
      refine⟨m',kn',?_⟩
      grind [ju,cm]
   exact loop _ m (bI kn n true) (fun k hk=>hs.fm k) (fun k=>by
    rw[cL,hs.fk]
    grind) hs.nm hs.nk.put
termination_by rest=>rest.length
set_option maxRecDepth 1000000
theorem Nc{α β:Type}{o o':Option α}(h:o=o'){f g:α->Option β}(hfg:∀y,f y=g y):o.bind f=o'.bind g:=by
 subst h;exact congrArg o.bind (funext hfg)
abbrev xl:=List (aa×Bool)×List (ba×List aa)
def iH(R:xl->aa->Option xl):List aa->xl->Option xl
 |[],p=>some p
 |x::l,p=>(R p x).bind (iH R l)
theorem mH(R:xl->aa->Option xl):∀(l l':List aa) (p:xl),iH R (l++l') p=(iH R l p).bind (iH R l')
 |[],l',p=>rfl
 |x::l,l',p=>by
  show(R p x).bind (iH R (l++l'))=((R p x).bind (iH R l)).bind (iH R l')
  rw[Option.bind_assoc]
  congr 1
  funext q
  exact mH R l l' q
def nv(n:Int):aa:=⟨false,true,[],n⟩
def Hq(t:ba)(v:aa):aa:=⟨true,v.hasNumber,t,v.number⟩
def m4(s:ae)(nums:List Int):List aa:=zV::(if (s.asNo||s.has)=true then nums.map nv else [])
def eM(s:ae)(nums:List Int)(txs:List ba):List aa:=
 m4 s nums++(if (s.asText||s.has)=true then txs.flatMap (fun t=>(m4 s nums).map (Hq t)) else [])
section
variable(R0:xl->aa->Option xl)(F:Nat)
theorem pA(k:List aa->Option xl):∀(l:List Int) (acc:List aa),acc.length+l.length<=1000000000000->gL F k l acc=k (acc++l.map nv)
 |[],acc,_=>by rw[gL];simp
 |x::l,acc,h=>by
  simp only[bu8] at h;rw[gL,if_pos (by simp;omega),pA k l _ (by simp;omega)];simp[nv]
theorem pz(k:List (aa×Bool)->List (ba×List aa)->Option xl):∀(l:List aa) (p:xl),gj R0 F k l p.1 p.2=(iH R0 l p).bind fun q=>k q.1 q.2
 |[],p=>by rw[gj];rfl
 |x::l,p=>by
  rw[gj]
  show _=((R0 p x).bind (iH R0 l)).bind fun q=>k q.1 q.2
  rw[Option.bind_assoc];exact Nc Y fun y=>pz k l y
theorem u4(t:ba)(k:List (aa×Bool)->List (ba×List aa)->Option xl):∀(l:List aa) (p:xl),eD R0 F t k l p.1 p.2=(iH R0 (l.map (Hq t)) p).bind fun q=>k q.1 q.2
 |[],p=>by rw[eD];rfl
 |x::l,p=>by
  rw[eD]
  show _=((R0 p (Hq t x)).bind (iH R0 (l.map (Hq t)))).bind fun q=>k q.1 q.2
  rw[Option.bind_assoc];exact Nc Y fun y=>u4 t k l y
theorem jV(vs:List aa):∀(l:List ba) (p:xl),dl R0 F vs l p.1 p.2=iH R0 (l.flatMap fun t=>vs.map (Hq t)) p
 |[],p=>by rw[dl];rfl
 |t::l,p=>by
  rw[dl,aF,aF,u4,ab8,mH];exact Nc Y fun y=>jV vs l y
theorem LH(s:ae)(nums:List Int)(txs:List ba)(h1:za F s=some nums)(h2:qD F s=some txs)(hn:nums.length<=1000000)(p:xl):
  NJ R0 F s.is s.begins s.numbers s.asText s.asNo s.has s.weight p.1 p.2=iH R0 (eM s nums txs) p:=by
 obtain⟨a1,a2,a3,a4,a5,a6,a7⟩:=s;unfold NJ eM m4;dsimp only;have hz:(aa.mk false false ([]:B8) 0)=zV:=rfl;cases a5 with
 |true=>
  rw[if_pos rfl,h1,bw9,aF,pA F _ _ _ (by simp;omega),aF,pz];rw[hz,show((true||a6):Bool)=true from rfl,if_pos rfl,mH R0 (zV::List.map nv nums)];refine Nc Y fun y=>?_;cases a4 with
  |false=>
   rw[if_pos (by decide)];cases a6 with
   |false=>rw[if_pos (by decide)];rfl
   |true=>simp_all[jV]
  |true=>simp_all[jV]
 |false=>
  rw[if_neg (by decide),aF]
  have key:∀vs:List aa,(jn (fun(m116:List (aa×Bool)) (m117:List (B8×(List aa)))=>if (!a4)=true then if (!a6)=true then some (m116,m117)
    else (qD F (ae.mk a1 a2 a3 a4 false a6 a7)).bind fun y132=>dl R0 F vs y132 m116 m117
    else (qD F (ae.mk a1 a2 a3 a4 false a6 a7)).bind fun y162=>dl R0 F vs y162 m116 m117) (fun k115=>gj R0 F k115 vs p.1 p.2)) =
    iH R0 (vs++if (a4||a6)=true then txs.flatMap (fun t=>vs.map (Hq t)) else []) p:=by
   intro vs;rw[aF,pz,mH];refine Nc Y fun y=>?_;cases a4 with
   |false=>
    rw[if_pos (by decide)];cases a6 with
    |false=>rw[if_pos (by decide)];rfl
    |true=>simp_all[jV]
   |true=>simp_all[jV]
  cases a6 with
  |true=>
   rw[if_pos rfl,h1,bw9,aF,pA F _ _ _ (by simp;omega)];exact key _
  |false=>
   grind
end
theorem wW(F:Nat)(nm:ba):∀(l:List aa) (p:xl),(∀x,(aH p.1 x).getD false=true<->x∈(aH p.2 nm).getD [])->((aH p.2 nm).getD []).length+l.length<=1000000000000->KN p.2->
  ∃q:xl,iH (fun p x=>kB F nm p.1 p.2 x) l p=some q/\(∀x,x∈(aH q.2 nm).getD []<->x∈(aH p.2 nm).getD []\/x∈l)/\(∀k,k≠nm->aH q.2 k=aH p.2 k)/\KN q.2
 |[],p,_,_,hk=>⟨p,rfl,fun x=>by simp,fun _ _=>rfl,hk⟩
 |x::l,p,h1,h2,hk=>by
  simp only[bu8] at h2
  show ∃q,(kB F nm p.1 p.2 x).bind _=some q/\_
  unfold kB;rw[aF];cases hs:(aH p.1 x).getD false with
  |true=>
   have hx:=(h1 x).1 hs;obtain⟨q,g1,g2,g3,g4⟩:=wW F nm l p h1 (by omega) hk;refine⟨q,by rw[if_neg (by decide),bw9];exact g1,fun y=>?_,g3,g4⟩
   grind
  |false=>
   have hg:(aH (bI p.2 nm ((aH p.2 nm).getD []++[x])) nm).getD []=(aH p.2 nm).getD []++[x]:=by rw[cL,if_pos rfl];rfl
   obtain⟨q,g1,g2,g3,g4⟩:=wW F nm l (bI p.1 x true,bI p.2 nm ((aH p.2 nm).getD []++[x])) (fun y=>by
    dsimp only;rw[hg,cL,bx9,bj8]
    grind) (by grind) hk.put
   refine⟨q,by rw[if_pos (by decide),if_pos (by simp;omega),bw9];exact g1,fun y=>?_,fun k hk=>?_,g4⟩
   ·grind
   simp_all[cL,Ne.symm]
abbrev tB:=List (ba×Option ae)
structure Gv(F:Nat)(s:ae)(nums:List Int)(txs:List ba):Prop where
 n:za F s=some nums
 t:qD F s=some txs
 ln:nums.length<=1000000
 lc:(eM s nums txs).length<=1000000000000
theorem pF(F:Nat)(all:tB)(fx:yO)(k:List ba->List (ba×List aa)->yO->Hc->Option (List (ba×List aa)×List ba×yO×Hc)):
  ∀(l:List ba) (l44:List ba) (m45:List (ba×List aa)) (m66:yO) (m67:Hc),l.Nodup->KN m45->KN m66->KN m67->(∀n,n∈l->aH m45 n=none)->l44.length+l.length<=10000000->
   (∀n,n∈l->aH fx n=none->∃s nums txs,aH all n=some (some s)/\Gv F s nums txs)->
   ∃by_ m kn,gm F all fx k l l44 m45 m66 m67=k (l44++l.filter fun n=>(aH fx n).isNone) by_ m kn/\KN by_/\KN m/\KN kn/\(∀n,n ∉ l->aH by_ n=aH m45 n)/\
    (∀n,aH m n=if n∈l/\(aH fx n).isSome=true then aH fx n else aH m66 n)/\(∀n,aH kn n=if n∈l/\(aH fx n).isSome=true then some true else aH m67 n)/\
    ∀n s nums txs,n∈l->aH fx n=none->aH all n=some (some s)->Gv F s nums txs->∀x,x∈(aH by_ n).getD []<->x∈eM s nums txs
 |[],l44,m45,m66,m67,_,hk,h6,h7,_,_,_=>⟨m45,m66,m67,by rw[gm];simp,hk,h6,h7,fun _ _=>rfl,by simp,by simp,fun n s nums txs h=>by simp at h⟩
 |n::r,l44,m45,m66,m67,hn,hk,h6,h7,hno,hl,hg=>by
  simp only[bu8] at hl;have hn':=aa9.1 hn;have hm:=hno n (by simp);cases hf:aH fx n with
  |some v=>
   obtain⟨by_,m,kn,e1,e2,e5,e6,e3,e7,e8,e4⟩:=pF F all fx k r l44 m45 (bI m66 n v) (bI m67 n true) hn'.2 hk h6.put h7.put (fun m hm2=>hno m (by simp[hm2])) (by omega) (fun m hm2=>hg m (by simp[hm2]));refine⟨by_,m,kn,?_,e2,e5,e6,fun m hm2=>e3 m (by simp at hm2;exact hm2.2),fun x=>?_,fun x=>?_,fun m s' nums' txs' hm2 hf' hs' hG x=>?_⟩
   ·rw[gm,aF,hf,if_pos (by rfl),bv9];refine e1.trans ?_;rw[aa8,hf];rfl
   ·rw[e7,cL];by_cases e:x=n
    ·subst e;simp[hn'.1,hf]
    ·simp[e,Ne.symm e]
   ·rw[e8,cL];by_cases e:x=n
    ·subst e;simp[hn'.1,hf]
    ·simp[e,Ne.symm e]
   ·rcases aq8.1 hm2 with e|hm2
    ·subst e;rw[hf] at hf';cases hf'
    ·exact e4 m s' nums' txs' hm2 hf' hs' hG x
  |none=>
   obtain⟨s,nums,txs,h1,h2⟩:=hg n (by simp) hf;obtain⟨q,g1,g2,g3,g4⟩:=wW F n (eM s nums txs) ([],m45) (fun x=>by simp_all[aH]) (by dsimp only;rw[hm];have:=h2.lc;simp;omega) hk
   obtain⟨by_,m,kn,e1,e2,e5,e6,e3,e7,e8,e4⟩:=pF F all fx k r (l44++[n]) q.2 m66 m67 hn'.2 g4 h6 h7 (fun m hm2=>by
    grind) (by simp;omega) (fun m hm2=>hg m (by simp[hm2]))
   refine⟨by_,m,kn,?_,e2,e5,e6,fun m hm2=>?_,fun x=>?_,fun x=>?_,fun m s' nums' txs' hm2 hf' hs' hG x=>?_⟩
   ·rw[gm,aF,hf,if_neg (by simp),if_pos (by simp;omega),h1]
    show(Option.bind (some s) fun x50=>_)=_
    rw[bw9];have:=LH (fun p x=>kB F n p.1 p.2 x) F s nums txs h2.n h2.t h2.ln ([],m45);dsimp only at this;rw[this,g1,bw9];refine e1.trans ?_;rw[aa8,hf];simp
   ·grind
   ·rw[e7];by_cases e:x=n
    ·subst e;simp[hn'.1,hf]
    ·simp[e]
   ·rw[e8];by_cases e:x=n
    ·subst e;simp[hn'.1,hf]
    ·simp[e]
   ·rcases aq8.1 hm2 with e|hm2
    ·subst e;rw[h1] at hs';cases hs';have a1:=h2.n.symm.trans hG.n;have a2:=h2.t.symm.trans hG.t
     grind
    exact e4 m s' nums' txs' hm2 hf' hs' hG x
theorem cZ(l:List ba):(dT l).Perm l:=List.mergeSort_perm l _
def ym(all:tB)(fx:yO):Mb:=fun n=>if n∈all.map (·.1) then aH fx n else none
theorem LX(F:Nat)(all:tB)(hb:Bool)(cd:KV)(fx:yO)(hk:KN all)(hl:all.length<=1000)(hs:∀p,p∈all->p.1.length<=1000)(hg:∀n,n∈all.map (·.1)->aH fx n=none->∃s nums txs,aH all n=some (some s)/\Gv F s nums txs):
  ∃by_ m kn,Hd F all hb cd fx=some (by_,(dT (all.map (·.1))).filter (fun n=>(aH fx n).isNone),m,kn)/\Dj m kn (ym all fx)/\∀n s nums txs,aH fx n=none->aH all n=some (some s)->Gv F s nums txs->∀x,x∈(aH by_ n).getD []<->x∈eM s nums txs:=by
 have hp:=cZ (all.map (·.1));have hlen:(dT (all.map (·.1))).length=all.length:=by rw[hp.length_eq];simp
 obtain⟨by_,m,kn,e1,e2,e5,e6,e3,e7,e8,e4⟩:=pF F all fx (fun l54 m55 m56 m57=>some (m55,l54,m56,m57)) (dT (all.map (·.1))) [] [] [] [] (hp.nodup_iff.2 hk) (by simp[KN]) (by simp[KN]) (by simp[KN]) (fun n _=>rfl) (by simp;omega) (fun n hn=>hg n (hp.mem_iff.1 hn));refine⟨by_,m,kn,?_,⟨fun n=>?_,fun n=>?_,e5,e6⟩,fun n s nums txs h0 h1 h2=>e4 n s nums txs (hp.mem_iff.2 ?_) h0 h1 h2⟩
 ·unfold Hd pP;rw[if_pos ⟨by omega,fun p hp=>by grind⟩,bw9,aF,e1];simp
 ·rw[e7];unfold ym;simp only[hp.mem_iff];by_cases h:n∈all.map (·.1)
  ·cases hf:aH fx n<;>simp[h,aH]
  ·simp[h,aH]
 ·rw[e8];unfold ym;simp only[hp.mem_iff];by_cases h:n∈all.map (·.1)
  ·cases hf:aH fx n<;>simp[h,aH]
  ·simp[h,aH]
 ·exact bl9 (Cu h1)
end Go.Proofs.YtelmfadihfcgnaaGreatDoor
namespace Go.Pv
open Go
theorem CA(a b:B8):(Bv a b||Bv b a)=true:=by
 grind [Bv,yz]
theorem Cz(a b c:B8)(h:Bv a b=true)(h':Bv b c=true):Bv a c=true:=by
 grind [Bv,wy,jS]
theorem Cv{a b:B8}(h:Bv a b=true)(hne:a≠b):Op.bytesLess a b=true:=by
 grind [wy,Bv]
theorem vQ{l:List B8}(h:l.Pairwise (fun a b=>Bv a b=true))(hn:l.Nodup):l.Pairwise (fun a b=>Op.bytesLess a b=true):=by
 induction l with
 |nil=>exact .nil
 |cons x l ih=>
  grind [List.pairwise_cons,Cv]
def Hz(l:List B8):List B8:=l.mergeSort Bv
theorem Cd(l:List B8):(Hz l).Perm l:=List.mergeSort_perm _ _
theorem Es(l:List B8):(Hz l).Pairwise (fun a b=>Bv a b=true):=List.pairwise_mergeSort Cz CA l
theorem JJ(a b:B8):(a<b)<->Op.bytesLess a b=true:=by
 induction a generalizing b with
 |nil=>cases b<;>simp[Op.bytesLess]
 |cons x a ih=>
  cases b<;>simp_all[Op.bytesLess,List.cons_lt_cons_iff]
theorem KS(a b:B8):decide (a<=b)=Bv a b:=by
 unfold Bv;rw[<-Bool.not_inj_iff,Bool.not_not];cases h:Op.bytesLess b a
 ·simp only[Bool.not_eq_eq_eq_not,bu9,decide_eq_true_eq];exact fun hh=>by simp_all[JJ]
 simp_all[JJ]
theorem DG(l:List B8):dT l=Hz l:=by
 simp_all[dT,Hz,KS]
theorem Ic(l:List B8)(x:B8):x∈BI l<->x∈l:=by
 unfold BI Lib.compact Lib.compactUpTo;rw[bc9];constructor
 ·grind
 ·intro hx
  have key:∀j,j<l.length->∃i,i<=j/\Lib.keeps l.toArray i=true/\l.toArray[i]! = l.toArray[j]! := by
   intro j
   induction j with
   |zero=>simp_all[Lib.keeps]
   |succ j ih=>
    intro hj;by_cases he:l.toArray[j+1]! = l.toArray[j]!
    ·grind
    ·exact⟨j+1,ae9 _,by simp_all[Lib.keeps],rfl⟩
  grind [List.getElem_of_mem]
end Go.Pv
namespace Go.Proofs.YtelmfadihfcgnaaGreatDoor
open Go Go.Pv
set_option maxRecDepth 1000000
theorem F9(l:List Int)(x:Int):x∈BI l<->x∈l:=by
 unfold BI Lib.compact Lib.compactUpTo;rw[bc9];constructor
 ·grind
 ·intro hx
  have key:∀j,j<l.length->∃i,i<=j/\Lib.keeps l.toArray i=true/\l.toArray[i]! = l.toArray[j]! := by
   intro j
   induction j with
   |zero=>simp_all[Lib.keeps]
   |succ j ih=>
    intro hj;by_cases he:l.toArray[j+1]! = l.toArray[j]!
    ·grind
    ·exact⟨j+1,ae9 _,by simp_all[Lib.keeps],rfl⟩
  grind [List.getElem_of_mem]
instance (x:Int):Decidable (jH x):=by unfold jH;infer_instance
theorem Jj(F:Nat)(a:Int):tr F a=some (decide (jH a)):=by
 unfold tr;by_cases h:a ≥ -1000000000000
 ·rw[if_pos (decide_eq_true h)]
  congr 1
  exact decide_eq_decide.2 ⟨fun h2=>⟨h,h2⟩,fun h2=>h2.2⟩
 ·rw[if_neg (by grind),decide_eq_false (fun h2=>h h2.1)]
theorem sJ(F:Nat)(a:Int)(l:List Int)(K:List Int->Option (List Int))(h:l.length<=10000000):
  ((tr F a).bind fun y22=>jn (fun(l25:List Int)=>K l25) (fun k24=>if y22=true then if (l++([a]:List Int)).length*8<=140737488355328 then k24 (l++([a]:List Int)) else none else k24 l))=K (l++[a].filter fun x=>decide (jH x)):=by
 rw[Jj,bw9,aF]
 grind
def qk(n:Int):List Int:=[n - 1,n,n+1].filter fun x=>decide (jH x)
theorem AR(F:Nat)(n:Int)(hn:jH n)(k:List Int->Option (List Int))(l:List Int)(hl:l.length<=1000000):fR F n k 3 0 l=k (l++qk n):=by
 unfold jH at hn;have e1:bh (n - 1)=n - 1:=cm (by omega) (by omega);have e2:bh (n+1)=n+1:=cm (by omega) (by omega);have f1:∀(x:Int) (l:List Int),([x].filter fun x=>decide (jH x)).length<=1:=fun x l=>ab9 _ _;rw[fR,show cn ([bh (n - 1),n,bh (n+1)]:List Int) 0=some (bh (n - 1)) from rfl,bw9,sJ F _ l _ (by omega)];rw[fR,show cn ([bh (n - 1),n,bh (n+1)]:List Int) (0+1)=some n from rfl,bw9,sJ F _ _ _ (by grind)];rw[fR,show cn ([bh (n - 1),n,bh (n+1)]:List Int) (0+1+1)=some (bh (n+1)) from rfl,bw9,sJ F _ _ _ (by grind)];rw[fR,e1,e2,by8,by8,<-ac9,<-ac9];rfl
theorem tj(F:Nat)(k:List Int->Option (List Int)):∀(ns:List Int) (l:List Int),(∀n,n∈ns->jH n)->l.length+3*ns.length<=1000000->ie F k ns l=k (l++ns.flatMap qk)
 |[],l,_,_=>by rw[ie];simp
 |n::r,l,h,hl=>by
  simp only[bu8] at hl;have hlen:(qk n).length<=3:=ab9 _ _;rw[ie,aF,aF,if_pos (by omega)]
  show fR F n _ 3 0 l=_
  rw[AR F n (h n (by simp)) _ l (by omega)]
  show ie F k r (l++qk n)=_
  rw[tj F k r _ (fun m hm=>h m (by simp[hm])) (by simp;omega)];simp
theorem Jc(F:Nat)(s:ae)(h:∀n,n∈s.numbers->jH n)(hl:s.numbers.length<=300000):
  ∃out,za F s=some out/\out.length<=900001/\∀x,x∈out<->x=0\/∃n,n∈s.numbers/\x∈qk n:=by
 have hlen:∀ns:List Int,(ns.flatMap qk).length<=3*ns.length:=by
  intro ns
  induction ns with
  |nil=>simp
  |cons n r ih=>
   grind [qk]
 have h1:=hlen s.numbers;obtain⟨w,hw⟩:∃w,w=[0]++s.numbers.flatMap qk:=⟨_,rfl⟩;have hwl:w.length<=900001:=by rw[hw,bf9,List.length_singleton];omega
 have hs:(uL w).length=w.length:=List.length_mergeSort _;have hc:=wr (uL w);refine⟨BI (uL w),?_,by omega,fun x=>?_⟩
 ·unfold za;rw[aF,tj F _ _ _ h (by simp;omega),<-hw];unfold Oi IS
  grind
 simp_all[F9,uL]
end Go.Proofs.YtelmfadihfcgnaaGreatDoor
