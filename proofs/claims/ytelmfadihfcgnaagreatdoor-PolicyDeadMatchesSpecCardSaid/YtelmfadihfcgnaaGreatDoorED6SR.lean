/- Part of the proof: D6RI, D6RJ, D6RK, D6PG, D6PH, D6PI, D6SP, D6SR. -/
import Derived.Test.YtelmfadihfcgnaaGreatDoorED6RH
import Derived.Test.YtelmfadihfcgnaaGreatDoorED6QF
import Derived.Test.YtelmfadihfcgnaaGreatDoorED6PB
import Derived.Test.YtelmfadihfcgnaaGreatDoorED6RA
set_option linter.unusedSimpArgs false
set_option linter.unusedVariables false
namespace Go.Proofs.YtelmfadihfcgnaaGreatDoor
open Go Go.Pv
set_option maxRecDepth 100000
def kv:Option Bool->Int
 |none=>2
 |some true=>1
 |some false=>0
structure N8(ns:List bb)(S:List Bool)(I:List Fd)(s:bb->Option Fd):Prop where
 l1:S.length=ns.length
 l2:I.length=ns.length
 at_:∀(i:Nat) (h:i<ns.length),s ns[i]=if S[i]'(by omega)=true then some (I[i]'(by omega)) else none
theorem xa(F:Nat)(b:Bool):CV F b=some (kv (some b)):=by cases b<;>rfl
theorem BR(tt:aG)(ns:List bb)(cans:List (List Fd))(S:List Bool)(I:List Fd)(s:bb->Option Fd)(hs:pv ns)(hlen:ns.length<=1000)(h:N8 ns S I s):
  ∀t:Tr,t.ok->t.gd->∀F,t.fu+2000<=F->(∀l,l∈t.lvs->l.nm∈ns)->uf F ⟨tt,ns,cans,S,I⟩ t.toT=some (kv (t.tr3 s)):=Tr.ind fun k nm tx op n ks ih ok hz F hF hm=>by
 rw[Tr.fu] at hF;have hfl:=(gZ hz).2;obtain⟨F,rfl⟩:∃G,F=G+1:=⟨F - 1,by omega⟩
 show tF (uf F) F ⟨tt,ns,cans,S,I⟩ (Tr.mk k nm tx op n ks).toT=_
 have hkk:=Bl hz;have hkids:=(Tr.okks ok).2
 have hm':¬(2<=k/\k<=5)->∀t,t∈ks->∀l,l∈t.lvs->l.nm∈ns:=fun hk t ht l hl=>hm l (by
  rw[Tr.lvs];by_cases h1:k=1
  ·rw[Fz hz h1] at ht;simp at ht
  ·rw[if_neg h1,if_pos (by omega)];exact iz.2 ⟨t,ht,hl⟩)
 have hkid:¬(2<=k/\k<=5)->∀t,t∈ks->uf F ⟨tt,ns,cans,S,I⟩ t.toT=some (kv (t.tr3 s)):=fun hk t ht=>ih t ht (Tr.oks_mem (Tr.okks ok).1 ht) (mU hfl ht) F (by have:=Tr.fu_mem ht;omega) (hm' hk t ht)
 have hall:¬(2<=k/\k<=5)->∀(m j:Nat),j+m=ks.length->∀A:Option Bool,A≠some false->eG (uf F) F ⟨tt,ns,cans,S,I⟩ (Tr.mk k nm tx op n ks).toT 0 (fun n20=>some n20) m (j:Int) (kv A)=some (kv (Av A (Tr.all3 s (ks.drop j)))):=by
  intro hk m
  induction m with
  |zero=>
   intro j hj A hA;rw[eG,al9 (by omega),Tr.all3];cases A with
   |none=>rfl
   |some b=>cases b<;>rfl
  |succ m ihm=>
   intro j hj A hA;have hn:j<ks.length:=by omega
   have hix:cq (Tr.mk k nm tx op n ks).toT.Kids (j:Int)=some ks[j].toK:=fH hn;rw[eG,hix,bv9,Tr.dec,bv9,hkid hk _ (ba9 _),bv9,bq8 hn,Tr.all3,aA];have hr:=fun B hB=>ihm (j+1) (by omega) B hB;rw[show((j+1:Nat):Int)=(j:Int)+1 from rfl] at hr;cases ks[j].tr3 s with
   |none=>
    show eG _ _ _ _ _ _ _ _ 2=_
    rw[show(2:Int)=kv none from rfl,hr none (by simp)];cases A with
    |none=>cases Tr.all3 s (ks.drop (j+1)) with
     |none=>rfl
     |some b=>cases b<;>rfl
    |some a=>cases a with
     |false=>exact absurd rfl hA
     |true=>rfl
   |some b=>
    cases b with
    |false=>
     cases A with
     |none=>rfl
     |some a=>cases a with
      |false=>exact absurd rfl hA
      |true=>rfl
    |true=>exact hr A hA
 have hany:¬(2<=k/\k<=5)->∀(m j:Nat),j+m=ks.length->∀A:Option Bool,A≠some true->eG (uf F) F ⟨tt,ns,cans,S,I⟩ (Tr.mk k nm tx op n ks).toT 1 (fun n20=>some n20) m (j:Int) (kv A)=some (kv (MZ A (Tr.any3 s (ks.drop j)))):=by
  intro hk m
  induction m with
  |zero=>
   intro j hj A hA;rw[eG,al9 (by omega),Tr.any3];cases A with
   |none=>rfl
   |some b=>cases b<;>rfl
  |succ m ihm=>
   intro j hj A hA;have hn:j<ks.length:=by omega
   have hix:cq (Tr.mk k nm tx op n ks).toT.Kids (j:Int)=some ks[j].toK:=fH hn;rw[eG,hix,bv9,Tr.dec,bv9,hkid hk _ (ba9 _),bv9,bq8 hn,Tr.any3,aA];have hr:=fun B hB=>ihm (j+1) (by omega) B hB;rw[show((j+1:Nat):Int)=(j:Int)+1 from rfl] at hr;cases ks[j].tr3 s with
   |none=>
    show eG _ _ _ _ _ _ _ _ 2=_
    rw[show(2:Int)=kv none from rfl,hr none (by simp)];cases A with
    |none=>cases Tr.any3 s (ks.drop (j+1)) with
     |none=>rfl
     |some b=>cases b<;>rfl
    |some a=>cases a with
     |true=>exact absurd rfl hA
     |false=>rfl
   |some b=>
    cases b with
    |true=>
     cases A with
     |none=>rfl
     |some a=>cases a with
      |true=>exact absurd rfl hA
      |false=>rfl
    |false=>exact hr A hA
 have hleaf:(2<=k/\k<=5)->((zb F ns nm).bind fun y37=>(cq S (y37.1)).bind fun x39=>if (!x39)=true then some 2
 else (cq I (y37.1)).bind fun x42=>(CZ F (Tr.mk k nm tx op n ks).toT x42).bind fun y44=>(CV F y44).bind fun y46=>some y46)=some (kv ((s nm).map (nM k op n tx))):=by
  intro hk;have hnm:nm∈ns:=hm ⟨k,nm,tx,op,n⟩ (by rw[Tr.lvs,if_neg (by omega),if_neg (by omega)];simp);obtain⟨p,hp,e,_,_,h3⟩:=xd F ns nm (by omega) hs (by omega);obtain⟨hpl,hpe⟩:=bb9.1 (h3 hnm);have hat:=h.at_ p hpl;rw[hpe] at hat;have hS:p<S.length:=by rw[h.l1];exact hpl
  have hI:p<I.length:=by rw[h.l2];exact hpl
  rw[e,bv9];dsimp only;rw[bt hS,bv9,hat];cases hb:S[p] with
  |false=>rfl
  |true=>
   have htx:tx.length<=9223372036854775807:=(Tr.okX ok).2.2.1;rw[if_neg (by simp),bt hI,bv9,Jj F _ _ htx (show tx.length<F by omega),bv9,xa,bv9,if_pos rfl];rfl
 unfold tF;simp only[aA];have hK:(Tr.mk k nm tx op n ks).toT.Kind=k:=rfl;have hKl:(Tr.mk k nm tx op n ks).toT.Kids.length=ks.length:=Tr.toKs_len ks;rw[hK,hKl,Tr.tr3];have hk':k=1\/(2<=k/\k<=5)\/k=6\/k=7\/k=8:=by omega
 rcases hk' with e|e|e|e|e
 ·subst e;rfl
 ·have f1:¬((k==1)=true):=by rw[beq_iff_eq];omega
  have f6:¬((k==6)=true):=by rw[beq_iff_eq];omega
  have f7:¬((k==7)=true):=by rw[beq_iff_eq];omega
  have f8:¬((k==8)=true):=by rw[beq_iff_eq];omega
  rw[if_neg f1,if_neg f6,if_neg f7,if_neg f8,if_neg (by omega),if_neg (by omega),if_neg (by omega),if_neg (by omega)];exact hleaf e
 ·subst e;have hk:¬(2<=(6:Int)/\(6:Int)<=5):=by omega
  rw[if_neg (by decide),if_pos (by decide),if_neg (by decide),if_pos rfl];have h1:ks.length=1:=K2 hz rfl;obtain⟨t,rfl⟩:=List.length_eq_one_iff.1 h1;have hix:cq (Tr.mk 6 nm tx op n [t]).toT.Kids 0=some (t.toK):=fH (ks:=[t]) (n:=0) (by simp);rw[hix,bv9,Tr.dec,bv9,hkid hk t (by simp),bv9,Tr.all3,Tr.all3];cases t.tr3 s with
  |none=>rfl
  |some b=>cases b<;>rfl
 ·subst e;have hk:¬(2<=(7:Int)/\(7:Int)<=5):=by omega
  have:=hall hk ks.length 0 (by omega) (some true) (by simp);rw[bp9] at this;rw[if_neg (by decide),if_neg (by decide),if_pos (by decide),if_pos (by decide),if_neg (by decide),if_neg (by decide),if_pos rfl,xa,bv9,if_pos (by omega),show(((ks.length:Nat):Int)).toNat=ks.length by omega];exact this
 ·subst e;have hk:¬(2<=(8:Int)/\(8:Int)<=5):=by omega
  have:=hany hk ks.length 0 (by omega) (some false) (by simp);rw[bp9] at this;rw[if_neg (by decide),if_neg (by decide),if_neg (by decide),if_pos (by decide),if_neg (by decide),if_neg (by decide),if_neg (by decide),if_pos rfl,xa,bv9,if_pos (by omega),show(((ks.length:Nat):Int)).toNat=ks.length by omega];exact this
theorem tE(F:Nat)(tt:aG)(ns:List bb)(cans:List (List Fd))(S:List Bool)(I:List Fd)(h1:S.length=ns.length)(h2:I.length=ns.length)(k:Int->Int->Option Bool):∀(m j:Nat),j+m=ns.length->∀a b:Nat,a+m<=1000->b+m<=1000->
  ∃a' b':Nat,jc F ⟨tt,ns,cans,S,I⟩ k m (j:Int) (a:Int) (b:Int)=k (a':Int) (b':Int)/\a'<=a+m/\b'<=b+m
 |0,j,hj,a,b,_,_=>⟨a,b,by rw[jc],by omega,by omega⟩
 |m+1,j,hj,a,b,ha,hb=>by
  have hS:j<S.length:=by omega
  have hI:j<I.length:=by omega
  have wa:bh ((a:Int)+1)=((a+1:Nat):Int):=by rw[cc (by omega) (by omega)];rfl
  have wb:bh ((b:Int)+1)=((b+1:Nat):Int):=by rw[cc (by omega) (by omega)];rfl
  have ih:=fun a b ha hb=>tE F tt ns cans S I h1 h2 k m (j+1) (by omega) a b ha hb;rw[show((j+1:Nat):Int)=(j:Int)+1 from rfl] at ih;rw[jc];simp only[bt hS,bt hI,bv9,aA,wa,wb];split
  ·split
   ·split
    ·obtain⟨x,y,e,p,q⟩:=ih (a+1) (b+1) (by omega) (by omega);exact⟨x,y,e,by omega,by omega⟩
    ·obtain⟨x,y,e,p,q⟩:=ih (a+1) b (by omega) (by omega);exact⟨x,y,e,by omega,by omega⟩
   ·split
    ·obtain⟨x,y,e,p,q⟩:=ih a (b+1) (by omega) (by omega);exact⟨x,y,e,by omega,by omega⟩
    ·obtain⟨x,y,e,p,q⟩:=ih a b (by omega) (by omega);exact⟨x,y,e,by omega,by omega⟩
  ·obtain⟨x,y,e,p,q⟩:=ih a b (by omega) (by omega);exact⟨x,y,e,by omega,by omega⟩
theorem xc(F:Nat)(tt:aG)(ns:List bb)(cans:List (List Fd))(S:List Bool)(I:List Fd)(h1:S.length=ns.length)(h2:I.length=ns.length)(hlen:ns.length<=30):GW F ⟨tt,ns,cans,S,I⟩=some true:=by
 unfold GW;rw[aA];dsimp only;rw[if_pos (by omega),show(((ns.length:Nat):Int)).toNat=ns.length by omega];obtain⟨x,y,e,p,q⟩:=tE F tt ns cans S I h1 h2 (fun(n3:Int) (n4:Int)=>if (decide (n3<=30))=true then some (decide (n4<=30)) else some false) ns.length 0 (by omega) 0 0 (by omega) (by omega);rw[show((0:Nat):Int)=0 from rfl] at e;rw[e,if_pos (decide_eq_true (by omega)),decide_eq_true (by omega)]
theorem N8.set{ns:List bb}{S:List Bool}{I:List Fd}{s:bb->Option Fd}(h:N8 ns S I s)(hn:ns.Nodup){j:Nat}(hj:j<ns.length)(x:Fd):N8 ns (S.set j true) (I.set j x) (qu s ns[j] x):=by
 refine⟨by rw[am8];exact h.l1,by rw[am8];exact h.l2,fun i hi=>?_⟩;unfold qu;rw[List.getElem_set,List.getElem_set];by_cases e:j=i
 ·subst e;simp
 ·rw[if_neg (show ¬ns[i]=ns[j] from fun h=>e ((List.getElem_inj hn).1 h).symm),if_neg e,if_neg e];exact h.at_ i hi
section
variable(t:Tr)(ok:t.ok)(hz:t.gd)(ns:List bb)(hs:pv ns)(hlen:ns.length<=17)(hm:∀l,l∈t.lvs->l.nm∈ns)(can:bb->List Fd)(hcan:∀n,(can n).length<=100000000000)
noncomputable abbrev Mw(F:Nat)(t:Tr)(ns:List bb)(can:bb->List Fd)(j:Int)(S:List Bool)(I:List Fd):Option (Bool×(List Bool)×(List Fd)):=Ax F j t.toT.Kind t.toT.Name t.toT.Texts t.toT.Op t.toT.N t.toT.Kids ns (ns.map can) S I
include ok hz hs hlen hm hcan
theorem LO:∀(m j:Nat),j+m=ns.length->∀F,t.fu+200000000000+m<=F->∀(S:List Bool) (I:List Fd) (s:bb->Option Fd),N8 ns S I s->(∀i (h:i<S.length),j<=i->S[i]=false)->(∀i (h:i<I.length),j<=i->I[i]=fz)->(∀i (h:i<S.length),i<j->S[i]=true)->
  match qz? (fun s=>t.tr3 s) can (ns.drop j) s with
  |none=>Mw F t ns can (j:Int) S I=some (false,S,I)
  |some s'=>∃S' I',Mw F t ns can (j:Int) S I=some (true,S',I')/\S'.length=ns.length/\I'.length=ns.length:=by
 intro m
 induction m with
 |zero=>
  intro j hj F hF S I s h hS hI hS2;obtain⟨F,rfl⟩:∃G,F=G+1:=⟨F - 1,by omega⟩;have hk:=BR t.toT ns (ns.map can) S I s hs (by omega) h t ok hz F (by omega) hm
  have hfull:∃b,t.tr3 s=some b:=by
   refine⟨_,lv (a:=fun n=>(s n).getD fz) t fun l hl=>?_⟩;obtain⟨i,hi,e⟩:=bf8 (hm l hl);have h1:=h.at_ i hi;rw[hS2 i (by rw[h.l1];exact hi) (by omega),if_pos rfl,e] at h1;rw[h1];rfl
  obtain⟨b,hb⟩:=hfull;rw[hb] at hk;have e:Mw (F+1) t ns can (j:Int) S I=nC (Ax F) F (j:Int) t.toT.Kind t.toT.Name t.toT.Texts t.toT.Op t.toT.N t.toT.Kids ns (ns.map can) S I:=rfl;rw[al9 (by omega),qz?];cases b with
  |false=>
   rw[if_neg (by rw[hb];simp)];dsimp only;rw[e,nC,hk,bv9,if_pos (by rfl)]
  |true=>
   rw[if_pos hb];dsimp only;refine⟨S,I,?_,h.l1,h.l2⟩;rw[e,nC,hk,bv9,if_neg (by decide),xc F t.toT ns (ns.map can) S I h.l1 h.l2 (by omega),bv9,if_neg (by simp),if_pos (by rfl)]
 |succ m ih=>
  intro j hj F hF S I s h hS hI hS2;obtain⟨F,rfl⟩:∃G,F=G+1:=⟨F - 1,by omega⟩;have hn:j<ns.length:=by omega
  have hk:=BR t.toT ns (ns.map can) S I s hs (by omega) h t ok hz F (by omega) hm;have e:Mw (F+1) t ns can (j:Int) S I=nC (Ax F) F (j:Int) t.toT.Kind t.toT.Name t.toT.Texts t.toT.Op t.toT.N t.toT.Kids ns (ns.map can) S I:=rfl;rw[bq8 hn,qz?];cases hb:t.tr3 s with
  |some b=>
   rw[hb] at hk;cases b with
   |false=>
    dsimp only;rw[e,nC,hk,bv9,if_pos (by rfl)]
   |true=>
    dsimp only;refine⟨S,I,?_,h.l1,h.l2⟩;rw[e,nC,hk,bv9,if_neg (by decide),xc F t.toT ns (ns.map can) S I h.l1 h.l2 (by omega),bv9,if_neg (by simp),if_pos (by rfl)]
  |none=>
   rw[hb] at hk;dsimp only;have hSj:j<S.length:=by rw[h.l1];exact hn
   have hIj:j<I.length:=by rw[h.l2];exact hn
   have hnd:ns.Nodup:=hs.imp u4;obtain⟨F',hF'⟩:∃G,F=G+1:=⟨F - 1,by omega⟩
   have hL1:∀k64,oc F S k64 F (j:Int)=k64 (j:Int):=fun k64=>by
    rw[hF',oc,bt hSj,bv9,hS j hSj (ae8 _),if_neg (by simp)]
   have ecan:cq (ns.map can) (j:Int)=some (can ns[j]):=by rw[bt (by simpa using hn)];simp
   -- the rounds over the values
   have hloop:∀(k73:List Bool->List Fd->Option (Bool×(List Bool)×(List Fd))) (d i:Nat),i+d=(can ns[j]).length->∀fuel,d<fuel->∀z:Fd,
     match ((can ns[j]).drop i).findSome? (fun x=>qz? (fun s=>t.tr3 s) can (ns.drop (j+1)) (qu s ns[j] x)) with
     |none=>∃z',gP (Ax F) F t.toT.Kind t.toT.Name t.toT.Texts t.toT.Op t.toT.N t.toT.Kids ns (ns.map can) (j:Int) k73 fuel (i:Int) (S.set j true) (I.set j z)=k73 (S.set j true) (I.set j z')
     |some s'=>∃S' I',gP (Ax F) F t.toT.Kind t.toT.Name t.toT.Texts t.toT.Op t.toT.N t.toT.Kids ns (ns.map can) (j:Int) k73 fuel (i:Int) (S.set j true) (I.set j z)=some (true,S',I')/\S'.length=ns.length/\I'.length=ns.length:=by
    intro k73 d
    induction d with
    |zero=>
     intro i hi fuel hf z;obtain⟨fuel,rfl⟩:∃g,fuel=g+1:=⟨fuel - 1,by omega⟩;rw[show(can ns[j]).drop i=[] from al9 (by omega),List.findSome?_nil];dsimp only;refine⟨z,?_⟩;rw[gP,ecan,bv9,if_neg (by simp;omega)]
    |succ d ihd=>
     intro i hi fuel hf z;obtain⟨fuel,rfl⟩:∃g,fuel=g+1:=⟨fuel - 1,by omega⟩;have hic:i<(can ns[j]).length:=by omega
     have hcl:=hcan ns[j];have w1:bh ((j:Int)+1)=((j+1:Nat):Int):=by rw[cc (by omega) (by omega)];rfl
     have w2:bh ((i:Int)+1)=((i+1:Nat):Int):=by rw[cc (by omega) (by omega)];rfl
     have hrec:=ih (j+1) (by omega) F (by omega) (S.set j true) (I.set j (can ns[j])[i]) (qu s ns[j] (can ns[j])[i]) (h.set hnd hn _) (fun q hq hle=>by
      rw[am8] at hq;rw[List.getElem_set,if_neg (by omega)];exact hS q hq (by omega)) (fun q hq hle=>by
      rw[am8] at hq;rw[List.getElem_set,if_neg (by omega)];exact hI q hq (by omega)) (fun q hq hle=>by
      rw[am8] at hq;rw[List.getElem_set];by_cases e:j=q
      ·rw[if_pos e]
      ·rw[if_neg e];exact hS2 q hq (by omega))
     rw[bq8 hic,List.findSome?_cons]
     have hstep:gP (Ax F) F t.toT.Kind t.toT.Name t.toT.Texts t.toT.Op t.toT.N t.toT.Kids ns (ns.map can) (j:Int) k73 (fuel+1) (i:Int) (S.set j true) (I.set j z)=(Mw F t ns can ((j+1:Nat):Int) (S.set j true) (I.set j (can ns[j])[i])).bind fun y91=>if (y91.2.2).length=(I.set j z).length then if (y91.1)=true then some (true,(y91.2.1),(y91.2.2))
      else gP (Ax F) F t.toT.Kind t.toT.Name t.toT.Texts t.toT.Op t.toT.N t.toT.Kids ns (ns.map can) (j:Int) k73 fuel ((i+1:Nat):Int) (y91.2.1) (y91.2.2) else none:=by
      rw[gP,ecan,bv9,if_pos (decide_eq_true (by omega)),bv9,bt hic,bv9,bt (show j<(I.set j z).length by rw[am8];exact hIj),bv9,w1,w2,show((j:Int)).toNat=j from rfl,List.set_set]
     rw[hstep];cases hfd:qz? (fun s=>t.tr3 s) can (ns.drop (j+1)) (qu s ns[j] (can ns[j])[i]) with
     |some s'=>
      rw[hfd] at hrec;dsimp only at hrec ⊢;obtain⟨S',I',e1,e2,e3⟩:=hrec;rw[e1,bv9];dsimp only;rw[if_pos (by rw[am8,e3,h.l2]),if_pos rfl];exact⟨S',I',Y,e2,e3⟩
     |none=>
      rw[hfd] at hrec;dsimp only at hrec ⊢;rw[hrec,bv9];dsimp only;rw[if_pos (by rw[am8,am8]),if_neg (by simp)];exact ihd (i+1) (by omega) fuel (by omega) _
   have hcl:=hcan ns[j];have:=hloop (fun l74 l75=>(cq l74 (j:Int)).bind fun x95=>(cq l75 (j:Int)).bind fun x97=>some (false,(l74.set ((j:Int)).toNat false),(l75.set ((j:Int)).toNat (ab.mk false false ([]:B8) 0)))) (can ns[j]).length 0 (by omega) F (by omega) I[j];rw[bp9,List.set_getElem_self,show((0:Nat):Int)=0 from rfl] at this
   have hB:Mw (F+1) t ns can (j:Int) S I=gP (Ax F) F t.toT.Kind t.toT.Name t.toT.Texts t.toT.Op t.toT.N t.toT.Kids ns (ns.map can) (j:Int) (fun l74 l75=>(cq l74 (j:Int)).bind fun x95=>(cq l75 (j:Int)).bind fun x97=>some (false,(l74.set ((j:Int)).toNat false),(l75.set ((j:Int)).toNat (ab.mk false false ([]:B8) 0)))) F 0 (S.set j true) I:=by
    rw[e,nC,hk,bv9,if_neg (by decide),xc F t.toT ns (ns.map can) S I h.l1 h.l2 (by omega),bv9,if_neg (by simp),if_neg (by decide),aA,hL1,bt hSj,bv9,aA];rfl
   cases hfd:(can ns[j]).findSome? (fun x=>qz? (fun s=>t.tr3 s) can (ns.drop (j+1)) (qu s ns[j] x)) with
   |some s'=>
    rw[hfd] at this;dsimp only at this ⊢;rw[hB];exact this
   |none=>
    rw[hfd] at this;dsimp only at this ⊢;obtain⟨z',hz'⟩:=this;rw[hB,hz',bt (show j<(S.set j true).length by rw[am8];exact hSj),bv9,bt (show j<(I.set j z').length by rw[am8];exact hIj),bv9,show((j:Int)).toNat=j from rfl,List.set_set,List.set_set]
    have q1:S.set j false=S:=by
     have:=hS j hSj (ae8 _);rw[<-this];exact List.set_getElem_self hSj
    have q2:I.set j (ab.mk false false ([]:B8) 0)=I:=by
     have:=hI j hIj (ae8 _);rw[show(ab.mk false false ([]:B8) 0)=I[j] from this.symm];exact List.set_getElem_self hIj
    rw[q1,q2]
end
noncomputable def s5(F:Nat)(t:Tr)(n:bb):List Fd:=(zc F ((qV t n).map Lf.row)).getD []
theorem BE{t:Tr}(hz:t.gd)(hc:t.cnt<=1500000){sm:List Lf}(hsm:Sm t.lvs sm){F:Nat}(hF:200000000<=F)(n:bb):zc F ((qV t n).map Lf.row)=some (s5 F t n)/\Fds (qV t n) (s5 F t n):=by
 obtain⟨cs,e,h⟩:=Jd F (qV t n) hF (fun l hl=>vZ t hz l (rz.1 hl).1) (by have:=rA t n;omega) (sm:=sm) ⟨fun l hl=>hsm.sub l (rz.1 hl).1,hsm.ok,hsm.ln⟩;unfold s5;rw[e];exact⟨Y,h⟩
theorem ve{t:Tr}(ok:t.ok)(hz:t.gd)(hc:t.cnt<=1500000){sm:List Lf}(hsm:Sm t.lvs sm){F:Nat}(hF:t.fu+200000000<=F)(k:List (List Fd)->Option ((List bb)×(List (List Fd))×(List Bool)×(List Fd))):∀(l:List bb) (acc:List (List Fd)),(∀n,n∈l->n≠[])->acc.length+l.length<=1000->
  mo F t.toT k l acc=k (acc++l.map (s5 F t))
 |[],acc,_,_=>by rw[mo];simp
 |n::l,acc,h,hl=>by
  simp only[bt8] at hl;rw[mo,Gt n (h n (by simp)) t ok hz hc F (by omega),bv9,(BE hz hc hsm (by omega) n).1,bv9,if_pos (by simp;omega),ve ok hz hc hsm hF k l _ (fun m hm=>h m (by simp[hm])) (by simp;omega)];simp
theorem LP{t:Tr}(ok:t.ok)(hz:t.gd)(hc:t.cnt<=1500000){sm:List Lf}(hsm:Sm t.lvs sm){F:Nat}(hF:t.fu+200000000<=F){ns:List bb}(e:GG F t.toT []=some ns)(hn:∀n,n∈ns->n≠[])(hlen:ns.length<=60):
  Og F t.toT=some (ns,ns.map (s5 F t),List.replicate ns.length false,List.replicate ns.length fz):=by
 unfold Og;rw[e,bv9,aA,ve ok hz hc hsm hF _ ns [] hn (by simp;omega),if_pos ⟨by omega,by omega,by omega⟩,if_pos ⟨by omega,by omega,by omega⟩];rfl
theorem Gr(F:Nat)(s:aD)(kind:bb)(h:s.is.length=s.names.length)(hlen:s.names.length<=1000):∃f,Oa F s kind=some f:=by
 unfold Oa;rw[aA,if_pos (by omega),show(((s.names.length:Nat):Int)).toNat=s.names.length by omega]
 have:∀(m j:Nat),j+m=s.names.length->∀(A:List cR) (B:List bO),A.length+m<=100000->B.length+m<=100000->∃f,mf F s (fun(l4:List cR) (l5:List bO)=>some (iI.mk kind ([]:B8) l4 l5)) m (j:Int) A B=some f:=by
  intro m
  induction m with
  |zero=>intro j hj A B _ _;exact⟨_,by rw[mf]⟩
  |succ m ih=>
   intro j hj A B hA hB;have hn:j<s.names.length:=by omega
   have hi:j<s.is.length:=by omega
   have ih':=fun A B hA hB=>ih (j+1) (by omega) A B hA hB;rw[show((j+1:Nat):Int)=(j:Int)+1 from rfl] at ih';rw[mf];simp only[bt hn,bt hi,bv9,aA];have p1:∀x:cR,(A++[x]).length*32<=140737488355328:=fun x=>by simp;omega
   have p2:∀x:bO,(B++[x]).length*24<=140737488355328:=fun x=>by simp;omega
   simp only[if_pos (p1 _),if_pos (p2 _)];split
   ·split
    ·exact ih' _ _ (by simp;omega) (by simp;omega)
    ·exact ih' _ _ (by simp;omega) (by omega)
   ·split
    ·exact ih' _ _ (by omega) (by simp;omega)
    ·exact ih' _ _ (by omega) (by omega)
 have:=this s.names.length 0 (by omega) [] [] (by simp;omega) (by simp;omega);exact this
theorem FB{t:Tr}{s:bb->Option Fd}(hok:∀n x,s n=some x->A0 x)(h:t.tr3 s=some true):Jp t.truA:=by
 refine⟨fun n=>(s n).getD fz,fun n=>?_,?_⟩
 ·dsimp only;cases hx:s n with
  |none=>exact xP
  |some x=>exact hok n x hx
 ·have h6:t.tr3 (fun n=>some ((s n).getD fz))=some true:=oz (fun n x hx=>by rw[hx];rfl) t true h;rw[lv (a:=fun n=>(s n).getD fz) t fun _ _=>rfl] at h6;exact ah8 h6
theorem L0(t:Tr)(ok:t.ok)(hz:t.gd)(hc:t.cnt<=1500000){sm:List Lf}(hsm:Sm t.lvs sm)(hg:∃ls,fQ ls/\wo ls=true/\∀l,l∈t.lvs->l∈ls)(kind:bb)(F:Nat)(hF:t.fu+300000000000<=F):∃f r,MG F t.toT kind=some (f,r)/\(r=true<->Jp t.truA):=by
 obtain⟨ns,e,h1,h2⟩:=GF t ok hz hc F (by omega)
 have hlen:ns.length<=17:=by
  obtain⟨ls,w1,w2,w3⟩:=hg;refine bs8 (fX (h1.imp u4) fun y hy=>?_) (yu w1 w2);obtain⟨l,hl,e⟩:=(h2 y).1 hy;exact(oJ w1).2 ⟨l,w3 l hl,e⟩
 have hm:∀l,l∈t.lvs->l.nm∈ns:=fun l hl=>(h2 l.nm).2 ⟨l,hl,rfl⟩;have hcan:=fun n=>BE (t:=t) hz hc hsm (F:=F) (by omega) n;have hnd:ns.Nodup:=h1.imp u4
 have hf:=LO t ok hz ns h1 hlen hm (s5 F t) (fun n=>(hcan n).2.ln) ns.length 0 (by omega) F (by omega) (List.replicate ns.length false) (List.replicate ns.length fz) (fun _=>none)
  ⟨by simp,by simp,fun i hi=>by simp⟩ (fun i hi _=>by simp) (fun i hi _=>by simp) (fun i hi h=>by omega)
 rw[bp9,show((0:Nat):Int)=0 from rfl] at hf;unfold MG
 rw[LP ok hz hc hsm (by omega) e (fun n hn=>by
  obtain⟨l,hl,e⟩:=(h2 n).1 hn;exact e ▸ sk (hsm.ok l (hsm.sub l hl)).nm) (by omega),bv9]
 dsimp only;cases h4:qz? (fun s=>t.tr3 s) (s5 F t) ns (fun _=>none) with
 |some s'=>
  rw[h4] at hf;dsimp only at hf;obtain⟨S',I',e1,e2,e3⟩:=hf;obtain⟨g1,g2,g3⟩:=pO ns _ s' hnd (fun _ _=>rfl) h4;have e1':Ax F 0 t.toT.Kind t.toT.Name t.toT.Texts t.toT.Op t.toT.N t.toT.Kids ns (ns.map (s5 F t)) (List.replicate ns.length false) (List.replicate ns.length fz)=some (true,S',I'):=e1;rw[e1',bv9,if_neg (by simp)];obtain⟨f,hf⟩:=Gr F ⟨t.toT,ns,ns.map (s5 F t),S',I'⟩ kind e3 (by show ns.length<=1000;omega);refine⟨f,true,by rw[hf];rfl,⟨fun _=>FB (fun n x hx=>?_) g1,fun _=>Y⟩⟩;rcases g3 n x hx with h|⟨h,h5⟩
  ·cases h
  ·exact(hcan n).2.ok x h5
 |none=>
  rw[h4] at hf;dsimp only at hf;have e1':Ax F 0 t.toT.Kind t.toT.Name t.toT.Texts t.toT.Op t.toT.N t.toT.Kids ns (ns.map (s5 F t)) (List.replicate ns.length false) (List.replicate ns.length fz)=some (false,List.replicate ns.length false,List.replicate ns.length fz):=hf;rw[e1',bv9,if_pos (by simp)];refine⟨_,false,rfl,⟨fun h=>(by cases h),fun⟨v,hv,ht⟩=>?_⟩⟩;have ht:t.truA v=true:=ht;exfalso;have hrep:∀n,∃c,c∈s5 F t n/\∀l,l∈qV t n->l.one c=l.one (v n):=fun n=>(hcan n).2.rep (v n) (hv n);refine sP (P:=fun s=>t.tr3 s) (fun s s' b he h=>oz he t b h) ns _ hnd (fun _ _=>Y) h4 (fun n=>(hrep n).choose) (fun n _=>(hrep n).choose_spec.1) ?_
  rw[lv (a:=fun n=>(hrep n).choose) t fun l hl=>by
   unfold nb;dsimp only;rw[if_pos (hm l hl)]]
  rw[nH t (b:=v) fun l hl=>(hrep l.nm).choose_spec.2 l (rz.2 ⟨hl,rfl⟩),ht]
open Classical in
noncomputable def xg(x:aG):Tr:=if h:∃t:Tr,x=t.toT/\t.ok then h.choose else .mk 0 [] [] 0 0 []
theorem rO{x:aG}(h:oI x):x=(xg x).toT/\(xg x).ok:=by
 have h':∃t:Tr,x=t.toT/\t.ok:=h;unfold xg;rw[dif_pos h'];exact h'.choose_spec
noncomputable def Dk(x:aG):Int:=vT (xg x)
theorem Ma{x:aG}(h:oI x){F:Nat}(hF:(xg x).fu<=F):MJ F x=some (Dk x):=by
 obtain⟨h1,h2⟩:=rO h;have:=Mb (xg x) h2 F hF
 rwa [<-h1] at this
theorem L3{x:aG}(h:oI x){F:Nat}(hF:(xg x).fu<=F):MH F x=some (Dk x):=by
 obtain⟨h1,h2⟩:=rO h;have:=L4 (xg x) h2 F hF
 rwa [<-h1] at this
noncomputable def oS(p:aW):Nat:=(p.Rules.map fun r=>(xg r.When).fu).sum+(p.Waivers.map fun w=>w.Subject.length+2).sum
theorem sw{α:Type}{g:α->Nat}:∀{l:List α} {x:α},x∈l->g x<=(l.map g).sum
 |y::l,x,h=>by
  rcases aq8.1 h with e|h
  ·subst e;simp
  ·have:=sw (g:=g) h;simp;omega
noncomputable def B4(seen:List B8):List ay->Int
 |[]=>0
 |r::l=>if cE r.Name=false then 8 else if (seen.any fun n=>n==r.Name)=true then 5 else if cE r.About=false then 8 else if Dk r.When=0 then (if (decide (r.Level<1)||decide (r.Level>4))=true then 7 else B4 (seen++[r.Name]) l) else Dk r.When
def xE(s:B8):Bool:=s.dropLast.any fun c=>c==42
def Jq(p:aW)(w:cB):Int:=
 if (p.Rules.any fun r=>r.Name==w.Rule)=false then 4 else if nE w.Subject=false then 2 else if xE w.Subject=true then 2
 else if (decide (w.From<0)||decide (w.From>w.To)||decide (w.To>1000000))=true then 9 else if cE w.Owner=false then 8 else if (decide (w.Level<1)||decide (w.Level>3))=true then 7 else 0
def vv(p:aW):List cB->Int
 |[]=>0
 |w::l=>if Jq p w=0 then vv p l else Jq p w
noncomputable def vP(p:aW):Int:=if 100<p.Rules.length then 3 else if 200<p.Waivers.length then 3 else if B4 [] p.Rules=0 then vv p p.Waivers else B4 [] p.Rules
theorem BO(F:Nat)(l:List ay)(nm:B8):∃y,CW F l nm=some y/\(decide (y>=0)=l.any fun r=>r.Name==nm)/\(decide (y<0) = !l.any fun r=>r.Name==nm):=by
 unfold CW;have h:=Ct (g:=kJ F nm (some (-1))) (fun r=>r.Name==nm) (fun _=>rfl) (fun x l n=>by rw[kJ]) l 0;rw[show((0:Nat):Int)=0 from rfl] at h;rw[aA,h];cases ha:l.any fun r=>r.Name==nm
 ·exact⟨_,Y,Y,Y⟩
 ·refine⟨_,if_pos Y,?_,?_⟩
  ·exact decide_eq_true (by omega)
  ·exact decide_eq_false (by omega)
theorem IV(F:Nat)(l:List ay)(a:B8)(b:B8)(c d:Int)(e:B8)(g:Int):GR F l a b c d e g=some (l.any fun r=>r.Name==a):=by
 unfold GR IU;have h:=Ct (g:=kK F a b c d e g (some (-1))) (fun r:ay=>r.Name==a) (fun _=>rfl) (fun x l n=>by rw[kK];rfl) l 0;rw[show((0:Nat):Int)=0 from rfl] at h;rw[aA,h];exact BJ
theorem ixb:∀s:B8,(Lib.indexByte s 42 = -1/\(s.any fun c=>c==42)=false)\/(0<=Lib.indexByte s 42/\(s.any fun c=>c==42)=true)
 |[]=>Or.inl ⟨rfl,rfl⟩
 |c::s=>by
  rw[Lib.indexByte,cb8];cases hc:c==42
  ·simp only[ch8,if_false,cc8];rcases ixb s with h|h
   ·rw[h.1];exact Or.inl ⟨Y,h.2⟩
   ·right
    rw[beq_false_of_ne (show Lib.indexByte s 42 ≠ -1 by omega)];exact⟨by simp;omega,h.2⟩
  ·right;simp
theorem AR:∀s:B8,(decide (0<=Lib.indexByte s 42)&&decide (Lib.indexByte s 42<(s.length:Int) - 1))=xE s
 |[]=>rfl
 |[c]=>by
  unfold xE;simp only[List.dropLast_singleton,List.any_nil,List.length_singleton];by_cases h:0<=Lib.indexByte [c] 42
  ·rw[decide_eq_false (show ¬Lib.indexByte [c] 42<((1:Nat):Int) - 1 by omega),Bool.and_false]
  ·rw[decide_eq_false h,ce8]
 |c::d::s=>by
  have ih:=AR (d::s);unfold xE at ih ⊢;rw[List.dropLast_cons_cons,cb8,<-ih,Lib.indexByte];cases hc:c==42
  ·simp only[ch8,if_false,cc8];rcases ixb (d::s) with h|h
   ·rw[h.1];rfl
   ·rw[beq_false_of_ne (show Lib.indexByte (d::s) 42 ≠ -1 by omega)];simp only[ch8,if_false];rw[decide_eq_true h.1,decide_eq_true (show 0<=Lib.indexByte (d::s) 42+1 by omega)]
    congr 1
    exact decide_eq_decide.2 (by simp only[bt8];omega)
  ·rw[if_pos rfl,decide_eq_true (by simp),decide_eq_true (by simp only[bt8];omega)];rfl
theorem Ji(F:Nat)(p:aW)(w:cB)(hw:jG w):GZ F p w=some (Jq p w):=by
 have h1:uC w.Subject:=hw.2.1;have h2:uC w.Owner:=hw.2.2.2.2.1;unfold GZ Jq;rw[IW,bv9,IV,bv9,aA,BS F _ h1,w6 F _ h2];have hs:=AR w.Subject;unfold uC at h1;rw[show(42:Int).toNat.toUInt8=42 from rfl,cc (by omega) (by omega)];rw[<-hs];simp only[bv9,ge_iff_le];generalize decide (Lib.indexByte w.Subject 42<(w.Subject.length:Int) - 1)=b1;generalize decide (0<=Lib.indexByte w.Subject 42)=b2;generalize (p.Rules.any fun r=>r.Name==w.Rule)=b3;generalize nE w.Subject=b4;generalize decide (w.From<0)=b5;generalize decide (w.From>w.To)=b6;generalize decide (w.To>1000000)=b7;generalize cE w.Owner=b8;generalize decide (w.Level<1)=b9;generalize decide (w.Level>3)=b10;cases b3<;>cases b4
 all_goals try rfl
 cases b2<;>cases b1<;>cases b5<;>cases b6<;>cases b7<;>cases b8<;>cases b9<;>cases b10<;>rfl
theorem tH(F:Nat)(w:cB)(k:Option Int)(hl:w.Subject.length<=140737488351232):∀(fuel j:Nat),w.Subject.length<fuel+j->j<=w.Subject.length->kO F w k fuel (j:Int)=if ((w.Subject.drop j).dropLast.any fun c=>c==42)=true then some 2 else k
 |0,j,h1,h2=>by omega
 |fuel+1,j,h1,h2=>by
  rw[kO,cc (by omega) (by omega)];by_cases hj:j+1<w.Subject.length
  ·rw[if_pos (decide_eq_true (by omega)),bt (by omega),bv9,show((j:Int)+1)=((j+1:Nat):Int) from rfl,tH F w k hl fuel (j+1) (by omega) (by omega),bq8 (show j<w.Subject.length by omega),bq8 hj,List.dropLast_cons_cons,cb8]
   have:(((w.Subject[j]'(by omega)).toNat:Int)==42)=(w.Subject[j]'(by omega)==42):=by
    by_cases h:w.Subject[j]'(by omega)=42
    ·rw[h];rfl
    ·have:((w.Subject[j]'(by omega)).toNat:Int)≠42:=fun e=>h (UInt8.toNat_inj.1 (by show _=42;omega));rw[beq_false_of_ne h,beq_false_of_ne this]
   rw[this];cases (w.Subject[j]'(by omega)==42)<;>simp
  ·rw[if_neg (by simp;omega)]
   have:((w.Subject.drop j).dropLast)=[]:=by
    apply List.eq_nil_of_length_eq_zero;rw[List.length_dropLast,am9];omega
   rw[this];rfl
theorem Jg(F:Nat)(p:aW)(w:cB)(hw:jG w)(hF:w.Subject.length<F):GX F p w=some (Jq p w):=by
 have h1:uC w.Subject:=hw.2.1;have h2:uC w.Owner:=hw.2.2.2.2.1;obtain⟨y,e1,e2,e3⟩:=BO F p.Rules w.Rule;unfold GX Jq;rw[e1,bv9,e3,aA,Gz F _ h1,w4 F _ h2,pZ,pZ];have hl:=fun k=>tH F w k h1 F 0 (by omega) (by omega);simp only[show((0:Nat):Int)=0 from rfl,bp9] at hl;rw[hl];unfold xE;simp only[bv9];generalize (w.Subject.dropLast.any fun c=>c==42)=b1;generalize (p.Rules.any fun r=>r.Name==w.Rule)=b3;generalize nE w.Subject=b4;generalize decide (w.From<0)=b5;generalize decide (w.From>w.To)=b6;generalize decide (w.To>1000000)=b7;generalize cE w.Owner=b8;generalize decide (w.Level<1)=b9;generalize decide (w.Level>3)=b10;cases b3<;>cases b4
 all_goals try rfl
 cases b1<;>cases b5<;>cases b6<;>cases b7<;>cases b8<;>cases b9<;>cases b10<;>rfl
theorem vk(F:Nat)(p:aW)(hp:cY p):∀l:List cB,(∀w,w∈l->w∈p.Waivers)->og F p (some 0) l=some (vv p l)
 |[],_=>rfl
 |w::l,h=>by
  rw[og,Ji F p w (hp.2.1.1 w (h w (by simp))),bv9,vk F p hp l fun u hu=>h u (by simp[hu]),vv];by_cases h0:Jq p w=0<;>simp[h0]
theorem vf(F:Nat)(p:aW)(hp:cY p)(hF:oS p<=F):∀m n:Nat,n+m=p.Waivers.length->mw F p (some 0) m (n:Int)=some (vv p (p.Waivers.drop n))
 |0,n,h=>by rw[mw,al9 (by omega),vv]
 |m+1,n,h=>by
  have hn:n<p.Waivers.length:=by omega
  have hm:p.Waivers[n]∈p.Waivers:=ba9 _;rw[mw,bt hn,bv9,Jg F p _ (hp.2.1.1 _ hm) (by have:=sw (g:=fun w:cB=>w.Subject.length+2) hm;unfold oS at hF;omega),bv9,show((n:Int)+1)=((n+1:Nat):Int) from rfl,vf F p hp hF m (n+1) (by omega),bq8 hn,vv];by_cases h0:Jq p p.Waivers[n]=0<;>simp[h0]
theorem vl(F:Nat)(p:aW)(hp:cY p)(hF:oS p<=F)(k:Option Int):∀(l:List ay),(∀r,r∈l->r∈p.Rules)->∀(m:List (B8×Bool)) (seen:List B8),(∀nm,(aY m nm).getD false=seen.any fun n=>n==nm)->mB F k l m=if B4 seen l=0 then k else some (B4 seen l)
 |[],_,m,seen,_=>by simp[mB,B4]
 |r::l,h,m,seen,hm=>by
  have hr:=h r (by simp);have hok:=hp.1.1 r hr
  rw[mB,w6 F _ hok.1,bv9,hm,w6 F _ hok.2.1,Ma hok.2.2.1 (by have:=sw (g:=fun r:ay=>(xg r.When).fu) hr;unfold oS at hF;omega),bv9,bv9,
   vl F p hp hF k l (fun u hu=>h u (by simp[hu])) (co m r.Name true) (seen++[r.Name]) (fun nm=>by
    rw[dl,List.any_append,<-hm];by_cases e:r.Name=nm
    ·rw[if_pos e];simp[e]
    ·rw[if_neg e];simp[e]),B4]
  cases cE r.Name
  ·rfl
  ·cases (seen.any fun n=>n==r.Name)
   ·cases cE r.About
    ·rfl
    ·by_cases h0:Dk r.When=0
     ·simp only[h0];cases decide (r.Level<1)<;>cases decide (r.Level>4)<;>rfl
     ·simp[h0]
   ·rfl
theorem Jh(F:Nat)(p:aW)(hp:cY p)(hF:oS p<=F)(n:Nat)(hn:n<p.Rules.length):GY F p (n:Int)=some (
  if cE p.Rules[n].Name=false then 8 else if (((p.Rules.take n).map (·.Name)).any fun m=>m==p.Rules[n].Name)=true then 5 else if cE p.Rules[n].About=false then 8 else if Dk p.Rules[n].When=0 then (if (decide (p.Rules[n].Level<1)||decide (p.Rules[n].Level>4))=true then 7 else 0) else Dk p.Rules[n].When):=by
 have hr:p.Rules[n]∈p.Rules:=ba9 _;have hok:=hp.1.1 _ hr;obtain⟨y,e1,e2,e3⟩:=BO F (p.Rules.take n) p.Rules[n].Name;unfold GY;rw[bt hn,bv9,w4 F _ hok.1,bv9,if_pos (show 0<=(n:Int)/\(n:Int).toNat<=p.Rules.length by omega),show((n:Int)).toNat=n by omega,e1,bv9,e2,w4 F _ hok.2.1,L3 hok.2.2.1 (by have:=sw (g:=fun r:ay=>(xg r.When).fu) hr;unfold oS at hF;omega),pZ,List.any_map];simp only[bv9]
 show _=some (if cE p.Rules[n].Name=false then 8 else if ((p.Rules.take n).any fun r=>r.Name==p.Rules[n].Name)=true then 5 else _)
 cases cE p.Rules[n].Name
 ·rfl
 ·cases ((p.Rules.take n).any fun r=>r.Name==p.Rules[n].Name)
  ·cases cE p.Rules[n].About
   ·rfl
   ·by_cases h0:Dk p.Rules[n].When=0
    ·simp only[h0];cases decide (p.Rules[n].Level<1)<;>cases decide (p.Rules[n].Level>4)<;>rfl
    ·simp[h0]
  ·rfl
theorem vg(F:Nat)(p:aW)(hp:cY p)(hF:oS p<=F)(k:Option Int):∀m n:Nat,n+m=p.Rules.length->my F p k m (n:Int)=if B4 ((p.Rules.take n).map (·.Name)) (p.Rules.drop n)=0 then k else some (B4 ((p.Rules.take n).map (·.Name)) (p.Rules.drop n))
 |0,n,h=>by rw[my,al9 (by omega),B4];rfl
 |m+1,n,h=>by
  have hn:n<p.Rules.length:=by omega
  rw[my,Jh F p hp hF n hn,bv9,show((n:Int)+1)=((n+1:Nat):Int) from rfl,vg F p hp hF k m (n+1) (by omega),bq8 hn,B4,List.take_succ_eq_append_getElem hn,ck8,bi9,ao8];cases cE p.Rules[n].Name
  ·rfl
  ·cases (((p.Rules.take n).map (·.Name)).any fun m=>m==p.Rules[n].Name)
   ·cases cE p.Rules[n].About
    ·rfl
    ·by_cases h0:Dk p.Rules[n].When=0
     ·simp only[h0];cases decide (p.Rules[n].Level<1)<;>cases decide (p.Rules[n].Level>4)<;>rfl
     ·simp[h0]
   ·rfl
theorem GD(p:aW)(hp:cY p)(F:Nat)(hF:oS p<=F):Ok F p=some (vP p):=by
 unfold Ok vP;simp only[aA];rw[vl F p hp hF _ p.Rules (fun _ h=>h) [] [] (fun nm=>rfl),vk F p hp _ fun _ h=>h];by_cases h1:100<p.Rules.length
 ·rw[if_pos (decide_eq_true (by omega)),if_pos h1]
 ·rw[if_neg (by simp;omega),if_neg h1];by_cases h2:200<p.Waivers.length
  ·rw[if_pos (decide_eq_true (by omega)),if_pos h2]
  ·rw[if_neg (by simp;omega),if_neg h2];split<;>rfl
theorem GC(p:aW)(hp:cY p)(F:Nat)(hF:oS p<=F):Oh F p=some (vP p):=by
 have hm1:=hp.1.2;have hm2:=hp.2.1.2;rw[jJ] at hm1 hm2;unfold Oh vP;simp only[aA];have e1:=vg F p hp hF (some (vv p p.Waivers)) p.Rules.length 0 (by omega);have e2:=vf F p hp hF p.Waivers.length 0 (by omega);simp only[show((0:Nat):Int)=0 from rfl,bp9,List.take_zero,ao8] at e1 e2;rw[show(((p.Waivers.length:Nat):Int)).toNat=p.Waivers.length by omega,show(((p.Rules.length:Nat):Int)).toNat=p.Rules.length by omega,e2,if_pos (show((p.Waivers.length:Nat):Int)<=9223372036854775807 by omega),e1];by_cases h1:100<p.Rules.length
 ·rw[if_pos (decide_eq_true (by omega)),if_pos h1]
 ·rw[if_neg (by simp;omega),if_neg h1];by_cases h2:200<p.Waivers.length
  ·rw[if_pos (decide_eq_true (by omega)),if_pos h2]
  ·rw[if_neg (by simp;omega),if_neg h2];split<;>rfl
theorem AU:∀{l:List ay} {seen:List B8} {r:ay},B4 seen l=0->r∈l->Dk r.When=0
 |x::l,seen,r,h,hm=>by
  rw[B4] at h;split at h
  ·cases h
  ·split at h
   ·cases h
   ·split at h
    ·cases h
    ·split at h
     ·rename_i h0;split at h
      ·cases h
      ·rcases aq8.1 hm with e|hm
       ·rw[e];exact h0
       ·exact AU h hm
     ·rename_i h0;exact absurd h h0
theorem eA{p:aW}(h:vP p=0):p.Rules.length<=100/\p.Waivers.length<=200/\(∀r,r∈p.Rules->Dk r.When=0)/\vv p p.Waivers=0:=by
 unfold vP at h;split at h
 ·cases h
 ·split at h
  ·cases h
  ·split at h
   ·rename_i h0;exact⟨by omega,by omega,fun r hr=>AU h0 hr,h⟩
   ·rename_i h0;exact absurd h h0
section
variable{p:aW}(hp:cY p)(h0:vP p=0){F:Nat}(hF:oS p<=F)
include hp h0 hF
theorem Hf{r:ay}(hr:r∈p.Rules):r.When=(xg r.When).toT/\(xg r.When).ok/\(xg r.When).flt=0/\(xg r.When).cnt<=60/\(xg r.When).fu<=F:=by
 have h1:=rO (hp.1.1 r hr).2.2.1;have h2:=Hj ((eA h0).2.2.1 r hr);have:=sw (g:=fun r:ay=>(xg r.When).fu) hr;unfold oS at hF;exact⟨h1.1,h1.2,h2.1,h2.2,by omega⟩
end
noncomputable def tq(r:ay):Tr:=xg r.When
abbrev Pr:=Nat×ay
def ov:List ay->Nat->List Pr
 |[],_=>[]
 |r::l,n=>(n,r)::ov l (n+1)
def dD(k:bb)(l:List ay)(n:Nat):List Pr:=(ov l n).filter fun q=>q.2.About==k
def fF(l:List Pr):List Int:=l.map fun q=>(q.1:Int)
theorem oE:∀{l:List ay} {n:Nat} {q:Pr},q∈ov l n->n<=q.1/\l[q.1 - n]? = some q.2
 |r::l,n,q,h=>by
  rcases aq8.1 h with e|h
  ·subst e;simp
  ·obtain⟨h1,h2⟩:=oE h;refine⟨by omega,?_⟩;rw[show q.1 - n=(q.1 - (n+1))+1 by omega,bo9];exact h2
theorem zE{l:List ay}{i:Nat}{r:ay}(h:l[i]? = some r):∀n,(n+i,r)∈ov l n:=by
 induction l generalizing i with
 |nil=>simp at h
 |cons x l ih=>
  intro n;cases i with
  |zero=>simp at h;subst h;simp[ov]
  |succ i=>simp at h;have:=ih h (n+1);rw[ov];rw[show n+1+i=n+(i+1) by omega] at this;simp[this]
theorem rf:∀(l:List ay) (n:Nat),(ov l n).length=l.length
 |[],_=>rfl
 |r::l,n=>by rw[ov,bt8,rf l,bt8]
theorem j3(k:bb)(l:List ay)(n:Nat):(dD k l n).length<=l.length:=by
 unfold dD;have:=ab8 (fun q:Pr=>q.2.About==k) (ov l n);rw[rf] at this;exact this
theorem fE{k:bb}{l:List ay}{q:Pr}(h:q∈dD k l 0):l[q.1]? = some q.2/\q.2.About=k:=by
 unfold dD at h;obtain⟨h1,h2⟩:=bv8.1 h;exact⟨(oE h1).2,by simpa using h2⟩
theorem ro{α:Type}{l:List α}{i:Nat}{x:α}(h:l[i]? = some x):cq l (i:Int)=some x:=by
 obtain⟨hn,e⟩:=bb9.1 h;rw[bt hn,e]
theorem vj(F:Nat)(k:bb)(kk:List Int->Option (List Int)):∀(l:List ay) (n:Nat) (acc:List Int),acc.length+l.length<=1000->mA F k kk l (n:Int) acc=kk (acc++fF (dD k l n))
 |[],n,acc,_=>by rw[mA];simp[dD,ov,fF]
 |r::l,n,acc,h=>by
  simp only[bt8] at h;rw[mA,aA,show((n:Int)+1)=((n+1:Nat):Int) from rfl];have ih:=fun acc (ha:acc.length+l.length<=1000)=>vj F k kk l (n+1) acc ha;unfold dD at ih ⊢;rw[ov,ab9];cases hb:r.About==k
  ·simp only[ch8,if_false];exact ih acc (by omega)
  ·simp only[if_true];rw[if_pos (by simp;omega),ih _ (by simp;omega)];simp[fF]
theorem LY(F:Nat)(p:aW)(k:bb)(h:p.Rules.length<=100):Oj F p k=some (fF (dD k p.Rules 0)):=by
 unfold Oj;have:=vj F k (fun l4=>some l4) p.Rules 0 [] (by simp;omega);rw[show((0:Nat):Int)=0 from rfl] at this;rw[aA,this,ad8]
noncomputable def zN(l:List Pr):List Lf:=l.flatMap fun q=>(tq q.2).lvs
noncomputable def ir(l:List Pr):List Tr:=l.map fun q=>tq q.2
noncomputable def G7(rs:List ay)(k:bb):List Lf:=zN (dD k rs 0)
section
variable{p:aW}(hp:cY p)(h0:vP p=0)
include hp h0
theorem mI{q:Pr}(h:p.Rules[q.1]? = some q.2):q.2.When=(tq q.2).toT/\(tq q.2).ok/\(tq q.2).flt=0/\(tq q.2).cnt<=60/\(tq q.2).fu<=oS p:=
 Hf hp h0 (ae8 _) (aw8 h)
theorem x0{l:List Pr}(h:∀q,q∈l->p.Rules[q.1]? = some q.2)(hl:l.length<=100):fQ (zN l):=by
 refine⟨fun x hx=>?_,?_⟩
 ·obtain⟨q,hq,hx⟩:=ad9.1 hx;exact sr _ (mI hp h0 (h q hq)).2.2.1 x hx
 ·have:=lR (fun q:Pr=>(tq q.2).lvs) 60 l fun q hq=>by
   have h1:=(mI hp h0 (h q hq)).2.2.2.1;have:=Ba (tq q.2);omega
  unfold zN;omega
theorem oN(k:bb):fQ (G7 p.Rules k):=
 x0 hp h0 (fun q hq=>(fE hq).1) (by have:=j3 k p.Rules 0;have:=(eA h0).1;omega)
theorem vi(F:Nat)(hF:oS p<=F)(kk:tk->List KV->Option (tk×List KV)):∀(l:List Pr),(∀q,q∈l->p.Rules[q.1]? = some q.2)->∀(all:tk) (B:Nat) (cs:List KV),Bd all B->B+50*(zN l).length<=1000000->cs.length+l.length<=1000->
  mz F p kk (fF l) all cs=kk ((zN l).foldl jq all) (cs++(ir l).map Tr.cd)
 |[],_,all,B,cs,_,_,_=>by simp[fF,zN,ir,mz]
 |q::l,h,all,B,cs,hB,hb,hc=>by
  have hq:=h q (by simp);obtain⟨e1,e2,e3,e4,e5⟩:=mI hp h0 hq;have hlv:zN (q::l)=(tq q.2).lvs++zN l:=by simp[zN]
  rw[hlv,be8] at hb;simp only[bt8] at hc;have hlo:=sr _ e3
  rw[show fF (q::l)=(q.1:Int)::fF l from rfl,mz,ro hq,bv9,e1,L9 _ e2 e3 e4 F (by omega),bv9,L8 _ e2 e3 F (by omega) all B hB (by omega),bv9,if_pos (by simp;omega),
   vi F hF kk l (fun x hx=>h x (by simp[hx])) _ _ _ (rp _ all B hB hlo) (by omega) (by simp;omega),hlv,List.foldl_append]
  simp[ir]
theorem LX(F:Nat)(hF:oS p<=F){l:List Pr}(h:∀q,q∈l->p.Rules[q.1]? = some q.2)(hl:l.length<=100):Oi F p (fF l) []=some (eF (zN l),(ir l).map Tr.cd):=by
 unfold Oi;have:=(x0 hp h0 h hl).2;rw[aA,vi hp h0 F hF _ l h [] 0 [] ⟨fun n=>by simp[aY],fun n=>by simp[ef,aY,zt]⟩ (by omega) (by simp;omega)];rfl
end
noncomputable def f3(s:bb->Option Fd):List Tr->Nat->Option Bool
 |[],_=>some false
 |t::_,0=>t.tr3 s
 |t::r,j+1=>Av ((t.tr3 s).map (!·)) (f3 s r j)
noncomputable def fA(v:bb->Fd):List Tr->Nat->Bool
 |[],_=>false
 |t::_,0=>t.truA v
 |t::r,j+1=>!(t.truA v)&&fA v r j
theorem HN{a:Option Bool}{c:Bool}(h:a.map (!·)=some c):a=some (!c):=by
 cases a with
 |none=>cases h
 |some b=>simp at h;subst h;simp
theorem Bv{s s':bb->Option Fd}(he:ext s s'):∀(ts:List Tr) (j:Nat) (b:Bool),f3 s ts j=some b->f3 s' ts j=some b
 |[],_,b,h=>h
 |t::r,0,b,h=>oz he t b h
 |t::r,j+1,b,h=>by
  rw[f3] at h ⊢;exact u9 (fun c hc=>by rw[oz he t _ (HN hc)];simp) (fun c hc=>Bv he r j c hc) h
theorem Bw{s:bb->Option Fd}{a:bb->Fd}:∀(ts:List Tr) (j:Nat),(∀t,t∈ts->∀l,l∈t.lvs->s l.nm=some (a l.nm))->f3 s ts j=some (fA a ts j)
 |[],_,h=>rfl
 |t::r,0,h=>lv t (h t (by simp))
 |t::r,j+1,h=>by
  rw[f3,fA,lv t (h t (by simp)),Bw r j fun u hu=>h u (by simp[hu])];cases t.truA a<;>cases fA a r j<;>rfl
theorem yv{a b:bb->Fd}:∀(ts:List Tr) (j:Nat),(∀t,t∈ts->∀l,l∈t.lvs->l.one (a l.nm)=l.one (b l.nm))->fA a ts j=fA b ts j
 |[],_,h=>rfl
 |t::r,0,h=>nH t (h t (by simp))
 |t::r,j+1,h=>by
  rw[fA,fA,nH t (h t (by simp)),yv r j fun u hu=>h u (by simp[hu])]
theorem Ak(l:List Pr)(j:Nat):J0 (zN l) (fun s=>f3 s (ir l) j) (fun v=>fA v (ir l) j):=by
 have hm:∀t x,t∈ir l->x∈t.lvs->x∈zN l:=fun t x ht hx=>by
  obtain⟨q,hq,e⟩:=bb8.1 ht;exact ad9.2 ⟨q,hq,e ▸ hx⟩
 exact⟨fun s s' b he h=>Bv he _ j b h,fun s a h=>Bw _ j fun t ht x hx=>h x (hm t x ht hx),fun a b h=>yv _ j fun t ht x hx=>h x (hm t x ht hx)⟩
theorem Ol(F:Nat)(b:Option Bool):Om F (rN b)=some (rN (b.map (!·))):=by
 cases b with
 |none=>rfl
 |some b=>cases b<;>rfl
theorem vh(F:Nat)(n:Nat)(m:JP)(kn:IC):∀(ts:List Tr) (j i:Nat),(∀t,t∈ts->t.ok/\t.flt=0/\t.fu<=F)->i+j=n->j<ts.length->∀o:Option Bool,o≠some false->
  js F (n:Int) ⟨m,some kn⟩ (fun x=>some x) ((ts.take (j+1)).map Tr.cd) (i:Int) (rN o)=some (rN (Av o (f3 (sgm m kn) ts j)))
 |t::r,0,i,h,hn,hj,o,ho=>by
  obtain⟨e1,e2,e3⟩:=h t (by simp);rw[show((t::r).take (0+1)).map Tr.cd=[t.cd] from rfl,js,JF m kn t e1 e2 F e3,bv9];simp only[aA];rw[if_neg (by simp;omega),f3];cases hx:t.tr3 (sgm m kn) with
  |none=>cases o with
   |none=>rfl
   |some c=>cases c with
    |true=>rfl
    |false=>exact absurd rfl ho
  |some c=>cases c<;>cases o with
   |none=>rfl
   |some d=>cases d with
    |true=>rfl
    |false=>exact absurd rfl ho
 |t::r,j+1,i,h,hn,hj,o,ho=>by
  obtain⟨e1,e2,e3⟩:=h t (by simp);have ih:=fun o ho=>vh F n m kn r j (i+1) (fun u hu=>h u (by simp[hu])) (by omega) (by simpa using hj) o ho;rw[show((i+1:Nat):Int)=(i:Int)+1 from rfl] at ih;rw[show((t::r).take (j+1+1)).map Tr.cd=t.cd::(r.take (j+1)).map Tr.cd from rfl,js,JF m kn t e1 e2 F e3,bv9];simp only[aA];rw[if_pos (by simp;omega),Ol,bv9,f3];cases hx:t.tr3 (sgm m kn) with
  |none=>
   show js F (n:Int) ⟨m,some kn⟩ (fun x=>some x) ((r.take (j+1)).map Tr.cd) ((i:Int)+1) (rN none)=_
   rw[ih none (by simp)];cases o with
   |none=>cases f3 (sgm m kn) r j with
    |none=>rfl
    |some c=>cases c<;>rfl
   |some c=>cases c with
    |true=>rfl
    |false=>exact absurd rfl ho
  |some c=>cases c with
   |false=>
    show js F (n:Int) ⟨m,some kn⟩ (fun x=>some x) ((r.take (j+1)).map Tr.cd) ((i:Int)+1) (rN o)=_
    rw[ih o ho];rfl
   |true=>cases o with
    |none=>rfl
    |some c=>cases c with
     |true=>rfl
     |false=>exact absurd rfl ho
theorem LV(F:Nat){m:JP}{kn:IC}{s:Mp}(hs:CQ m kn s)(ts:List Tr)(j:Nat)(h:∀t,t∈ts->t.ok/\t.flt=0/\t.fu<=F)(hj:j<ts.length)(hl:ts.length<=1000):LW F ⟨m,some kn⟩ (ts.map Tr.cd) (j:Int)=some (rN (f3 (zj s) ts j)):=by
 have:=vh F j m kn ts j 0 h (by omega) hj (some true) (by simp);rw[hs.sgm,show rN (some true)=1 from rfl,show((0:Nat):Int)=0 from rfl] at this;unfold LW OO;rw[cc (by omega) (by omega),show((j:Int)+1).toNat=j+1 by omega,if_pos ⟨by omega,by simp;omega⟩,aA,<-List.map_take,this];rfl
def K6(rs:List ay)(i:Nat)(v:bb->Fd):Prop:=∃r,rs[i]? = some r/\(tq r).truA v=true/\∀j r',j<i->rs[j]? = some r'->r'.About=r.About->(tq r').truA v=false
open Classical in
noncomputable def gR(rs:List ay)(i:Nat):Bool:=decide (¬∃v:bb->Fd,(∀n,A0 (v n))/\K6 rs i v)
theorem sR(k:bb)(v:bb->Fd):∀(l:List ay) (n j:Nat) (q:Pr),(dD k l n)[j]? = some q->
  (fA v (ir (dD k l n)) j=true<->(tq q.2).truA v=true/\∀i r',n<=i->i<q.1->l[i - n]? = some r'->r'.About=k->(tq r').truA v=false)
 |[],n,j,q,h=>by simp[dD,ov] at h
 |x::l,n,j,q,h=>by
  have ih:=fun j q h=>sR k v l (n+1) j q h;have step:∀i,n+1<=i->(x::l)[i - n]? = l[i - (n+1)]?:=fun i hi=>by rw[show i - n=(i - (n+1))+1 by omega,bo9]
  unfold dD at h ih ⊢;rw[ov,ab9] at h ⊢;cases hb:x.About==k
  ·simp only[hb,ch8,if_false] at h ⊢;rw[ih j q h];refine and_congr_right fun _=>⟨fun a i r' h1 h2 h3 h4=>?_,fun a i r' h1 h2 h3 h4=>a i r' (by omega) h2 (by rw[step i h1];exact h3) h4⟩;rcases bn8 n i with h5|h5
   ·exact a i r' h5 h2 (by rw[<-step i h5];exact h3) h4
   ·have:i=n:=by omega
    subst this;simp at h3;subst h3;rw[h4] at hb;simp at hb
  ·simp only[hb,if_true] at h ⊢;cases j with
   |zero=>
    simp at h;subst h
    show(tq x).truA v=true<->_
    exact⟨fun a=>⟨a,fun i r' h1 h2=>absurd h1 (by omega)⟩,fun a=>a.1⟩
   |succ j=>
    simp at h;have hq:n+1<=q.1:=(oE (bv8.1 (aw8 h)).1).1
    show((!(tq x).truA v)&&fA v (ir ((ov l (n+1)).filter fun q=>q.2.About==k)) j)=true<->_
    rw[ap9,ih j q h];constructor
    ·rintro⟨a1,a2,a3⟩
     refine⟨a2,fun i r' h1 h2 h3 h4=>?_⟩;rcases bn8 n i with h5|h5
     ·exact a3 i r' h5 h2 (by rw[<-step i h5];exact h3) h4
     ·have:i=n:=by omega
      subst this;simp at h3;subst h3
      simpa using a1
    ·rintro⟨a2,a3⟩
     refine⟨?_,a2,fun i r' h1 h2 h3 h4=>a3 i r' (by omega) h2 (by rw[step i h1];exact h3) h4⟩;have:=a3 n x (ae8 _) (by omega) (by simp) (by simpa using hb);simp[this]
theorem By{rs:List ay}{k:bb}{j:Nat}{q:Pr}(h:(dD k rs 0)[j]? = some q):Jp (fun v=>fA v (ir (dD k rs 0)) j)<->gR rs q.1=false:=by
 have hq:=fE (aw8 h);unfold gR;rw[decide_eq_false_iff_not,Classical.not_not];refine⟨fun⟨v,hv,a⟩=>⟨v,hv,?_⟩,fun⟨v,hv,a⟩=>⟨v,hv,?_⟩⟩
 ·obtain⟨a1,a2⟩:=(sR k v rs 0 j q h).1 a;exact⟨q.2,hq.1,a1,fun i r' h1 h2 h3=>a2 i r' (ai8 _) h1 h2 (h3.trans hq.2)⟩
 ·obtain⟨r,b1,b2,b3⟩:=a;rw[hq.1] at b1;cases b1;exact(sR k v rs 0 j q h).2 ⟨b2,fun i r' _ h1 h2 h3=>b3 i r' h1 h2 (h3.trans hq.2.symm)⟩
theorem uY{α:Type}{f g:α->Bool}:∀A:List α,(∀x,x∈A->f x=true->g x=false)->(A.filter f++A.filter g).Perm (A.filter fun x=>f x||g x)
 |[],_=>by simp
 |x::A,h=>by
  have ih:=uY A fun y hy=>h y (by simp[hy]);rw[ab9,ab9,ab9];cases hf:f x
  ·cases hg:g x
   ·simpa using ih
   ·simp only[ch8,if_false,if_true,Bool.or_true];exact List.perm_middle.trans (ih.cons x)
  ·rw[h x (by simp) hf]
   simpa using ih
noncomputable def C8(rs:List ay)(seen:bb->Bool):List Int:=fF ((ov rs 0).filter fun q=>seen q.2.About&&gR rs q.1)
theorem Bz(rs:List ay)(seen:bb->Bool):(C8 rs seen).length<=rs.length:=by
 have h2:=ab8 (fun q:Pr=>seen q.2.About&&gR rs q.1) (ov rs 0);rw[rf] at h2;unfold C8 fF;rw[bf9];exact h2
noncomputable def qD(rs:List ay)(k:bb):Bool:=wo (G7 rs k)
section
variable{p:aW}(hp:cY p)(h0:vP p=0)
include hp h0
theorem vt(F:Nat)(hF:oS p+700200<=F)(k:bb)(hf:qD p.Rules k=true)(kk:List Int->Option (List Int×Int)):∀(m j:Nat),j+m=(dD k p.Rules 0).length->∀acc:List Int,acc.length+m<=1000->
  mG F (eF (G7 p.Rules k),(ir (dD k p.Rules 0)).map Tr.cd) kk (fF ((dD k p.Rules 0).drop j)) (j:Int) acc=kk (acc++fF (((dD k p.Rules 0).drop j).filter fun q=>gR p.Rules q.1))
 |0,j,hj,acc,_=>by rw[al9 (by omega)];simp[fF,mG]
 |m+1,j,hj,acc,ha=>by
  have hn:j<(dD k p.Rules 0).length:=by omega
  have hlen:(dD k p.Rules 0).length<=100:=by have:=j3 k p.Rules 0;have:=(eA h0).1;omega
  have ih:=fun acc ha=>vt F hF k hf kk m (j+1) (by omega) acc ha;rw[show((j+1:Nat):Int)=(j:Int)+1 from rfl] at ih
  have hts:∀t,t∈ir (dD k p.Rules 0)->t.ok/\t.flt=0/\t.fu<=oS p:=fun t ht=>by
   obtain⟨q,hq,e⟩:=bb8.1 ht;have:=mI hp h0 (fE hq).1;rw[<-e];exact⟨this.2.1,this.2.2.1,this.2.2.2.2⟩
  have htl:(ir (dD k p.Rules 0)).length=(dD k p.Rules 0).length:=by simp[ir]
  obtain⟨by_,m',kn',r,g1,g2,g3,-⟩:=B6 (oN hp h0 k) hf (Ak (dD k p.Rules 0) j) (oS p) ((ir (dD k p.Rules 0)).map Tr.cd) (j:Int) (fun G m kn s hG hs=>LV G hs _ j (fun t ht=>⟨(hts t ht).1,(hts t ht).2.1,by have:=(hts t ht).2.2;omega⟩) (by omega) (by omega)) F (by omega);have hd:=By (rs:=p.Rules) (k:=k) (j:=j) (q:=(dD k p.Rules 0)[j]) (ax8 hn);rw[bq8 hn,show ∀(q:Pr) l,fF (q::l)=(q.1:Int)::fF l from fun _ _=>rfl,mG,g1,bv9,g2,bv9,aA,ab9];cases r with
  |true=>
   rw[hd.1 (g3.1 rfl)];simp only[br9,ch8,if_false];exact ih acc (by omega)
  |false=>
   have:gR p.Rules (dD k p.Rules 0)[j].1=true:=by
    cases h:gR p.Rules (dD k p.Rules 0)[j].1
    ·exact absurd (g3.2 (hd.2 h)) (by simp)
    ·rfl
   rw[this];simp only[bt9,if_true];rw[if_pos (by simp;omega),ih _ (by simp;omega)];simp[fF]
theorem p8(F:Nat)(hF:oS p+700200<=F)(k5:List Int->Option (List Int×Int)):∀(l:List ay),(∀r,r∈l->r∈p.Rules)->∀(m:IC) (seen:bb->Bool) (acc:List Int),(∀n,(aY m n).getD false=seen n)->acc.Perm (C8 p.Rules seen)->
  (∃acc',kH F p k5 l m acc=k5 acc'/\acc'.Perm (C8 p.Rules fun n=>seen n||l.any fun r=>r.About==n)/\∀r,r∈l->seen r.About=false->qD p.Rules r.About=true)\/(kH F p k5 l m acc=some ([],3)/\∃r,r∈l/\qD p.Rules r.About=false)
 |[],_,m,seen,acc,_,ha=>Or.inl ⟨acc,rfl,by simpa using ha,by simp⟩
 |r::l,h,m,seen,acc,hm,ha=>by
  have hlen:(dD r.About p.Rules 0).length<=100:=by have:=j3 r.About p.Rules 0;have:=(eA h0).1;omega
  rw[kH,aA,hm];cases hs:seen r.About
  ·rw[if_neg (by simp),LY F p _ (eA h0).1,bv9,LX hp h0 F (by omega) (fun q hq=>(fE hq).1) hlen,bv9];dsimp only;rw[show zN (dD r.About p.Rules 0)=G7 p.Rules r.About from rfl,On F (oN hp h0 r.About),bv9];cases hf:wo (G7 p.Rules r.About)
   ·exact Or.inr ⟨rfl,r,by simp,hf⟩
   ·have hL2:=vt hp h0 F hF r.About hf (fun l28=>kH F p k5 l (co m r.About true) l28) (dD r.About p.Rules 0).length 0 (by omega) acc (by
     have h1:=ha.length_eq;have h2:=Bz p.Rules seen;have:=(eA h0).1;omega)
    rw[bp9,show((0:Nat):Int)=0 from rfl] at hL2;simp only[br9,ch8,if_false,aA];rw[hL2]
    have hperm:(acc++fF ((dD r.About p.Rules 0).filter fun q=>gR p.Rules q.1)).Perm (C8 p.Rules fun n=>seen n||(r.About==n)):=by
     refine(ha.append_right _).trans ?_;unfold C8 fF dD;rw[<-ck8,List.filter_filter];refine((uY _ fun q hq h1=>?_).trans (List.Perm.of_eq (List.filter_congr fun q hq=>?_))).map _
     ·simp only[ap9] at h1;cases h2:q.2.About==r.About
      ·simp
      ·rw[show q.2.About=r.About by simpa using h2,hs] at h1;exact absurd h1.1 (by simp)
     ·dsimp only;rw[Lo r.About q.2.About];cases seen q.2.About<;>cases q.2.About==r.About<;>cases gR p.Rules q.1<;>rfl
    rcases p8 F hF k5 l (fun u hu=>h u (by simp[hu])) (co m r.About true) (fun n=>seen n||(r.About==n)) _ (fun n=>by
     rw[dl];by_cases e:r.About=n
     ·rw[if_pos e];simp[e]
     ·rw[if_neg e,hm,beq_false_of_ne e];simp) hperm with ⟨acc',e1,e2,e3⟩|⟨e1,r',e2,e3⟩
    ·refine Or.inl ⟨acc',e1,?_,fun r' hr' hn=>?_⟩
     ·have:(fun n=>seen n||(r::l).any fun r=>r.About==n)=fun n=>(seen n||(r.About==n))||l.any fun r=>r.About==n:=by
       funext n;rw[cb8,Bool.or_assoc]
      rw[this];exact e2
     ·rcases aq8.1 hr' with e|hr'
      ·subst e;exact hf
      ·by_cases e:r.About=r'.About
       ·rw[<-e];exact hf
       ·exact e3 r' hr' (by rw[hn,beq_false_of_ne e];rfl)
    ·exact Or.inr ⟨e1,r',by simp[e2],e3⟩
  ·rw[if_pos rfl];rcases p8 F hF k5 l (fun u hu=>h u (by simp[hu])) m seen acc hm ha with ⟨acc',e1,e2,e3⟩|⟨e1,r',e2,e3⟩
   ·refine Or.inl ⟨acc',e1,?_,fun r' hr' hn=>?_⟩
    ·have:(fun n=>seen n||(r::l).any fun r=>r.About==n)=fun n=>seen n||l.any fun r=>r.About==n:=by
      funext n
      rw[cb8];by_cases e:r.About=n
      ·rw[<-e,hs];rfl
      ·rw[beq_false_of_ne e];rfl
     rw[this];exact e2
    ·rcases aq8.1 hr' with e|hr'
     ·subst e;rw[hs] at hn;cases hn
     ·exact e3 r' hr' hn
   ·exact Or.inr ⟨e1,r',by simp[e2],e3⟩
theorem Ml(F:Nat)(hF:oS p+700200<=F):
  (∃l,JZ F p=some (nl l,0)/\l.Perm (C8 p.Rules fun _=>true)/\∀r,r∈p.Rules->qD p.Rules r.About=true)\/(JZ F p=some ([],3)/\∃r,r∈p.Rules/\qD p.Rules r.About=false):=by
 have h100:=(eA h0).1;unfold JZ;rw[GD p hp F (by omega),h0,bv9,if_neg (by decide),aA];rcases p8 hp h0 F hF (fun l6=>(LU F l6).bind fun y46=>if y46.length=l6.length then some (y46,0) else none) p.Rules (fun _ h=>h) [] (fun _=>false) [] (fun n=>rfl) (by simp[C8,fF]) with ⟨l,e1,e2,e3⟩|⟨e1,e2⟩
 ·refine Or.inl ⟨l,?_,e2.trans (List.Perm.of_eq ?_),fun r hr=>e3 r hr Y⟩
  ·rw[e1]
   have hl:l.length<=100:=by
    have h1:=e2.length_eq;have h2:=Bz p.Rules (fun n=>false||p.Rules.any fun r=>r.About==n);omega
   unfold LU;rw[if_pos (by omega),bv9,if_pos (by unfold nl;rw[List.length_mergeSort])]
  ·unfold C8
   congr 1
   refine List.filter_congr fun q hq=>?_;have:(p.Rules.any fun r=>r.About==q.2.About)=true:=cc9.2 ⟨q.2,aw8 (oE hq).2,by simp⟩;dsimp only;rw[this];rfl
 ·exact Or.inr ⟨e1,e2⟩
end
end Go.Proofs.YtelmfadihfcgnaaGreatDoor
namespace Go.Proofs.YtelmfadihfcgnaaGreatDoor
open Go Go.Pv
set_option maxRecDepth 100000
noncomputable section
def eX(ts:List Tr):Tr:=.mk 7 [] [] 0 0 ts
def kb(t:Tr):Tr:=.mk 6 [] [] 0 0 [t]
def dk:List Tr->Nat->List Tr
 |[],_=>[]
 |t::_,0=>[t]
 |t::r,j+1=>kb t::dk r j
end
theorem JL:∀(ts:List Tr) (j:Nat) (h:j<ts.length),dk ts j=(ts.take j).map kb++[ts[j]]
 |t::r,0,h=>by simp[dk]
 |t::r,j+1,h=>by simp[dk,JL r j (by simpa using h)]
theorem pK:∀ts:List Tr,Tr.lvss ts=ts.flatMap Tr.lvs
 |[]=>by simp[Tr.lvss]
 |t::r=>by rw[Tr.lvss,pK r,ac9]
theorem xZ(ts:List Tr):(eX ts).lvs=ts.flatMap Tr.lvs:=by
 unfold eX;rw[Tr.lvs,if_neg (by decide),if_pos (by decide),pK]
theorem HP(t:Tr):(kb t).lvs=t.lvs:=by
 unfold kb;rw[Tr.lvs,if_neg (by decide),if_pos (by decide),pK];simp
theorem Dt(v:bb->Fd)(t:Tr):(kb t).truA v = !(t.truA v):=by
 unfold kb;rw[Tr.truA,if_neg (by decide),if_pos (by decide),Tr.allA,Tr.allA,Bool.and_true]
theorem BV(v:bb->Fd)(ts:List Tr):(eX ts).truA v=Tr.allA v ts:=by
 unfold eX;rw[Tr.truA,if_neg (by decide),if_neg (by decide),if_pos (by decide)]
theorem BK(v:bb->Fd):∀(ts:List Tr) (j:Nat),j<ts.length->Tr.allA v (dk ts j)=fA v ts j
 |t::r,0,_=>by rw[dk,fA,Tr.allA,Tr.allA,Bool.and_true]
 |t::r,j+1,h=>by rw[dk,fA,Tr.allA,Dt,BK v r j (by simpa using h)]
theorem FU:∀(ts:List Tr) (j:Nat) (l:Lf),l∈(dk ts j).flatMap Tr.lvs->l∈ts.flatMap Tr.lvs
 |[],_,l,h=>h
 |t::r,0,l,h=>by
  rw[dk] at h;simp only[ac9,List.flatMap_nil,aa8] at h;exact cf8 _ h
 |t::r,j+1,l,h=>by
  rw[dk,ac9,HP] at h;rw[ac9];rcases bw9.1 h with h|h
  ·exact cf8 _ h
  ·exact List.mem_append_right _ (FU r j l h)
theorem FS:∀(ts:List Tr) (j:Nat) (u:Tr),u∈dk ts j->u∈ts\/∃t,t∈ts/\u=kb t
 |[],_,u,h=>by simp[dk] at h
 |t::r,0,u,h=>by simp[dk] at h;simp[h]
 |t::r,j+1,u,h=>by
  rw[dk] at h;rcases aq8.1 h with e|h
  ·exact .inr ⟨t,by simp,e⟩
  ·rcases FS r j u h with h|⟨w,h,e⟩
   ·exact .inl (by simp[h])
   ·exact .inr ⟨w,by simp[h],e⟩
theorem FV:∀(ts:List Tr) (j:Nat),(dk ts j).length<=ts.length
 |[],_=>by simp[dk]
 |t::r,0=>by simp[dk]
 |t::r,j+1=>by simp[dk,FV r j]
theorem A3:Ms 0:=⟨by decide,by decide⟩
theorem M3:Ms 6:=⟨by decide,by decide⟩
theorem M2:Ms 7:=⟨by decide,by decide⟩
theorem A2:uC []:=by unfold uC;simp
theorem AZ{ts:List Tr}(h:∀t,t∈ts->t.ok)(hl:ts.length<=maxLen):(eX ts).ok:=by
 unfold eX;rw[Tr.ok];exact⟨M2,A2,⟨by simp,by simp⟩,A3,A3,Tr.oks_of _ h,hl⟩
theorem KH{t:Tr}(h:t.ok):(kb t).ok:=by
 unfold kb;rw[Tr.ok];exact⟨M3,A2,⟨by simp,by simp⟩,A3,A3,Tr.oks_of _ (by simp[h]),by rw[jJ];simp⟩
theorem Bm{ts:List Tr}(h:∀t,t∈ts->t.gd):(eX ts).gd:=by
 unfold eX;rw[Tr.gd];exact⟨.inr ⟨.inl Y,Y⟩,wn h⟩
theorem H0{t:Tr}(h:t.gd):(kb t).gd:=by
 unfold kb;rw[Tr.gd];refine⟨.inl ?_,wn (by simp[h])⟩;rw[Tr.toKs,Tr.toKs];rfl
theorem Ic(t:Tr):(kb t).cnt=1+t.cnt:=by unfold kb;rw[Tr.cnt,Tr.cnts,Tr.cnts,bd9]
theorem K4(t:Tr):(kb t).fu=3+t.fu:=by unfold kb;rw[Tr.fu,Tr.fus,Tr.fus];simp
theorem Dv(k op n:Int)(nm:bb)(tx:List bb)(ks:List Tr):(Tr.mk k nm tx op n ks).toT=⟨k,nm,tx,op,n,Tr.toKs ks⟩:=by rw[Tr.toT]
theorem Ho(t:Tr):(kb t).toT=⟨6,[],[],0,0,[t.toK]⟩:=by
 unfold kb;rw[Dv,Tr.toKs_map];rfl
theorem xA(ts:List Tr):(eX ts).toT=⟨7,[],[],0,0,Tr.toKs ts⟩:=Dv ..
theorem wv(B:Nat):∀ts:List Tr,(∀t,t∈ts->t.cnt<=B)->Tr.cnts ts<=ts.length*B
 |[],_=>by simp[Tr.cnts]
 |t::r,h=>by
  have:=h t (by simp);have:=wv B r fun u hu=>h u (by simp[hu]);rw[Tr.cnts,bt8,al8];omega
theorem Ab(B:Nat):∀ts:List Tr,(∀t,t∈ts->t.fu<=B)->Tr.fus ts<=ts.length*B
 |[],_=>by simp[Tr.fus]
 |t::r,h=>by
  have:=h t (by simp);have:=Ab B r fun u hu=>h u (by simp[hu]);rw[Tr.fus,bt8,al8];omega
theorem GB(F:Nat)(p:aW)(k:bb)(h:p.Rules.length<=100):MF F p k=some (fF (dD k p.Rules 0)):=by
 have hloop:∀(m n:Nat),n+m=p.Rules.length->∀acc:List Int,acc.length+m<=1000->mu F p k (fun l4=>some l4) m (n:Int) acc=some (acc++fF (dD k (p.Rules.drop n) n)):=by
  intro m
  induction m with
  |zero=>intro n hn acc _;rw[mu,al9 (by omega)];simp[dD,ov,fF]
  |succ m ih=>
   intro n hn acc ha;have hlt:n<p.Rules.length:=by omega
   have ih:=fun acc ha=>ih (n+1) (by omega) acc ha;rw[show((n+1:Nat):Int)=(n:Int)+1 from rfl] at ih;rw[mu,bt hlt,bv9,aA,bq8 hlt];unfold dD at ih ⊢;rw[ov,ab9];cases hb:p.Rules[n].About==k
   ·simp only[ch8,if_false];exact ih acc (by omega)
   ·simp only[if_true];rw[if_pos (by simp;omega),ih _ (by simp;omega)];simp[fF]
 unfold MF;have:=hloop p.Rules.length 0 (by omega) [] (by simp;omega);rw[show((0:Nat):Int)=0 from rfl,bp9,ad8] at this;rw[aA,if_pos (by omega),show(((p.Rules.length:Nat):Int)).toNat=p.Rules.length by omega,this]
section
variable{p:aW}(hp:cY p)(h0:vP p=0)
include hp h0
theorem rF{q:Pr}(h:p.Rules[q.1]? = some q.2):dA ah q.2.When=(tq q.2).toK:=by
 rw[(mI hp h0 h).1];rfl
theorem LR(F:Nat){l:List Pr}(hl:∀q,q∈l->p.Rules[q.1]? = some q.2)(hn:l.length<=1000):LS F p (fF l)=some (Tr.toKs (ir l)):=by
 have hloop:∀(l:List Pr),(∀q,q∈l->p.Rules[q.1]? = some q.2)->∀acc:List aw,acc.length+l.length<=1000->ms F p (fun l4=>some l4) (fF l) acc=some (acc++(ir l).map Tr.toK):=by
  intro l
  induction l with
  |nil=>intro _ acc _;simp[fF,ms,ir]
  |cons q l ih=>
   intro h acc ha;simp only[bt8] at ha;have hq:=h q (by simp);rw[show fF (q::l)=(q.1:Int)::fF l from rfl,ms,ro hq,bv9,rF hp h0 hq,if_pos (by simp;omega),ih (fun x hx=>h x (by simp[hx])) _ (by simp;omega)];simp[ir]
 unfold LS;rw[aA,hloop l hl [] (by simp;omega),ad8,Tr.toKs_map]
theorem LQ(F:Nat){l:List Pr}(hl:∀q,q∈l->p.Rules[q.1]? = some q.2)(hn:l.length<=1000)(j:Nat)(hj:j<l.length):ME F p (fF l) (j:Int)=some (eX (dk (ir l) j)).toT:=by
 have hloop:∀(m n:Nat),n+m<=l.length->∀(k4:List aw->Option aG) (acc:List aw),acc.length+m<=2000->mr F p (fF l) k4 m (n:Int) acc=k4 (acc++(((ir l).drop n).take m).map fun t=>(kb t).toK):=by
  intro m
  induction m with
  |zero=>intro n _ k4 acc _;simp[mr]
  |succ m ih=>
   intro n hnm k4 acc ha;have hlt:n<l.length:=by omega
   have hq:=hl l[n] (ba9 _);have e1:cq (fF l) (n:Int)=some (l[n].1:Int):=by rw[bt (by simpa[fF] using hlt)];simp[fF]
   have e2:(ir l).drop n=tq l[n].2::(ir l).drop (n+1):=by
    rw[bq8 (by simpa[ir] using hlt)];simp[ir]
   have e3:dA ah (aG.mk 6 [] [] 0 0 [dA ah l[n].2.When])=(kb (tq l[n].2)).toK:=by
    rw[rF hp h0 hq,<-Ho];rfl
   rw[mr,e1,bv9,ro hq,bv9];unfold ON;rw[bv9,e3,if_pos (by simp;omega),show((n:Int)+1)=((n+1:Nat):Int) from rfl,ih (n+1) (by omega) k4 _ (by simp;omega),e2];simp
 have hq:=hl l[j] (ba9 _);have e1:cq (fF l) (j:Int)=some (l[j].1:Int):=by rw[bt (by simpa[fF] using hj)];simp[fF]
 have hjt:j<(ir l).length:=by simpa[ir] using hj
 have hlen:(fF l).length=l.length:=by simp[fF]
 unfold ME;rw[aA,if_pos (by omega),show((j:Int)).toNat=j by omega,show(0:Int)=((0:Nat):Int) from rfl,hloop j 0 (by omega) _ [] (by simp;omega),aA,if_pos (decide_eq_true (by rw[hlen];omega)),e1,bv9,ro hq,bv9,rF hp h0 hq,ad8,bp9,if_pos (by simp;omega)];unfold JX
 show some (aG.mk 7 ([]:B8) ([]:List B8) 0 0 _)=_
 rw[xA,Tr.toKs_map,JL _ _ hjt,ck8,bc9];simp[ir];rfl
theorem zp{l:List Pr}(hl:∀q,q∈l->p.Rules[q.1]? = some q.2):∀t,t∈ir l->t.ok/\t.gd/\t.cnt<=60/\t.fu<=oS p:=fun t ht=>by
 obtain⟨q,hq,e⟩:=bb8.1 ht;have:=mI hp h0 (hl q hq);rw[<-e];exact⟨this.2.1,K3 _ this.2.2.1,this.2.2.2.1,this.2.2.2.2⟩
theorem NB{l:List Pr}(hl:∀q,q∈l->p.Rules[q.1]? = some q.2)(j:Nat):∀t,t∈dk (ir l) j->t.ok/\t.gd/\t.cnt<=61/\t.fu<=oS p+3:=fun t ht=>by
 rcases FS _ _ _ ht with h|⟨u,h,e⟩
 ·have:=zp hp h0 hl t h;exact⟨this.1,this.2.1,by omega,by omega⟩
 ·have:=zp hp h0 hl u h;rw[e,Ic,K4];exact⟨KH this.1,H0 this.2.1,by omega,by omega⟩
end
theorem yA(ts:List Tr):(eX ts).cnt=1+Tr.cnts ts:=by unfold eX;rw[Tr.cnt]
theorem Bo(ts:List Tr):(eX ts).fu=ts.length+2+Tr.fus ts:=by unfold eX;rw[Tr.fu];simp
end Go.Proofs.YtelmfadihfcgnaaGreatDoor
