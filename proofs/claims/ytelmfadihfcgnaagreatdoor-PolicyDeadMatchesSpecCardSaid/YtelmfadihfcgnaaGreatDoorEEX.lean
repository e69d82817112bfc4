/- Part of the proof: D6P6, EV, EX. -/
import Derived.Test.YtelmfadihfcgnaaGreatDoorED6SR
import Derived.Test.YtelmfadihfcgnaaGreatDoorEDN
import Derived.Test.YtelmfadihfcgnaaGreatDoorEWA
import Derived.Test.YtelmfadihfcgnaaGreatDoorEPvW
import Derived.Test.YtelmfadihfcgnaaGreatDoorEDD
set_option linter.unusedSimpArgs false
set_option linter.unusedVariables false
namespace Go.Proofs.YtelmfadihfcgnaaGreatDoor
open Go Go.Pv
set_option maxRecDepth 100000
theorem r7:∀(l:List ay) (n i:Nat),(ov l n).drop i=ov (l.drop i) (n+i)
 |[],n,i=>by simp[ov]
 |r::l,n,0=>by simp
 |r::l,n,i+1=>by rw[ov,bo8,r7 l (n+1) i,bo8,show n+1+i=n+(i+1) by omega]
theorem pG:∀(l:List ay) (n:Nat),(ov l n).Pairwise fun a b=>a.1<b.1
 |[],_=>by simp[ov]
 |r::l,n=>by
  rw[ov,List.pairwise_cons];exact⟨fun q hq=>(oE hq).1,pG l (n+1)⟩
section
variable{p:aW}(hp:cY p)(h0:vP p=0){F:Nat}(hF:oS p*200+1000000000000<=F)
include hp h0 hF
theorem HO(k:bb):((LS F p (fF (dD k p.Rules 0))).bind fun y21=>(JX F y21).bind fun y23=>L2 F y23)=some (!qD p.Rules k):=by
 have hg:∀q,q∈dD k p.Rules 0->p.Rules[q.1]? = some q.2:=fun q hq=>(fE hq).1;have hl:(dD k p.Rules 0).length<=100:=by have:=j3 k p.Rules 0;have:=(eA h0).1;omega
 have ht:=zp hp h0 hg;have htl:(ir (dD k p.Rules 0)).length<=100:=by simpa[ir] using hl
 rw[LR hp h0 F hg (by omega),bv9];unfold JX;rw[bv9,show aG.mk 7 ([]:B8) ([]:List B8) 0 0 (Tr.toKs (ir (dD k p.Rules 0)))=(eX (ir (dD k p.Rules 0))).toT from (xA _).symm];have hlv:(eX (ir (dD k p.Rules 0))).lvs=G7 p.Rules k:=by rw[xZ];unfold ir G7 zN;rw[List.flatMap_map]
 have hc:=wv 60 _ fun t h=>(ht t h).2.2.1;have hf:=Ab (oS p) _ fun t h=>(ht t h).2.2.2;have hf2:=bc8 (oS p) htl;rw[L1 _ (AZ (fun t h=>(ht t h).1) (by rw[jJ];omega)) (Bm fun t h=>(ht t h).2.1) (by rw[yA];omega) (by rw[hlv];exact oN hp h0 k) F (by rw[Bo];omega),hlv];rfl
theorem HE(k kind:bb)(hf:qD p.Rules k=true)(j:Nat)(hj:j<(dD k p.Rules 0).length):∃f,((ME F p (fF (dD k p.Rules 0)) (j:Int)).bind fun y55=>MG F y55 kind)=some (f,!gR p.Rules (dD k p.Rules 0)[j].1):=by
 have hg:∀q,q∈dD k p.Rules 0->p.Rules[q.1]? = some q.2:=fun q hq=>(fE hq).1;have hl:(dD k p.Rules 0).length<=100:=by have:=j3 k p.Rules 0;have:=(eA h0).1;omega
 have htl:(ir (dD k p.Rules 0)).length=(dD k p.Rules 0).length:=by simp[ir]
 have ht:=NB hp h0 hg j;have hdl:=FV (ir (dD k p.Rules 0)) j;have hc:=wv 61 _ fun t h=>(ht t h).2.2.1;have hfu:=Ab (oS p+3) _ fun t h=>(ht t h).2.2.2;have hf2:=bc8 (oS p+3) (show(dk (ir (dD k p.Rules 0)) j).length<=100 by omega);have hgl:=oN hp h0 k
 have hsub:∀l,l∈(eX (dk (ir (dD k p.Rules 0)) j)).lvs->l∈G7 p.Rules k:=fun l h=>by
  rw[xZ] at h;have:=FU _ _ l h;unfold ir at this;unfold G7 zN
  rwa [List.flatMap_map] at this
 rw[LQ hp h0 F hg (by omega) j hj,bv9];obtain⟨f,r,e,hr⟩:=L0 (eX (dk (ir (dD k p.Rules 0)) j)) (AZ (fun t h=>(ht t h).1) (by rw[jJ];omega)) (Bm fun t h=>(ht t h).2.1) (by rw[yA];omega) (sm:=G7 p.Rules k) ⟨hsub,hgl.1,by have:=hgl.2;omega⟩ ⟨_,hgl,hf,hsub⟩ kind F (by rw[Bo];omega);refine⟨f,?_⟩;rw[e];have hd:=By (rs:=p.Rules) (k:=k) (j:=j) (q:=(dD k p.Rules 0)[j]) (ax8 hj)
 have hA:Jp (Tr.truA · (eX (dk (ir (dD k p.Rules 0)) j)))<->Jp (fun v=>fA v (ir (dD k p.Rules 0)) j):=by
  unfold Jp;simp only[BV,BK _ _ j (by rw[htl];exact hj)]
 have:r = !gR p.Rules (dD k p.Rules 0)[j].1:=by
  rw[Bool.eq_iff_iff,hr];rw[show(Jp fun a=>Tr.truA a (eX (dk (ir (dD k p.Rules 0)) j)))=Jp (Tr.truA · (eX (dk (ir (dD k p.Rules 0)) j))) from rfl,hA,hd];simp
 rw[this]
omit hp hF in
theorem vp(k:bb)(n:Nat)(kk:Int->Option (List Int×Int))(j:Nat)(hj:j<(dD k p.Rules 0).length)(hn:(dD k p.Rules 0)[j].1=n):∀(d i:Nat),i+d=j->∀fuel,d<fuel->mF F (n:Int) (fF (dD k p.Rules 0)) kk fuel (i:Int)=kk (j:Int)
 |0,i,hi,fuel,hf=>by
  obtain⟨fuel,rfl⟩:∃g,fuel=g+1:=⟨fuel - 1,by omega⟩;have:i=j:=by omega
  subst this;have e1:cq (fF (dD k p.Rules 0)) (i:Int)=some (n:Int):=by rw[bt (by simpa[fF] using hj)];simp[fF,hn]
  rw[mF,e1,bv9,if_neg (by simp)]
 |d+1,i,hi,fuel,hf=>by
  obtain⟨fuel,rfl⟩:∃g,fuel=g+1:=⟨fuel - 1,by omega⟩;have hil:i<(dD k p.Rules 0).length:=by omega
  have hlen:(dD k p.Rules 0).length<=100:=by have:=j3 k p.Rules 0;have:=(eA h0).1;omega
  have e1:cq (fF (dD k p.Rules 0)) (i:Int)=some ((dD k p.Rules 0)[i].1:Int):=by rw[bt (by simpa[fF] using hil)];simp[fF]
  have hlt:(dD k p.Rules 0)[i].1<(dD k p.Rules 0)[j].1:=au8.1 ((pG p.Rules 0).filter _) i j hil hj (by omega);rw[mF,e1,bv9,if_pos (by simp;omega),cc (by omega) (by omega),show((i:Int)+1)=((i+1:Nat):Int) from rfl];exact vp k n kk j hj hn d (i+1) (by omega) fuel (by omega)
theorem vq(hf:∀r,r∈p.Rules->qD p.Rules r.About=true)(kinds:List bb)(hk:kinds=p.Rules.map (·.About))(kk:List Int->Option (List Int×Int)):∀(m n:Nat),n+m=p.Rules.length->∀acc:List Int,acc.length+m<=1000->
  jt F p kinds kk (kinds.drop n) (n:Int) acc=kk (acc++fF (((ov p.Rules 0).drop n).filter fun q=>gR p.Rules q.1))
 |0,n,hn,acc,_=>by
  rw[al9 (by rw[hk,bf9];omega),al9 (by rw[rf];omega)];simp[jt,fF]
 |m+1,n,hn,acc,ha=>by
  have hlt:n<p.Rules.length:=by omega
  have hlk:n<kinds.length:=by rw[hk,bf9];exact hlt
  have h100:=(eA h0).1;have ih:=fun acc ha=>vq hf kinds hk kk m (n+1) (by omega) acc ha;rw[show((n+1:Nat):Int)=(n:Int)+1 from rfl] at ih;have hkn:kinds[n]=p.Rules[n].About:=by simp[hk]
  have hmem:(n,p.Rules[n])∈dD p.Rules[n].About p.Rules 0:=by
   unfold dD;have:=zE (ax8 hlt) 0;rw[ca8] at this;exact bv8.2 ⟨this,by simp⟩
  obtain⟨j,hj,ej⟩:=bf8 hmem;have hjl:=j3 p.Rules[n].About p.Rules 0;obtain⟨f,e⟩:=HE hp h0 hF p.Rules[n].About p.Rules[n].About (hf _ (ba9 _)) j hj;rw[ej] at e;rw[bq8 hlk,hkn,jt,aA,GB F p _ h100,bv9,aA,show(0:Int)=((0:Nat):Int) from rfl,vp h0 p.Rules[n].About n _ j hj (by rw[ej]) j 0 (by omega) F (by omega),bt hlk,hkn];rw[r7,ca8,bq8 hlt,ov,ab9];rw[r7,ca8] at ih;obtain⟨y,ey,e⟩:=Option.bind_eq_some_iff.1 e;rw[ey,bv9,bv9,e,bv9,aA];dsimp only;cases gR p.Rules n
  ·simp only[bt9,br9,ch8,if_false];exact ih acc (by omega)
  ·simp only[br9,bt9,if_true];rw[if_pos (by simp;omega),ih _ (by simp;omega)];simp[fF]
omit hp h0 hF in
theorem zR{n:Nat}(h:n<p.Rules.length):((p.Rules.take n).map (·.About))++[p.Rules[n].About]=(p.Rules.take (n+1)).map (·.About):=by
 rw[List.take_succ_eq_append_getElem h,ck8];rfl
theorem vr(kk:List bb->Option (List Int×Int)):∀(m n:Nat),n+m=p.Rules.length->
  ((∀r,r∈p.Rules->qD p.Rules r.About=true)->ju F p kk m (n:Int) ((p.Rules.take n).map (·.About))=kk (p.Rules.map (·.About)))/\
  ((∃i r,n<=i/\(dD r.About p.Rules 0).head? = some (i,r)/\qD p.Rules r.About=false)->ju F p kk m (n:Int) ((p.Rules.take n).map (·.About))=some ([],3))
 |0,n,hn=>by
  refine⟨fun _=>by rw[ju,List.take_of_length_le (by omega)],fun⟨i,r,h1,h2,_⟩=>?_⟩;have:=(fE (List.mem_of_mem_head? h2)).1;have:=(bb9.1 this).1;dsimp only at this;omega
 |m+1,n,hn=>by
  have hlt:n<p.Rules.length:=by omega
  have h100:=(eA h0).1;have ih:=vr kk m (n+1) (by omega);rw[show((n+1:Nat):Int)=(n:Int)+1 from rfl,<-zR hlt] at ih
  have hmem:(n,p.Rules[n])∈dD p.Rules[n].About p.Rules 0:=by
   unfold dD;have:=zE (ax8 hlt) 0;rw[ca8] at this;exact bv8.2 ⟨this,by simp⟩
  obtain⟨q,rest,hqr⟩:∃q rest,dD p.Rules[n].About p.Rules 0=q::rest:=by
   cases h:dD p.Rules[n].About p.Rules 0 with
   |nil=>rw[h] at hmem;simp at hmem
   |cons q rest=>exact⟨q,rest,rfl⟩
  have hq0:cq (fF (dD p.Rules[n].About p.Rules 0)) 0=some (q.1:Int):=by
   rw[show(0:Int)=((0:Nat):Int) from rfl,bt (by simp[fF,hqr])];simp[fF,hqr]
  have hg1:∀x:bb,((p.Rules.take n).map (·.About)++[x]).length*16<=140737488355328:=fun x=>by simp;omega
  have hmany:=HO hp h0 hF p.Rules[n].About;rw[ju,aA,bt hlt,bv9,GB F p _ h100,bv9,hq0,bv9];by_cases hqn:q.1=n
  ·rw[if_pos (by simp[hqn])]
   have hq:q=(n,p.Rules[n]):=by
    have:=(fE (k:=p.Rules[n].About) (l:=p.Rules) (q:=q) (by rw[hqr];simp)).1;rw[hqn,ax8 hlt] at this;exact Prod.ext hqn (ah8 this).symm
   have step:∀(G:Bool->Option (List Int×Int)),((LS F p (fF (dD p.Rules[n].About p.Rules 0))).bind fun y21=>(JX F y21).bind fun y23=>(L2 F y23).bind G)=G (!qD p.Rules p.Rules[n].About):=fun G=>by
    have:=congrArg (fun o=>o.bind G) hmany
    simpa only[Option.bind_assoc,bv9] using this
   rw[step];cases hf:qD p.Rules p.Rules[n].About
   ·rw[if_pos (by simp)];exact⟨fun h=>absurd (h _ (ba9 _)) (by rw[hf];simp),fun _=>Y⟩
   ·rw[if_neg (by simp)];simp only[bv9,if_pos (hg1 _)];refine⟨ih.1,fun⟨i,r,a1,a2,a3⟩=>ih.2 ⟨i,r,?_,a2,a3⟩⟩;rcases bn8 n i with c|c
    ·exact c
    ·have:i=n:=by omega
     subst this;have h5:=(fE (List.mem_of_mem_head? a2)).1;dsimp only at h5;rw[ax8 hlt] at h5;rw[<-ah8 h5,hf] at a3;cases a3
  ·rw[if_neg (by simp;omega)];simp only[bv9,if_pos (hg1 _)];refine⟨ih.1,fun⟨i,r,a1,a2,a3⟩=>ih.2 ⟨i,r,?_,a2,a3⟩⟩;rcases bn8 n i with c|c
   ·exact c
   ·have:i=n:=by omega
    subst this;have h5:=(fE (List.mem_of_mem_head? a2)).1;dsimp only at h5;rw[ax8 hlt] at h5;rw[<-ah8 h5,hqr] at a2;simp at a2;rw[a2] at hqn;exact absurd Y hqn
end
theorem Az(F:Nat)(a b:List Int):Ot F a b=some (decide (a=b)):=by
 unfold Ot;simp only[aA];exact H7 (g:=oi F b (some true)) b (fun _=>Y) (fun x l n=>by rw[oi];rfl) a
theorem Co{rs:List ay}{l:List Int}(h:l.Perm (C8 rs fun _=>true)):nl l=fF ((ov rs 0).filter fun q=>gR rs q.1):=by
 have e:C8 rs (fun _=>true)=fF ((ov rs 0).filter fun q=>gR rs q.1):=by
  unfold C8
  congr 1
 rw[e] at h;have h1:(nl l).Pairwise fun a b=>decide (a<=b)=true:=List.pairwise_mergeSort (fun a b c x y=>by simp at *;omega) (fun a b=>by simp;omega) l
 have h2:(fF ((ov rs 0).filter fun q=>gR rs q.1)).Pairwise fun a b=>decide (a<=b)=true:=by
  unfold fF;rw[List.pairwise_map];exact((pG rs 0).filter _).imp fun h=>decide_eq_true (by omega)
 exact List.Perm.eq_of_pairwise (fun a b _ _ x y=>by simp at *;omega) h1 h2 ((List.mergeSort_perm _ _).trans h)
theorem HF(p:aW)(hp:cY p):∃F,M6 F p=some true:=by
 refine⟨oS p*200+1000000000000,?_⟩;generalize hFe:oS p*200+1000000000000=F;have hF:oS p*200+1000000000000<=F:=by omega
 unfold M6;by_cases h0:vP p=0
 ·have h100:=(eA h0).1
  have hR:Mk F p=(ju F p (fun l6=>jt F p l6 (fun l36=>some (l36,0)) l6 0 []) p.Rules.length 0 []):=by
   unfold Mk;rw[GC p hp F (by omega),h0,bv9,if_neg (by decide),aA,if_pos (by omega),show(((p.Rules.length:Nat):Int)).toNat=p.Rules.length by omega];rfl
  have hL:=vr hp h0 hF (fun l6=>jt F p l6 (fun l36=>some (l36,0)) l6 0 []) p.Rules.length 0 (by omega);rw[List.take_zero,ao8,show((0:Nat):Int)=0 from rfl] at hL;rcases Ml hp h0 F (by omega) with ⟨l,e1,e2,e3⟩|⟨e1,r,e2,e3⟩
  ·have hL2:=vq hp h0 hF e3 _ rfl (fun l36=>some (l36,0)) p.Rules.length 0 (by omega) [] (by simp;omega);rw[bp9,bp9,show((0:Nat):Int)=0 from rfl,ad8] at hL2;rw[e1,bv9,hR,hL.1 e3,hL2,bv9,Az,bv9,Co e2];simp[MK]
  ·have hmem:∃q,(dD r.About p.Rules 0).head? = some q:=by
    obtain⟨i,hi,e⟩:=bf8 e2;have:=zE (ax8 hi) 0;rw[ca8,e] at this;have hm:(i,r)∈dD r.About p.Rules 0:=bv8.2 ⟨this,by simp⟩;cases h:dD r.About p.Rules 0 with
    |nil=>rw[h] at hm;simp at hm
    |cons q rest=>exact⟨q,rfl⟩
   obtain⟨⟨i,r'⟩,hh⟩:=hmem;have hr':r'.About=r.About:=(fE (List.mem_of_mem_head? hh)).2;rw[e1,bv9,hR,hL.2 ⟨i,r',ai8 _,by rw[hr'];exact hh,by rw[hr'];exact e3⟩,bv9,Az,bv9];simp[MK]
 ·have e1:JZ F p=some ([],vP p):=by
   unfold JZ;rw[GD p hp _ (by omega),bv9,if_pos (by simp[h0])]
  have e2:Mk F p=some ([],vP p):=by
   unfold Mk;rw[GC p hp _ (by omega),bv9,if_pos (by simp[h0])]
  rw[e1,e2,bv9,bv9,Az,bv9];simp[MK]
end Go.Proofs.YtelmfadihfcgnaaGreatDoor
namespace Go.Pv
open Go
section
variable{K:de}{Q:cp}{S S':St}{ops:Array Oper}{rest:List Oper}{t:TT}
def rX(d:Nat)(v:V):cn->cn
 |[]=>[(d,v)]
 |(k,x)::e=>bif Nat.beq k d then (d,v)::e else (k,x)::rX d v e
def qw(d:Nat)(v:Ob):aH->aH
 |[]=>(match v with | .dead=>[]|v=>[(d,v)])
 |(k,x)::e=>bif Nat.beq k d then (d,v)::e else (k,x)::qw d v e
theorem BF(k d:Nat){α:Type}(a b:α):(bif Nat.beq k d then a else b)=if k=d then a else b:=by
 simp_all
theorem lO(d:Nat)(v:V):∀(e:cn) (t:Nat),get (rX d v e) t=get ((d,v)::e) t
 |[],t=>rfl
 |(k,x)::e,t=>by
  simp only[rX,BF];split
  ·simp_all[cL]
  ·rename_i h;rw[cL,lO d v e t,cL,cL,cL]
   grind
theorem mT(d:Nat)(v:Ob):∀(e:aH) (t:Nat),ap (qw d v e) t=ap ((d,v)::e) t
 |[],t=>by
  cases v with
  |dead=>simp only[qw];rw[aq];split<;>rfl
  |_=>rfl
 |(k,x)::e,t=>by
  simp only[qw,BF];split
  ·simp_all[aq]
  ·rename_i h;rw[aq,mT d v e t,aq,aq,aq]
   grind
def Dz:cn->cn
 |(d,v)::e=>rX d v e
 |[]=>[]
def Dy:aH->aH
 |(d,v)::(d2,v2)::e=>qw d v (qw d2 v2 e)
 |e=>e
theorem Cx(e:cn)(t:Nat):get (Dz e) t=get e t:=by
 cases e with
 |nil=>rfl
 |cons p e=>exact lO p.1 p.2 e t
theorem zX(e:aH)(t:Nat):ap (Dy e) t=ap e t:=by
 match e with
 |[]=>rfl
 |[p]=>rfl
 |(d,v)::(d2,v2)::e=>
  show ap (qw d v (qw d2 v2 e)) t=_
  simp_all[mT,aq]
theorem zZ{e:cn}{hp:aH}{nx:Nat}:aU K ⟨e,hp,nx⟩ ⟨Dz e,Dy hp,nx⟩:=fun m β _ _ r=>⟨m,β,r.congr (Cx e) (zX hp) rfl⟩
def Be:Value->Value->Option Bool
 | .int k a,.int k' b=>(match decide (k=k') with|true=>some (decide (a=b))|false=>none)
 | .string a,.string b=>some (lz a==lz b)
 |_,_=>none
theorem Eb{a b:ByteArray}(h:lz a=lz b):a=b:=by
 exact Value.string.inj ((gy a).symm.trans ((congrArg str h).trans (gy b)))
theorem yb{x y:Value}{b:Bool}(h:Be x y=some b):(x=y<->b=true):=by
 unfold Be at h;split at h
 ·grind
 ·simp at h;subst h;constructor
  ·grind
  ·intro e;exact congrArg Value.string (Eb (by grind))
 grind
def x1(x:Value):List (Value×V)->Option (Option V)
 |[]=>some none
 |(k,v)::es=>match Be k x with|some b=>(match b with|true=>some (some v)|false=>x1 x es)|none=>none
theorem su{x:Value}:∀{es:List (Value×V)} {r:Option V},x1 x es=some r->iO x es r
 |[],r,h=>by simp[x1] at h;subst h;exact .nil
 |(k,v)::es,r,h=>by
  simp only[x1] at h;split at h
  ·rename_i b hb;have hb:=yb hb;split at h
   ·simp at h;subst h;rw[hb.2 rfl];exact .here
   ·exact .there (fun e=>by simpa using hb.1 e) (su h)
  ·simp at h
def xM(x:Value)(v:V):List (Value×V)->Option (List (Value×V))
 |[]=>some [(x,v)]
 |(k,v')::es=>match Be k x with
  |some b=>(match b with|true=>some ((x,v)::es)|false=>(match xM x v es with|some r=>some ((k,v')::r)|none=>none))
  |none=>none
theorem xL{x:Value}{v:V}:∀{es r:List (Value×V)},xM x v es=some r->jr x v es r
 |[],r,h=>by simp[xM] at h;subst h;exact .nil
 |(k,v')::es,r,h=>by
  simp only[xM] at h;split at h
  ·rename_i b hb;have hb:=yb hb;split at h
   ·simp at h;subst h;rw[hb.2 rfl];exact .here
   ·split at h
    ·rename_i q hq;simp at h;subst h;exact .there (fun e=>by simpa using hb.1 e) (xL hq)
    ·simp at h
  ·simp at h
structure MT where
 T:Nat
 k:Nat
 e:Nat
 txt:Bool
 ik:IntKind
 z:V
def HZ(txt:Bool)(ik:IntKind):Value->Prop:=fun v=>match txt with|true=>np v|false=>Nc ik v
structure JQ(P:Program)(p:MT):Prop where
 h1:eH P p.T p.k p.e=true
 h2:jV P p.k (HZ p.txt p.ik)
 h3:∃zv,(P.info? p.e).bind (·.zero)=some zv/\∀m,bX m p.z zv
def tm(P:Program)(l:List MT):Prop:=∀p,p∈l->JQ P p
def Mu:List MT->Nat->Option MT
 |[],_=>none
 |p::l,T=>bif Nat.beq p.T T then some p else Mu l T
theorem zJ{P:Program}:∀{l:List MT} {T:Nat} {p:MT},tm P l->Mu l T=some p->JQ P p/\p.T=T
 |q::l,T,p,hl,h=>by
  simp only[Mu] at h;cases hb:Nat.beq q.T T with
  |true=>rw[hb] at h;simp at h;subst h;exact⟨hl _ cb9,cg9 hb⟩
  |false=>rw[hb] at h;simp at h;exact zJ (fun p hp=>hl p (bu8 _ hp)) h
 |[],T,p,hl,h=>by simp[Mu] at h
def uS(txt:Bool)(ik:IntKind):Value->Bool
 | .string _=>txt
 | .int k _=>(match txt with|true=>false|false=>decide (k=ik))
 |_=>false
theorem oP{txt:Bool}{ik:IntKind}{v:Value}(h:uS txt ik v=true):HZ txt ik v:=by
 unfold uS at h;unfold HZ;split at h
 ·subst h;exact⟨_,Y⟩
 ·split at h
  ·simp at h
  ·have h:=of_decide_eq_true h;subst h;exact⟨_,Y⟩
 grind
def Gn(txt:Bool)(ik:IntKind):List (Value×V)->Bool
 |[]=>true
 |p::l=>bif uS txt ik p.1 then Gn txt ik l else false
theorem rx{txt:Bool}{ik:IntKind}:∀{l:List (Value×V)},Gn txt ik l=true->∀p,p∈l->HZ txt ik p.1
 |[],_,p,hp=>by simp at hp
 |q::l,h,p,hp=>by
  simp only[Gn] at h;cases hb:uS txt ik q.1 with
  |true=>
   rw[hb] at h;simp at h;rcases aq8.1 hp with rfl|hp
   ·exact oP hb
   ·exact rx h p hp
  |false=>rw[hb] at h;simp at h
def Am(e:cn)(d:Nat):Option Operand->Option Nat
 |none=>some d
 |some y=>(match el e y with|some (.con (.int _ n))=>(match n with | .ofNat j=>some j|_=>none)|_=>none)
theorem o7{e:cn}(ha:Ag e S){d j:Nat}{x:Option Operand}(h:Am e d x=some j):qs K S x d j:=by
 unfold Am at h;split at h
 ·grind
 ·split at h
  ·rename_i hv;split at h<;>grind [aS]
  grind
def KP:List (List V)->Bool
 |[]=>true
 |r::l=>bif vX r then KP l else false
theorem sj:∀{l:List (List V)},KP l=true->∀row,row∈l->vX row=true
 |[],_,r,hr=>by simp at hr
 |q::l,h,r,hr=>by
  simp only[KP] at h;cases hb:vX q with
  |true=>
   rw[hb] at h;simp at h;rcases aq8.1 hr with rfl|hr
   ·exact hb
   ·exact sj h r hr
  |false=>rw[hb] at h;simp at h
def rowsK(k:Nat):List (List V)->Bool
 |[]=>true
 |r::l=>bif fT k r then rowsK k l else false
theorem rU{k:Nat}:∀{l:List (List V)},rowsK k l=true->∀row,row∈l->row.length=k
 |[],_,r,hr=>by simp at hr
 |q::l,h,r,hr=>by
  simp only[rowsK] at h;cases hb:fT k q with
  |true=>
   rw[hb] at h;simp at h;rcases aq8.1 hr with rfl|hr
   ·exact ek hb
   ·exact rU h r hr
  |false=>rw[hb] at h;simp at h
def wy(k:Nat):Nat->List V->List (List V)
 |0,_=>[]
 |n+1,l=>l.take k::wy k n (l.drop k)
theorem pP{k:Nat}:∀(n:Nat) (l:List V),l.length=n*k->oT (wy k n l)=l
 |0,l,h=>by simp at h;subst h;rfl
 |n+1,l,h=>by
  simp only[wy,oT];rw[pP n _ (by rw[am9,h,Nat.succ_mul];omega),cf9]
theorem s4{k:Nat}:∀(n:Nat) (l:List V),(wy k n l).length=n
 |0,l=>rfl
 |n+1,l=>by simp[wy,s4 n]
def Kz(t:TT)(e:cn)(hp:aH):Op->Option (Nat×Ob)
 | .store T x y=>(match dw t T TF.qS with
  |some n=>(match el e x with
   |some (.ptr id k i off)=>(match pL hp id with
    |some (.arr ty k2 rows)=>(match Nat.beq k k2,lJ rows i with
     |true,some row=>(match el e y with
      |some v=>(match J2 v with
       |some cs=>(match fT n cs&&yP cs&&Nat.ble (off+n) row.length with
        |true=>some (id,.arr ty k (rows.set i (row.take off++cs++row.drop (off+n))))
        |false=>none)
       |none=>none)
      |none=>none)
     |_,_=>none)
    |_=>none)
   |_=>none)
  |none=>none)
 |_=>none
theorem Hu{op:Op}{ty:TypeId}{pos:String}{after:Array Edge}{g:Option (Nat×Bool)}(ht:cQ K.P t){e:cn}{hp:aH}(ha:Ag e S)(hh:G4 hp S){id:Nat}{ob:Ob}(h:Kz t e hp op=some (id,ob))(hw:aN ops S ⟨none,op,ty,pos,after,g⟩ true)
  (k:az K ops rest Q ⟨S.env,(id,ob)::S.hp,S.nx⟩):az K ops (⟨none,op,ty,pos,after,g⟩::rest) Q S:=by
 unfold Kz at h;split at h
 ·split at h
  ·rename_i n hn;split at h
   ·rename_i hx;split at h
    ·rename_i ho;split at h
     ·rename_i row hk hr;have hk:=cg9 hk;subst hk;split at h
      ·rename_i v hy;split at h
       ·rename_i cs hc;split at h
        ·rename_i hb;simp only[ap9] at hb;have hl:=ek hb.1.1;subst hl;simp at h;obtain⟨rfl,rfl⟩:=h;exact f0 cs _ (Lq ht hn) hw (aS ha hx) (aS ha hy) (rH hc) (mY hb.1.2) (hh _ _ ho) (eK hr) hb.2 (by simp) k
        grind
       grind
      grind
     grind
    grind
   grind
  grind
 grind
def m7(t:TT)(mt:List MT)(e:cn)(hp:aH)(nx:Nat):Op->Option (V×aH×Nat)
 | .indexAddr T x y=>(match dw t T TF.qSl with
  |some k=>(match el e x with
   |some (.own id len)=>(match el e y with
    |some (.con (.int _ n))=>(match n with
     | .ofNat j=>(match Nat.blt j len with|true=>some (.ptr id k j 0,[],0)|false=>none)
     |_=>none)
    |_=>none)
   |_=>none)
  |none=>none)
 | .build T parts=>(match dw t T TF.qArr with
  |some (_,k)=>(match dw t T TF.qZ with
   |some (_,zs)=>(match JK e parts.toList with
    |some ps=>(match i5 (fun i=>some (i*k,k)) (zs.map .con) ps with|some cs=>some (.agg cs,[],0)|none=>none)
    |none=>none)
   |none=>none)
  |none=>none)
 | .index T x y=>(match el e x with
  |some (.agg cs)=>(match el e y with
   |some (.con (.int _ n))=>(match n with
    | .ofNat j=>(match dw t T TF.qAA with
     |some (n,k,_)=>(match Nat.blt j n&&fT (n*k) cs with|true=>some (.agg ((cs.drop (j*k)).take k),[],0)|false=>none)
     |none=>(match dw t T TF.qAC with
      |some (n,_)=>(match Nat.blt j n,lJ cs j with|true,some c=>some (c,[],0)|_,_=>none)
      |none=>none))
    |_=>none)
   |_=>none)
  |_=>(match dw t T TF.qStr with
  |some _=>(match el e x with
   |some (.con (.string b))=>(match el e y with
    |some (.con (.int _ n))=>(match n with
     | .ofNat j=>(match lJ (lz b) j with|some c=>some (.con (.int .u8 c.toNat),[],0)|none=>none)
     |_=>none)
    |_=>none)
   |_=>none)
  |none=>none))
 | .slice T x lo hi mx=>(match mx with
  |some _=>none
  |none=>(match el e x with
   |some (.con (.string b))=>(match dw t T TF.qStr with
    |some _=>(match Am e 0 lo with
     |some a0=>(match Am e (lz b).length hi with
      |some b0=>(match Nat.ble a0 b0&&Nat.ble b0 (lz b).length with|true=>some (.con (str (((lz b).drop a0).take (b0 - a0))),[],0)|false=>none)
      |none=>none)
     |none=>none)
    |none=>none)
   |some (.own id n)=>(match dw t T TF.qSl with
    |some k=>(match pL hp id with
     |some (.arr ety k2 rows)=>(match Nat.beq k k2&&Nat.beq n rows.length&&KP rows with
      |true=>(match lo with
       |none=>(match Am e n hi with
        |some b0=>(match Nat.ble b0 n with|true=>some (.own id b0,[],0)|false=>none)
        |none=>none)
       |some _=>(match Am e 0 lo with
        |some a0=>(match Am e n hi with
         |some b0=>(match Nat.ble a0 b0&&Nat.ble b0 n with|true=>some (.own nx (b0 - a0),[(nx,.arr ety k (rows.drop a0)),(id,.dead)],1)|false=>none)
         |none=>none)
        |none=>none))
      |false=>none)
     |_=>none)
    |none=>none)
   |_=>none))
 | .binOp bop T x y T'=>(match el e x,el e y with
  |some (.con (.string a)),some (.con (.string b))=>(match F7 bop (lz a) (lz b) with|some v=>some (.con v,[],0)|none=>none)
  |some v,some (.con (.slice none 0 0))=>(match dw t T TF.qSn,v with
   |some _,.own _ n=>(match n with
    |0=>none
    |_+1=>(match bop with | .eql=>some (.con (.bool false),[],0) | .neq=>some (.con (.bool true),[],0)|_=>none))
   |_,_=>none)
  |some v,some (.con (.map none))=>(match dw t T TF.qMn,zM v with
   |some _,some b=>(match bop with | .eql=>some (.con (.bool b),[],0) | .neq=>some (.con (.bool (!b)),[],0)|_=>none)
   |_,_=>none)
  |_,_=>none)
 | .makeFunc fn first caps=>(match fn,first.toList,caps.toList with
  | .method name,[x],[]=>(match el e x with|some (.con (.iface T v))=>some (.con (.func (.method name) #[.iface T v] #[]),[],0)|_=>none)
  |_,_,_=>none)
 | .nilCheck x=>(match el e x with
  |some (.con (.func (.method name) first caps))=>(match first.toList,caps.toList with
   |[.iface T v],[]=>(match dw t T (TF.qM name) with|some _=>some (.con (.func (.method name) #[.iface T v] #[]),[],0)|none=>none)
   |_,_=>none)
  |_=>none)
 | .makeInterface T x=>(match dw t T TF.qCn with
  |some _=>(match el e x with
   |some v=>(match yz 8 v with|some c=>some (.con (.iface T c),[],0)|none=>none)
   |none=>none)
  |none=>none)
 | .buildSlice T n parts=>(match dw t T TF.qEl with
  |some (ety,k,_)=>(match n with
   |0=>(match parts.toList with|[]=>some (.own nx 0,[(nx,.arr ety k [])],1)|_=>none)
   |n'+1=>(match dw t ety TF.qZ with
    |some (_,zs)=>(match JK e parts.toList with
     |some ps=>(match i5 (fun i=>some (i*k,k)) (((List.range ((n'+1)*k)).map fun i=>zs.getD (i % k) undef).map .con) ps with
      |some cs=>(match Nat.beq cs.length ((n'+1)*k)&&rowsK k (wy k (n'+1) cs)&&Nat.blt 0 k&&Nat.ble ((n'+1)*k) 16777216 with
       |true=>some (.own nx (n'+1),[(nx,.arr ety k (wy k (n'+1) cs))],1)
       |false=>none)
      |none=>none)
     |none=>none)
    |none=>none))
  |none=>none)
 | .makeSlice T x y=>(match dw t T TF.qEl with
  |some (ety,k,bytes)=>(match dw t ety TF.qZ with
   |some (_,zs)=>(match x,y with
    | .tmp a,.tmp b=>(match Nat.beq a b,el e x with
     |true,some (.con (.int .i64 n))=>(match n with
      | .ofNat j=>(match Nat.ble (bytes*j) 140737488355328&&Nat.ble j 140737488355328&&Nat.blt 0 k with
       |true=>some (.own nx j,[(nx,.arr ety k (List.replicate j (zs.map .con)))],1)
       |false=>none)
      |_=>none)
     |_,_=>none)
    |_,_=>none)
   |none=>none)
  |none=>none)
 | .lookup T x y ok=>(match Mu mt T with
  |some p=>(match el e x with
   |some (.map id)=>(match pL hp id with
    |some (.map es)=>(match el e y with
     |some (.con kv)=>(match uS p.txt p.ik kv&&Gn p.txt p.ik es with
      |true=>(match x1 kv es with
       |some r=>(match (r.getD p.z).deep with
        |false=>(match ok with
         |true=>some (.tup [r.getD p.z,.con (.bool r.isSome)],[],0)
         |false=>some (r.getD p.z,[],0))
        |true=>none)
       |none=>none)
      |false=>none)
     |_=>none)
    |_=>none)
   |_=>none)
  |none=>none)
 | .call c=>(match c.callee,c.args.toList,c.argTypes.toList with
  | .builtin .append,[x,y],[T,T']=>(match dw t T TF.qEl,dw t T' TF.qSn with
   |some (ety,k,bytes),some _=>(match Nat.blt 0 bytes&&Nat.blt 0 k with
    |true=>(match el e x with
     |some (.own id n)=>(match pL hp id with
      |some (.arr e2 k2 rows)=>(match Nat.beq ety e2&&Nat.beq k k2&&Nat.beq rows.length n with
       |true=>(match el e y with
        |some (.own id2 n2)=>(match pL hp id2 with
         |some (.arr _ k3 rows2)=>(match Nat.beq k3 k&&Nat.beq rows2.length n2&&KP rows2&&Nat.ble ((n+n2)*bytes) 140737488355328 with
          |true=>some (.own nx (n+n2),[(nx,.arr ety k (rows++rows2)),(id,.dead)],1)
          |false=>none)
         |_=>none)
        |some (.con (.slice none 0 0))=>(match Nat.ble (n*bytes) 140737488355328 with
         |true=>some (.own nx n,[(nx,.arr ety k rows),(id,.dead)],1)
         |false=>none)
        |_=>none)
       |false=>none)
      |_=>none)
     |_=>none)
    |false=>none)
   |_,_=>none)
  |_,_,_=>none)
 |_=>none
theorem rP{α:Type}{a:Array α}{l:List α}(h:a.toList=l):a=l.toArray:=by grind
section
variable{op:Op}{ty:TypeId}{pos:String}{after:Array Edge}{g:Option (Nat×Bool)}
theorem AY(ht:cQ K.P t){mt:List MT}(hmt:tm K.P mt){d:Nat}{e:cn}{hp u:aH}{nx q:Nat}{v:V}(ha:Ag e S)(hh:G4 hp S)(hnx:S.nx=nx)(h:m7 t mt e hp nx op=some (v,u,q))(hw:aN ops S ⟨some d,op,ty,pos,after,g⟩ true)(hN:Nat.blt d K.N=true)
  (k:az K ops rest Q ⟨(d,v)::S.env,u++S.hp,S.nx+q⟩):az K ops (⟨some d,op,ty,pos,after,g⟩::rest) Q S:=by
 subst hnx;cases op with
 |indexAddr T x y=>
  simp only[m7] at h;split at h
  ·rename_i kk hk;split at h
   ·rename_i hx;split at h
    ·rename_i hy;split at h
     ·rename_i j;split at h
      ·rename_i hb;simp only[av8,Prod.mk.injEq] at h;obtain⟨rfl,rfl,rfl⟩:=h;exact l0 (yF ht hk) hw (aS ha hx) (aS ha hy) (Int.natCast_nonneg j) (aw9 hb) hN k
      grind
     grind
    grind
   grind
  grind
 |build T parts=>
  simp only[m7] at h;split at h
  ·rename_i hA;split at h
   ·rename_i hz;split at h
    ·rename_i ps hps;split at h
     ·rename_i cs hcs;obtain⟨z1,z2,z3⟩:=wD ht hz;simp only[av8,Prod.mk.injEq] at h;obtain⟨rfl,rfl,rfl⟩:=h;exact mc ps cs z1 (Gf ht hA) z3 hw (sS ha hps) hcs hN k
     grind
    grind
   grind
  grind
 |index T x y=>
  simp only[m7] at h;split at h
  ·rename_i cs hx;split at h
   ·rename_i hy;split at h
    ·rename_i j;split at h
     ·rename_i n kk _ hT;split at h
      ·rename_i hb;simp only[ap9] at hb;simp only[av8,Prod.mk.injEq] at h;obtain⟨rfl,rfl,rfl⟩:=h;exact mb _ (NK ht hT) hw (aS ha hx) (aS ha hy) ⟨Int.natCast_nonneg j,aw9 hb.1⟩ (ek hb.2) Y hN k
      grind
     ·split at h
      ·rename_i hT;split at h
       ·rename_i c hb hc;simp only[av8,Prod.mk.injEq] at h;obtain⟨rfl,rfl,rfl⟩:=h;exact wM c (NJ ht hT) hw (aS ha hx) (aS ha hy) ⟨Int.natCast_nonneg j,aw9 hb⟩ (eK hc) hN k
       grind
      grind
    grind
   grind
  ·split at h
   ·rename_i hk;split at h
    ·rename_i b hx;split at h
     ·rename_i hy;split at h
      ·rename_i j;split at h
       ·rename_i c hc;simp only[av8,Prod.mk.injEq] at h;obtain⟨rfl,rfl,rfl⟩:=h;exact qk (l:=lz b) c (wF ht hk) hw (by rw[aS ha hx,gy]) (aS ha hy) (Int.natCast_nonneg j) (eK hc) hN k
       grind
      grind
     grind
    grind
   grind
 |slice T x lo hi mx=>
  simp only[m7] at h;split at h
  ·simp at h
  ·split at h
   ·rename_i b hx;split at h
    ·rename_i hk;split at h
     ·rename_i a0 h0;split at h
      ·rename_i b0 h1;split at h
       ·rename_i hb;simp only[ap9] at hb;simp only[av8,Prod.mk.injEq] at h;obtain⟨rfl,rfl,rfl⟩:=h;have e0:=o7 (K:=K) ha h0;have e1:=o7 (K:=K) ha h1;exact lX (l:=lz b) a0 b0 _ (wF ht hk) hw (by rw[aS ha hx,gy]) (by grind) (by grind) (aw9 hb.1) (aw9 hb.2) Y hN k
       grind
      grind
     grind
    grind
   ·rename_i id n hx;split at h
    ·rename_i kk hk;split at h
     ·rename_i ety k2 rows ho;split at h
      ·rename_i hb;simp only[ap9] at hb;have e1:=cg9 hb.1.1;have e2:=cg9 hb.1.2;subst e1;split at h
       ·split at h
        ·rename_i b0 h1;split at h
         ·rename_i hb2;simp only[av8,Prod.mk.injEq] at h;obtain⟨rfl,rfl,rfl⟩:=h;exact pT (yF ht hk) hw (aS ha hx) (hh _ _ ho) (Nat.le_of_eq e2) (o7 ha h1) (aw9 hb2) hN k
         grind
        grind
       ·split at h
        ·rename_i a0 h0;split at h
         ·rename_i b0 h1;split at h
          ·rename_i hb2;simp only[ap9] at hb2;simp only[av8,Prod.mk.injEq] at h;obtain⟨rfl,rfl,rfl⟩:=h;exact lW a0 b0 _ (yF ht hk) hw (aS ha hx) (hh _ _ ho) e2 Y (o7 ha h0) (o7 ha h1) (aw9 hb2.1) (aw9 hb2.2) Y (sj hb.2) hN k
          grind
         grind
        grind
      grind
     grind
    grind
   grind
 |binOp bop T x y T'=>
  simp only[m7] at h;split at h
  ·rename_i a b hx hy;split at h
   ·rename_i v hv;simp only[av8,Prod.mk.injEq] at h;obtain⟨rfl,rfl,rfl⟩:=h;exact mX v hw (by rw[aS ha hx,gy]) (by rw[aS ha hy,gy]) hv hN k
   grind
  ·rename_i v _ hx hy;split at h
   ·rename_i id n hk;split at h
    ·simp at h
    ·split at h
     ·simp only[av8,Prod.mk.injEq] at h;obtain⟨rfl,rfl,rfl⟩:=h;exact nT false (jS ht hk) hw (aS ha hx) (aS ha hy) Y hN (fun b hb=>by rw[hb (Nat.succ_ne_zero _)];exact k)
     ·simp only[av8,Prod.mk.injEq] at h;obtain⟨rfl,rfl,rfl⟩:=h;exact nT true (jS ht hk) hw (aS ha hx) (aS ha hy) Y hN (fun b hb=>by rw[hb (Nat.succ_ne_zero _)];exact k)
     grind
   grind
  ·rename_i v _ hx hy;split at h
   ·rename_i b hk hb;split at h
    ·simp only[av8,Prod.mk.injEq] at h;obtain⟨rfl,rfl,rfl⟩:=h;exact qm false (JM ht hk) hw (aS ha hx) hb (aS ha hy) hN k
    ·simp only[av8,Prod.mk.injEq] at h;obtain⟨rfl,rfl,rfl⟩:=h;exact qm true (JM ht hk) hw (aS ha hx) hb (aS ha hy) hN k
    grind
   grind
  grind
 |makeFunc fn first caps=>
  simp only[m7] at h;split at h
  ·rename_i name x hf1 hc1;have hf1:=eZ hf1;have hc1:=iu hc1;subst hf1 hc1;split at h
   ·rename_i hx;simp only[av8,Prod.mk.injEq] at h;obtain⟨rfl,rfl,rfl⟩:=h;exact yG hw (aS ha hx) hN k
   grind
  grind
 |nilCheck x=>
  simp only[m7] at h;split at h
  ·rename_i name first caps hx
   split at h
   ·rename_i T v hf1 hc1;have hf1:=eZ hf1;have hc1:=iu hc1;subst hf1 hc1;split at h
    ·rename_i hm;simp only[av8,Prod.mk.injEq] at h;obtain⟨rfl,rfl,rfl⟩:=h;exact wH (Lr ht hm).2 hw (aS ha hx) hN k
    grind
   grind
  grind
 |makeInterface T x=>
  simp only[m7] at h;split at h
  ·rename_i hk;split at h
   ·rename_i hx;split at h
    ·rename_i hc;simp only[av8,Prod.mk.injEq] at h;obtain⟨rfl,rfl,rfl⟩:=h;exact wI (NH ht hk) hw (aS ha hx) hc hN k
    grind
   grind
  grind
 |buildSlice T n parts=>
  simp only[m7] at h;split at h
  ·rename_i ety kk bytes hT;split at h
   ·split at h
    ·rename_i hp0;have:=rP hp0;subst this;simp only[av8,Prod.mk.injEq] at h;obtain⟨rfl,rfl,rfl⟩:=h;exact kY (kX ht hT) hw hN k
    grind
   ·rename_i n';split at h
    ·rename_i zs hz;split at h
     ·rename_i ps hps;split at h
      ·rename_i cs hcs;split at h
       ·rename_i hb;simp only[ap9] at hb;have e1:=cg9 hb.1.1.1;obtain⟨z1,z2,z3⟩:=wD ht hz;simp only[av8,Prod.mk.injEq] at h;obtain⟨rfl,rfl,rfl⟩:=h;exact ax ps _ (kX ht hT) z1 z3 hb.1.2 Y hb.2 hw (sS ha hps) (by simp_all[pP]) (s4 _ _) (rU hb.1.1.2) hN k
       grind
      grind
     grind
    grind
  grind
 |makeSlice T x y=>
  simp only[m7] at h;split at h
  ·rename_i ety kk bytes hT;split at h
   ·rename_i zs hz;split at h
    ·rename_i a b;split at h
     ·rename_i n hab hx;have hab:=cg9 hab;subst hab;split at h
      ·rename_i j;split at h
       ·rename_i hb;simp only[ap9] at hb;obtain⟨z1,z2,z3⟩:=wD ht hz;simp only[av8,Prod.mk.injEq] at h;obtain⟨rfl,rfl,rfl⟩:=h;have b1:=aw9 hb.1.1;have b2:=aw9 hb.1.2;have c1:((bytes*j:Nat):Int)<=((140737488355328:Nat):Int):=Int.ofNat_le.2 b1;have c2:((j:Nat):Int)<=((140737488355328:Nat):Int):=Int.ofNat_le.2 b2;rw[Int.natCast_mul] at c1;exact iE _ (kX ht hT) z1 z3 hb.2 ⟨Int.natCast_nonneg j,c1,c2⟩ Y Y hw (aS ha hx) hN k
       grind
      grind
     grind
    grind
   grind
  grind
 |lookup T x y ok=>
  simp only[m7] at h;split at h
  ·rename_i p hp0;obtain⟨hm,hTe⟩:=zJ hmt hp0;subst hTe;obtain⟨zv,hz1,hz2⟩:=hm.h3;split at h
   ·rename_i id hx;split at h
    ·rename_i es ho;split at h
     ·rename_i kv hy;split at h
      ·rename_i hb;simp only[ap9] at hb;split at h
       ·rename_i r hr;split at h
        ·rename_i hdp;split at h
         ·simp only[av8,Prod.mk.injEq] at h;obtain⟨rfl,rfl,rfl⟩:=h;exact qN r p.z _ hm.h1 hm.h2 hz1 hz2 hw (aS ha hx) (.own (hh _ _ ho)) (.con (aS ha hy)) (oP hb.1) (rx hb.2) (su hr) Y Y hN k hdp
         ·simp only[av8,Prod.mk.injEq] at h;obtain⟨rfl,rfl,rfl⟩:=h;exact cJ r p.z _ hm.h1 hm.h2 hz1 hz2 hw (aS ha hx) (.own (hh _ _ ho)) (.con (aS ha hy)) (oP hb.1) (rx hb.2) (su hr) Y hN k hdp
        grind
       grind
      grind
     grind
    grind
   grind
  grind
 |call c=>
  obtain⟨callee,args,at'⟩:=c;simp only[m7] at h;split at h
  ·rename_i x y T T' _ hargs hats;have hargs:=dz hargs;have hats:=dz hats;subst hargs;subst hats;split at h
   ·rename_i ety kk bytes _ hT hT';split at h
    ·rename_i hb0;simp only[ap9] at hb0;split at h
     ·rename_i id n hx;split at h
      ·rename_i rows ho;split at h
       ·rename_i hb;simp only[ap9] at hb;have e1:=cg9 hb.1.1;have e2:=cg9 hb.1.2;have e3:=cg9 hb.2;subst e1;subst e2;split at h
        ·rename_i id2 n2 hy;split at h
         ·rename_i k3 rows2 ho2;split at h
          ·rename_i hb2;simp only[ap9] at hb2;have e4:=cg9 hb2.1.1.1;have e5:=cg9 hb2.1.1.2;subst e4;simp only[av8,Prod.mk.injEq] at h;obtain⟨rfl,rfl,rfl⟩:=h
           exact md rows2 _ (kX ht hT) (jS ht hT') hb0.1 hb0.2 hw (aS ha hx) (hh _ _ ho) e3 (aS ha hy) (.own (hh _ _ ho2) e5 (fun row hr c hc=>by
            obtain⟨j,hj⟩:=ba8 hc;exact kg (sj hb2.1.2 row hr) hj)) Y (by grind) (aw9 hb2.2) hN k
          grind
         grind
        ·rename_i hy;split at h
         ·rename_i hb2;simp only[av8,Prod.mk.injEq] at h;obtain⟨rfl,rfl,rfl⟩:=h;exact md [] _ (kX ht hT) (jS ht hT') hb0.1 hb0.2 hw (aS ha hx) (hh _ _ ho) e3 (aS ha hy) .nil (aa8 _) e3 (aw9 hb2) hN k
         grind
        grind
       grind
      grind
     grind
    grind
   grind
  grind
 |_=>simp[m7] at h
end
def Pq(t:TT)(d:Nat)(e:cn)(hp:aH)(nx:Nat):Op->Option (cn×aH)
 | .call c=>(match c.callee,c.args.toList,c.argTypes.toList with
  | .builtin .append,[.tmp a,y],[T,T']=>(match pu e a with
   |some (.con (.slice none 0 0))=>(match dw t T TF.qEl,dw t T' TF.qSn with
    |some (ety,k,bytes),some _=>(match Nat.blt 0 bytes&&Nat.blt 0 k with
     |true=>(match el ((a,.own nx 0)::e) y with
      |some (.own id2 n2)=>(match pL ((nx,.arr ety k [])::hp) id2 with
       |some (.arr _ k3 rows2)=>(match Nat.beq k3 k&&Nat.beq rows2.length n2&&KP rows2&&Nat.ble (n2*bytes) 140737488355328 with
        |true=>some ([(d,.own (nx+1) n2),(a,.own nx 0)],[(nx+1,.arr ety k rows2),(nx,.dead)])
        |false=>none)
       |_=>none)
      |_=>none)
     |false=>none)
    |_,_=>none)
   |_=>none)
  |_,_,_=>none)
 |_=>none
theorem Lu{op:Op}{ty:TypeId}{pos:String}{after:Array Edge}{g:Option (Nat×Bool)}(ht:cQ K.P t){d:Nat}{e:cn}{hp:aH}{nx:Nat}{ue:cn}{uh:aH}(h:Pq t d e hp nx op=some (ue,uh))(hg:g=none)(hN:Nat.blt d K.N=true)
    (k:az K ops rest Q ⟨ue++e,uh++hp,nx+2⟩):az K ops (⟨some d,op,ty,pos,after,g⟩::rest) Q ⟨e,hp,nx⟩:=by
  subst hg;cases op<;>simp only[Pq,reduceCtorEq] at h;rename_i c;obtain⟨callee,args,at'⟩:=c;simp only at h;split at h
  · rename_i a y T T' hargs hats
    have hargs:=dz hargs;have hats:=dz hats;subst hargs;subst hats;split at h
    · rename_i hx
      split at h
      · rename_i ety kk bytes _ hT hT'
        split at h
        · rename_i hb0
          simp only[ap9] at hb0;split at h
          · rename_i id2 n2 hy
            split at h
            · rename_i k3 rows2 ho2
              split at h
              · rename_i hb2
                simp only[ap9] at hb2;have e4:=cg9 hb2.1.1.1;have e5:=cg9 hb2.1.1.2;subst e4;simp only[av8,Prod.mk.injEq] at h;obtain⟨rfl,rfl⟩:=h;refine bi (cH (S:=⟨e,hp,nx⟩) a ety k3 (dN hx)) ?_
                let S2:St:=⟨(a,.own nx 0)::e,(nx,.arr ety k3 [])::hp,nx+1⟩
                have hex:ca K S2 (.tmp a)=.own nx 0:=by show get ((a,.own nx 0)::e) a=_;rw[cL,if_pos rfl]
                have hho:ap S2.hp nx=.arr ety k3 []:=by show ap ((nx,.arr ety k3 [])::hp) nx=_;rw[aq,if_pos rfl]
                refine md (S:=S2) rows2 _ (kX ht hT) (jS ht hT') hb0.1 hb0.2 rfl hex hho rfl (aS (wT (S:=S2)) hy) (.own (fI ho2) e5 (fun row hr c hc=>by
                        obtain⟨j,hj⟩:=ba8 hc;exact kg (sj hb2.1.2 row hr) hj)) (ad8 _) e5 (aw9 hb2.2) hN ?_
                have gh:aU K ⟨(d,.own S2.nx n2)::S2.env,(S2.nx,.arr ety k3 rows2)::(nx,.dead)::S2.hp,S2.nx+1⟩ ⟨[(d,.own (nx+1) n2),(a,.own nx 0)]++e,[(nx+1,.arr ety k3 rows2),(nx,.dead)]++hp,nx+2⟩:=by
                  refine fun m β _ _ r=>⟨m,β,r.congr (fun _=>Y) (fun t=>?_) Y⟩
                  show ap ((nx+1,.arr ety k3 rows2)::(nx,.dead)::hp) t=ap ((nx+1,.arr ety k3 rows2)::(nx,.dead)::(nx,.arr ety k3 [])::hp) t
                  rw[aq,aq,aq,aq,aq];split
                  · rfl
                  · split<;>rfl
                exact bi gh k
              · simp at h
            · simp at h
          · simp at h
        · simp at h
      · simp at h
    · simp at h
  · simp at h
end
section
variable{K:de}{Q:cp}{S S':St}{ops:Array Oper}{rest:List Oper}{t:TT}
def uu:cn->cn->cn
 |[],e=>e
 |(i,o)::u,e=>rX i o (uu u e)
theorem pN:∀(u e:cn) (t:Nat),get (uu u e) t=get (u++e) t
 |[],e,t=>rfl
 |(i,o)::u,e,t=>by
  show get (rX i o (uu u e)) t=get ((i,o)::(u++e)) t
  rw[lO,cL,cL,pN u e]
def qc:aH->aH->aH
 |[],hp=>hp
 |(i,o)::u,hp=>qw i o (qc u hp)
theorem kj:∀(u hp:aH) (t:Nat),ap (qc u hp) t=ap (u++hp) t
 |[],hp,t=>rfl
 |(i,o)::u,hp,t=>by
  show ap (qw i o (qc u hp)) t=ap ((i,o)::(u++hp)) t
  rw[mT,aq,aq,kj u hp]
def pi(f:V->Bool):List V->Bool
 |[]=>true
 |x::l=>bif f x then pi f l else false
def sF:Nat->V->Bool
 |0,_=>false
 |n+1,v=>(match v with
  | .con _=>true
  | .agg cs=>pi (sF n) cs
  | .tup cs=>pi (sF n) cs
  | .fn _ a b=>pi (sF n) a&&pi (sF n) b
  |_=>false)
theorem kA{f:V->Bool}:∀{l:List V},pi f l=true->∀x,x∈l->f x=true
 |[],_,x,hx=>by simp at hx
 |y::l,h,x,hx=>by
  simp only[pi] at h;cases hb:f y with
  |true=>
   rw[hb] at h;simp at h;rcases aq8.1 hx with rfl|hx
   ·exact hb
   ·exact kA h x hx
  |false=>rw[hb] at h;simp at h
theorem ki:∀{n:Nat} {v:V},sF n v=true->∀{m:bF} {β:bd} {x:Value},bw m β v x->bX m v x
 |0,v,h=>by simp[sF] at h
 |n+1,v,h=>by
  intro hv;cases hv with
  |imm h=>exact h
  |agg hl hh=>
   simp only[sF] at h;exact .agg hl fun i c v a b=>ki (kA h c (aw8 a)) (hh i c v a b)
  |tup hl hh=>
   simp only[sF] at h;exact .tup hl fun i c v a b=>ki (kA h c (aw8 a)) (hh i c v a b)
  |fn hl hl' h1 h2=>
   simp only[sF,ap9] at h;exact .fn hl hl' (fun i c v a b=>ki (kA h.1 c (aw8 a)) (h1 i c v a b)) (fun i c v a b=>ki (kA h.2 c (aw8 a)) (h2 i c v a b))
  |_=>simp[sF] at h
def Fr(v:V):Bool:=sF 12 v
theorem xU{gl:Gl}{P:Program}{f:FuncId}{avs:List V}{v:V}{k':Nat}{hp':aH}(h:hJ gl P f avs 0 [] v k' hp')(hv:Fr v=true):dG gl P f avs v:=by
 intro m w vs himm hgl hargs
 let β:bd:=⟨fun _=>none,fun _ _=>False⟩
 refine(h m β w vs himm hgl ⟨hargs.len,fun i c v a b=>.imm (hargs.at' i c v a b)⟩ (fun id=>trivial) (fun id b cap hl=>absurd Y hl) (fun id id' b cap cap' hl=>absurd Y hl) (fun id x hl=>absurd Y hl) (fun _ _=>Y)).mono ?_
 rintro e w' ⟨x,m',β',rfl,hx,g⟩
 have hF:∀b,dp [] β b:=fun b id hl=>absurd rfl hl;exact⟨x,m',Y,ki hv hx,g.le,g.imm,fun b hb=>(g.old b hb (hF b)).1,fun b hb=>(g.old b hb (hF b)).2,g.size,g.same⟩
def O2:Op->List Operand
 | .slice _ x lo hi _=>x::(lo.toList++hi.toList)
 | .lookup _ x y _=>[x,y]
 | .mapUpdate _ x y z=>[x,y,z]
 | .insert _ x y z=>[x,y,z]
 | .buildSlice _ _ ps=>ps.toList.map (·.2)
 | .makeSlice _ x _=>[x]
 | .box _ x=>[x]
 | .makeFunc _ fs cs=>fs.toList++cs.toList
 | .makeInterface _ x=>[x]
 | .call c=>(match c.callee with | .invoke r _=>r::c.args.toList|_=>O3 (.call c))
 |op=>O3 op
def KG(ops:Array Oper)(o:Oper)(e:cn):Option cn:=match grd ops o (OA (O2 o.op)) with|some l=>Mr e l|none=>none
theorem HC{o:Oper}{e re:cn}(h:KG ops o e=some re):ti e re:=by
 grind [KG,zz]
def O8(e:cn)(hp:aH)(x:Operand)(l:aH):Option aH:=
 match el e x with
 |some (.ptr id _ _ _)=>(match pL hp id with|some ob=>some ((id,ob)::l)|none=>none)
 |some (.own id _)=>(match pL hp id with|some ob=>some ((id,ob)::l)|none=>none)
 |some (.map id)=>(match pL hp id with|some ob=>some ((id,ob)::l)|none=>none)
 |some _=>some l
 |none=>none
theorem KW{e:cn}{hp l rh:aH}{x:Operand}(hl:lp hp l)(h:O8 e hp x l=some rh):lp hp rh:=by
 unfold O8 at h;split at h
 ·split at h
  ·rename_i ho;simp at h;subst h;exact⟨fI ho,hl⟩
  grind
 ·split at h
  ·rename_i ho;simp at h;subst h;exact⟨fI ho,hl⟩
  grind
 ·split at h
  ·rename_i ho;simp at h;subst h;exact⟨fI ho,hl⟩
  grind
 ·grind
 grind
def Ni(e:cn)(hp:aH):List Operand->aH->Option aH
 |[],l=>some l
 |x::xs,l=>match O8 e hp x l with|some l=>Ni e hp xs l|none=>none
theorem Fw{e:cn}{hp rh:aH}:∀{xs:List Operand} {l:aH},lp hp l->Ni e hp xs l=some rh->lp hp rh
 |[],l,hl,h=>by simp_all[Ni]
 |x::xs,l,hl,h=>by
  simp only[Ni] at h;split at h
  ·rename_i q hq;exact Fw (KW hl hq) h
  ·simp at h
def hrO:Op->List Operand
 | .load _ x=>[x]
 | .store _ x _=>[x]
 | .lookup _ x _ _=>[x]
 | .slice _ x _ _ _=>[x]
 | .mapUpdate _ x _ _=>[x]
 | .insert _ x _ _=>[x]
 | .call c=>(match c.callee with | .builtin .append=>c.args.toList|_=>[])
 |_=>[]
def JN(t:TT)(e:cn)(id:Nat):Op->Option (V×Ob)
 | .alloc T=>(match dw t T TF.qZ with
  |some (n,zs)=>some (.ptr id n 0 0,.arr T n [zs.map .con])
  |none=>none)
 | .box T x=>(match dw t T TF.qS with
  |some n=>(match el e x with
   |some v=>(match J2 v with
    |some cs=>(match fT n cs&&yP cs with|true=>some (.ptr id n 0 0,.arr T n [cs])|false=>none)
    |none=>none)
   |none=>none)
  |none=>none)
 | .makeMap _ r=>(match r with|none=>some (.map id,.map [])|some _=>none)
 | .buildSlice T n parts=>(match dw t T TF.qEl with
  |some (ety,k,_)=>(match n with
   |0=>(match parts.toList with|[]=>some (.own id 0,.arr ety k [])|_=>none)
   |n'+1=>(match dw t ety TF.qZ with
    |some (_,zs)=>(match JK e parts.toList with
     |some ps=>(match i5 (fun i=>some (i*k,k)) (((List.range ((n'+1)*k)).map fun i=>zs.getD (i % k) undef).map .con) ps with
      |some cs=>(match Nat.beq cs.length ((n'+1)*k)&&rowsK k (wy k (n'+1) cs)&&Nat.blt 0 k&&Nat.ble ((n'+1)*k) 16777216 with
       |true=>some (.own id (n'+1),.arr ety k (wy k (n'+1) cs))
       |false=>none)
      |none=>none)
     |none=>none)
    |none=>none))
  |none=>none)
 | .makeSlice T x y=>(match dw t T TF.qEl with
  |some (ety,k,bytes)=>(match dw t ety TF.qZ with
   |some (_,zs)=>(match x,y with
    | .tmp a,.tmp b=>(match Nat.beq a b,el e x with
     |true,some (.con (.int .i64 n))=>(match n with
      | .ofNat j=>(match Nat.ble (bytes*j) 140737488355328&&Nat.ble j 140737488355328&&Nat.blt 0 k with
       |true=>some (.own id j,.arr ety k (List.replicate j (zs.map .con)))
       |false=>none)
      |_=>none)
     |_,_=>none)
    |_,_=>none)
   |none=>none)
  |none=>none)
 |_=>none
theorem Lv{op:Op}{ty:TypeId}{pos:String}{after:Array Edge}{g:Option (Nat×Bool)}(ht:cQ K.P t){d id nx:Nat}{e:cn}{v:V}{ob:Ob}(ha:Ag e S)(h:JN t e id op=some (v,ob))(hid:(Nat.blt id nx&&Nat.ble K.pins id)=true)(hnx:S.nx=nx)(hres:ap S.hp id=.res)
  (hw:aN ops S ⟨some d,op,ty,pos,after,g⟩ true) (hN:Nat.blt d K.N=true) (k:az K ops rest Q ⟨(d,v)::S.env,(id,ob)::S.hp,S.nx⟩):az K ops (⟨some d,op,ty,pos,after,g⟩::rest) Q S:=by
 cases op with
 |alloc T=>
  simp only[JN] at h;split at h
  ·rename_i n zs hz;obtain⟨z1,z2,z3⟩:=wD ht hz<;>grind [gu]
  grind
 |box T x=>
  simp only[JN] at h;split at h
  ·split at h
   ·rename_i hv;split at h
    ·rename_i cs hc;split at h
     ·rename_i hb;simp only[ap9] at hb;have hl:=ek hb.1;subst hl;simp only[av8,Prod.mk.injEq] at h;obtain⟨rfl,rfl⟩:=h;exact qn id hid hnx hres cs hw (aS ha hv) (rH hc) (mY hb.2) hN k
     grind
    grind
   grind
  grind
 |makeMap T r=>
  simp only[JN] at h
  grind [qL]
 |buildSlice T n parts=>
  simp only[JN] at h;split at h
  ·rename_i ety kk bytes hT;split at h
   ·split at h
    ·rename_i hp0;have:=rP hp0;subst this;simp only[av8,Prod.mk.injEq] at h;obtain⟨rfl,rfl⟩:=h;exact nU id hid hnx hres (kX ht hT) hw hN k
    grind
   ·rename_i n';split at h
    ·rename_i zs hz;split at h
     ·rename_i ps hps;split at h
      ·rename_i cs hcs;split at h
       ·rename_i hb;simp only[ap9] at hb;have e1:=cg9 hb.1.1.1;obtain⟨z1,z2,z3⟩:=wD ht hz;simp only[av8,Prod.mk.injEq] at h;obtain⟨rfl,rfl⟩:=h;exact nW id hid hnx hres ps _ (kX ht hT) z1 hw z3 hb.1.2 Y hb.2 (sS ha hps) (by simp_all[pP]) (s4 _ _) (rU hb.1.1.2) hN k
       grind
      grind
     grind
    grind
  grind
 |makeSlice T x y=>
  simp only[JN] at h;split at h
  ·rename_i ety kk bytes hT;split at h
   ·rename_i zs hz;split at h
    ·rename_i a b;split at h
     ·rename_i n hab hx;have hab:=cg9 hab;subst hab;split at h
      ·rename_i j;split at h
       ·rename_i hb;simp only[ap9] at hb;obtain⟨z1,z2,z3⟩:=wD ht hz;simp only[av8,Prod.mk.injEq] at h;obtain⟨rfl,rfl⟩:=h;have b1:=aw9 hb.1.1;have b2:=aw9 hb.1.2;have c1:((bytes*j:Nat):Int)<=((140737488355328:Nat):Int):=Int.ofNat_le.2 b1;have c2:((j:Nat):Int)<=((140737488355328:Nat):Int):=Int.ofNat_le.2 b2;rw[Int.natCast_mul] at c1;exact pb id hid hnx hres _ (kX ht hT) z1 z3 hb.2 ⟨Int.natCast_nonneg j,c1,c2⟩ Y Y hw (aS ha hx) hN k
       grind
      grind
     grind
    grind
   grind
  grind
 |_=>simp[JN] at h
def Ow(mt:List MT)(e:cn)(hp:aH)(T:TypeId)(x y z:Operand):Option (Nat×Ob):=
 match Mu mt T with
 |some p=>(match el e x with
  |some (.map id)=>(match pL hp id with
   |some (.map es)=>(match el e y with
    |some (.con kv)=>(match uS p.txt p.ik kv&&Gn p.txt p.ik es with
     |true=>(match el e z with
      |some v=>(match xM kv v es with|some es'=>some (id,.map es')|none=>none)
      |none=>none)
     |false=>none)
    |_=>none)
   |_=>none)
  |_=>none)
 |none=>none
theorem De{op:Op}{T:TypeId}{x y z:Operand}(hop:op=.mapUpdate T x y z\/op=.insert T x y z){ty:TypeId}{pos:String}{after:Array Edge}{g:Option (Nat×Bool)}{mt:List MT}(hmt:tm K.P mt){e:cn}{hp:aH}{id:Nat}{ob:Ob}(ha:Ag e S)(hh:G4 hp S)(h:Ow mt e hp T x y z=some (id,ob))(hw:aN ops S ⟨none,op,ty,pos,after,g⟩ true)
  (k:az K ops rest Q ⟨S.env,(id,ob)::S.hp,S.nx⟩):az K ops (⟨none,op,ty,pos,after,g⟩::rest) Q S:=by
 unfold Ow at h;split at h
 ·rename_i p hp0;obtain⟨hm,hTe⟩:=zJ hmt hp0;subst hTe;split at h
  ·rename_i id hx;split at h
   ·rename_i es ho;split at h
    ·rename_i kv hy;split at h
     ·rename_i hb;simp only[ap9] at hb;split at h
      ·rename_i v hz;split at h
       ·rename_i es' hp';simp only[av8,Prod.mk.injEq] at h;obtain⟨rfl,rfl⟩:=h;exact qj hop es' hm.h1 hm.h2 hw (aS ha hx) (hh _ _ ho) (.con (aS ha hy)) (oP hb.1) (rx hb.2) (aS ha hz) (xL hp') k
       grind
      grind
     grind
    grind
   grind
  grind
 grind
def Ov(t:TT)(mt:List MT)(e:cn)(hp:aH)(op:Op):Option (Nat×Ob):=
 match op with
 | .mapUpdate T x y z=>Ow mt e hp T x y z
 | .insert T x y z=>Ow mt e hp T x y z
 |op=>Kz t e hp op
theorem Dd{op:Op}{ty:TypeId}{pos:String}{after:Array Edge}{g:Option (Nat×Bool)}(ht:cQ K.P t){mt:List MT}(hmt:tm K.P mt){e:cn}{hp:aH}{id:Nat}{ob:Ob}(ha:Ag e S)(hh:G4 hp S)(h:Ov t mt e hp op=some (id,ob))(hw:aN ops S ⟨none,op,ty,pos,after,g⟩ true)
  (k:az K ops rest Q ⟨S.env,(id,ob)::S.hp,S.nx⟩):az K ops (⟨none,op,ty,pos,after,g⟩::rest) Q S:=by
 unfold Ov at h;split at h
 ·grind [De]
 ·exact De (.inr Y) hmt ha hh h hw k
 grind [Hu]
theorem F1{e:cn}(ha:Ag e S){o:Oper}{f:Nat}{avs:List V}(h:Ll e o.op=some (f,avs))(hf:cI K.P f=true):
  ∀m β w a,bY K m β w a S->∃vs:Array Value,(execOp a.eval o).run K.P w=.ok (.enter f vs) w/\kZ m β avs vs:=by
 obtain⟨dst,op,ty',pos,after,g⟩:=o;cases op<;>simp_all[Ll];rename_i c;obtain⟨callee,args,at'⟩:=c;simp only at h;split at h
 ·rename_i x;split at h
  ·rename_i first caps hx
   split at h
   ·split at h
    ·rename_i vs hv;split at h
     ·rename_i q hq;simp only[av8,Prod.mk.injEq] at h;obtain⟨rfl,rfl⟩:=h;have hq:=jl hq;have hv:=sT (K:=K) ha hv;exact sn hf (aS ha hx) (by grind)
     grind
    grind
   grind
  grind
 grind
def NC(t:TT)(e:cn)(op:Op):Option (Nat×List V):=match Ll e op with|some r=>some r|none=>Ph t e op
theorem oZ(ht:cQ K.P t){e:cn}(ha:Ag e S){o:Oper}{f:Nat}{avs:List V}(h:NC t e o.op=some (f,avs))(hf:cI K.P f=true):
  ∀m β w a,bY K m β w a S->∃vs:Array Value,(execOp a.eval o).run K.P w=.ok (.enter f vs) w/\kZ m β avs vs:=by
 grind [NC,F1,FZ]
end
end Go.Pv
