/- Part of the proof. -/
import Derived.Test.YtelmfadihfcgnaaGreatDoorHD8QG
set_option linter.unusedSimpArgs false
set_option linter.unusedVariables false
namespace Go.Proofs.YtelmfadihfcgnaaGreatDoor
open Go Go.Pv
set_option maxRecDepth 1000000
theorem Hd(F:Nat)(l:List bb)(h:l.length<=10000000):MP F l=some l:=by
 unfold MP;refine CI ?_ fun h0=>?_
 ·grind
 grind
theorem oi(F:Nat)(s:ae)(hF:s.is.length+200<=F)(ha:s.is.length<=1000000)(k:List bb->Option (List bb)):∀(l l15:List bb),(∀p,p∈l->qf p)->l15.length+l.length<=10000000->
  ∃fs,il F s k l l15=k (l15++fs)/\fs.length<=l.length/\(∀p,p∈l->(∃t,dT s.is s.begins p t/\t∈fs)\/∀t,¬dT s.is s.begins p t)/\∀x,x∈fs->∃p,dT s.is s.begins p x
 |[],l15,_,_=>⟨[],by rw[il];simp,ae9 _,by simp,by simp⟩
 |p::l,l15,h,hl=>by
  simp only[bx9] at hl;rw[il];rcases Jl F p s.begins s.is hF ha (h p (by simp)) with ⟨t,e,hf⟩|⟨e,hf⟩
  ·obtain⟨fs,g1,g2,g3,g4⟩:=oi F s hF ha k l (l15++[t]) (fun q hq=>h q (by simp[hq])) (by simp;omega);refine⟨t::fs,?_,by simp;omega,fun q hq=>?_,fun x hx=>?_⟩
   ·rw[e,by8,aH]
    grind
   ·grind
   grind
  ·obtain⟨fs,g1,g2,g3,g4⟩:=oi F s hF ha k l l15 (fun q hq=>h q (by simp[hq])) (by omega);refine⟨fs,?_,by simp;omega,fun q hq=>?_,g4⟩
   ·simp_all[aH]
   grind
structure G3(is bg out:List bb):Prop where
 hi:∀e,e∈is->e∈out
 hb:∀p,(p∈bg\/p=[])->(∃t,dT is bg p t/\t∈out)\/∀t,¬dT is bg p t
 ok:∀x,x∈out->x∈is\/qf x
theorem Ju(F:Nat)(s:ae)(hF:s.is.length+200<=F)(ha:s.is.length<=1000000)(hb:s.begins.length<=1000000)(h:∀b,b∈s.begins->qf b):
  ∃out,q9 F s=some out/\out.length<=s.is.length+s.begins.length+1/\G3 s.is s.begins out:=by
 have h0:qf []:=⟨by simp,by simp⟩
 have main:∀l:List bb,(∀p,p∈l<->p∈s.begins\/p=[])->l.length<=s.begins.length+1->
   ∃out,(il F s (fun l11=>(Dw F l11).bind fun y26=>if y26.length=l11.length then (Ds F y26).bind fun y29=>some y29 else none) l s.is)=some out/\out.length<=s.is.length+s.begins.length+1/\G3 s.is s.begins out:=by
  intro l hm hll;obtain⟨fs,g1,g2,g3,g4⟩:=oi F s hF ha (fun l11=>(Dw F l11).bind fun y26=>if y26.length=l11.length then (Ds F y26).bind fun y29=>some y29 else none) l s.is (fun p hp=>((hm p).1 hp).elim (h p) (fun e=>e ▸ h0)) (by omega);have hs:(dU (s.is++fs)).length=(s.is++fs).length:=(dg _).length_eq;have hc:=wJ (dU (s.is++fs));have hmem:∀x,x∈B0 (dU (s.is++fs))<->x∈s.is\/x∈fs:=fun x=>by grind [IF,dg]
  rw[bi8] at hs;refine⟨B0 (dU (s.is++fs)),?_,by omega,fun e he=>(hmem e).2 (.inl he),fun p hp=>?_,fun x hx=>?_⟩
  ·rw[g1];unfold Dw Ds
   grind
  ·grind
  ·rcases(hmem x).1 hx with hx|hx
   ·grind
   ·obtain⟨p,hp⟩:=g4 x hx;exact .inr hp.ok
 unfold q9;rw[Hd F _ (by omega),by8,kH,by8,aH];cases hm:s.begins.any fun w=>([]:B8)==w with
 |false=>
  simp only[bw8,if_true];rw[if_pos (by simp;omega),aH]
  simp_all[Or.comm]
 |true=>
  simp_all[aH]
def CP(s:ae)(l:Lf):Prop:=
 (l.k=2/\(∀e,e∈l.tx->e∈s.is)/\s.asText=true)\/(l.k=3/\(∀e,e∈l.tx->e∈s.begins)/\s.asText=true)\/(l.k=4/\s.has=true)\/(l.k=5/\l.n∈s.numbers/\s.asNo=true)
structure vh(s:ae)(u v:Fd):Prop where
 tx:s.asText=true->u.isText=v.isText/\(u.isText=true->zj s.is s.begins u.text v.text)
 nx:s.asNo=true->u.isNumber=v.isNumber/\(u.isNumber=true->tw s.numbers u.number v.number)
 hx:s.has=true->(u.isText||u.isNumber)=(v.isText||v.isNumber)
theorem B7{a b:Bool}(h:a=true<->b=true):a=b:=by
 grind
theorem Dc{ns:List Int}{x y n op:Int}(h:tw ns x y)(hn:n∈ns):yS x op n=yS y op n:=by
 have h1:=h.lt n hn;have h2:=h.eq n hn;unfold yS;split
 ·grind
 ·split
  ·grind
  ·split
   ·grind
   ·split<;>grind
theorem yd{s:ae}{u v:Fd}{l:Lf}(hl:CP s l)(h:vh s u v):l.one u=l.one v:=by
 unfold Lf.one gZ;rcases hl with ⟨hk,h1,h2⟩|⟨hk,h1,h2⟩|⟨hk,h2⟩|⟨hk,h1,h2⟩
 ·obtain⟨a,b⟩:=h.tx h2;rw[hk];simp only[show ¬(2:Int)=4 by decide,show ¬(2:Int)=5 by decide,if_false];rw[<-a];cases hu:u.isText with
  |false=>rfl
  |true=>
   have hs:=b hu
   show Ea 2 u.text l.tx=Ea 2 v.text l.tx
   rw[HN,HN];refine B7 ?_;rw[xb,xb];constructor
   ·intro hm;rwa [<-(hs.eq _ (h1 _ hm)).1 rfl] at hm
   ·intro hm;rwa [<-(hs.eq _ (h1 _ hm)).2 rfl] at hm
 ·obtain⟨a,b⟩:=h.tx h2;rw[hk];simp only[show ¬(3:Int)=4 by decide,show ¬(3:Int)=5 by decide,if_false];rw[<-a];cases hu:u.isText with
  |false=>rfl
  |true=>
   have hs:=b hu
   show Ea 3 u.text l.tx=Ea 3 v.text l.tx
   rw[HM,HM];refine B7 ?_;rw[cf9,cf9];constructor
   ·rintro⟨w,hw,hp⟩;exact⟨w,hw,mR.2 ((hs.pre w (h1 w hw)).1 (mR.1 hp))⟩
   ·rintro⟨w,hw,hp⟩;exact⟨w,hw,mR.2 ((hs.pre w (h1 w hw)).2 (mR.1 hp))⟩
 ·rw[hk];simp only[if_pos];exact h.hx h2
 ·obtain⟨a,b⟩:=h.nx h2;rw[hk];simp only[show ¬(5:Int)=4 by decide,if_false,if_true];rw[<-a];cases hu:u.isNumber with
  |false=>rfl
  |true=>exact congrArg (true&&·) (Dc (b hu) h1)
def zA(v:Fd):Prop:=(v.isText=true->qf v.text)/\(v.isNumber=true->jT v.number)
theorem Dd{s:ae}{nums:List Int}{txs:List bb}(hn:∀x,x∈nums<->x=0\/∃n,n∈s.numbers/\x∈qD n)(hns:∀n,n∈s.numbers->jT n)(ht:G3 s.is s.begins txs)(hi:s.asText=false->s.is=[]/\s.begins=[])(v:Fd)(hv:zA v):
  ∃c,c∈eS s nums txs/\vh s (uv c) v:=by
 -- a number that stands for the value's
 have hnum:∃y,y∈nums/\(v.isNumber=true->tw s.numbers y v.number):=by
  cases hvn:v.isNumber with
  |false=>simp_all
  |true=>
   have near_mem:∀n x,jT x->(x=n - 1\/x=n\/x=n+1)->x∈qD n:=fun n x hx h=>by
    simp_all[qD]
   obtain⟨y,h1,h2⟩:=Bw (ns:=s.numbers) (out:=nums) ⟨0,(hn 0).2 (.inl rfl)⟩ (fun n h=>(hn n).2 (.inr ⟨n,h,near_mem n n (hns n h) (.inr (.inl rfl))⟩)) (fun n h h2=>(hn _).2 (.inr ⟨n,h,near_mem n _ h2 (.inl rfl)⟩))
    (fun m h _ h2=>(hn _).2 (.inr ⟨m,h,near_mem m _ h2 (.inr (.inr rfl))⟩)) hns v.number (hv.2 hvn)
   grind
 obtain⟨y,hy,hyS⟩:=hnum;have htx:v.isText=true->∃t,t∈txs/\zj s.is s.begins t v.text:=fun h=>xZ ht.hi ht.hb v.text (hv.1 h)
 -- the number's part
 have hnv:∃z,z∈nb s nums/\z.hasText=false/\(s.asNo=true->z.hasNumber=v.isNumber/\(z.hasNumber=true->tw s.numbers z.number v.number))/\(s.has=true->z.hasNumber=v.isNumber):=by
  unfold nb;by_cases ha:(s.asNo||s.has)=true
  ·rw[if_pos ha];cases hvn:v.isNumber with
   |false=>simp_all[zV]
   |true=>grind [nv,List.mem_map_of_mem]
  ·simp_all[zV]
 obtain⟨z,hz,hz0,hz1,hz2⟩:=hnv;by_cases hvt:v.isText=true/\(s.asText||s.has)=true
 ·obtain⟨t,ht1,ht2⟩:=htx hvt.1;refine⟨HO t z,?_,?_⟩
  ·unfold eS
   grind
  ·exact⟨fun _=>⟨hvt.1.symm,fun _=>ht2⟩,fun h=>⟨(hz1 h).1,fun h2=>(hz1 h).2 h2⟩,fun h=>by simp_all[uv,HO]⟩
 ·refine⟨z,by simp_all[eS],?_⟩;refine⟨fun h=>?_,fun h=>⟨(hz1 h).1,fun h2=>(hz1 h).2 h2⟩,fun h=>?_⟩
  ·simp_all[uv]
  ·have:v.isText=false:=by
    cases hvt2:v.isText with
    |false=>rfl
    |true=>grind
   rw[this]
   show(z.hasText||z.hasNumber)=_
   grind
theorem GH{s:ae}{nums:List Int}{txs:List bb}(hn:∀x,x∈nums->jT x)(ht:∀x,x∈txs->qf x){c:aa}(hc:c∈eS s nums txs):zA (uv c):=by
 have hnums:∀z,z∈nb s nums->z.hasText=false/\(z.hasNumber=true->jT z.number):=by
  intro z hz;unfold nb at hz;rcases as9.1 hz with e|hz
  ·simp_all[zV]
  ·split at hz
   ·obtain⟨n,hn2,rfl⟩:=bf9.1 hz;exact⟨Y,fun _=>hn n hn2⟩
   grind
 unfold eS at hc;rcases bz8.1 hc with hc|hc
 ·obtain⟨h1,h2⟩:=hnums c hc;exact⟨fun h=>absurd (h1.symm.trans h) (by simp),h2⟩
 ·split at hc
  ·obtain⟨t,ht2,hc⟩:=ac8.1 hc;obtain⟨z,hz,rfl⟩:=bf9.1 hc;exact⟨fun _=>ht t ht2,fun h=>(hnums z hz).2 h⟩
  grind
set_option maxRecDepth 100000
structure kR(l:Lf):Prop where
 k:2<=l.k/\l.k<=5
 nm:fd l.nm=true
 len:l.tx.length<=50
 tx:∀s,s∈l.tx->qf s
 n:l.k=5->jT l.n
 op:l.k=5->1<=l.op/\l.op<=5
 tx45:l.k=4\/l.k=5->l.tx=[]
theorem Bh{s:bb}(h:kc s=true):qf s:=by
 unfold kc at h;rw[aq9,decide_eq_true_eq,aq8] at h;refine⟨h.1,fun c hc=>?_⟩
 simp_all[Cs]
theorem Eb(a:List bb):∀(l:List bb) (n:Nat),JL a l n=0->∀s,s∈l->kc s=true
 |[],n,_,s,hs=>by simp at hs
 |x::l,n,h,s,hs=>by
  rw[JL] at h;cases hv:kc x with
  |false=>grind
  |true=>
   rw[hv] at h;simp only[bv9,cj8,if_false] at h;split at h
   ·cases h
   ·rcases as9.1 hs with e|hs
    ·rw[e];exact hv
    ·exact Eb a l (n+1) h s hs
theorem Kt{a:List bb}(h:JK a=0):a.length<=50/\∀s,s∈a->qf s:=by
 grind [JK,Bh,Eb]
theorem uP{k op n:Int}{nm:bb}{tx:List bb}{ks:List aU}(h:cV ⟨k,nm,tx,op,n,ks⟩=0)(hk:2<=k/\k<=5):kR ⟨k,nm,tx,op,n⟩/\ks=[]:=by
 unfold cV at h;dsimp only at h;rw[if_neg (by omega),if_neg (show ¬k=6 by omega),if_neg (show ¬7<=k by omega)] at h;split at h
 ·cases h
 ·rename_i h1;rw[ar8,ar8,ar8,not_or,not_or,not_or] at h1;obtain⟨⟨⟨_,h2⟩,h3⟩,h4⟩:=h1;split at h
  ·cases h
  ·rename_i h5
   have hnm:fd nm=true:=by
    cases hb:fd nm with
    |true=>rfl
    |false=>grind
   have hks:ks=[]:=by
    have:(ks.length==0)=true:=by simpa using h4
    exact ay8.1 (by grind)
   have htx:¬(k=2\/k=3)->tx=[]:=by
    intro hn;have e1:(k==2)=false:=beq_false_of_ne (by omega);have e2:(k==3)=false:=beq_false_of_ne (by omega);rw[e1,e2] at h2;simp only[Bool.or_self,bw8,ah9,decide_eq_true_eq] at h2;exact ay8.1 (by omega)
   split at h
   ·rename_i h6;obtain⟨g1,g2⟩:=Kt h;exact⟨⟨hk,hnm,g1,g2,fun h=>by grind,fun h=>by grind,fun h=>by grind⟩,hks⟩
   ·rename_i h6;have:=htx h6;subst this;split at h
    ·rename_i h7;split at h
     ·cases h
     ·rename_i h8;split at h
      ·cases h
      ·rename_i h9;unfold sf at h9;rw[ar8,decide_eq_true_eq,decide_eq_true_eq] at h9;exact⟨⟨hk,hnm,by simp,by simp,fun _=>⟨by grind,by grind⟩,fun _=>⟨by grind,by grind⟩,fun _=>rfl⟩,hks⟩
    ·rename_i h7;exact⟨⟨hk,hnm,by simp,by simp,fun h=>absurd h h7,fun h=>absurd h h7,fun _=>rfl⟩,hks⟩
theorem Aj:∀t:Tr,t.flt=0->∀l,l∈t.lvs->kR l:=Tr.ind fun k nm tx op n ks ih hz l hl=>by
 obtain⟨hnode,hfl⟩:=iQ hz;have hkk:=ix hnode;dsimp only at hkk;rw[Tr.lvs] at hl;split at hl
 ·simp at hl
 ·split at hl
  ·obtain⟨t,ht,h⟩:=iJ.1 hl<;>grind [fe]
  grind [uP]
theorem BJ:∀t:Tr,t.lvs.length<=t.cnt:=Tr.ind fun k nm tx op n ks ih=>by
 rw[Tr.lvs,Tr.cnt]
 have:∀l:List Tr,(∀t,t∈l->t∈ks)->(Tr.lvss l).length<=Tr.cnts l:=by
  intro l
  induction l with
  |nil=>simp_all[Tr.lvss]
  |cons t r ihr=>
   grind [Tr.lvss,Tr.cnts]
 grind
theorem qh{τ:Type}{T:Nat}{enc:τ->List V}{y:τ}:(tP T enc y).t=T:=rfl
def zQ:ae:=⟨[],[],[],false,false,false,2⟩
def iF(all:vi)(n:bb):ae:=match aG all n with
 |some (some s)=>s
 |_=>zQ
def tS(l:Lf)(s:ae):ae:=
 if l.k=2 then ⟨s.is++l.tx,s.begins,s.numbers,true,s.asNo,s.has,bE (s.weight+((l.tx.length:Nat):Int))⟩
 else if l.k=3 then ⟨s.is,s.begins++l.tx,s.numbers,true,s.asNo,s.has,bE (s.weight+bE (2*((l.tx.length:Nat):Int)))⟩
 else if l.k=4 then ⟨s.is,s.begins,s.numbers,s.asText,s.asNo,true,s.weight⟩
 else ⟨s.is,s.begins,s.numbers++[l.n],s.asText,true,s.has,bE (s.weight+2)⟩
def mZ(all:vi)(l:Lf):vi:=bM all l.nm (some (tS l (iF all l.nm)))
theorem CK{κ τ:Type}[DecidableEq κ](m:List (κ×τ))(k:κ)(v w:τ):bM (bM m k v) k w=bM m k w:=by
 induction m with
 |nil=>simp[bM]
 |cons p r ih=>
  rw[bM];by_cases e:p.1=k
  ·simp_all[bM]
  simp_all[bM]
structure Bd(all:vi)(B:Nat):Prop where
 so:∀n,aG all n≠some none
 li:∀n,(iF all n).is.length<=B/\(iF all n).begins.length<=B/\(iF all n).numbers.length<=B
theorem ou(all:vi)(l:Lf)(n:bb):iF (mZ all l) n=if l.nm=n then tS l (iF all l.nm) else iF all n:=by
 unfold mZ;by_cases e:l.nm=n
 ·rw[if_pos e]
  show(match aG (bM all l.nm _) n with|some (some s)=>s|_=>zQ)=_
  rw[cL,if_pos e]
 ·rw[if_neg e]
  show(match aG (bM all l.nm _) n with|some (some s)=>s|_=>zQ)=_
  rw[cL,if_neg e];rfl
theorem Bd.add{all:vi}{B:Nat}(h:Bd all B){l:Lf}(hl:l.tx.length<=50):Bd (mZ all l) (B+50):=by
 refine⟨fun n=>?_,fun n=>?_⟩
 ·unfold mZ;rw[cL];split
  ·simp
  ·exact h.so n
 ·rw[ou];have h1:=h.li n
  grind [tS]
theorem xj(F:Nat)(all:vi)(n:bb)(h:aG all n≠some none):∃xs,G5 F n all=some (xs,iF all n)/\∀v,bM xs n v=bM all n v:=by
 unfold G5 iF;cases hm:aG all n with
 |none=>exact⟨_,rfl,fun v=>CK _ _ _ _⟩
 |some q=>
  cases q<;>simp_all
theorem BQ:∀(ls:List Lf) (all:vi) (B:Nat),Bd all B->(∀l,l∈ls->kR l)->Bd (ls.foldl mZ all) (B+50*ls.length)
 |[],all,B,h,_=>by grind
 |l::r,all,B,h,hl=>by
  have:=BQ r (mZ all l) (B+50) (h.add (hl l (by simp)).len) fun m hm=>hl m (by simp[hm]);rw[List.foldl_cons];refine⟨this.so,fun n=>?_⟩;have h1:=this.li n;simp only[bx9];omega
theorem Ml:∀t:Tr,t.ok->t.flt=0->∀F,t.fu<=F->∀(all:vi) (B:Nat),Bd all B->B+50*t.lvs.length<=1000000->Hb F t.cd all=some (t.lvs.foldl mZ all):=Tr.ind fun k nm tx op n ks ih ok hz F hF all B hB hb=>by
 rw[Tr.fu] at hF;have hlo:=Aj _ hz;obtain⟨hnode,hfl⟩:=iQ hz;obtain⟨F,rfl⟩:∃G,F=G+1:=⟨F - 1,by omega⟩
 show lg (Hb F) F (Tr.mk k nm tx op n ks).cd all=_
 have hkk:=ix hnode;dsimp only at hkk;have hk':k=1\/k=2\/k=3\/k=4\/k=5\/k=6\/k=7\/k=8:=by omega
 rw[Tr.lvs] at hb hlo ⊢;rw[Tr.cd]
 have hl1:∀(l:List Tr) (all:vi) (B:Nat),Bd all B->(∀t,t∈l->t∈ks)->B+50*(Tr.lvss l).length<=1000000->gR (Hb F) F (fun m=>some m) (Tr.cds l) all=some ((Tr.lvss l).foldl mZ all):=by
  intro l
  induction l with
  |nil=>intro all B _ _ _;rw[Tr.cds,Tr.lvss];rfl
  |cons t r ihr=>
   intro all B hB hm hb;rw[Tr.lvss,bi8] at hb;have ht:=hm t (by simp);rw[Tr.cds,gR,ih t ht (Tr.oks_mem (Tr.okks ok).1 ht) (fe hfl ht) F (by have:=Tr.fu_mem ht;omega) all B hB (by omega),by8,Tr.lvss,List.foldl_append];exact ihr _ _ (BQ t.lvs all B hB fun l hl=>Aj t (fe hfl ht) l hl) (fun u hu=>hm u (by simp[hu])) (by omega)
 have hl2:∀(l:List Tr) (all:vi) (B:Nat),Bd all B->(∀t,t∈l->t∈ks)->B+50*(Tr.lvss l).length<=1000000->gR (Hb F) F (fun m=>some m) (Tr.cds l) all=some ((Tr.lvss l).foldl mZ all):=by
  intro l
  induction l with
  |nil=>grind
  |cons t r ihr=>
   grind
 rcases hk' with e|e|e|e|e|e|e|e
 ·simp_all[lg,qh]
 ·subst e;simp only[show ¬(2:Int)=1 by decide,show ¬(2:Int)=3 by decide,show ¬(2:Int)=4 by decide,show ¬(2:Int)=5 by decide,show ¬(2:Int)=6 by decide,show ¬(2:Int)=7 by decide,show ¬(2:Int)=8 by decide,show ¬((2:Int)=6\/(2:Int)=7\/(2:Int)=8) by decide,if_false,if_true,List.length_singleton] at hb hlo ⊢;unfold lg;simp only[qh];refine(if_pos (show Nat.beq 147 147=true from Y)).trans ?_;obtain⟨xs,e1,e2⟩:=xj F all nm (hB.so nm);have h1:=hB.li nm;have h2:=(hlo ⟨2,nm,tx,op,n⟩ (by simp)).len;simp only at h2;rw[cI Ao,by8,e1,by8,if_pos (by grind)];dsimp only;rw[e2];rfl
 ·subst e;simp only[show ¬(3:Int)=1 by decide,show ¬(3:Int)=2 by decide,show ¬(3:Int)=4 by decide,show ¬(3:Int)=5 by decide,show ¬(3:Int)=6 by decide,show ¬(3:Int)=7 by decide,show ¬(3:Int)=8 by decide,show ¬((3:Int)=6\/(3:Int)=7\/(3:Int)=8) by decide,if_false,if_true,List.length_singleton] at hb hlo ⊢;unfold lg;simp only[qh];refine(if_neg (show ¬Nat.beq 148 147=true by decide)).trans ?_;refine(if_pos (show Nat.beq 148 148=true from Y)).trans ?_;obtain⟨xs,e1,e2⟩:=xj F all nm (hB.so nm);have h1:=hB.li nm;have h2:=(hlo ⟨3,nm,tx,op,n⟩ (by simp)).len;simp only at h2;rw[cI nH,by8,e1,by8,if_pos (by grind)];dsimp only;rw[e2];rfl
 ·subst e;simp only[show ¬(4:Int)=1 by decide,show ¬(4:Int)=2 by decide,show ¬(4:Int)=3 by decide,show ¬(4:Int)=5 by decide,show ¬(4:Int)=6 by decide,show ¬(4:Int)=7 by decide,show ¬(4:Int)=8 by decide,show ¬((4:Int)=6\/(4:Int)=7\/(4:Int)=8) by decide,if_false,if_true,List.length_singleton] at hb hlo ⊢;unfold lg;simp only[qh];refine(if_neg (show ¬Nat.beq 150 147=true by decide)).trans ?_;refine(if_neg (show ¬Nat.beq 150 148=true by decide)).trans ?_;refine(if_pos (show Nat.beq 150 150=true from Y)).trans ?_;obtain⟨xs,e1,e2⟩:=xj F all nm (hB.so nm);rw[cI ww,by8,e1,by8];dsimp only;rw[e2];rfl
 ·subst e;simp only[show ¬(5:Int)=1 by decide,show ¬(5:Int)=2 by decide,show ¬(5:Int)=3 by decide,show ¬(5:Int)=4 by decide,show ¬(5:Int)=6 by decide,show ¬(5:Int)=7 by decide,show ¬(5:Int)=8 by decide,show ¬((5:Int)=6\/(5:Int)=7\/(5:Int)=8) by decide,if_false,if_true,List.length_singleton] at hb hlo ⊢;unfold lg;simp only[qh];refine(if_neg (show ¬Nat.beq 152 147=true by decide)).trans ?_;refine(if_neg (show ¬Nat.beq 152 148=true by decide)).trans ?_;refine(if_neg (show ¬Nat.beq 152 150=true by decide)).trans ?_;refine(if_pos (show Nat.beq 152 152=true from Y)).trans ?_;obtain⟨xs,e1,e2⟩:=xj F all nm (hB.so nm);have h1:=hB.li nm;have h2:=(hlo ⟨5,nm,tx,op,n⟩ (by simp)).len;simp only at h2;rw[cI nG,by8,e1,by8,if_pos (by grind)];dsimp only;rw[e2];rfl
 ·subst e;simp only[show ¬(6:Int)=1 by decide,show ¬(6:Int)=2 by decide,show ¬(6:Int)=3 by decide,show ¬(6:Int)=4 by decide,show ¬(6:Int)=5 by decide,show ¬(6:Int)=7 by decide,show ¬(6:Int)=8 by decide,if_false,if_true,or_true,true_or,or_false,false_or] at hb hlo ⊢;unfold lg;simp only[qh];refine(if_neg (show ¬Nat.beq 154 147=true by decide)).trans ?_;refine(if_neg (show ¬Nat.beq 154 148=true by decide)).trans ?_;refine(if_neg (show ¬Nat.beq 154 150=true by decide)).trans ?_;refine(if_neg (show ¬Nat.beq 154 152=true by decide)).trans ?_;refine(if_pos (show Nat.beq 154 154=true from Y)).trans ?_;have h1:ks.length=1:=by rw[<-jV hnode rfl];exact(Tr.toKs_len ks).symm
  match ks,h1,ih,ok,hb,hfl,hF with
  |[t],_,ih,ok,hb,hfl,hF=>
   rw[cI wv,by8];simp only[Tr.lvss,List.append_nil] at hb ⊢
   show(Hb F ((Tr.cds [t]).headD _) all).bind _=_
   rw[Tr.cds,List.headD_cons,ih t (by simp) (Tr.oks_mem (Tr.okks ok).1 (by simp)) (fe hfl (by simp)) F (by have:=Tr.fu_mem (ks:=[t]) (t:=t) (by simp);omega) all B hB hb,by8]
 ·subst e;simp only[show ¬(7:Int)=1 by decide,show ¬(7:Int)=2 by decide,show ¬(7:Int)=3 by decide,show ¬(7:Int)=4 by decide,show ¬(7:Int)=5 by decide,show ¬(7:Int)=6 by decide,show ¬(7:Int)=8 by decide,if_false,if_true,or_true,true_or,or_false,false_or] at hb hlo ⊢;unfold lg;simp only[qh];refine(if_neg (show ¬Nat.beq 156 147=true by decide)).trans ?_;refine(if_neg (show ¬Nat.beq 156 148=true by decide)).trans ?_;refine(if_neg (show ¬Nat.beq 156 150=true by decide)).trans ?_;refine(if_neg (show ¬Nat.beq 156 152=true by decide)).trans ?_;refine(if_neg (show ¬Nat.beq 156 154=true by decide)).trans ?_;refine(if_pos (show Nat.beq 156 156=true from Y)).trans ?_
  grind [cI,wy,aH]
 ·subst e;simp only[show ¬(8:Int)=1 by decide,show ¬(8:Int)=2 by decide,show ¬(8:Int)=3 by decide,show ¬(8:Int)=4 by decide,show ¬(8:Int)=5 by decide,show ¬(8:Int)=6 by decide,show ¬(8:Int)=7 by decide,if_false,if_true,or_true,true_or,or_false,false_or] at hb hlo ⊢;unfold lg;simp only[qh];refine(if_neg (show ¬Nat.beq 157 147=true by decide)).trans ?_;refine(if_neg (show ¬Nat.beq 157 148=true by decide)).trans ?_;refine(if_neg (show ¬Nat.beq 157 150=true by decide)).trans ?_;refine(if_neg (show ¬Nat.beq 157 152=true by decide)).trans ?_;refine(if_neg (show ¬Nat.beq 157 154=true by decide)).trans ?_;refine(if_neg (show ¬Nat.beq 157 156=true by decide)).trans ?_;refine(if_pos (show Nat.beq 157 157=true from Y)).trans ?_
  grind [cI,wx,aH]
def lw(l:Lf):Nat:=if l.k=2 then l.tx.length else if l.k=3 then 2*l.tx.length else if l.k=4 then 0 else 2
def Ki(ls:List Lf)(n:bb):Nat:=(ls.map fun l=>if l.nm=n then lw l else 0).sum
theorem HG(d:List Lf)(l:Lf)(n:bb):Ki (d++[l]) n=Ki d n+(if l.nm=n then lw l else 0):=by
 unfold Ki;simp
theorem Ng{l:Lf}(h:kR l):lw l<=100:=by
 have:=h.len
 grind [lw]
theorem DJ{ls:List Lf}(h:∀l,l∈ls->kR l)(n:bb):Ki ls n<=100*ls.length:=by
 unfold Ki
 induction ls<;>grind [Ng]
structure Oc(s:ae)(w:Nat):Prop where
 is:∀e,e∈s.is->qf e
 bg:∀e,e∈s.begins->qf e
 ns:∀n,n∈s.numbers->jT n
 tx:s.asText=false->s.is=[]/\s.begins=[]
 wt:s.weight=2+(w:Int)
 sz:s.is.length+2*s.begins.length+2*s.numbers.length=w
structure Ga(all:vi)(d:List Lf):Prop where
 kn:KN all
 ke:∀n,n∈all.map (·.1)<->∃l,l∈d/\l.nm=n
 sm:∀n,n∈all.map (·.1)->aG all n=some (some (iF all n))
 lf:∀l,l∈d->CP (iF all l.nm) l
 ok:∀n,Oc (iF all n) (Ki d n)
 ln:all.length<=d.length
theorem FQ{κ τ:Type}[DecidableEq κ](m:List (κ×τ))(k:κ)(v:τ):(bM m k v).length<=m.length+1:=by
 induction m<;>grind [bM]
theorem CO{s:ae}{l m:Lf}(h:CP s m):CP (tS l s) m:=by
 unfold tS;rcases h with ⟨a,b,c⟩|⟨a,b,c⟩|⟨a,b⟩|⟨a,b,c⟩
 ·refine .inl ⟨a,?_⟩
  grind
 ·refine .inr (.inl ⟨a,?_⟩)
  grind
 ·refine .inr (.inr (.inl ⟨a,?_⟩))
  grind
 ·refine .inr (.inr (.inr ⟨a,?_⟩))
  grind
theorem FP{s:ae}{l:Lf}(h:kR l):CP (tS l s) l:=by
 have hk:=h.k;unfold tS;by_cases h2:l.k=2
 ·rw[if_pos h2];exact .inl ⟨h2,fun e he=>List.mem_append_right _ he,Y⟩
 rw[if_neg h2];by_cases h3:l.k=3
 ·rw[if_pos h3];exact .inr (.inl ⟨h3,fun e he=>List.mem_append_right _ he,Y⟩)
 rw[if_neg h3];by_cases h4:l.k=4
 ·rw[if_pos h4];exact .inr (.inr (.inl ⟨h4,Y⟩))
 rw[if_neg h4];exact .inr (.inr (.inr ⟨by omega,by simp,Y⟩))
theorem Oc.upd{s:ae}{w:Nat}(h:Oc s w){l:Lf}(hl:kR l)(hw:w<=700000):Oc (tS l s) (w+lw l):=by
 have hk:=hl.k;have hlen:=hl.len;have hwt:=h.wt;have hsz:=h.sz;unfold tS lw;by_cases h2:l.k=2
 ·rw[if_pos h2,if_pos h2];refine⟨fun e he=>(bz8.1 he).elim (h.is e) (hl.tx e),h.bg,h.ns,fun h=>absurd h (by simp),?_,?_⟩
  ·grind [cS]
  grind
 rw[if_neg h2,if_neg h2];by_cases h3:l.k=3
 ·rw[if_pos h3,if_pos h3];refine⟨h.is,fun e he=>(bz8.1 he).elim (h.bg e) (hl.tx e),h.ns,fun h=>absurd h (by simp),?_,?_⟩
  ·grind [cS]
  grind
 rw[if_neg h3,if_neg h3];by_cases h4:l.k=4
 ·rw[if_pos h4,if_pos h4];exact⟨h.is,h.bg,h.ns,h.tx,by grind,by grind⟩
 rw[if_neg h4,if_neg h4];refine⟨h.is,h.bg,fun n hn=>?_,h.tx,?_,?_⟩
 ·rcases bz8.1 hn with hn|hn
  ·exact h.ns n hn
  ·simp only[bn9] at hn;rw[hn];exact hl.n (by omega)
 ·grind [cS]
 grind
theorem Ga.add{all:vi}{d:List Lf}(h:Ga all d){l:Lf}(hl:kR l)(hd:∀l,l∈d->kR l)(hlen:d.length<=6100):Ga (mZ all l) (d++[l]):=by
 have hke:∀n,n∈(mZ all l).map (·.1)<->n=l.nm\/n∈all.map (·.1):=fun n=>uY n;refine⟨h.kn.put,fun n=>?_,fun n hn=>?_,fun m hm=>?_,fun n=>?_,?_⟩
 ·rw[hke,h.ke]
  grind
 ·rw[ou];unfold mZ;rw[cL];by_cases e:l.nm=n
  ·grind
  ·rw[if_neg e,if_neg e];exact h.sm n (((hke n).1 hn).resolve_left (Ne.symm e))
 ·rw[ou];rcases bz8.1 hm with hm|hm
  ·have:=h.lf m hm
   grind [CO]
  simp_all[FP]
 ·rw[ou,HG];by_cases e:l.nm=n
  ·rw[if_pos e,if_pos e,<-e];exact(h.ok l.nm).upd hl (by grind [DJ])
  ·rw[if_neg e,if_neg e];exact h.ok n
 ·have:=FQ all l.nm (some (tS l (iF all l.nm)));have:=h.ln
  grind [mZ]
theorem Ga.fold:∀(ls d:List Lf) (all:vi),Ga all d->(∀l,l∈ls->kR l)->(∀l,l∈d->kR l)->d.length+ls.length<=6100->Ga (ls.foldl mZ all) (d++ls)
 |[],d,all,h,_,_,_=>by grind
 |l::r,d,all,h,hl,hd,hlen=>by
  simp only[bx9] at hlen
  have:=Ga.fold r (d++[l]) (mZ all l) (h.add (hl l (by simp)) hd (by omega)) (fun m hm=>hl m (by simp[hm])) (fun m hm=>(bz8.1 hm).elim (hd m) fun hm=>by
   simp only[bn9] at hm;rw[hm];exact hl l (by simp)) (by simp;omega)
  rw[List.foldl_cons]
  simpa using this
def dQ(ls:List Lf):vi:=ls.foldl mZ []
def gU(ls:List Lf):Prop:=(∀l,l∈ls->kR l)/\ls.length<=6000
def K8(p:B8×(Option ae)):Bool:=match p.2 with|some s=>decide (1<=s.weight/\s.weight<=1000000000000)|none=>false
def JH(s:ae):Int:=if (s.has||(s.asText&&s.asNo))=true then s.weight+1 else s.weight
def Dz(p:B8×(Option ae)):Int:=match p.2 with|some s=>JH s|none=>1
def gT:List (B8×(Option ae))->Int
 |[]=>1
 |p::l=>Dz p*gT l
theorem z6{l l':List (B8×(Option ae))}(h:l.Perm l'):gT l=gT l':=by
 induction h<;>grind [gT]
theorem HF{p:B8×(Option ae)}(h:K8 p=true):1<=Dz p:=by
 obtain⟨k,q⟩:=p;cases q with
 |none=>cases h
 |some s=>
  have:=of_decide_eq_true (show decide (1<=s.weight/\s.weight<=1000000000000)=true from h)
  show 1<=JH s
  grind [JH]
theorem uD:∀{l:List (B8×(Option ae))},l.all K8=true->1<=gT l
 |[],_=>by simp[gT]
 |p::l,h=>by
  simp only[ag8,aq9] at h;have h1:=HF h.1;have h2:=uD h.2
  show 1<=Dz p*gT l
  have:=Int.mul_le_mul h1 h2 (by omega) (by omega)
  grind
theorem Gi{n w:Int}(hn:1<=n/\n<=200000)(hw:1<=w/\w<=1000000000001):bE (n*w)=n*w/\1<=n*w:=by
 have h1:1*1<=n*w:=Int.mul_le_mul hn.1 hw.1 (by omega) (by omega);have h2:n*w<=200000*1000000000001:=Int.mul_le_mul hn.2 hw.2 (by omega) (by omega)
 grind [cS]
theorem pS(F:Nat):∀(l:List (B8×(Option ae))) (n:Int),1<=n/\n<=200000->l.all K8=true->fO F l n=some (decide (n*gT l<=200000))
 |[],n,hn,_=>by
  simp_all[fO,gT]
 |p::l,n,hn,hl=>by
  unfold fO;have hl0:=hl;simp only[ag8,aq9] at hl;rw[if_pos ⟨hn,hl0⟩];have hp:=hl.1;obtain⟨k,q⟩:=p;cases q with
  |none=>cases hp
  |some s=>
   have hw:=of_decide_eq_true (show decide (1<=s.weight/\s.weight<=1000000000000)=true from hp);have ih:=fun m hm=>pS F l m hm hl.2;have hpos:=uD hl.2;have e1:bE (s.weight+1)=s.weight+1:=cS (by omega) (by omega)
   have key:∀w:Int,1<=w/\w<=1000000000001->Dz (k,some s)=w->(if (decide ((bE (n*w))>200000))=true then some false else fO F l (bE (n*w)))=some (decide (n*gT ((k,some s)::l)<=200000)):=by
    intro w hw hwe;obtain⟨h1,h2⟩:=Gi hn hw;rw[h1]
    show _=some (decide (n*(Dz (k,some s)*gT l)<=200000))
    rw[hwe,<-Int.mul_assoc];by_cases hg:n*w>200000
    ·rw[if_pos (decide_eq_true hg)];have:n*w*1<=n*w*gT l:=Int.mul_le_mul_of_nonneg_left hpos (by omega)
     grind
    ·grind
   simp only[by8];cases hh:s.has with
   |true=>
    simp only[if_pos]
    grind [Dz,JH]
   |false=>
    rw[if_neg (by simp)];cases ht:s.asText with
    |true=>
     simp only[if_pos,jn];cases hn2:s.asNo with
     |true=>
      simp only[if_pos]
      grind [Dz,JH]
     |false=>
      rw[if_neg (by simp)]
      grind [Dz,JH]
    |false=>
     rw[if_neg (by simp)]
     grind [Dz,JH]
theorem z8{F:Nat}{l l':List (B8×(Option ae))}{n:Int}{r:Bool}(hp:l.Perm l')(h:fO F l n=some r):fO F l' n=some r:=by
 cases l with
 |nil=>simp_all
 |cons p t=>
  grind [K8,fO,pS,z6]
def kq{κ τ:Type}[DecidableEq κ](m:List (κ×τ))(k:κ):List τ:=(m.filter fun p=>p.1=k).map (·.2)
section
variable{κ τ:Type}[DecidableEq κ]
theorem we(k:κ):∀m:List (κ×τ),aG m k=(kq m k).head?
 |[]=>rfl
 |p::r=>by
  have ih:=we k r;unfold kq at *;rw[aG,aa8];by_cases h:p.1=k<;>simp[h,ih]
theorem ru(k:κ)(v:τ)(x:κ):∀m:List (κ×τ),kq (bM m k v) x=if x=k then v::(kq m k).tail else kq m x
 |[]=>by
  unfold kq;rw[bM];by_cases h:x=k
  ·subst h;simp
  ·simp[h,Ne.symm h]
 |p::r=>by
  have ih:=ru k v x r;unfold kq at *;rw[bM];by_cases h:p.1=k
  ·subst h;by_cases h2:x=p.1
   ·subst h2;simp
   ·simp[h2,Ne.symm h2]
  ·rw[if_neg h,aa8,aa8,aa8];by_cases h2:x=k
   ·subst h2
    simpa[h] using ih
   ·rw[if_neg h2] at ih ⊢;by_cases h3:p.1=x
    ·simp[h3,ih]
    ·simpa[h3] using ih
theorem wu(k x:κ):∀m:List (κ×τ),kq (di m k) x=if x=k then (kq m k).tail else kq m x
 |[]=>by simp[kq,di]
 |p::r=>by
  have ih:=wu k x r;unfold kq at *;rw[di];by_cases h:p.1=k
  ·subst h;by_cases h2:x=p.1
   ·subst h2;simp
   ·simp[h2,Ne.symm h2]
  ·rw[if_neg h,aa8,aa8,aa8];by_cases h2:x=k
   ·subst h2
    simpa[h] using ih
   ·rw[if_neg h2] at ih ⊢;by_cases h3:p.1=x
    ·simp[h3,ih]
    ·simpa[h3] using ih
end
abbrev uo:=List (B8×aa)
def ME(m m':uo):Prop:=∀k,kq m k=kq m' k
theorem ME.get{m m':uo}(h:ME m m')(k:B8):aG m k=aG m' k:=by rw[we,we,h]
theorem ME.put{m m':uo}(h:ME m m')(k:B8)(v:aa):ME (bM m k v) (bM m' k v):=fun x=>by rw[ru,ru,h,h]
theorem ME.del{m m':uo}(h:ME m m')(k:B8):ME (di m k) (di m' k):=fun x=>by rw[wu,wu,h,h]
theorem vr{F:Nat}{all:List (B8×(Option ae))}{m m':uo}(h:ME m m'){k}:∀(l:List B8) a b c d,gp F all m k l a b c d=gp F all m' k l a b c d
 |[],_,_,_,_=>rfl
 |x::l,a,b,c,d=>by
  have ih:=fun a b c d=>vr h (F:=F) (all:=all) (k:=k) l a b c d;rw[gp,gp];simp only[h.get,ih]
theorem pZ{F:Nat}{y9:KV}{y11:List (B8×(Option ae))}{y16:aq}{y18:Int}{k}:∀(l:List B8) (m m':uo) a,ME m m'->gS F y9 y11 y16 y18 k l m a=gS F y9 y11 y16 y18 k l m' a
 |[],_,_,_,_=>rfl
 |x::l,m,m',a,h=>by
  have h1:=h.del x;rw[gS,gS,show HD F y11 (y18==1) y9 (di m x)=HD F y11 (y18==1) y9 (di m' x) by unfold HD;simp only[vr h1]];have i1:=fun v a=>pZ (F:=F) (y9:=y9) (y11:=y11) (y16:=y16) (y18:=y18) (k:=k) l _ _ a (h1.put x v);have i2:=fun a=>pZ (F:=F) (y9:=y9) (y11:=y11) (y16:=y16) (y18:=y18) (k:=k) l _ _ a h1;simp only[jn,i1,i2]
def jt(y16:aq):List (B8×(Option ae))->uo->uo
 |[],m=>m
 |e::l,m=>jt y16 l (bM m e.1 ((aG y16.by_ e.1).getD (aa.mk false false ([]:B8) 0)))
theorem kM{F:Nat}{y9:KV}{y11:List (B8×(Option ae))}{y16:aq}{y18:Int}:∀(l:List (B8×(Option ae))) m,fC F y9 y11 y16 y18 l m=fC F y9 y11 y16 y18 [] (jt y16 l m)
 |[],_=>rfl
 |e::l,m=>(show fC F y9 y11 y16 y18 (e::l) m=fC F y9 y11 y16 y18 l (bM m e.1 ((aG y16.by_ e.1).getD (aa.mk false false ([]:B8) 0))) by rw[fC]).trans (kM l _)
theorem uB{y16:aq}:∀(l:List (B8×(Option ae))) {m m':uo},ME m m'->ME (jt y16 l m) (jt y16 l m')
 |[],_,_,h=>h
 |e::l,_,_,h=>uB l (h.put _ _)
theorem yb{y16:aq}{l l':List (B8×(Option ae))}(hp:l.Perm l'):∀m,ME (jt y16 l m) (jt y16 l' m):=by
 induction hp with
 |nil=>exact fun m k=>rfl
 |cons e _ ih=>exact fun m=>ih _
 |swap a b l=>
  intro m;refine uB l fun x=>?_;simp only[ru];by_cases h:a.1=b.1
  ·rw[h]
  ·by_cases h1:x=a.1
   ·subst h1;simp[h]
   ·by_cases h2:x=b.1
    ·subst h2;simp[Ne.symm h]
    ·simp[h1,h2]
 |trans _ _ i1 i2=>exact fun m k=>(i1 m k).trans (i2 m k)
theorem Aa{F:Nat}{y9:KV}{y11:List (B8×(Option ae))}{y16:aq}{y18:Int}{l l':List (B8×(Option ae))}{m:uo}{r:(List B8)×Bool×Int}(hp:l.Perm l')
  (h:fC F y9 y11 y16 y18 l m=some r):fC F y9 y11 y16 y18 l' m=some r:=by
 rw[<-h,kM l,kM l',fC,fC];have i:=fun k l a=>pZ (F:=F) (y9:=y9) (y11:=y11) (y16:=y16) (y18:=y18) (k:=k) l _ _ a (yb (y16:=y16) hp m);simp only[i]
theorem CG(s:ae)(nums:List Int):(nb s nums).length<=nums.length+1:=by
 grind [nb]
theorem oF{α β:Type}(f:α->List β)(B:Nat):∀l:List α,(∀x,x∈l->(f x).length<=B)->(l.flatMap f).length<=l.length*B
 |[],_=>by simp
 |x::l,h=>by
  have h1:=h x (by simp);have h2:=oF f B l fun y hy=>h y (by simp[hy]);simp only[ab8,bi8,bx9,am9,Nat.one_mul];omega
theorem AK(s:ae)(nums:List Int)(txs:List bb):(eS s nums txs).length<=(nums.length+1)+txs.length*(nums.length+1):=by
 have h1:=CG s nums;unfold eS;rw[bi8]
 have h2:(if (s.asText||s.has)=true then txs.flatMap (fun t=>(nb s nums).map (HO t)) else []).length<=txs.length*(nums.length+1):=by
  split
  ·exact oF _ _ _ fun x _=>by grind
  ·simp
 omega
structure Gvs(F:Nat)(s:ae)(nums:List Int)(txs:List bb):Prop where
 g:Gv F s nums txs
 rep:∀v,zA v->∃c,c∈eS s nums txs/\vh s (uv c) v
 ok:∀c,c∈eS s nums txs->zA (uv c)
theorem Lm{s:ae}{w:Nat}(h:Oc s w)(hw:w<=600000)(F:Nat)(hF:700000<=F):∃nums txs,Gvs F s nums txs:=by
 have hsz:=h.sz;obtain⟨nums,a1,a2,a3⟩:=Jv F s h.ns (by omega);obtain⟨txs,b1,b2,b3⟩:=Ju F s (by omega) (by omega) (by omega) h.bg;have hl:=AK s nums txs;have hm:txs.length*(nums.length+1)<=600001*900002:=Nat.mul_le_mul (by omega) (by omega);refine⟨nums,txs,⟨a1,b1,by omega,by omega⟩,fun v hv=>Dd a3 h.ns b3 h.tx v hv,fun c hc=>GH (fun x hx=>?_) (fun x hx=>?_) hc⟩
 ·rcases(a3 x).1 hx with e|⟨n,_,hn⟩
  ·rw[e];exact⟨by omega,by omega⟩
  simp_all[qD]
 ·exact(b3.ok x hx).elim (h.is x) id
theorem yI{ls:List Lf}(h:gU ls):Ga (dQ ls) ls:=by
 have h0:Ga [] []:=⟨by simp[KN],fun n=>by simp,fun n hn=>by simp at hn,fun l hl=>by simp at hl,fun n=>⟨by simp[iF,aG,zQ],by simp[iF,aG,zQ],by simp[iF,aG,zQ],fun _=>⟨rfl,rfl⟩,rfl,rfl⟩,by simp⟩;have:=Ga.fold ls [] [] h0 h.1 (by simp) (by have:=h.2;simp;omega);rw[ad9] at this;exact this
def pd(ls:List Lf):List bb:=dU ((dQ ls).map (·.1))
theorem rm{ls:List Lf}(h:gU ls){n:bb}:n∈pd ls<->∃l,l∈ls/\l.nm=n:=by
 unfold pd;rw[(dg _).mem_iff];exact(yI h).ke n
theorem uM{ls:List Lf}(h:gU ls):(pd ls).Nodup:=(dg _).nodup_iff.2 (yI h).kn
theorem wc(ls:List Lf):(pd ls).length=(dQ ls).length:=by
 unfold pd;rw[(dg _).length_eq];simp
theorem JJ{ls:List Lf}(h:gU ls)(n:bb):Ki ls n<=600000:=by
 have:=DJ h.1 n;have:=h.2;omega
theorem M0{ls:List Lf}(h:gU ls){p:bb×Option ae}(hp:p∈dQ ls):p.2=some (iF (dQ ls) p.1):=by
 have hg:=yI h;have h1:=FK hg.kn hp;rw[hg.sm p.1 (bo8 hp)] at h1
 grind
theorem JI{ls:List Lf}(h:gU ls){p:bb×Option ae}(hp:p∈dQ ls):K8 p=true/\2<=Dz p:=by
 have h1:=((yI h).ok p.1).wt
 grind [JJ,K8,Dz,JH,M0]
theorem M7{ls:List Lf}(h:gU ls):(dQ ls).all K8=true:=aq8.2 fun p hp=>(JI h hp).1
theorem uC:∀{l:vi},(∀p,p∈l->2<=Dz p)->((2 ^ l.length:Nat):Int)<=gT l
 |[],_=>by simp[gT]
 |p::r,h=>by
  have h1:=h p (by simp);have h2:=uC (l:=r) fun m hm=>h m (by simp[hm])
  have h3:(1:Int)<=((2 ^ r.length:Nat):Int):=by
   have:=Nat.one_le_two_pow (n:=r.length);omega
  rw[gT,bx9,Nat.pow_succ,ao9];have:=Int.mul_le_mul h1 h2 (by omega) (by omega)
  grind
def Az(ls:List Lf):Bool:=decide (gT (dQ ls)<=200000)
theorem Kf(F:Nat){ls:List Lf}(h:gU ls):On F (dQ ls)=some (Az ls):=by
 simp_all[On,Az,pS,M7]
theorem sS{ls:List Lf}(h:gU ls)(hf:Az ls=true):(pd ls).length<=17:=by
 have h1:=uC fun p hp=>(JI h hp).2;have h2:=of_decide_eq_true hf;rw[wc];rcases bs8 17 (dQ ls).length with h3|h3
 ·have:=Nat.pow_le_pow_right (n:=2) (by omega) h3;omega
 ·exact h3
theorem ye:zA ⟨false,false,[],0⟩:=⟨fun h=>absurd h (by simp),fun h=>absurd h (by simp)⟩
structure Kh(ls:List Lf)(P:(bb->Option Fd)->Option Bool)(A:(bb->Fd)->Bool):Prop where
 mono:∀s s' b,ext s s'->P s=some b->P s'=some b
 full:∀s a,(∀l,l∈ls->s l.nm=some (a l.nm))->P s=some (A a)
 congr:∀a b,(∀l,l∈ls->l.one (a l.nm)=l.one (b l.nm))->A a=A b
theorem Fw{s:bb}(h:fd s=true):s.length<=1000:=by
 unfold fd at h
 grind
def zI(A:(bb->Fd)->Bool)(fx:bb->Option Fd):Prop:=∃v:bb->Fd,(∀n,zA (v n))/\(∀n x,fx n=some x->v n=x)/\A v=true
theorem CE{ls:List Lf}(hl:gU ls)(hf17:Az ls=true){P:(bb->Option Fd)->Option Bool}{A:(bb->Fd)->Bool}(hP:Kh ls P A)(F0:Nat)(hb:Bool)(cd:KV)
  (hC:∀F m kn s,F0<=F->DE m kn s->Mi F ⟨m,some kn⟩ hb cd=some (xy (P (wU s)))) (fx:zl) (hfx:∀n x,aG fx n=some x->zA (uv x)) (F:Nat) (hF:F0+1000000<=F):
  ∃by_ ns m kn m' kn' r,HD F (dQ ls) hb cd fx=some (by_,ns,m,kn)/\xF F 0 by_ hb cd ns m kn=some (r,m',kn')/\(r=true<->zI A (wU (yJ (dQ ls) fx))):=by
 have hg:=yI hl;have hl17:=sS hl hf17;have hal:(dQ ls).length<=17:=by rw[<-wc];exact hl17
 have hgs:=fun n=>Lm (hg.ok n) (JJ hl n) F (by omega)
 have hnm:∀n,n∈(dQ ls).map (·.1)->n.length<=1000:=fun n hn=>by
  obtain⟨l,h,e⟩:=(hg.ke n).1 hn;exact e ▸ Fw (hl.1 l h).nm
 obtain⟨by_,m,kn,e1,hs0,e2⟩:=Mk F (dQ ls) hb cd fx hg.kn (by omega) (fun p hp=>hnm p.1 (bo8 hp)) (fun n hn _=>by
  obtain⟨nums,txs,h⟩:=hgs n;exact⟨iF (dQ ls) n,nums,txs,hg.sm n hn,h.g⟩)
 obtain⟨ns,hns⟩:∃ns,ns=(pd ls).filter fun n=>(aG fx n).isNone:=⟨_,rfl⟩;have hmem:∀n,n∈ns<->n∈pd ls/\aG fx n=none:=fun n=>by rw[hns,bz9,Option.isNone_iff_eq_none]
 have hnd:ns.Nodup:=by rw[hns];exact(uM hl).filter _
 have hnl:ns.length<=17:=by rw[hns];exact bw9 (ab9 _ _) hl17
 have hno:∀n,n∈ns->yJ (dQ ls) fx n=none:=fun n hn=>by
  unfold yJ;rw[((hmem n).1 hn).2];simp
 have hmono:∀(s s':Mx) b,ext s s'->P (wU s)=some b->P (wU s')=some b:=fun s s' b he h=>hP.mono _ _ b (fun n x hx=>by
  unfold wU at hx ⊢;cases hs:s n with
  |none=>grind
  |some y=>rw[hs] at hx;rw[he n y hs];exact hx) h
 obtain⟨m',kn',hf⟩:=BS (fun s=>P (wU s)) F0 hb cd hC by_ ns hnd (by omega) ns [] rfl F (by omega) m kn (yJ (dQ ls) fx) hs0 hno
 have hcan:∀n,n∈ns->∃nums txs,Gvs F (iF (dQ ls) n) nums txs/\∀x,x∈(aG by_ n).getD []<->x∈eS (iF (dQ ls) n) nums txs:=fun n hn=>by
  obtain⟨nums,txs,h⟩:=hgs n;exact⟨nums,txs,h,e2 n _ nums txs ((hmem n).1 hn).2 (hg.sm n ((dg _).mem_iff.1 ((hmem n).1 hn).1)) h.g⟩
 rw[show(([]:List bb).length:Int)=0 from rfl] at hf;rw[show(dU ((dQ ls).map (·.1))).filter (fun n=>(aG fx n).isNone)=ns from hns.symm] at e1;cases h4:qH? (fun s=>P (wU s)) (fun n=>(aG by_ n).getD []) ns (yJ (dQ ls) fx) with
 |some s'=>
  rw[h4] at hf;dsimp only at hf;obtain⟨g1,g2,g3⟩:=pC ns _ s' hnd hno h4
  have hs':∀n x,s' n=some x->zA (uv x):=fun n x hx=>by
   rcases g3 n x hx with h|⟨h,h5⟩
   ·unfold yJ at h;split at h
    ·exact hfx n x h
    ·cases h
   ·obtain⟨nums,txs,q1,q2⟩:=hcan n h;exact q1.ok x ((q2 x).1 h5)
  refine⟨by_,ns,m,kn,m',kn',true,e1,hf.1,⟨fun _=>?_,fun _=>Y⟩⟩;refine⟨fun n=>((wU s') n).getD ⟨false,false,[],0⟩,fun n=>?_,fun n x hx=>?_,?_⟩
  ·unfold wU;dsimp only;cases hx:s' n<;>grind [ye]
  ·unfold wU at hx ⊢;rw[ad8] at hx;obtain⟨y,h1,h2⟩:=hx
   show(Option.map uv (s' n)).getD _=x
   rw[g2 n y h1];exact h2
  ·have h6:=hP.mono (wU s') (fun n=>some (((wU s') n).getD ⟨false,false,[],0⟩)) true (fun n x hx=>by grind) g1;rw[hP.full _ (fun n=>((wU s') n).getD ⟨false,false,[],0⟩) fun _ _=>rfl] at h6
   grind
 |none=>
  rw[h4] at hf;dsimp only at hf;refine⟨by_,ns,m,kn,m',kn',false,e1,hf.1,⟨fun h=>absurd h (by simp),fun⟨v,hv,hvx,ht⟩=>?_⟩⟩;exfalso
  have hrep:∀n,∃c:aa,n∈ns->c∈(aG by_ n).getD []/\vh (iF (dQ ls) n) (uv c) (v n):=fun n=>by
   by_cases hn:n∈ns
   ·obtain⟨nums,txs,q1,q2⟩:=hcan n hn;obtain⟨c,c1,c2⟩:=q1.rep (v n) (hv n)<;>grind
   ·exact⟨zV,fun h=>absurd h hn⟩
  obtain⟨a,ha⟩:∃a:bb->aa,∀n,n∈ns->a n∈(aG by_ n).getD []/\vh (iF (dQ ls) n) (uv (a n)) (v n):=⟨fun n=>(hrep n).choose,fun n hn=>(hrep n).choose_spec hn⟩;refine sP hmono ns _ hnd hno h4 a (fun n hn=>(ha n hn).1) ?_
  have hset:∀n,n∈pd ls->lq (yJ (dQ ls) fx) ns a n=some ((yJ (dQ ls) fx n).getD (a n)):=fun n hn=>by
   unfold lq;cases hx:yJ (dQ ls) fx n with
   |some x=>rfl
   |none=>
    have:n∈ns:=(hmem n).2 ⟨hn,by
     unfold yJ at hx
     rwa [if_pos ((dg _).mem_iff.1 hn)] at hx⟩
    simp[this]
  rw[hP.full _ (fun n=>uv ((yJ (dQ ls) fx n).getD (a n))) fun l hl2=>by
   have hn:=(rm hl).2 ⟨l,hl2,rfl⟩;unfold wU;rw[hset _ hn];rfl]
  rw[hP.congr _ v fun l hl2=>by
   have hn:=(rm hl).2 ⟨l,hl2,rfl⟩;cases hx:yJ (dQ ls) fx l.nm with
   |some x=>
    rw[hvx l.nm (uv x) (by unfold wU;rw[hx];rfl)];rfl
   |none=>
    have hns2:l.nm∈ns:=(hmem l.nm).2 ⟨hn,by
     unfold yJ at hx
     rwa [if_pos ((dg _).mem_iff.1 hn)] at hx⟩
    exact yd (hg.lf l hl2) (ha l.nm hns2).2,ht]
mutual
def Tr.gd:Tr->Prop
 | .mk k nm tx op n ks=>(cV ⟨k,nm,tx,op,n,Tr.toKs ks⟩=0\/((k=7\/k=8)/\nm=[]))/\Tr.gds ks
def Tr.gds:List Tr->Prop
 |[]=>True
 |t::r=>t.gd/\Tr.gds r
end
theorem mM:∀{ks:List Tr} {t:Tr},Tr.gds ks->t∈ks->t.gd
 |u::r,t,h,hm=>by
  rw[Tr.gds] at h;rcases as9.1 hm with e|hm
  ·rw[e];exact h.1
  ·exact mM h.2 hm
theorem Ay:∀{ks:List Tr},(∀t,t∈ks->t.gd)->Tr.gds ks
 |[],_=>by rw[Tr.gds];trivial
 |u::r,h=>by rw[Tr.gds];exact⟨h u (by simp),Ay fun t ht=>h t (by simp[ht])⟩
theorem g8{k op n:Int}{nm:bb}{tx:List bb}{ks:List Tr}(h:(Tr.mk k nm tx op n ks).gd):(cV ⟨k,nm,tx,op,n,Tr.toKs ks⟩=0\/((k=7\/k=8)/\nm=[]))/\Tr.gds ks:=by
 simp_all[Tr.gd]
theorem Ge:∀t:Tr,t.flt=0->t.gd:=Tr.ind fun k nm tx op n ks ih hz=>by
 grind [iQ,Tr.gd,Ay,fe]
theorem yi{s:bb}(h:fd s=true):s≠[]:=by
 rintro rfl;cases h
theorem BB{x:aV}(h:cV x=0)(hk:¬(2<=x.Kind/\x.Kind<=5)):x.Name=[]/\(x.Kind=1->x.Kids=[]):=by
 unfold cV at h
 grind
section
variable{k op n:Int}{nm:bb}{tx:List bb}{ks:List Tr}(h:(Tr.mk k nm tx op n ks).gd)
include h
theorem BP:1<=k/\k<=8:=by
 rcases(g8 h).1 with h|h
 ·exact ix h
 ·omega
theorem Ln(h6:k=6):ks.length=1:=by
 rcases(g8 h).1 with h|h
 ·rw[<-jV h h6];grind [Tr.toKs_len]
 ·omega
theorem Gd(h1:k=1):ks=[]:=by
 rcases(g8 h).1 with h|h
 ·have:=Tr.toKs_len ks;have e:=(BB h (by grind)).2 h1
  grind
 ·omega
theorem mH:
  (nm≠[]/\ks=[]/\2<=k/\k<=5/\(Tr.mk k nm tx op n ks).lvs=[⟨k,nm,tx,op,n⟩]/\kR ⟨k,nm,tx,op,n⟩)\/(nm=[]/\(Tr.mk k nm tx op n ks).lvs=Tr.lvss ks):=by
 have hkk:=BP h;have hone:=Gd h;obtain⟨hnode,hfl⟩:=g8 h;rw[Tr.lvs];by_cases hk:2<=k/\k<=5
 ·rcases hnode with hnode|hnode
  ·obtain⟨h1,h2⟩:=uP hnode hk
   have hks:ks=[]:=by
    have:=Tr.toKs_len ks;rw[h2] at this;exact ay8.1 this.symm
   exact .inl ⟨yi h1.nm,hks,hk.1,hk.2,by grind,h1⟩
  ·omega
 ·have h1:nm=[]:=by
   rcases hnode with hnode|hnode
   ·exact(BB hnode hk).1
   ·grind
  refine .inr ⟨h1,?_⟩;by_cases h1:k=1
  ·rw[if_pos h1,hone h1];rfl
  grind
end
theorem If:∀t:Tr,t.gd->∀l,l∈t.lvs->kR l:=Tr.ind fun k nm tx op n ks ih hz l hl=>by
 rcases mH hz with ⟨_,_,_,_,h3,h4⟩|⟨_,h3⟩
 ·grind
 ·rw[h3] at hl;obtain⟨t,ht,h⟩:=iJ.1 hl;exact ih t ht (mM (g8 hz).2 ht) l h
abbrev jD(l:List bb):Prop:=l.Pairwise (fun a b=>Op.bytesLess a b=true)
theorem Pa{i j:Nat}(h:i+j<=1000000000):bE (Int.tdiv (bE ((i:Int)+(j:Int))) 2)=(((i+j) / 2:Nat):Int):=by
 grind [cS]
theorem p8(F:Nat)(a:List bb)(x:bb)(k:Int->Option (Int×Bool))(hlen:a.length<=100000000)(hs:jD a):
  ∀(n i j:Nat),i<=j->j<=a.length->j - i<n->(∀q (h:q<a.length),q<i->Op.bytesLess a[q] x=true)->(∀q (h:q<a.length),j<=q->Op.bytesLess a[q] x=false)->
  ∃p:Nat,p<=a.length/\kO F a x k n i j=k p/\(∀q (h:q<a.length),q<p->Op.bytesLess a[q] x=true)/\∀q (h:q<a.length),p<=q->Op.bytesLess a[q] x=false
 |0,i,j,_,_,h,_,_=>by omega
 |n+1,i,j,hij,hj,hn,h1,h2=>by
  rw[kO];by_cases hc:i<j
  ·have hm:(i+j) / 2<a.length:=by omega
   rw[if_pos (decide_eq_true (by omega)),Pa (by omega),bQ hm,by8,aH];by_cases hl:Op.bytesLess a[(i+j) / 2] x=true
   ·rw[if_pos hl,show bE ((((i+j) / 2:Nat):Int)+1)=(((i+j) / 2+1:Nat):Int) by grind [cS]];refine p8 F a x k hlen hs n ((i+j) / 2+1) j (by omega) hj (by omega) (fun q h hq=>?_) h2;rcases bs8 q ((i+j) / 2) with hq2|hq2
    ·exact fM (aw9.1 hs q ((i+j) / 2) h hm hq2) hl
    grind
   ·rw[if_neg hl];refine p8 F a x k hlen hs n i ((i+j) / 2) (by omega) (by omega) (by omega) h1 (fun q h hq=>?_);have hl:Op.bytesLess a[(i+j) / 2] x=false:=by simpa using hl
    rcases bs8 ((i+j) / 2) q with hq2|hq2
    ·have:=aw9.1 hs ((i+j) / 2) q hm h hq2
     grind [fM]
    grind
  grind
theorem xu(F:Nat)(a:List bb)(x:bb)(hlen:a.length<=100000000)(hs:jD a)(hF:a.length<F):
  ∃p:Nat,p<=a.length/\zw F a x=some ((p:Int),decide (x∈a))/\(∀q (h:q<a.length),q<p->Op.bytesLess a[q] x=true)/\(∀q (h:q<a.length),p<=q->Op.bytesLess a[q] x=false)/\(x∈a->a[p]? = some x):=by
 obtain⟨p,hp,he,h1,h2⟩:=p8 F a x (fun(n4:Int)=>if (decide (n4<((a.length:Nat):Int)))=true then (ct a n4).bind fun x17=>some (n4,(x17==x)) else some (n4,false)) hlen hs F 0 a.length (by omega) (ae9 _) (by omega) (fun q h hq=>by omega) (fun q h hq=>by omega)
 have hin:x∈a->∃h:p<a.length,a[p]=x:=fun hx=>by
  obtain⟨q,hq,e⟩:=bj8 hx;have hpq:p<=q:=au8 fun h=>by grind [iA]
  have hpl:p<a.length:=by omega
  refine⟨hpl,?_⟩;rcases bs8 p q with h|h
  ·have:=aw9.1 hs p q hpl hq h
   grind
  grind
 refine⟨p,hp,?_,h1,h2,fun hx=>?_⟩
 ·unfold zw;rw[aH,show(0:Int)=((0:Nat):Int) from rfl,he];by_cases hpl:p<a.length
  ·rw[if_pos (decide_eq_true (by omega)),bQ hpl,by8]
   have:(a[p]==x)=decide (x∈a):=by
    by_cases hx:x∈a
    ·grind
    ·grind
   rw[this]
  ·rw[if_neg (by simp;omega),decide_eq_false fun hx=>hpl (hin hx).1]
 grind
theorem AX(F:Nat)(a:List bb)(x:bb)(hlen:a.length<=100000000)(hs:jD a)(hF:a.length<F):Ma F a x=some (decide (x∈a)):=by
 obtain⟨p,_,e,_⟩:=xu F a x hlen hs hF<;>simp_all[Ma]
theorem rG(F:Nat)(a:List bb)(x:bb)(hlen:a.length<=90000000)(hs:jD a)(hF:a.length<F):
  ∃a',xv F a x=some a'/\jD a'/\(∀y,y∈a'<->y=x\/y∈a)/\a'.length<=a.length+1:=by
 obtain⟨p,hp,e,h1,h2,h3⟩:=xu F a x (by omega) hs hF;unfold xv;rw[e,by8];dsimp only;by_cases hx:x∈a
 ·grind
 ·rw[decide_eq_false hx,if_neg (by simp)];have hpn:((p:Int)).toNat=p:=rfl;rw[hpn,if_pos ⟨by omega,hp⟩,if_pos (by simp;omega),if_pos (by simp;omega),if_pos ⟨by omega,hp⟩,if_pos (by simp;omega)];refine⟨_,rfl,?_,fun y=>?_,by simp;omega⟩
  ·have hlt:∀y,y∈a.take p->Op.bytesLess y x=true:=fun y hy=>by
    grind [List.getElem_of_mem]
   have hgt:∀y,y∈a.drop p->Op.bytesLess x y=true:=fun y hy=>by
    grind [List.getElem_of_mem,pH]
   refine List.pairwise_append.2 ⟨List.pairwise_append.2 ⟨hs.sublist (List.take_sublist _ _),by simp,fun b hb c hc=>?_⟩,hs.sublist (List.drop_sublist _ _),fun b hb c hc=>?_⟩
   ·grind
   grind [fM]
  grind [List.take_append_drop]
theorem Mf:∀t:Tr,t.ok->t.gd->∀F,t.fu+200000000<=F->∀a:List bb,jD a->a.length+t.cnt<=10000000->
  ∃a',G9 F t.toT a=some a'/\jD a'/\(∀y,y∈a'<->y∈a\/∃l,l∈t.lvs/\l.nm=y)/\a'.length<=a.length+t.cnt:=Tr.ind fun k nm tx op n ks ih ok hz F hF a ha hl=>by
 rw[Tr.fu] at hF;rw[Tr.cnt] at hl ⊢;obtain⟨hnode,hfl⟩:=g8 hz;obtain⟨F,rfl⟩:∃G,F=G+1:=⟨F - 1,by omega⟩
 show ∃a',zp (G9 F) F (Tr.mk k nm tx op n ks).toT a=some a'/\_
 rw[Tr.toT,zp];dsimp only;rcases mH hz with ⟨h1,h2,_,_,h3,_⟩|⟨h1,h3⟩
 ·rw[if_pos (by grind)];obtain⟨a',e,g1,g2,g3⟩:=rG F a nm (by omega) ha (by omega);refine⟨a',by rw[e];rfl,g1,fun y=>?_,by omega⟩;rw[g2,h3];constructor
  ·rintro(h|h)
   ·simp_all
   grind
  grind
 ·rw[if_neg (by simp[h1])];have hk:=(Tr.okks ok).2;rw[aH,Tr.toKs_len,if_pos (by omega),show(((ks.length:Nat):Int)).toNat=ks.length by omega]
  have hloop:∀m j:Nat,j+m=ks.length->∀a:List bb,jD a->a.length+Tr.cnts (ks.drop j)<=10000000->
    ∃a',mo (G9 F) F ⟨k,nm,tx,op,n,Tr.toKs ks⟩ (fun(l7:List B8)=>some l7) m (j:Int) a=some a'/\jD a'/\(∀y,y∈a'<->y∈a\/∃l,l∈Tr.lvss (ks.drop j)/\l.nm=y)/\a'.length<=a.length+Tr.cnts (ks.drop j):=by
   intro m
   induction m with
   |zero=>
    simp_all[mo,Tr.lvss]
   |succ m ihm=>
    intro j hj a ha hl;have hn:j<ks.length:=by omega
    have ht:ks[j]∈ks:=bc9 _;rw[bu8 hn,Tr.cnts] at hl;obtain⟨a1,e1,p1,p2,p3⟩:=ih _ ht (Tr.oks_mem (Tr.okks ok).1 ht) (mM hfl ht) F (by have:=Tr.fu_mem ht;omega) a ha (by omega);obtain⟨a2,e2,q1,q2,q3⟩:=ihm (j+1) (by omega) a1 p1 (by omega)<;>grind [mo,gF,Tr.dec,List.drop_eq_getElem_cons,Tr.cnts,Tr.lvss]
  obtain⟨a',e,g1,g2,g3⟩:=hloop ks.length 0 (by omega) a ha (by grind);rw[bt8] at g2 g3;refine⟨a',e,g1,fun y=>by rw[g2,h3],by omega⟩
def Lf.t(l:Lf):aV:=⟨l.k,l.nm,l.tx,l.op,l.n,[]⟩
def Lf.row(l:Lf):aU:=tY ar l.t
theorem Lf.dec(l:Lf):er ar l.row=some l.t:=BM oI rfl
def Ce(t:Tr)(n:bb):List Lf:=t.lvs.filter fun l=>l.nm==n
theorem xf(t:Tr)(n:bb):(Ce t n).length<=t.cnt:=bw9 (ab9 _ _) (BJ t)
theorem xe{t:Tr}{n:bb}{l:Lf}:l∈Ce t n<->l∈t.lvs/\l.nm=n:=by
 simp_all[Ce]
theorem G4(nm':bb)(hne:nm'≠[]):∀t:Tr,t.ok->t.gd->∀F,t.fu<=F->∀a:List aU,a.length+t.cnt<=10000000->
  qs F t.toT nm' a=some (a++(Ce t nm').map Lf.row):=Tr.ind fun k nm tx op n ks ih ok hz F hF a hl=>by
 rw[Tr.fu] at hF;rw[Tr.cnt] at hl;obtain⟨hnode,hfl⟩:=g8 hz;obtain⟨F,rfl⟩:∃G,F=G+1:=⟨F - 1,by omega⟩
 show o9 (qs F) F (Tr.mk k nm tx op n ks).toT nm' a=_
 have hk:=(Tr.okks ok).2
 have hloop:∀m j:Nat,j+m=ks.length->∀a:List aU,a.length+Tr.cnts (ks.drop j)<=10000000->
   gI (qs F) F ⟨k,nm,tx,op,n,Tr.toKs ks⟩ nm' (fun(l24:List aU)=>some l24) m (j:Int) a=some (a++((Tr.lvss (ks.drop j)).filter fun l=>l.nm==nm').map Lf.row):=by
  intro m
  induction m with
  |zero=>
   simp_all[gI,Tr.lvss]
  |succ m ihm=>
   intro j hj a hl;have hn:j<ks.length:=by omega
   have ht:ks[j]∈ks:=bc9 _;rw[bu8 hn,Tr.cnts] at hl;have hal:=xf ks[j] nm';rw[gI,gF hn,by8,Tr.dec,by8,ih _ ht (Tr.oks_mem (Tr.okks ok).1 ht) (mM hfl ht) F (by have:=Tr.fu_mem ht;omega) a (by omega),by8,show((j:Int)+1)=((j+1:Nat):Int) from rfl,ihm (j+1) (by omega) _ (by grind),bu8 hn,Tr.lvss,ac9,cm8,cb9];rfl
 rw[Tr.toT,o9];dsimp only;rcases mH hz with ⟨h1,h2,_,_,h3,_⟩|⟨h1,h3⟩
 ·unfold Ce;rw[h3];by_cases e:nm=nm'
  ·rw[if_pos (by grind),if_pos (by simp;omega)]
   simp_all[Lf.row,Lf.t,Tr.toKs]
  ·rw[if_neg (by grind),aH,Tr.toKs_len,if_pos (by omega),show(((ks.length:Nat):Int)).toNat=ks.length by omega]
   grind [Tr.lvss]
 ·rw[if_neg (by grind),aH,Tr.toKs_len,if_pos (by omega),show(((ks.length:Nat):Int)).toNat=ks.length by omega];have:=hloop ks.length 0 (by omega) a (by grind)
  simp_all[Ce]
theorem L0(nm':bb)(hne:nm'≠[]):∀t:Tr,t.ok->t.gd->t.cnt<=1500000->∀F,t.fu<=F->
  Oe F t.toT nm'=some ((Ce t nm').map Lf.row):=fun t=>match t with
 | .mk k nm tx op n ks=>fun ok hz hc F hF=>by
  rw[Tr.fu] at hF;rw[Tr.cnt] at hc;obtain⟨hnode,hfl⟩:=g8 hz;have hk:=(Tr.okks ok).2
  have hloop:∀m j:Nat,j+m=ks.length->∀a:List aU,a.length+Tr.cnts (ks.drop j)<=10000000->
    mf F ⟨k,nm,tx,op,n,Tr.toKs ks⟩ nm' (fun(l23:List aU)=>some l23) m (j:Int) a=some (a++((Tr.lvss (ks.drop j)).filter fun l=>l.nm==nm').map Lf.row):=by
   intro m
   induction m with
   |zero=>
    simp_all[mf,Tr.lvss]
   |succ m ihm=>
    intro j hj a hl;have hn:j<ks.length:=by omega
    have ht:ks[j]∈ks:=bc9 _;rw[bu8 hn,Tr.cnts] at hl;have hal:=xf ks[j] nm';rw[mf,gF hn,by8,Tr.dec,by8,G4 nm' hne _ (Tr.oks_mem (Tr.okks ok).1 ht) (mM hfl ht) F (by have:=Tr.fu_mem ht;omega) a (by omega),by8,show((j:Int)+1)=((j+1:Nat):Int) from rfl,ihm (j+1) (by omega) _ (by grind),bu8 hn,Tr.lvss,ac9,cm8,cb9];rfl
  rw[Tr.toT,Oe];dsimp only;rcases mH hz with ⟨h1,h2,_,_,h3,_⟩|⟨h1,h3⟩
  ·unfold Ce;rw[h3];by_cases e:nm=nm'
   ·simp_all[Lf.row,Lf.t,Tr.toKs]
   ·rw[if_neg (by grind),aH,Tr.toKs_len,if_pos (by omega),show(((ks.length:Nat):Int)).toNat=ks.length by omega]
    grind [Tr.lvss]
  ·rw[if_neg (by grind),aH,Tr.toKs_len,if_pos (by omega),show(((ks.length:Nat):Int)).toNat=ks.length by omega];have:=hloop ks.length 0 (by omega) [] (by grind)
   simp_all[Ce]
theorem sF{ls:List Lf}{j:Nat}(h:j<ls.length):ct (ls.map Lf.row) (j:Int)=some ls[j].row:=by
 simp_all[bQ]
def uT(ls:List Lf):Bool:=ls.any fun l=>l.k==2||l.k==3
def uN(ls:List Lf):Bool:=ls.any fun l=>l.k==5
def uH(ls:List Lf):Bool:=ls.any fun l=>l.k==4
theorem LZ(F:Nat)(ls:List Lf):Od F (ls.map Lf.row)=some (uT ls,uN ls,uH ls):=by
 unfold Od;rw[aH,bj9,show(((ls.length:Nat):Int)).toNat=ls.length by omega]
 have hloop:∀m j:Nat,j+m=ls.length->∀a b c:Bool,me F (ls.map Lf.row) (fun(b3:Bool) (b4:Bool) (b5:Bool)=>some (b3,b4,b5)) m (j:Int) a b c=some (a||uT (ls.drop j),b||uN (ls.drop j),c||uH (ls.drop j)):=by
  intro m
  induction m with
  |zero=>
   simp_all[me,uT,uN,uH]
  |succ m ihm=>
   intro j hj a b c;have hn:j<ls.length:=by omega
   have hstep:=fun a b c=>ihm (j+1) (by omega) a b c;rw[show((j+1:Nat):Int)=(j:Int)+1 from rfl] at hstep;rw[me,aH,bu8 hn];simp only[sF hn,Lf.dec,by8,hstep];unfold uT uN uH;simp only[List.any_cons];have e:ls[j].t.Kind=ls[j].k:=rfl
   grind
 have:=hloop ls.length 0 (by omega) false false false
 grind
theorem Mg(t:Tr)(ok:t.ok)(hz:t.gd)(hc:t.cnt<=1500000)(F:Nat)(hF:t.fu+200000000<=F):
  ∃ns,G9 F t.toT []=some ns/\jD ns/\∀y,y∈ns<->∃l,l∈t.lvs/\l.nm=y:=by
 obtain⟨ns,e,h1,h2,_⟩:=Mf t ok hz F hF [] (by simp) (by simp;omega)
 grind
theorem H8{t:Tr}(hg:gU t.lvs){ns:List bb}(h1:jD ns)(h2:∀y,y∈ns<->∃l,l∈t.lvs/\l.nm=y):ns.Perm (pd t.lvs):=
 (List.perm_ext_iff_of_nodup (h1.imp nr) (uM hg)).2 fun y=>by rw[h2,rm hg]
theorem IT{n:Nat}{bg:List bb}{x:bb}{c:UInt8}(h:zG n bg x=false)(hn:n<=x.length):zG n bg (x++[c])=decide (x++[c]∈bg):=by
 by_cases hm:x++[c]∈bg
 ·rw[decide_eq_true hm];unfold zG;rw[cf9];exact⟨_,hm,by rw[aq9,decide_eq_true_eq,mR];grind⟩
 ·rw[decide_eq_false hm];rw[fH] at h ⊢;intro b hb hl hp;rcases List.prefix_concat_iff.1 hp with e|hp<;>simp_all
theorem tF(F:Nat)(n0:Nat)(a2:List bb)(x:bb)(k:List bb->Option (bb×Bool))(h2:jD a2)(hl2:a2.length<=1000000)(hF:a2.length<F)(hx:x.length<1000)(hb:zG n0 a2 x=false)(hn:n0<=x.length):∀(d c:Nat),c+d=127->32<=c->∀fuel,d<fuel->∀l:List bb,l.length+d<=100000000->
  gx F a2 x k fuel (c:Int) l=k (l++ek n0 a2 x c)
 |0,c,hc,h32,fuel,hf,l,hl=>by
  obtain⟨fuel,rfl⟩:∃g,fuel=g+1:=⟨fuel - 1,by omega⟩<;>simp_all[ek,gx]
 |d+1,c,hc,h32,fuel,hf,l,hl=>by
  obtain⟨fuel,rfl⟩:∃g,fuel=g+1:=⟨fuel - 1,by omega⟩;have hw:=xG ⟨c,by omega⟩;dsimp only at hw;have hch:(([(c:Int)]:List Int).map fun n=>UInt8.ofNat n.toNat)=[UInt8.ofNat c]:=rfl;rw[gx,if_pos (decide_eq_true (by omega)),if_pos (decide_eq_true (by omega)),hch,if_pos (by simp;omega),AX F a2 _ (by omega) h2 hF,by8,aH,hw,sC (by omega),IT hb hn];have ih:=tF F n0 a2 x k h2 hl2 hF hx hb hn d (c+1) (by omega) (by omega) fuel (by omega)
  grind
theorem xp(F:Nat)(a2:List bb)(x:bb)(k:List bb->Option (bb×Bool))(hx:¬x.length<1000)(fuel:Nat)(hf:0<fuel)(l:List bb):gx F a2 x k fuel 32 l=k l:=by
 obtain⟨fuel,rfl⟩:∃g,fuel=g+1:=⟨fuel - 1,by omega⟩;rw[gx,if_pos (by decide),if_neg (by simp;omega)]
structure Qr(a1:bb)(a2 a3:List bb)(l:List bb)(n:Nat):Prop where
 nd:l.Nodup
 hd:l[0]? = some a1
 ok:∀q,q∈l->a1 <+: q/\qf q/\zG a1.length a2 q=false
 par:∀j q,l[j]? = some q->0<j->∃i p c,i<n/\l[i]? = some p/\q=p++[c]
 cl:∀j q,j<n->l[j]? = some q->q∈a3/\(q.length<1000->∀y,y∈ek a1.length a2 q 32->y∈l)
 ln:l.length<=1+95*n
theorem Qr.len{a1:bb}{a2 a3 l:List bb}{n:Nat}(h:Qr a1 a2 a3 l n)(hn:n<=l.length):n<=a3.length:=by
 have:=iw (l:=l.take n) (m:=a3) (h.nd.sublist (List.take_sublist _ _)) fun y hy=>by
  obtain⟨j,hj,e⟩:=bj8 hy;rw[List.getElem_take] at e;rw[bk9] at hj;exact(h.cl j y (by omega) (by grind)).1
 grind
theorem nZ(F:Nat)(a1:bb)(a2 a3:List bb)(k4:Option (bb×Bool))(h2:jD a2)(h3:jD a3)(hF:200<=F)(hF2:a2.length<F)(hF3:a3.length<F)(ha2:a2.length<=1000000)(ha:a3.length<=1000000):∀(fuel n:Nat) (l:List bb),Qr a1 a2 a3 l n->n<=l.length->a3.length+2<=n+fuel->
  (∃t,ie F a2 a3 k4 fuel (l.drop n)=some (t,true)/\dT a3 a2 a1 t)\/(ie F a2 a3 k4 fuel (l.drop n)=k4/\∃l',Qr a1 a2 a3 l' l'.length)
 |0,n,l,h,hn,hf=>by have:=h.len hn;omega
 |fuel+1,n,l,h,hn,hf=>by
  have hll:=h.len hn;have hln:=h.ln;rw[ie];by_cases hnl:n<l.length
  ·have hd:l.drop n=l[n]::l.drop (n+1):=bu8 hnl;have hx:l[n]? = some l[n]:=az9 hnl;obtain⟨x,hxe⟩:∃x,x=l[n]:=⟨_,rfl⟩;rw[<-hxe] at hx hd;have hxm:=ay9 hx;obtain⟨o1,o2,o3⟩:=h.ok x hxm;rw[if_pos (decide_eq_true (by grind)),aH,hd,show ct (x::l.drop (n+1)) 0=some x from rfl,by8,if_pos (by simp),AX F a3 x (by omega) h3 hF3,by8,List.drop_succ_cons,bt8];by_cases hx3:x∈a3
   ·rw[decide_eq_true hx3,if_neg (by simp),aH];have hxl:x.length<=1000:=o2.1;by_cases h1000:x.length<1000
    ·have hin:=tF F a1.length a2 x (fun l17=>(fun l9=>ie F a2 a3 k4 fuel l9) l17) h2 ha2 hF2 h1000 o3 o1.length_le 95 32 rfl (by omega) F (by omega) (l.drop (n+1)) (by grind);rw[show((32:Nat):Int)=32 from rfl] at hin;rw[hin];dsimp only
     have hok:∀y,y∈ek a1.length a2 x 32->a1 <+: y/\qf y/\zG a1.length a2 y=false:=by
      intro y hy;obtain⟨⟨c,c1,c2,rfl⟩,hb⟩:=gD.1 hy;refine⟨o1.trans (List.prefix_append _ _),⟨by simp;omega,fun d hd=>?_⟩,hb⟩;rcases bz8.1 hd with hd|hd
      ·exact o2.2 d hd
      ·grind
     have hkl:=FW a1.length a2 x;rw[show l.drop (n+1)++ek a1.length a2 x 32=(l++ek a1.length a2 x 32).drop (n+1) by grind];refine nZ F a1 a2 a3 k4 h2 h3 hF hF2 hF3 ha2 ha fuel (n+1) (l++ek a1.length a2 x 32) ⟨?_,?_,fun q hq=>?_,fun j q hj h0=>?_,fun j q hj hq=>?_,by grind⟩ (by simp;omega) (by omega)
     ·rw[ca9];refine⟨h.nd,sB _ _ _,fun a hal b hbk e=>?_⟩;subst e;obtain⟨⟨c,c1,c2,rfl⟩,hb⟩:=gD.1 hbk;obtain⟨j,hj⟩:=bc8 hal;by_cases h0:j=0
      ·subst h0;rw[h.hd] at hj
       grind
      ·obtain⟨i,p,d,g2,g3,g4⟩:=h.par j _ hj (by omega);have e2:=List.append_inj' g4 rfl;rw[<-e2.1] at g3;have hi:i<l.length:=(bd9.1 g3).1;have:=(bq9 hi h.nd).1 (g3.trans hx.symm);omega
     ·rw[at8 (by grind)];exact h.hd
     ·rcases bz8.1 hq with hq|hq
      ·exact h.ok q hq
      grind
     ·by_cases hjl:j<l.length
      ·rw[at8 hjl] at hj;obtain⟨i,p,c,g2,g3,g4⟩:=h.par j q hj h0<;>grind
      ·rw[au9 (by omega)] at hj;have hq:=ay9 hj;obtain⟨⟨c,c1,c2,rfl⟩,hb⟩:=gD.1 hq;exact⟨n,x,c,by omega,by grind,rfl⟩
     ·by_cases e:j=n
      ·grind
      ·rw[at8 (by omega)] at hq;obtain⟨g1,g2⟩:=h.cl j q (by omega) hq<;>simp_all
    ·rw[xp F a2 x _ h1000 F (by omega)];dsimp only;refine nZ F a1 a2 a3 k4 h2 h3 hF hF2 hF3 ha2 ha fuel (n+1) l ⟨h.nd,h.hd,h.ok,fun j q hj h0=>?_,fun j q hj hq=>?_,by omega⟩ hnl (by omega)
     ·obtain⟨i,p,c,g2,g3⟩:=h.par j q hj h0<;>grind
     ·by_cases e:j=n
      ·grind
      ·exact h.cl j q (by omega) hq
   ·rw[decide_eq_false hx3,if_pos (by simp)];exact .inl ⟨x,Y,o1,o2,hx3,fH.1 o3⟩
  grind
theorem Qr.none{a1:bb}{a2 a3 l:List bb}(h:Qr a1 a2 a3 l l.length)(t:bb):¬dT a3 a2 a1 t:=by
 intro hf
 have key:∀k,a1.length+k<=t.length->t.take (a1.length+k)∈l:=by
  intro k
  induction k with
  |zero=>
   intro _;rw[bg8,<-List.prefix_iff_eq_take.1 hf.pre];exact ay9 h.hd
  |succ k ih=>
   intro hk;have hp:=ih (by omega);obtain⟨j,hj⟩:=bc8 hp;have hlt:a1.length+k<t.length:=by omega
   obtain⟨_,g⟩:=h.cl j _ (bd9.1 hj).1 hj;have hlen:(t.take (a1.length+k)).length<1000:=by have:=hf.ok.1;simp;omega
   refine g hlen _ (gD.2 ⟨⟨t[a1.length+k],?_,?_,?_⟩,fH.2 fun b hb hl hp=>?_⟩)
   ·exact(hf.ok.2 _ (bc9 hlt)).1
   ·exact(hf.ok.2 _ (bc9 hlt)).2
   ·grind [List.take_succ_eq_append_getElem]
   ·exact hf.no b hb hl (hp.trans (List.take_prefix _ _))
 have hle:=hf.pre.length_le;have:=key (t.length - a1.length) (by omega);rw[show a1.length+(t.length - a1.length)=t.length by omega,List.take_length] at this;obtain⟨j,hj⟩:=bc8 this;exact hf.not (h.cl j t (bd9.1 hj).1 hj).1
theorem Jk(F:Nat)(a1:bb)(a2 a3:List bb)(h2:jD a2)(h3:jD a3)(hF2:a2.length<F)(hF:a3.length+200<=F)(ha2:a2.length<=1000000)(ha:a3.length<=1000000)(h1:qf a1):
  (∃t,A6 F a1 a2 a3=some (t,true)/\dT a3 a2 a1 t)\/(A6 F a1 a2 a3=some ([],false)/\∀t,¬dT a3 a2 a1 t):=by
 have hb:zG a1.length a2 a1=false:=fH.2 fun b _ hl hp=>by grind
 have h0:Qr a1 a2 a3 [a1] 0:=⟨by simp,rfl,fun q hq=>by grind,fun j q hj h0=>by
  grind,fun j q hj=>by omega,by simp⟩
 rcases nZ F a1 a2 a3 (some ([],false)) h2 h3 (by omega) hF2 (by omega) ha2 ha F 0 [a1] h0 (by simp) (by omega) with ⟨t,e,hf⟩|⟨e,l',hl⟩
 ·simp_all[A6,aH]
 ·rw[bt8] at e;exact .inr ⟨by simp_all[A6,aH],hl.none⟩
end Go.Proofs.YtelmfadihfcgnaaGreatDoor
