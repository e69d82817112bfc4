/- Part of the proof. -/
import Derived.Test.YtelmfadihfcgnaaGreatDoorGD4RJ
set_option linter.unusedSimpArgs false
set_option linter.unusedVariables false
namespace Go.Proofs.YtelmfadihfcgnaaGreatDoor
open Go Go.Pv
set_option maxRecDepth 100000
noncomputable def qq(F:Nat)(t:Tr)(n:ba):List Fd:=(zc F ((qz t n).map Lf.row)).getD []
theorem BM{t:Tr}(hz:t.gd)(hc:t.cnt<=1500000){sm:List Lf}(hsm:Sm t.lvs sm){F:Nat}(hF:200000000<=F)(n:ba):zc F ((qz t n).map Lf.row)=some (qq F t n)/\Fds (qz t n) (qq F t n):=by
 obtain⟨cs,e,h⟩:=Jg F (qz t n) hF (fun l hl=>vP t hz l (q9.1 hl).1) (by grind [rc]) (sm:=sm) ⟨fun l hl=>hsm.sub l (q9.1 hl).1,hsm.ok,hsm.ln⟩
 simp_all[qq]
theorem u6{t:Tr}(ok:t.ok)(hz:t.gd)(hc:t.cnt<=1500000){sm:List Lf}(hsm:Sm t.lvs sm){F:Nat}(hF:t.fu+200000000<=F)(k:List (List Fd)->Option ((List ba)×(List (List Fd))×(List Bool)×(List Fd))):∀(l:List ba) (acc:List (List Fd)),(∀n,n∈l->n≠[])->acc.length+l.length<=1000->
  me F t.toT k l acc=k (acc++l.map (qq F t))
 |[],acc,_,_=>by rw[me];simp
 |n::l,acc,h,hl=>by
  simp only[bu8] at hl;rw[me,GG n (h n (by simp)) t ok hz hc F (by omega),bw9,(BM hz hc hsm (by omega) n).1,bw9,if_pos (by simp;omega),u6 ok hz hc hsm hF k l _ (fun m hm=>h m (by simp[hm])) (by simp;omega)];simp
theorem LO{t:Tr}(ok:t.ok)(hz:t.gd)(hc:t.cnt<=1500000){sm:List Lf}(hsm:Sm t.lvs sm){F:Nat}(hF:t.fu+200000000<=F){ns:List ba}(e:C8 F t.toT []=some ns)(hn:∀n,n∈ns->n≠[])(hlen:ns.length<=60):
  LP F t.toT=some (ns,ns.map (qq F t),List.replicate ns.length false,List.replicate ns.length fz):=by
 unfold LP;rw[e,bw9,aF,u6 ok hz hc hsm hF _ ns [] hn (by simp;omega),if_pos ⟨by omega,by omega,by omega⟩,if_pos ⟨by omega,by omega,by omega⟩];rfl
theorem pH(F:Nat)(f:bC)(hf:okTFact' f)(kept:List ba)(hk:kX kept)(hkl:kept.length<=1000)(hF:2000<=F)(ns:List ba)(hnd:ns.Nodup)(cans:List (List Fd))(S0:List Bool)(I0:List Fd)(k:List Bool->List Fd->Option Bool):
  ∀(m j:Nat),j+m=ns.length->∀(S:List Bool) (I:List Fd) (s:ba->Option Fd),JO ns S I s->(∀i (h:i<I.length) (h':i<S.length),S[i]=false->I[i]=fz)->
   ∃S' I',jv F f kept (ns,cans,S0,I0) k m (j:Int) S I=k S' I'/\JO ns S' I' (fun n=>if n∈ns.drop j/\n∈kept then some (nC f n) else s n)/\(∀i (h:i<I'.length) (h':i<S'.length),S'[i]=false->I'[i]=fz)
 |0,j,hj,S,I,s,h,hI=>by
  refine⟨S,I,by rw[jv],?_,hI⟩;rw[al9 (by omega)]
  simpa using h
 |m+1,j,hj,S,I,s,h,hI=>by
  have hn:j<ns.length:=by omega
  have hSj:j<S.length:=by rw[h.l1];exact hn
  have hIj:j<I.length:=by rw[h.l2];exact hn
  have hd:=br8 hn;rw[jv];dsimp only;rw[bF hn,bw9,AE F kept _ (by omega) hk (by omega),bw9,aF];by_cases hm:ns[j]∈kept
  ·rw[if_pos (decide_eq_true hm),bw9,GK F f _ hf,bw9,bF hSj,bw9,bF hIj,bw9,show((j:Int)).toNat=j from rfl]
   obtain⟨S',I',e1,e2,e3⟩:=pH F f hf kept hk hkl hF ns hnd cans S0 I0 k m (j+1) (by omega) (S.set j true) (I.set j (nC f ns[j])) (oc s ns[j] (nC f ns[j])) (h.set hnd hn _) (fun i hi hi' hs=>by
    rw[am8] at hi hi';rw[List.getElem_set] at hs ⊢;by_cases e:j=i
    ·rw[if_pos e] at hs;cases hs
    ·rw[if_neg e] at hs ⊢;exact hI i hi hi' hs)
   refine⟨S',I',e1,?_,e3⟩
   have:(fun n=>if n∈ns.drop (j+1)/\n∈kept then some (nC f n) else oc s ns[j] (nC f ns[j]) n)=fun n=>if n∈ns.drop j/\n∈kept then some (nC f n) else s n:=by
    funext n
    simp only[hd,aq8];unfold oc;by_cases e:n=ns[j]
    ·subst e;simp[hm]
    ·simp[e]
   rw[<-this];exact e2
  ·rw[if_neg (by simpa using hm)];obtain⟨S',I',e1,e2,e3⟩:=pH F f hf kept hk hkl hF ns hnd cans S0 I0 k m (j+1) (by omega) S I s h hI;refine⟨S',I',e1,?_,e3⟩
   have:(fun n=>if n∈ns.drop (j+1)/\n∈kept then some (nC f n) else s n)=fun n=>if n∈ns.drop j/\n∈kept then some (nC f n) else s n:=by
    funext n
    simp only[hd,aq8];by_cases e:n=ns[j]
    ·subst e;simp[hm]
    ·simp[e]
   rw[<-this];exact e2
def zT(f:bC)(ns kept:List ba):ba->Option Fd:=fun n=>if n∈ns/\n∈kept then some (nC f n) else none
theorem CR(t:Tr)(ok:t.ok)(hz:t.gd)(hc:t.cnt<=1500000){sm:List Lf}(hsm:Sm t.lvs sm)(f:bC)(hf:okTFact' f)(hfv:∀n,zh (nC f n))(kept:List ba)(hk:kX kept)(hkl:kept.length<=1000)(F:Nat)(hF:t.fu+300000000000<=F)
  (ns:List ba) (e:C8 F t.toT []=some ns) (h1:kX ns) (h2:∀y,y∈ns<->∃l,l∈t.lvs/\l.nm=y) (hlen:ns.length<=17):
  ∃b,((LP F t.toT).bind fun y16=>jn (fun(l19:List Bool) (l20:List Fd)=>(yT F 0 t.toT.Kind t.toT.Name t.toT.Texts t.toT.Op t.toT.N t.toT.Kids (y16.1) (y16.2.1) l19 l20).bind fun y45=>some (!(y45.1))) (fun k18=>if (((y16.1).length:Nat):Int)<=9223372036854775807 then jv F f kept y16 k18 (((((y16.1).length:Nat):Int):Int).toNat) 0 (y16.2.2.1) (y16.2.2.2) else none))=some b/\(b=false<->Ma (fun v=>t.truA v) (zT f ns kept)):=by
 have hm:∀l,l∈t.lvs->l.nm∈ns:=fun l hl=>(h2 l.nm).2 ⟨l,hl,rfl⟩;have hcan:=fun n=>BM (t:=t) hz hc hsm (F:=F) (by omega) n;have hnd:ns.Nodup:=h1.imp uU
 rw[LO ok hz hc hsm (by omega) e (fun n hn=>by
  obtain⟨l,hl,e⟩:=(h2 n).1 hn;exact e ▸ rU (hsm.ok l (hsm.sub l hl)).nm) (by omega),bw9,aF]
 dsimp only;rw[if_pos (by omega),show(((ns.length:Nat):Int)).toNat=ns.length by omega]
 obtain⟨S',I',e1,e2,e3⟩:=pH F f hf kept hk hkl (by omega) ns hnd (ns.map (qq F t)) (List.replicate ns.length false) (List.replicate ns.length fz) (fun(l19:List Bool) (l20:List Fd)=>(yT F 0 t.toT.Kind t.toT.Name t.toT.Texts t.toT.Op t.toT.N t.toT.Kids ns (ns.map (qq F t)) l19 l20).bind fun y45=>some (!(y45.1))) ns.length 0 (by omega) (List.replicate ns.length false) (List.replicate ns.length fz) (fun _=>none)
  ⟨by simp,by simp,fun i hi=>by simp⟩ (fun i hi _ _=>by simp)
 rw[show((0:Nat):Int)=0 from rfl] at e1;rw[e1];rw[bq9] at e2;have e2:JO ns S' I' (zT f ns kept):=e2;have hf:=LL t ok hz ns h1 hlen hm (qq F t) (fun n=>(hcan n).2.ln) ns.length 0 (by omega) F (by omega) S' I' (zT f ns kept) e2 e3 (fun i hi h=>by omega);rw[bq9,show((0:Nat):Int)=0 from rfl] at hf;obtain⟨rs,hrs⟩:∃rs,rs=ns.filter (Ca (zT f ns kept)):=⟨_,rfl⟩;rw[<-hrs] at hf;have hrn:rs.Nodup:=by rw[hrs];exact hnd.filter _
 have hno:∀n,n∈rs->zT f ns kept n=none:=fun n hn=>by
  rw[hrs,bw8] at hn;exact Option.isNone_iff_eq_none.1 hn.2
 have hsf:∀n x,zT f ns kept n=some x->zh x:=fun n x hx=>by
  unfold zT at hx;split at hx
  ·cases hx;exact hfv n
  ·cases hx
 cases h4:qn? (fun s=>t.tr3 s) (qq F t) rs (zT f ns kept) with
 |some s'=>
  rw[h4] at hf;dsimp only at hf;obtain⟨S2,I2,q1,q2,q3⟩:=hf;obtain⟨g1,g2,g3⟩:=po rs _ s' hrn hno h4;have q1':yT F 0 t.toT.Kind t.toT.Name t.toT.Texts t.toT.Op t.toT.N t.toT.Kids ns (ns.map (qq F t)) S' I'=some (true,S2,I2):=q1;rw[q1',bw9];refine⟨false,Y,⟨fun _=>?_,fun _=>Y⟩⟩
  have hs':∀n x,s' n=some x->zh x:=fun n x hx=>by
   rcases g3 n x hx with h|⟨h,h5⟩
   ·exact hsf n x h
   ·exact(hcan n).2.ok x h5
  refine⟨fun n=>(s' n).getD fz,fun n=>?_,fun n x hx=>?_,?_⟩
  ·dsimp only;cases hx:s' n with
   |none=>exact xN
   |some x=>exact hs' n x hx
  ·dsimp only;rw[g2 n x hx];rfl
  ·have h6:t.tr3 (fun n=>some ((s' n).getD fz))=some true:=rz (fun n x hx=>by grind) t true g1
   grind [oh,Option.some.inj]
 |none=>
  rw[h4] at hf;dsimp only at hf;have q1':yT F 0 t.toT.Kind t.toT.Name t.toT.Texts t.toT.Op t.toT.N t.toT.Kids ns (ns.map (qq F t)) S' I'=some (false,S',I'):=hf;rw[q1',bw9];refine⟨true,rfl,⟨fun h=>(by cases h),fun⟨v,hv,hvx,ht⟩=>?_⟩⟩;have ht:t.truA v=true:=ht;exfalso;have hrep:∀n,∃c,c∈qq F t n/\∀l,l∈qz t n->l.one c=l.one (v n):=fun n=>(hcan n).2.rep (v n) (hv n);refine sw (P:=fun s=>t.tr3 s) (fun s s' b he h=>rz he t b h) rs _ hrn hno h4 (fun n=>(hrep n).choose) (fun n _=>(hrep n).choose_spec.1) ?_
  rw[oh (a:=fun n=>(zT f ns kept n).getD (hrep n).choose) t fun l hl=>by
   unfold ld;cases hx:zT f ns kept l.nm with
   |some x=>rfl
   |none=>
    have:l.nm∈rs:=by rw[hrs,bw8];exact⟨hm l hl,by unfold Ca;rw[hx];rfl⟩
    simp[this]]
  rw[ry t (b:=v) fun l hl=>by
   cases hx:zT f ns kept l.nm with
   |some x=>exact congrArg l.one (hvx l.nm x hx).symm
   |none=>exact(hrep l.nm).choose_spec.2 l (q9.2 ⟨hl,rfl⟩),ht]
theorem GM(f:bC)(hf:okTFact' f):∀t:Tr,t.ok->t.flt=0->∀F,t.fu<=F->GN F t.toT f=some (t.tru f):=Tr.ind fun k nm tx op n ks ih ok hz F hF=>by
 rw[Tr.fu] at hF;obtain⟨hnode,hfl⟩:=iI hz;have hx:=Tr.okX ok;obtain⟨F,rfl⟩:∃G,F=G+1:=⟨F - 1,by omega⟩
 show yU (GN F) F (Tr.mk k nm tx op n ks).toT f=_
 have hk:=(Tr.okks ok).2;have hkid:∀t,t∈ks->GN F t.toT f=some (t.tru f):=fun t ht=>ih t ht (Tr.oks_mem (Tr.okks ok).1 ht) (eU hfl ht) F (by have:=Tr.fu_mem ht;omega)
 have hl:∀m j:Nat,j+m=ks.length->mf (GN F) F ⟨k,nm,tx,op,n,Tr.toKs ks⟩ f (some (k==7)) m (j:Int)=some (if k=7 then Tr.allT f (ks.drop j) else if k=8 then Tr.anyT f (ks.drop j) else if (ks.drop j).all (fun t=>!t.tru f) then false else false)\/¬(k=7\/k=8):=by
  intro m;by_cases hk78:k=7\/k=8
  case neg=>intro j _;exact Or.inr hk78
  induction m with
  |zero=>
   intro j h
   left
   rw[mf,al9 (by omega),Tr.allT,Tr.anyT];rcases hk78 with e|e<;>subst e<;>rfl
  |succ m ihm=>
   intro j h
   left
   have hj:j<ks.length:=by omega
   have ht:ks[j]∈ks:=ba8 _;have ih2:=(ihm (j+1) (by omega)).resolve_right (fun h=>h hk78);rw[mf,ep hj,bw9,Tr.dec,bw9,hkid _ ht,bw9,show((j:Int)+1)=((j+1:Nat):Int) from rfl,ih2,br8 hj,Tr.allT,Tr.anyT];rcases hk78 with e|e
   ·subst e;cases ks[j].tru f<;>simp
   ·subst e;cases ks[j].tru f<;>simp
 have hlen:(aC.mk k nm tx op n (Tr.toKs ks)).Kids.length=ks.length:=Tr.toKs_len ks;rw[Tr.toT,yU,Tr.tru];simp only[aF,hlen];rw[GK F f nm hf,bw9,B3 F _ _ (by have:=hx.2.2.1;rw[mz] at this;exact this) (by show tx.length<F;omega),bw9];dsimp only;have hkk:=ip hnode;dsimp only at hkk;have hk':k=1\/k=6\/k=7\/k=8\/(k=2\/k=3\/k=4\/k=5):=by omega
 have hrun:=hl ks.length 0 (by omega);rw[show((0:Nat):Int)=0 from rfl,bq9] at hrun;rcases hk' with e|e|e|e|e
 ·subst e;rfl
 ·subst e;have h1:ks.length=1:=by rw[<-jJ hnode rfl];exact(Tr.toKs_len ks).symm
  match ks,h1,hkid with
  |[t],_,hkid=>
   have:cn (Tr.toKs [t]) 0=some t.toK:=ep (ks:=[t]) (n:=0) (by simp);rw[if_neg (by decide),if_pos (by decide),this,bw9,Tr.dec,bw9,hkid t (by simp),if_neg (by decide),if_pos rfl,Tr.allT,Tr.allT];simp
 ·subst e;have h2:=hrun.resolve_right (fun h=>h (Or.inl rfl));rw[if_neg (by decide),if_neg (by decide),if_pos (by decide),if_pos (by decide),if_pos (by omega),show(((ks.length:Nat):Int)).toNat=ks.length by omega,h2];rfl
 ·subst e;have h2:=hrun.resolve_right (fun h=>h (Or.inr rfl));rw[if_neg (by decide),if_neg (by decide),if_neg (by decide),if_pos (by decide),if_pos (by omega),show(((ks.length:Nat):Int)).toNat=ks.length by omega,h2];rfl
 ·rcases e with e|e|e|e<;>subst e<;>rfl
noncomputable def mU(t:Tr):Tr:=.mk 6 [] [] 0 0 [t]
theorem Bt(t:Tr):(mU t).lvs=t.lvs:=by
 simp[mU,Tr.lvs,Tr.lvss]
theorem Hs(s:ba->Option Fd)(t:Tr):(mU t).tr3 s=(t.tr3 s).map (!·):=by
 rw[mU,Tr.tr3,if_neg (by decide),if_pos rfl,Tr.all3,Tr.all3];cases t.tr3 s with
 |none=>rfl
 |some b=>cases b<;>rfl
theorem KI{t:Tr}(h:t.ok):(mU t).ok:=by
 have:MF 6:=⟨by decide,by decide⟩;have:MF 0:=⟨by decide,by decide⟩;have:uu []:=by unfold uu;simp
 simp_all[mU,Tr.ok,Tr.oks_of,mz]
theorem H2{t:Tr}(h:t.gd):(mU t).gd:=by
 unfold mU;rw[Tr.gd];refine⟨.inl ?_,Ah (by simp[h])⟩;rw[Tr.toKs,Tr.toKs];rfl
theorem Ig(t:Tr):(mU t).cnt=1+t.cnt:=by simp_all[mU,Tr.cnt,Tr.cnts]
theorem K3(t:Tr):(mU t).fu=3+t.fu:=by simp_all[mU,Tr.fu,Tr.fus]
theorem Ht(t:Tr):(mU t).toT=⟨6,[],[],0,0,[t.toK]⟩:=by
 rw[mU,Tr.toT,Tr.toKs,Tr.toKs];rfl
noncomputable def Jp(b:Bool)(t:Tr):Tr:=if b=true then mU t else t
theorem KQ(b:Bool)(t:Tr):(Jp b t).lvs=t.lvs:=by
 unfold Jp;split
 ·exact Bt t
 ·rfl
theorem Hr(o:Option Bool)(F:Nat):NM F (xh o)=some (xh (o.map (!·))):=by
 cases o with
 |none=>rfl
 |some b=>cases b<;>rfl
theorem LU(F:Nat){m:yO}{kn:Hc}{s:Mb}(hs:Dj m kn s)(t:Tr)(ok:t.ok)(hz:t.flt=0)(hF:t.fu<=F)(hb:Bool):LV F ⟨m,some kn⟩ hb t.cd=some (xh ((Jp hb t).tr3 (wC s))):=by
 have h:=MW m kn t ok hz F hF;rw[hs.sgm] at h;unfold LV Jp;cases hb with
 |true=>rw[if_pos rfl,h,bw9,Hr,bw9,if_pos rfl,Hs]
 |false=>rw[if_neg (by simp),h,bw9,if_neg (by simp)]
theorem Ie(b:Bool)(t:Tr):JZ t.lvs (fun s=>(Jp b t).tr3 s) (fun v=>(Jp b t).truA v):=by
 have hl:=KQ b t;refine⟨fun s s' c he h=>rz he _ c h,fun s a h=>oh _ fun l hl'=>h l (hl ▸ hl'),fun u v h=>ry _ fun l hl'=>h l (hl ▸ hl')⟩
theorem CP{A:(ba->Fd)->Bool}{f g:ba->Option Fd}(h:∀n,f n=g n):Ma A f<->Ma A g:=by
 rw[show f=g from funext h]
theorem pD(F:Nat)(a:List ba)(x:ba)(k:List ba->Option (List ba)):∀(l:List ba) (j:Nat) (acc:List ba),a.drop j=l->acc.length+l.length<=100000->mg F a x k l (j:Int) acc=k (acc++l.filter fun y=>!(y==x))
 |[],j,acc,_,_=>by rw[mg];simp
 |y::l,j,acc,h,hl=>by
  simp only[bu8] at hl;obtain⟨h1,h2,h3,h4⟩:=iq h;rw[mg,aF,aa8];cases he:y==x with
  |true=>
   rw[if_neg (by simp),if_neg (by simp)];exact pD F a x k l (j+1) acc h4 (by omega)
  |false=>
   rw[if_pos (by simp),h2,bw9,if_pos (by simp;omega),if_pos (by simp)];refine(pD F a x k l (j+1) (acc++[y]) h4 (by simp;omega)).trans ?_;simp
theorem LR(F:Nat)(a:List ba)(x:ba)(h:a.length<=100000):NL F a x=some (a.filter fun y=>!(y==x)):=by
 unfold NL;rw[aF,show(0:Int)=((0:Nat):Int) from rfl,pD F a x _ a 0 [] rfl (by simpa using h)];simp
theorem FQ{l r:List ba}{x:ba}(h:(l++x::r).Nodup):(l++x::r).filter (fun y=>!(y==x))=l++r:=by
 have h':=bx8.1 h;have h2:=aa9.1 h'.2.1;rw[ac9,aa8,if_neg (by simp),br9.2,br9.2]
 ·intro a ha;have:a≠x:=fun e=>h2.1 (e ▸ ha)
  simpa using this
 ·intro a ha;have:a≠x:=h'.2.2 a ha x (by simp)
  simpa using this
theorem y0(F:Nat)(a:List ba):NW F a a=some true:=by
 unfold NW;rw[if_neg (by simp),aF]
 have:∀(l:List ba) (j:Nat),a.drop j=l->mq F a (some true) l (j:Int)=some true:=by
  intro l
  induction l with
  |nil=>intro j _;rw[mq]
  |cons x l ih=>
   intro j h;obtain⟨h1,h2,h3,h4⟩:=iq h;rw[mq,h2,bw9,if_neg (by simp)];exact ih (j+1) h4
 exact this a 0 Y
theorem DW{a:List dB}:∀{l:List dB} {n:Nat},zt a l n=0->∀x,x∈l->jZ x.Value=true
 |y::l,n,h,x,hx=>by
  rw[zt] at h;split at h
  ·cases h
  ·split at h
   ·cases h
   ·rename_i hv;split at h
    ·cases h
    ·rcases aq8.1 hx with e|hx
     ·subst e;simpa using hv
     ·exact DW h x hx
theorem Ff{a:List cp}:∀{l:List cp} {n:Nat},Bm a l n=0->∀x,x∈l->pf x.N=false
 |y::l,n,h,x,hx=>by
  rw[Bm] at h;split at h
  ·cases h
  ·split at h
   ·cases h
   ·rename_i hv;split at h
    ·cases h
    ·rcases aq8.1 hx with e|hx
     ·subst e;simpa using hv
     ·exact Ff h x hx
theorem FS(nm:ba):∀(l:List dB) (p:Bool×ba),(∀x,x∈l->pS x.Value)->(p.1=true->pS p.2)->(fT nm l p).1=true->pS (fT nm l p).2
 |[],p,_,hp,h=>hp h
 |x::l,p,hl,hp,h=>by
  rw[fT] at h ⊢;split at h
  ·rename_i c;rw[if_pos c];exact FS nm l _ (fun y hy=>hl y (by simp[hy])) (fun _=>hl x (by simp)) h
  ·rename_i c;rw[if_neg c];exact FS nm l _ (fun y hy=>hl y (by simp[hy])) hp h
theorem FW(nm:ba):∀(l:List cp) (p:Bool×Int),(∀x,x∈l->jH x.N)->(p.1=true->jH p.2)->(fN nm l p).1=true->jH (fN nm l p).2
 |[],p,_,hp,h=>hp h
 |x::l,p,hl,hp,h=>by
  rw[fN] at h ⊢;split at h
  ·rename_i c;rw[if_pos c];exact FW nm l _ (fun y hy=>hl y (by simp[hy])) (fun _=>hl x (by simp)) h
  ·rename_i c;rw[if_neg c];exact FW nm l _ (fun y hy=>hl y (by simp[hy])) hp h
theorem MY{f:bC}(h:vF f=0)(n:ba):zh (nC f n):=by
 unfold vF at h;split at h
 ·cases h
 ·split at h
  ·cases h
  ·split at h
   ·cases h
   ·split at h
    ·rename_i ht;split at h
     ·cases h
     ·refine⟨fun q=>FS n f.Texts _ (fun x hx=>A2 (DW ht x hx)) (fun c=>by cases c) q,fun q=>FW n f.Numbers _ (fun x hx=>?_) (fun c=>by cases c) q⟩;have:=Ff h x hx;unfold pf at this;rw[Bool.or_eq_false_iff,decide_eq_false_iff_not,decide_eq_false_iff_not] at this;exact⟨by omega,by omega⟩
    ·rename_i h0;exact absurd h h0
theorem zJ{f:bC}(h:qL f):okTFact' f:=
 ⟨h.1,h.2.1,fun p hp=>⟨(h.2.2.1.1 p hp).1,(h.2.2.1.1 p hp).2.1⟩,h.2.2.1.2,fun p hp=>(h.2.2.2.1.1 p hp).1,h.2.2.2.1.2⟩
theorem Cc{l:List ba}(h:l.Nodup):kX (dT l):=by
 rw[DG];exact vQ (Es l) ((Cd l).nodup_iff.2 h)
theorem Bk{ls:List Lf}(hg:fE ls):kX (rQ ls):=Cc (sr hg).kn
theorem Jw{t:Tr}(hg:fE t.lvs){ns:List ba}(h1:kX ns)(h2:∀y,y∈ns<->∃l,l∈t.lvs/\l.nm=y):ns=rQ t.lvs:=
 List.Perm.eq_of_pairwise (fun a b _ _ x y=>absurd y (by rw[yz x];simp)) h1 (Bk hg) (Bj hg h1 h2)
theorem xA(f:bC)(n:ba):t8 (gV (eQ f).by_ n)=nC f n:=by
 rw[xq];rfl
section
variable(t:Tr)(ok:t.ok)(hz:t.flt=0)(hc:t.cnt<=60)(hg:fE t.lvs)(hw:yr t.lvs=true)(f:bC)(hf:okTFact' f)(hv:vF f=0)
include ok hz hc hg hw hf hv
omit hc hf in
theorem Ci(hb:Bool)(fx:yO)(kept:List ba)(hfx:∀n,aH fx n=if n∈kept then some (gV (eQ f).by_ n) else none)(F:Nat)(hF:t.fu+1000000<=F):
  ∃by_ ns m kn m' kn' r,Hd F (c8 t.lvs) hb t.cd fx=some (by_,ns,m,kn)/\xn F 0 by_ hb t.cd ns m kn=some (r,m',kn')/\(r=true<->Ma (fun v=>(Jp hb t).truA v) (zT f (rQ t.lvs) kept)):=by
 obtain⟨by_,ns,m,kn,m',kn',r,e1,e2,e3⟩:=Cj hg hw (Ie hb t) t.fu hb t.cd (fun F m kn s hF hs=>LU F hs t ok hz hF hb) fx (fun n x hx=>by
  rw[hfx] at hx;split at hx
  ·cases hx;rw[xA];exact MY hv n
  ·cases hx) F hF
 refine⟨by_,ns,m,kn,m',kn',r,e1,e2,e3.trans (CP fun n=>?_)⟩;unfold wC ym zT;rw[hfx];have:n∈rQ t.lvs<->n∈(c8 t.lvs).map (·.1):=(cZ _).mem_iff;simp only[this];by_cases h1:n∈(c8 t.lvs).map (·.1)<;>by_cases h2:n∈kept<;>simp[h1,h2,xA]
theorem ED(kept:List ba)(hk:kX kept)(hkl:kept.length<=1000)(F:Nat)(hF:t.fu+400000000000<=F):∃b,NU F t.toT f kept=some b/\(b=false<->Ma (fun v=>(Jp (t.tru f) t).truA v) (zT f (rQ t.lvs) kept)):=by
 have main:∀u:Tr,u.ok->u.gd->u.cnt<=100->u.lvs=t.lvs->u.fu+300000000000<=F->∃b,((LP F u.toT).bind fun y16=>jn (fun(l19:List Bool) (l20:List Fd)=>(yT F 0 u.toT.Kind u.toT.Name u.toT.Texts u.toT.Op u.toT.N u.toT.Kids (y16.1) (y16.2.1) l19 l20).bind fun y45=>some (!(y45.1))) (fun k18=>if (((y16.1).length:Nat):Int)<=9223372036854775807 then jv F f kept y16 k18 (((((y16.1).length:Nat):Int):Int).toNat) 0 (y16.2.2.1) (y16.2.2.2) else none))=some b/\(b=false<->Ma (fun v=>u.truA v) (zT f (rQ t.lvs) kept)):=by
  intro u uok ugd uc ul uF;obtain⟨ns,e,h1,h2⟩:=AH u uok ugd (by omega) F (by omega);have hns:ns=rQ u.lvs:=Jw (by rw[ul];exact hg) h1 h2;rw[ul] at hns;obtain⟨b,e1,e2⟩:=CR u uok ugd (by omega) (sm:=t.lvs) ⟨fun l hl=>ul ▸ hl,fun l hl=>hg.1 l hl,by have:=hg.2;omega⟩ f hf (fun n=>MY hv n) kept hk hkl F uF ns e h1 h2 (by rw[hns];exact sB hg hw);exact⟨b,e1,by rw[<-hns];exact e2⟩
 unfold NU;rw[GM f hf t ok hz F (by omega),bw9,aF];cases ht:t.tru f with
 |false=>
  rw[if_neg (by simp)];exact main t ok (sq t hz) (by omega) Y (by omega)
 |true=>
  rw[if_pos rfl];unfold Oh;rw[bw9];have:=main (mU t) (KI ok) (H2 (sq t hz)) (by rw[Ig];omega) (Bt t) (by rw[K3];omega);rw[Ht] at this;exact this
theorem j4(F:Nat)(hF:t.fu+400000000000<=F)(kp:List ba->Option (List ba×Bool×Int))(kr:List ba->Option (List ba×Bool×Int)):
  ∀(tl out:List ba) (m:yO),kX (out++tl)->(out++tl).length<=100->KN m->(∀n,aH m n=if n∈out++tl then some (gV (eQ f).by_ n) else none)->
   ∃res,gO F t.cd (c8 t.lvs) (eQ f) (tv (t.tru f)) kp tl m out=kp res/\mr F t.toT f kr tl (out++tl)=kr res
 |[],out,m,_,_,_,_=>⟨out,by rw[gO],by rw[mr,List.append_nil]⟩
 |x::tl,out,m,hs,hl,hn,hm=>by
  have hnd:(out++x::tl).Nodup:=hs.imp uU
  have hxn:x ∉ out++tl:=by
   have h':=bx8.1 hnd;have h2:=aa9.1 h'.2.1;intro h;rcases bx9.1 h with h|h
   ·exact h'.2.2 x h x (by simp) Y
   ·exact h2.1 h
  have hs2:kX (out++tl):=hs.sublist (List.Sublist.append_left (List.sublist_cons_self x tl) out);have hl2:(out++tl).length<=100:=by simp only[bf9,bu8] at hl ⊢;omega
  have hbt:(tv (t.tru f)==1)=t.tru f:=by cases t.tru f<;>rfl
  have hdel:∀n,aH (dj m x) n=if n∈out++tl then some (gV (eQ f).by_ n) else none:=fun n=>by
   rw[pi hn,hm];by_cases e:n=x
   ·subst e;simp[hxn]
   ·have:(n∈out++x::tl)<->n∈out++tl:=by simp[e]
    simp only[this,e,if_false]
  obtain⟨by_,ns,m1,kn1,m',kn',r,p1,p2,p3⟩:=Ci t ok hz hg hw f hv (t.tru f) (dj m x) (out++tl) hdel F (by omega);obtain⟨b,r1,r2⟩:=ED t ok hz hc hg hw f hf hv (out++tl) hs2 (by omega) F hF
  have hrb:r = !b:=by
   have:=p3.trans r2.symm;cases r<;>cases b<;>simp_all
  rw[gO,hbt,p1,bw9];dsimp only;rw[p2,bw9,aF,mr,LR F _ x (by omega),FQ hnd,bw9,r1,bw9,aF];dsimp only;cases b with
  |true=>
   rw[hrb,if_neg (by simp),if_pos rfl];exact j4 F hF kp kr tl out (dj m x) hs2 hl2 hn.del hdel
  |false=>
   rw[hrb,if_pos (by simp),if_pos (by simp only[bf9,bu8,bo8] at hl ⊢;omega),if_neg (by simp)]
   obtain⟨res,q1,q2⟩:=j4 F hF kp kr tl (out++[x]) (bI (dj m x) x ((aH (eQ f).by_ x).getD zV)) (by simpa using hs) (by simpa using hl) hn.del.put (fun n=>by
    rw[cL,hdel];by_cases e:x=n
    ·subst e;simp[gV]
    ·simp[e,Ne.symm e])
   refine⟨res,q1,?_⟩;rw[<-q2];simp
end
theorem rJ(f:bC):∀(l:tB) (m:yO),KN m->KN (jj (eQ f) l m)/\∀n,aH (jj (eQ f) l m) n=if n∈l.map (·.1) then some (gV (eQ f).by_ n) else aH m n
 |[],m,h=>⟨h,fun n=>by simp[jj]⟩
 |e::l,m,h=>by
  obtain⟨h1,h2⟩:=rJ f l (bI m e.1 ((aH (eQ f).by_ e.1).getD zV)) h.put;refine⟨h1,fun n=>?_⟩;refine(h2 n).trans ?_;rw[cL];by_cases e1:n∈l.map (·.1)
  ·simp[e1]
  ·by_cases e2:e.1=n
   ·subst e2;simp[gV]
   ·simp[e1,e2,Ne.symm e2]
theorem HH(x:aC)(f:bC)(hx:vL x)(hf0:qL f):∃F,M4 F x f=some true:=by
 obtain⟨t,rfl,ok⟩:=hx;have hf:=zJ hf0;refine⟨t.fu+400000000000,?_⟩;generalize hFe:t.fu+400000000000=F;have hF:t.fu+400000000000<=F:=by omega
 have err:∀e:Int,IW F t.toT f=some ([],false,e)->IV F t.toT f=some ([],false,e)->M4 F t.toT f=some true:=fun e e1 e2=>by
  unfold M4;rw[e1,bw9,e2,bw9,y0,bw9];simp[NX]
 by_cases h0:vT t=0;rotate_left
 ·refine err (vT t) ?_ ?_
  ·unfold IW;rw[w6 t ok F (by omega),bw9,if_pos (by simp[h0])]
  ·unfold IV;rw[wZ t ok F (by omega),bw9,if_pos (by simp[h0])]
 by_cases h1:vF f=0;rotate_left
 ·refine err (vF f) ?_ ?_
  ·unfold IW;rw[w6 t ok F (by omega),bw9,if_neg (by simp[h0]),AI F f hf,bw9,if_pos (by simp[h1])]
  ·unfold IV;rw[wZ t ok F (by omega),bw9,if_neg (by simp[h0]),AO F f hf,bw9,if_pos (by simp[h1])]
 obtain⟨hz,hc⟩:=Hk h0;have hll:=Bu t;have hg:fE t.lvs:=⟨fun l hl=>zR t hz l hl,by omega⟩;have e33:GP F t.cd []=some (c8 t.lvs):=LY t ok hz F (by omega) [] 0 ⟨fun n=>by simp[aH],fun n=>by simp[ek,aH,zw]⟩ (by omega);have e32:=LZ t ok hz hc F (by omega);cases hw:yr t.lvs with
 |false=>
  refine err 3 ?_ ?_
  ·unfold IW;rw[w6 t ok F (by omega),bw9,if_neg (by simp[h0]),AI F f hf,bw9,if_neg (by simp[h1]),e32,bw9,e33,bw9,JW F hg,hw,bw9,if_pos (by simp)]
  ·unfold IV;rw[wZ t ok F (by omega),bw9,if_neg (by simp[h0]),AO F f hf,bw9,if_neg (by simp[h1]),GO t ok (sq t hz) (by omega) hg F (by omega),hw,bw9,if_pos (by simp)]
 |true=>
  have hl17:=sB hg hw;obtain⟨ns,e51,n1,n2⟩:=AH t ok (sq t hz) (by omega) F (by omega);have hns:ns=rQ t.lvs:=Jw hg n1 n2;have hkn:=(sr hg).kn;have hal:(c8 t.lvs).length<=17:=by rw[<-qO];exact hl17
  have hsk:pP (c8 t.lvs)=some (rQ t.lvs):=by
   unfold pP
   rw[if_pos ⟨by omega,fun p hp=>by
    obtain⟨l,hl,e⟩:=((sr hg).ke p.1).1 (bl9 hp);have:=Fa (hg.1 l hl).nm;rw[e] at this;omega⟩]
   rfl
  obtain⟨pa1,pa2⟩:=rJ f (c8 t.lvs) [] (by simp[KN])
  obtain⟨res,q1,q2⟩:=j4 t ok hz hc hg hw f hf h1 F hF (fun l29=>some (l29,(tv (t.tru f)==1),0)) (fun l15=>(GN F t.toT f).bind fun y31=>some (l15,y31,0)) (rQ t.lvs) [] (jj (eQ f) (c8 t.lvs) []) (Bk hg) (by rw[ad9];omega) pa1 (fun n=>by
   rw[pa2,ad9];have:n∈rQ t.lvs<->n∈(c8 t.lvs).map (·.1):=(cZ _).mem_iff;simp only[this,aH])
  rw[ad9] at q2;have hbt:(tv (t.tru f)==1)=t.tru f:=by cases t.tru f<;>rfl
  have a1:IW F t.toT f=some (res,t.tru f,0):=by
   unfold IW;rw[w6 t ok F (by omega),bw9,if_neg (by simp[h0]),AI F f hf,bw9,if_neg (by simp[h1]),e32,bw9,e33,bw9,JW F hg,hw,bw9,if_neg (by simp),LW,bw9,H0 f t ok hz F (by omega),bw9,kF,fv,hsk,bw9,aF];exact q1.trans (by rw[hbt])
  have a2:IV F t.toT f=some (res,t.tru f,0):=by
   unfold IV;rw[wZ t ok F (by omega),bw9,if_neg (by simp[h0]),AO F f hf,bw9,if_neg (by simp[h1]),GO t ok (sq t hz) (by omega) hg F (by omega),hw,bw9,if_neg (by simp),e51,bw9,aF,hns];exact q2.trans (by rw[GM f hf t ok hz F (by omega)];rfl)
  unfold M4;rw[a1,bw9,a2,bw9,y0,bw9];simp[NX]
end Go.Proofs.YtelmfadihfcgnaaGreatDoor
namespace Go.Pv
open Go
section
variable{K:cS}{Q:bX}{S S':St}{ops:Array Oper}{rest:List Oper}{t:TT}
def rI(d:Nat)(v:V):bY->bY
 |[]=>[(d,v)]
 |(k,x)::e=>bif Nat.beq k d then (d,v)::e else (k,x)::rI d v e
def qj(d:Nat)(v:Ob):aD->aD
 |[]=>(match v with | .dead=>[]|v=>[(d,v)])
 |(k,x)::e=>bif Nat.beq k d then (d,v)::e else (k,x)::qj d v e
theorem BO(k d:Nat){α:Type}(a b:α):(bif Nat.beq k d then a else b)=if k=d then a else b:=by
 simp_all
theorem lI(d:Nat)(v:V):∀(e:bY) (t:Nat),get (rI d v e) t=get ((d,v)::e) t
 |[],t=>rfl
 |(k,x)::e,t=>by
  simp only[rI,BO];split
  ·simp_all[ci]
  ·rename_i h;rw[ci,lI d v e t,ci,ci,ci]
   grind
theorem mF(d:Nat)(v:Ob):∀(e:aD) (t:Nat),ao (qj d v e) t=ao ((d,v)::e) t
 |[],t=>by
  cases v with
  |dead=>simp only[qj];rw[av];split<;>rfl
  |_=>rfl
 |(k,x)::e,t=>by
  simp only[qj,BO];split
  ·simp_all[av]
  ·rename_i h;rw[av,mF d v e t,av,av,av]
   grind
def DL:bY->bY
 |(d,v)::e=>rI d v e
 |[]=>[]
def DJ:aD->aD
 |(d,v)::(d2,v2)::e=>qj d v (qj d2 v2 e)
 |e=>e
theorem CL(e:bY)(t:Nat):get (DL e) t=get e t:=by
 cases e with
 |nil=>rfl
 |cons p e=>exact lI p.1 p.2 e t
theorem z8(e:aD)(t:Nat):ao (DJ e) t=ao e t:=by
 match e with
 |[]=>rfl
 |[p]=>rfl
 |(d,v)::(d2,v2)::e=>
  show ao (qj d v (qj d2 v2 e)) t=_
  simp_all[mF,av]
theorem Ab{e:bY}{hp:aD}{nx:Nat}:aV K ⟨e,hp,nx⟩ ⟨DL e,DJ hp,nx⟩:=fun m β _ _ r=>⟨m,β,r.congr (CL e) (z8 hp) rfl⟩
def Bw:Value->Value->Option Bool
 | .int k a,.int k' b=>(match decide (k=k') with|true=>some (decide (a=b))|false=>none)
 | .string a,.string b=>some (lm a==lm b)
 |_,_=>none
theorem En{a b:ByteArray}(h:lm a=lm b):a=b:=by
 exact Value.string.inj ((gz a).symm.trans ((congrArg str h).trans (gz b)))
theorem x0{x y:Value}{b:Bool}(h:Bw x y=some b):(x=y<->b=true):=by
 unfold Bw at h;split at h
 ·grind
 ·simp at h;subst h;constructor
  ·grind
  ·intro e;exact congrArg Value.string (En (by grind))
 grind
def xW(x:Value):List (Value×V)->Option (Option V)
 |[]=>some none
 |(k,v)::es=>match Bw k x with|some b=>(match b with|true=>some (some v)|false=>xW x es)|none=>none
theorem rY{x:Value}:∀{es:List (Value×V)} {r:Option V},xW x es=some r->iS x es r
 |[],r,h=>by simp[xW] at h;subst h;exact .nil
 |(k,v)::es,r,h=>by
  simp only[xW] at h;split at h
  ·rename_i b hb;have hb:=x0 hb;split at h
   ·simp at h;subst h;rw[hb.2 rfl];exact .here
   ·exact .there (fun e=>by simpa using hb.1 e) (rY h)
  ·simp at h
def xJ(x:Value)(v:V):List (Value×V)->Option (List (Value×V))
 |[]=>some [(x,v)]
 |(k,v')::es=>match Bw k x with
  |some b=>(match b with|true=>some ((x,v)::es)|false=>(match xJ x v es with|some r=>some ((k,v')::r)|none=>none))
  |none=>none
theorem xI{x:Value}{v:V}:∀{es r:List (Value×V)},xJ x v es=some r->g8 x v es r
 |[],r,h=>by simp[xJ] at h;subst h;exact .nil
 |(k,v')::es,r,h=>by
  simp only[xJ] at h;split at h
  ·rename_i b hb;have hb:=x0 hb;split at h
   ·simp at h;subst h;rw[hb.2 rfl];exact .here
   ·split at h
    ·rename_i q hq;simp at h;subst h;exact .there (fun e=>by simpa using hb.1 e) (xI hq)
    ·simp at h
  ·simp at h
structure MT where
 T:Nat
 k:Nat
 e:Nat
 txt:Bool
 ik:IntKind
 z:V
def H1(txt:Bool)(ik:IntKind):Value->Prop:=fun v=>match txt with|true=>m8 v|false=>MO ik v
structure JP(P:Program)(p:MT):Prop where
 h1:ef P p.T p.k p.e=true
 h2:iY P p.k (H1 p.txt p.ik)
 h3:∃zv,(P.info? p.e).bind (·.zero)=some zv/\∀m,bT m p.z zv
def s9(P:Program)(l:List MT):Prop:=∀p,p∈l->JP P p
def Mi:List MT->Nat->Option MT
 |[],_=>none
 |p::l,T=>bif Nat.beq p.T T then some p else Mi l T
theorem zM{P:Program}:∀{l:List MT} {T:Nat} {p:MT},s9 P l->Mi l T=some p->JP P p/\p.T=T
 |q::l,T,p,hl,h=>by
  simp only[Mi] at h;cases hb:Nat.beq q.T T with
  |true=>rw[hb] at h;simp at h;subst h;exact⟨hl _ cc9,cg9 hb⟩
  |false=>rw[hb] at h;simp at h;exact zM (fun p hp=>hl p (bv8 _ hp)) h
 |[],T,p,hl,h=>by simp[Mi] at h
def uM(txt:Bool)(ik:IntKind):Value->Bool
 | .string _=>txt
 | .int k _=>(match txt with|true=>false|false=>decide (k=ik))
 |_=>false
theorem ot{txt:Bool}{ik:IntKind}{v:Value}(h:uM txt ik v=true):H1 txt ik v:=by
 unfold uM at h;unfold H1;split at h
 ·subst h;exact⟨_,Y⟩
 ·split at h
  ·simp at h
  ·have h:=of_decide_eq_true h;subst h;exact⟨_,Y⟩
 grind
def GC(txt:Bool)(ik:IntKind):List (Value×V)->Bool
 |[]=>true
 |p::l=>bif uM txt ik p.1 then GC txt ik l else false
theorem qY{txt:Bool}{ik:IntKind}:∀{l:List (Value×V)},GC txt ik l=true->∀p,p∈l->H1 txt ik p.1
 |[],_,p,hp=>by simp at hp
 |q::l,h,p,hp=>by
  simp only[GC] at h;cases hb:uM txt ik q.1 with
  |true=>
   rw[hb] at h;simp at h;rcases aq8.1 hp with rfl|hp
   ·exact ot hb
   ·exact qY h p hp
  |false=>rw[hb] at h;simp at h
def Ar(e:bY)(d:Nat):Option Operand->Option Nat
 |none=>some d
 |some y=>(match eu e y with|some (.con (.int _ n))=>(match n with | .ofNat j=>some j|_=>none)|_=>none)
theorem oH{e:bY}(ha:Ag e S){d j:Nat}{x:Option Operand}(h:Ar e d x=some j):qg K S x d j:=by
 unfold Ar at h;split at h
 ·grind
 ·split at h
  ·rename_i hv;split at h<;>grind [aU]
  grind
def KP:List (List V)->Bool
 |[]=>true
 |r::l=>bif uy r then KP l else false
theorem rT:∀{l:List (List V)},KP l=true->∀row,row∈l->uy row=true
 |[],_,r,hr=>by simp at hr
 |q::l,h,r,hr=>by
  simp only[KP] at h;cases hb:uy q with
  |true=>
   rw[hb] at h;simp at h;rcases aq8.1 hr with rfl|hr
   ·exact hb
   ·exact rT h r hr
  |false=>rw[hb] at h;simp at h
def rowsK(k:Nat):List (List V)->Bool
 |[]=>true
 |r::l=>bif fU k r then rowsK k l else false
theorem rF{k:Nat}:∀{l:List (List V)},rowsK k l=true->∀row,row∈l->row.length=k
 |[],_,r,hr=>by simp at hr
 |q::l,h,r,hr=>by
  simp only[rowsK] at h;cases hb:fU k q with
  |true=>
   rw[hb] at h;simp at h;rcases aq8.1 hr with rfl|hr
   ·exact el hb
   ·exact rF h r hr
  |false=>rw[hb] at h;simp at h
def wv(k:Nat):Nat->List V->List (List V)
 |0,_=>[]
 |n+1,l=>l.take k::wv k n (l.drop k)
theorem pp{k:Nat}:∀(n:Nat) (l:List V),l.length=n*k->ox (wv k n l)=l
 |0,l,h=>by simp at h;subst h;rfl
 |n+1,l,h=>by
  simp only[wv,ox];rw[pp n _ (by rw[am9,h,Nat.succ_mul];omega),cf9]
theorem sK{k:Nat}:∀(n:Nat) (l:List V),(wv k n l).length=n
 |0,l=>rfl
 |n+1,l=>by simp[wv,sK n]
def Ky(t:TT)(e:bY)(hp:aD):Op->Option (Nat×Ob)
 | .store T x y=>(match dq t T TF.qS with
  |some n=>(match eu e x with
   |some (.ptr id k i off)=>(match pk hp id with
    |some (.arr ty k2 rows)=>(match Nat.beq k k2,lA rows i with
     |true,some row=>(match eu e y with
      |some v=>(match J1 v with
       |some cs=>(match fU n cs&&yL cs&&Nat.ble (off+n) row.length with
        |true=>some (id,.arr ty k (rows.set i (row.take off++cs++row.drop (off+n))))
        |false=>none)
       |none=>none)
      |none=>none)
     |_,_=>none)
    |_=>none)
   |_=>none)
  |none=>none)
 |_=>none
theorem Hw{op:Op}{ty:TypeId}{pos:String}{after:Array Edge}{g:Option (Nat×Bool)}(ht:cK K.P t){e:bY}{hp:aD}(ha:Ag e S)(hh:G6 hp S){id:Nat}{ob:Ob}(h:Ky t e hp op=some (id,ob))(hw:aT ops S ⟨none,op,ty,pos,after,g⟩ true)
  (k:ax K ops rest Q ⟨S.env,(id,ob)::S.hp,S.nx⟩):ax K ops (⟨none,op,ty,pos,after,g⟩::rest) Q S:=by
 unfold Ky at h;split at h
 ·split at h
  ·rename_i n hn;split at h
   ·rename_i hx;split at h
    ·rename_i ho;split at h
     ·rename_i row hk hr;have hk:=cg9 hk;subst hk;split at h
      ·rename_i v hy;split at h
       ·rename_i cs hc;split at h
        ·rename_i hb;simp only[ap9] at hb;have hl:=el hb.1.1;subst hl;simp at h;obtain⟨rfl,rfl⟩:=h;exact dz cs _ (Lm ht hn) hw (aU ha hx) (aU ha hy) (rp hc) (mN hb.1.2) (hh _ _ ho) (eL hr) hb.2 (by simp) k
        grind
       grind
      grind
     grind
    grind
   grind
  grind
 grind
def mT(t:TT)(mt:List MT)(e:bY)(hp:aD)(nx:Nat):Op->Option (V×aD×Nat)
 | .indexAddr T x y=>(match dq t T TF.qSl with
  |some k=>(match eu e x with
   |some (.own id len)=>(match eu e y with
    |some (.con (.int _ n))=>(match n with
     | .ofNat j=>(match Nat.blt j len with|true=>some (.ptr id k j 0,[],0)|false=>none)
     |_=>none)
    |_=>none)
   |_=>none)
  |none=>none)
 | .build T parts=>(match dq t T TF.qArr with
  |some (_,k)=>(match dq t T TF.qZ with
   |some (_,zs)=>(match JI e parts.toList with
    |some ps=>(match i8 (fun i=>some (i*k,k)) (zs.map .con) ps with|some cs=>some (.agg cs,[],0)|none=>none)
    |none=>none)
   |none=>none)
  |none=>none)
 | .index T x y=>(match eu e x with
  |some (.agg cs)=>(match eu e y with
   |some (.con (.int _ n))=>(match n with
    | .ofNat j=>(match dq t T TF.qAA with
     |some (n,k,_)=>(match Nat.blt j n&&fU (n*k) cs with|true=>some (.agg ((cs.drop (j*k)).take k),[],0)|false=>none)
     |none=>(match dq t T TF.qAC with
      |some (n,_)=>(match Nat.blt j n,lA cs j with|true,some c=>some (c,[],0)|_,_=>none)
      |none=>none))
    |_=>none)
   |_=>none)
  |_=>(match dq t T TF.qStr with
  |some _=>(match eu e x with
   |some (.con (.string b))=>(match eu e y with
    |some (.con (.int _ n))=>(match n with
     | .ofNat j=>(match lA (lm b) j with|some c=>some (.con (.int .u8 c.toNat),[],0)|none=>none)
     |_=>none)
    |_=>none)
   |_=>none)
  |none=>none))
 | .slice T x lo hi mx=>(match mx with
  |some _=>none
  |none=>(match eu e x with
   |some (.con (.string b))=>(match dq t T TF.qStr with
    |some _=>(match Ar e 0 lo with
     |some a0=>(match Ar e (lm b).length hi with
      |some b0=>(match Nat.ble a0 b0&&Nat.ble b0 (lm b).length with|true=>some (.con (str (((lm b).drop a0).take (b0 - a0))),[],0)|false=>none)
      |none=>none)
     |none=>none)
    |none=>none)
   |some (.own id n)=>(match dq t T TF.qSl with
    |some k=>(match pk hp id with
     |some (.arr ety k2 rows)=>(match Nat.beq k k2&&Nat.beq n rows.length&&KP rows with
      |true=>(match lo with
       |none=>(match Ar e n hi with
        |some b0=>(match Nat.ble b0 n with|true=>some (.own id b0,[],0)|false=>none)
        |none=>none)
       |some _=>(match Ar e 0 lo with
        |some a0=>(match Ar e n hi with
         |some b0=>(match Nat.ble a0 b0&&Nat.ble b0 n with|true=>some (.own nx (b0 - a0),[(nx,.arr ety k (rows.drop a0)),(id,.dead)],1)|false=>none)
         |none=>none)
        |none=>none))
      |false=>none)
     |_=>none)
    |none=>none)
   |_=>none))
 | .binOp bop T x y T'=>(match eu e x,eu e y with
  |some (.con (.string a)),some (.con (.string b))=>(match Gi bop (lm a) (lm b) with|some v=>some (.con v,[],0)|none=>none)
  |some v,some (.con (.slice none 0 0))=>(match dq t T TF.qSn,v with
   |some _,.own _ n=>(match n with
    |0=>none
    |_+1=>(match bop with | .eql=>some (.con (.bool false),[],0) | .neq=>some (.con (.bool true),[],0)|_=>none))
   |_,_=>none)
  |some v,some (.con (.map none))=>(match dq t T TF.qMn,zQ v with
   |some _,some b=>(match bop with | .eql=>some (.con (.bool b),[],0) | .neq=>some (.con (.bool (!b)),[],0)|_=>none)
   |_,_=>none)
  |_,_=>none)
 | .makeFunc fn first caps=>(match fn,first.toList,caps.toList with
  | .method name,[x],[]=>(match eu e x with|some (.con (.iface T v))=>some (.con (.func (.method name) #[.iface T v] #[]),[],0)|_=>none)
  |_,_,_=>none)
 | .nilCheck x=>(match eu e x with
  |some (.con (.func (.method name) first caps))=>(match first.toList,caps.toList with
   |[.iface T v],[]=>(match dq t T (TF.qM name) with|some _=>some (.con (.func (.method name) #[.iface T v] #[]),[],0)|none=>none)
   |_,_=>none)
  |_=>none)
 | .makeInterface T x=>(match dq t T TF.qCn with
  |some _=>(match eu e x with
   |some v=>(match yw 8 v with|some c=>some (.con (.iface T c),[],0)|none=>none)
   |none=>none)
  |none=>none)
 | .buildSlice T n parts=>(match dq t T TF.qEl with
  |some (ety,k,_)=>(match n with
   |0=>(match parts.toList with|[]=>some (.own nx 0,[(nx,.arr ety k [])],1)|_=>none)
   |n'+1=>(match dq t ety TF.qZ with
    |some (_,zs)=>(match JI e parts.toList with
     |some ps=>(match i8 (fun i=>some (i*k,k)) (((List.range ((n'+1)*k)).map fun i=>zs.getD (i % k) undef).map .con) ps with
      |some cs=>(match Nat.beq cs.length ((n'+1)*k)&&rowsK k (wv k (n'+1) cs)&&Nat.blt 0 k&&Nat.ble ((n'+1)*k) 16777216 with
       |true=>some (.own nx (n'+1),[(nx,.arr ety k (wv k (n'+1) cs))],1)
       |false=>none)
      |none=>none)
     |none=>none)
    |none=>none))
  |none=>none)
 | .makeSlice T x y=>(match dq t T TF.qEl with
  |some (ety,k,bytes)=>(match dq t ety TF.qZ with
   |some (_,zs)=>(match x,y with
    | .tmp a,.tmp b=>(match Nat.beq a b,eu e x with
     |true,some (.con (.int .i64 n))=>(match n with
      | .ofNat j=>(match Nat.ble (bytes*j) 140737488355328&&Nat.ble j 140737488355328&&Nat.blt 0 k with
       |true=>some (.own nx j,[(nx,.arr ety k (List.replicate j (zs.map .con)))],1)
       |false=>none)
      |_=>none)
     |_,_=>none)
    |_,_=>none)
   |none=>none)
  |none=>none)
 | .lookup T x y ok=>(match Mi mt T with
  |some p=>(match eu e x with
   |some (.map id)=>(match pk hp id with
    |some (.map es)=>(match eu e y with
     |some (.con kv)=>(match uM p.txt p.ik kv&&GC p.txt p.ik es with
      |true=>(match xW kv es with
       |some r=>(match (r.getD p.z).deep with
        |false=>(match ok with
         |true=>some (.tup [r.getD p.z,.con (.bool r.isSome)],[],0)
         |false=>some (r.getD p.z,[],0))
        |true=>none)
       |none=>none)
      |false=>none)
     |_=>none)
    |_=>none)
   |_=>none)
  |none=>none)
 | .call c=>(match c.callee,c.args.toList,c.argTypes.toList with
  | .builtin .append,[x,y],[T,T']=>(match dq t T TF.qEl,dq t T' TF.qSn with
   |some (ety,k,bytes),some _=>(match Nat.blt 0 bytes&&Nat.blt 0 k with
    |true=>(match eu e x with
     |some (.own id n)=>(match pk hp id with
      |some (.arr e2 k2 rows)=>(match Nat.beq ety e2&&Nat.beq k k2&&Nat.beq rows.length n with
       |true=>(match eu e y with
        |some (.own id2 n2)=>(match pk hp id2 with
         |some (.arr _ k3 rows2)=>(match Nat.beq k3 k&&Nat.beq rows2.length n2&&KP rows2&&Nat.ble ((n+n2)*bytes) 140737488355328 with
          |true=>some (.own nx (n+n2),[(nx,.arr ety k (rows++rows2)),(id,.dead)],1)
          |false=>none)
         |_=>none)
        |some (.con (.slice none 0 0))=>(match Nat.ble (n*bytes) 140737488355328 with
         |true=>some (.own nx n,[(nx,.arr ety k rows),(id,.dead)],1)
         |false=>none)
        |_=>none)
       |false=>none)
      |_=>none)
     |_=>none)
    |false=>none)
   |_,_=>none)
  |_,_,_=>none)
 |_=>none
theorem rA{α:Type}{a:Array α}{l:List α}(h:a.toList=l):a=l.toArray:=by grind
section
variable{op:Op}{ty:TypeId}{pos:String}{after:Array Edge}{g:Option (Nat×Bool)}
theorem Bi(ht:cK K.P t){mt:List MT}(hmt:s9 K.P mt){d:Nat}{e:bY}{hp u:aD}{nx q:Nat}{v:V}(ha:Ag e S)(hh:G6 hp S)(hnx:S.nx=nx)(h:mT t mt e hp nx op=some (v,u,q))(hw:aT ops S ⟨some d,op,ty,pos,after,g⟩ true)(hN:Nat.blt d K.N=true)
  (k:ax K ops rest Q ⟨(d,v)::S.env,u++S.hp,S.nx+q⟩):ax K ops (⟨some d,op,ty,pos,after,g⟩::rest) Q S:=by
 subst hnx;cases op with
 |indexAddr T x y=>
  simp only[mT] at h;split at h
  ·rename_i kk hk;split at h
   ·rename_i hx;split at h
    ·rename_i hy;split at h
     ·rename_i j;split at h
      ·rename_i hb;simp only[av8,Prod.mk.injEq] at h;obtain⟨rfl,rfl,rfl⟩:=h;exact lR (yB ht hk) hw (aU ha hx) (aU ha hy) (Int.natCast_nonneg j) (aw9 hb) hN k
      grind
     grind
    grind
   grind
  grind
 |build T parts=>
  simp only[mT] at h;split at h
  ·rename_i hA;split at h
   ·rename_i hz;split at h
    ·rename_i ps hps;split at h
     ·rename_i cs hcs;obtain⟨z1,z2,z3⟩:=wA ht hz;simp only[av8,Prod.mk.injEq] at h;obtain⟨rfl,rfl,rfl⟩:=h;exact lU ps cs z1 (Gr ht hA) z3 hw (sC ha hps) hcs hN k
     grind
    grind
   grind
  grind
 |index T x y=>
  simp only[mT] at h;split at h
  ·rename_i cs hx;split at h
   ·rename_i hy;split at h
    ·rename_i j;split at h
     ·rename_i n kk _ hT;split at h
      ·rename_i hb;simp only[ap9] at hb;simp only[av8,Prod.mk.injEq] at h;obtain⟨rfl,rfl,rfl⟩:=h;exact lT _ (Nk ht hT) hw (aU ha hx) (aU ha hy) ⟨Int.natCast_nonneg j,aw9 hb.1⟩ (el hb.2) Y hN k
      grind
     ·split at h
      ·rename_i hT;split at h
       ·rename_i c hb hc;simp only[av8,Prod.mk.injEq] at h;obtain⟨rfl,rfl,rfl⟩:=h;exact wK c (Nj ht hT) hw (aU ha hx) (aU ha hy) ⟨Int.natCast_nonneg j,aw9 hb⟩ (eL hc) hN k
       grind
      grind
    grind
   grind
  ·split at h
   ·rename_i hk;split at h
    ·rename_i b hx;split at h
     ·rename_i hy;split at h
      ·rename_i j;split at h
       ·rename_i c hc;simp only[av8,Prod.mk.injEq] at h;obtain⟨rfl,rfl,rfl⟩:=h;exact p8 (l:=lm b) c (wB ht hk) hw (by rw[aU ha hx,gz]) (aU ha hy) (Int.natCast_nonneg j) (eL hc) hN k
       grind
      grind
     grind
    grind
   grind
 |slice T x lo hi mx=>
  simp only[mT] at h;split at h
  ·simp at h
  ·split at h
   ·rename_i b hx;split at h
    ·rename_i hk;split at h
     ·rename_i a0 h0;split at h
      ·rename_i b0 h1;split at h
       ·rename_i hb;simp only[ap9] at hb;simp only[av8,Prod.mk.injEq] at h;obtain⟨rfl,rfl,rfl⟩:=h;have e0:=oH (K:=K) ha h0;have e1:=oH (K:=K) ha h1;exact lP (l:=lm b) a0 b0 _ (wB ht hk) hw (by rw[aU ha hx,gz]) (by grind) (by grind) (aw9 hb.1) (aw9 hb.2) Y hN k
       grind
      grind
     grind
    grind
   ·rename_i id n hx;split at h
    ·rename_i kk hk;split at h
     ·rename_i ety k2 rows ho;split at h
      ·rename_i hb;simp only[ap9] at hb;have e1:=cg9 hb.1.1;have e2:=cg9 hb.1.2;subst e1;split at h
       ·split at h
        ·rename_i b0 h1;split at h
         ·rename_i hb2;simp only[av8,Prod.mk.injEq] at h;obtain⟨rfl,rfl,rfl⟩:=h;exact pu (yB ht hk) hw (aU ha hx) (hh _ _ ho) (Nat.le_of_eq e2) (oH ha h1) (aw9 hb2) hN k
         grind
        grind
       ·split at h
        ·rename_i a0 h0;split at h
         ·rename_i b0 h1;split at h
          ·rename_i hb2;simp only[ap9] at hb2;simp only[av8,Prod.mk.injEq] at h;obtain⟨rfl,rfl,rfl⟩:=h;exact lO a0 b0 _ (yB ht hk) hw (aU ha hx) (hh _ _ ho) e2 Y (oH ha h0) (oH ha h1) (aw9 hb2.1) (aw9 hb2.2) Y (rT hb.2) hN k
          grind
         grind
        grind
      grind
     grind
    grind
   grind
 |binOp bop T x y T'=>
  simp only[mT] at h;split at h
  ·rename_i a b hx hy;split at h
   ·rename_i v hv;simp only[av8,Prod.mk.injEq] at h;obtain⟨rfl,rfl,rfl⟩:=h;exact mM v hw (by rw[aU ha hx,gz]) (by rw[aU ha hy,gz]) hv hN k
   grind
  ·rename_i v _ hx hy;split at h
   ·rename_i id n hk;split at h
    ·simp at h
    ·split at h
     ·simp only[av8,Prod.mk.injEq] at h;obtain⟨rfl,rfl,rfl⟩:=h;exact nG false (jT ht hk) hw (aU ha hx) (aU ha hy) Y hN (fun b hb=>by rw[hb (Nat.succ_ne_zero _)];exact k)
     ·simp only[av8,Prod.mk.injEq] at h;obtain⟨rfl,rfl,rfl⟩:=h;exact nG true (jT ht hk) hw (aU ha hx) (aU ha hy) Y hN (fun b hb=>by rw[hb (Nat.succ_ne_zero _)];exact k)
     grind
   grind
  ·rename_i v _ hx hy;split at h
   ·rename_i b hk hb;split at h
    ·simp only[av8,Prod.mk.injEq] at h;obtain⟨rfl,rfl,rfl⟩:=h;exact qa false (JK ht hk) hw (aU ha hx) hb (aU ha hy) hN k
    ·simp only[av8,Prod.mk.injEq] at h;obtain⟨rfl,rfl,rfl⟩:=h;exact qa true (JK ht hk) hw (aU ha hx) hb (aU ha hy) hN k
    grind
   grind
  grind
 |makeFunc fn first caps=>
  simp only[mT] at h;split at h
  ·rename_i name x hf1 hc1;have hf1:=fe hf1;have hc1:=iu hc1;subst hf1 hc1;split at h
   ·rename_i hx;simp only[av8,Prod.mk.injEq] at h;obtain⟨rfl,rfl,rfl⟩:=h;exact yC hw (aU ha hx) hN k
   grind
  grind
 |nilCheck x=>
  simp only[mT] at h;split at h
  ·rename_i name first caps hx
   split at h
   ·rename_i T v hf1 hc1;have hf1:=fe hf1;have hc1:=iu hc1;subst hf1 hc1;split at h
    ·rename_i hm;simp only[av8,Prod.mk.injEq] at h;obtain⟨rfl,rfl,rfl⟩:=h;exact wF (Ln ht hm).2 hw (aU ha hx) hN k
    grind
   grind
  grind
 |makeInterface T x=>
  simp only[mT] at h;split at h
  ·rename_i hk;split at h
   ·rename_i hx;split at h
    ·rename_i hc;simp only[av8,Prod.mk.injEq] at h;obtain⟨rfl,rfl,rfl⟩:=h;exact wG (Nh ht hk) hw (aU ha hx) hc hN k
    grind
   grind
  grind
 |buildSlice T n parts=>
  simp only[mT] at h;split at h
  ·rename_i ety kk bytes hT;split at h
   ·split at h
    ·rename_i hp0;have:=rA hp0;subst this;simp only[av8,Prod.mk.injEq] at h;obtain⟨rfl,rfl,rfl⟩:=h;exact kQ (kO ht hT) hw hN k
    grind
   ·rename_i n';split at h
    ·rename_i zs hz;split at h
     ·rename_i ps hps;split at h
      ·rename_i cs hcs;split at h
       ·rename_i hb;simp only[ap9] at hb;have e1:=cg9 hb.1.1.1;obtain⟨z1,z2,z3⟩:=wA ht hz;simp only[av8,Prod.mk.injEq] at h;obtain⟨rfl,rfl,rfl⟩:=h;exact aA ps _ (kO ht hT) z1 z3 hb.1.2 Y hb.2 hw (sC ha hps) (by simp_all[pp]) (sK _ _) (rF hb.1.1.2) hN k
       grind
      grind
     grind
    grind
  grind
 |makeSlice T x y=>
  simp only[mT] at h;split at h
  ·rename_i ety kk bytes hT;split at h
   ·rename_i zs hz;split at h
    ·rename_i a b;split at h
     ·rename_i n hab hx;have hab:=cg9 hab;subst hab;split at h
      ·rename_i j;split at h
       ·rename_i hb;simp only[ap9] at hb;obtain⟨z1,z2,z3⟩:=wA ht hz;simp only[av8,Prod.mk.injEq] at h;obtain⟨rfl,rfl,rfl⟩:=h;have b1:=aw9 hb.1.1;have b2:=aw9 hb.1.2;have c1:((bytes*j:Nat):Int)<=((140737488355328:Nat):Int):=Int.ofNat_le.2 b1;have c2:((j:Nat):Int)<=((140737488355328:Nat):Int):=Int.ofNat_le.2 b2;rw[Int.natCast_mul] at c1;exact iL _ (kO ht hT) z1 z3 hb.2 ⟨Int.natCast_nonneg j,c1,c2⟩ Y Y hw (aU ha hx) hN k
       grind
      grind
     grind
    grind
   grind
  grind
 |lookup T x y ok=>
  simp only[mT] at h;split at h
  ·rename_i p hp0;obtain⟨hm,hTe⟩:=zM hmt hp0;subst hTe;obtain⟨zv,hz1,hz2⟩:=hm.h3;split at h
   ·rename_i id hx;split at h
    ·rename_i es ho;split at h
     ·rename_i kv hy;split at h
      ·rename_i hb;simp only[ap9] at hb;split at h
       ·rename_i r hr;split at h
        ·rename_i hdp;split at h
         ·simp only[av8,Prod.mk.injEq] at h;obtain⟨rfl,rfl,rfl⟩:=h;exact kP r p.z _ hm.h1 hm.h2 hz1 hz2 hw (aU ha hx) (.own (hh _ _ ho)) (.con (aU ha hy)) (ot hb.1) (qY hb.2) (rY hr) Y Y hN k hdp
         ·simp only[av8,Prod.mk.injEq] at h;obtain⟨rfl,rfl,rfl⟩:=h;exact cq r p.z _ hm.h1 hm.h2 hz1 hz2 hw (aU ha hx) (.own (hh _ _ ho)) (.con (aU ha hy)) (ot hb.1) (qY hb.2) (rY hr) Y hN k hdp
        grind
       grind
      grind
     grind
    grind
   grind
  grind
 |call c=>
  obtain⟨callee,args,at'⟩:=c;simp only[mT] at h;split at h
  ·rename_i x y T T' _ hargs hats;have hargs:=dt hargs;have hats:=dt hats;subst hargs;subst hats;split at h
   ·rename_i ety kk bytes _ hT hT';split at h
    ·rename_i hb0;simp only[ap9] at hb0;split at h
     ·rename_i id n hx;split at h
      ·rename_i rows ho;split at h
       ·rename_i hb;simp only[ap9] at hb;have e1:=cg9 hb.1.1;have e2:=cg9 hb.1.2;have e3:=cg9 hb.2;subst e1;subst e2;split at h
        ·rename_i id2 n2 hy;split at h
         ·rename_i k3 rows2 ho2;split at h
          ·rename_i hb2;simp only[ap9] at hb2;have e4:=cg9 hb2.1.1.1;have e5:=cg9 hb2.1.1.2;subst e4;simp only[av8,Prod.mk.injEq] at h;obtain⟨rfl,rfl,rfl⟩:=h
           exact lV rows2 _ (kO ht hT) (jT ht hT') hb0.1 hb0.2 hw (aU ha hx) (hh _ _ ho) e3 (aU ha hy) (.own (hh _ _ ho2) e5 (fun row hr c hc=>by
            obtain⟨j,hj⟩:=bb9 hc;exact jl (rT hb2.1.2 row hr) hj)) Y (by grind) (aw9 hb2.2) hN k
          grind
         grind
        ·rename_i hy;split at h
         ·rename_i hb2;simp only[av8,Prod.mk.injEq] at h;obtain⟨rfl,rfl,rfl⟩:=h;exact lV [] _ (kO ht hT) (jT ht hT') hb0.1 hb0.2 hw (aU ha hx) (hh _ _ ho) e3 (aU ha hy) .nil (List.append_nil _) e3 (aw9 hb2) hN k
         grind
        grind
       grind
      grind
     grind
    grind
   grind
  grind
 |_=>simp[mT] at h
end
def OZ(t:TT)(d:Nat)(e:bY)(hp:aD)(nx:Nat):Op->Option (bY×aD)
 | .call c=>(match c.callee,c.args.toList,c.argTypes.toList with
  | .builtin .append,[.tmp a,y],[T,T']=>(match oY e a with
   |some (.con (.slice none 0 0))=>(match dq t T TF.qEl,dq t T' TF.qSn with
    |some (ety,k,bytes),some _=>(match Nat.blt 0 bytes&&Nat.blt 0 k with
     |true=>(match eu ((a,.own nx 0)::e) y with
      |some (.own id2 n2)=>(match pk ((nx,.arr ety k [])::hp) id2 with
       |some (.arr _ k3 rows2)=>(match Nat.beq k3 k&&Nat.beq rows2.length n2&&KP rows2&&Nat.ble (n2*bytes) 140737488355328 with
        |true=>some ([(d,.own (nx+1) n2),(a,.own nx 0)],[(nx+1,.arr ety k rows2),(nx,.dead)])
        |false=>none)
       |_=>none)
      |_=>none)
     |false=>none)
    |_,_=>none)
   |_=>none)
  |_,_,_=>none)
 |_=>none
theorem Lq{op:Op}{ty:TypeId}{pos:String}{after:Array Edge}{g:Option (Nat×Bool)}(ht:cK K.P t){d:Nat}{e:bY}{hp:aD}{nx:Nat}{ue:bY}{uh:aD}(h:OZ t d e hp nx op=some (ue,uh))(hg:g=none)(hN:Nat.blt d K.N=true)
    (k:ax K ops rest Q ⟨ue++e,uh++hp,nx+2⟩):ax K ops (⟨some d,op,ty,pos,after,g⟩::rest) Q ⟨e,hp,nx⟩:=by
  subst hg;cases op<;>simp only[OZ,reduceCtorEq] at h;rename_i c;obtain⟨callee,args,at'⟩:=c;simp only at h;split at h
  · rename_i a y T T' hargs hats
    have hargs:=dt hargs;have hats:=dt hats;subst hargs;subst hats;split at h
    · rename_i hx
      split at h
      · rename_i ety kk bytes _ hT hT'
        split at h
        · rename_i hb0
          simp only[ap9] at hb0;split at h
          · rename_i id2 n2 hy
            split at h
            · rename_i k3 rows2 ho2
              split at h
              · rename_i hb2
                simp only[ap9] at hb2;have e4:=cg9 hb2.1.1.1;have e5:=cg9 hb2.1.1.2;subst e4;simp only[av8,Prod.mk.injEq] at h;obtain⟨rfl,rfl⟩:=h;refine bz (dO (S:=⟨e,hp,nx⟩) a ety k3 (dN hx)) ?_
                let S2:St:=⟨(a,.own nx 0)::e,(nx,.arr ety k3 [])::hp,nx+1⟩
                have hex:evl K S2 (.tmp a)=.own nx 0:=by show get ((a,.own nx 0)::e) a=_;rw[ci,if_pos rfl]
                have hho:ao S2.hp nx=.arr ety k3 []:=by show ao ((nx,.arr ety k3 [])::hp) nx=_;rw[av,if_pos rfl]
                refine lV (S:=S2) rows2 _ (kO ht hT) (jT ht hT') hb0.1 hb0.2 rfl hex hho rfl (aU (wS (S:=S2)) hy) (.own (fI ho2) e5 (fun row hr c hc=>by
                        obtain⟨j,hj⟩:=bb9 hc;exact jl (rT hb2.1.2 row hr) hj)) (ad9 _) e5 (aw9 hb2.2) hN ?_
                have gh:aV K ⟨(d,.own S2.nx n2)::S2.env,(S2.nx,.arr ety k3 rows2)::(nx,.dead)::S2.hp,S2.nx+1⟩ ⟨[(d,.own (nx+1) n2),(a,.own nx 0)]++e,[(nx+1,.arr ety k3 rows2),(nx,.dead)]++hp,nx+2⟩:=by
                  refine fun m β _ _ r=>⟨m,β,r.congr (fun _=>Y) (fun t=>?_) Y⟩
                  show ao ((nx+1,.arr ety k3 rows2)::(nx,.dead)::hp) t=ao ((nx+1,.arr ety k3 rows2)::(nx,.dead)::(nx,.arr ety k3 [])::hp) t
                  rw[av,av,av,av,av];split
                  · rfl
                  · split<;>rfl
                exact bz gh k
              · simp at h
            · simp at h
          · simp at h
        · simp at h
      · simp at h
    · simp at h
  · simp at h
end
end Go.Pv
