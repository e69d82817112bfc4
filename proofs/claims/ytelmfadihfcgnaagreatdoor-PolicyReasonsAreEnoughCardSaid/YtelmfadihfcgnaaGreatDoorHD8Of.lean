/- Part of the proof. -/
import Derived.Test.YtelmfadihfcgnaaGreatDoorHEXB
import Derived.Test.YtelmfadihfcgnaaGreatDoorHD8Lay
import Derived.Lib.SmallJoins
set_option linter.unusedSimpArgs false
set_option linter.unusedVariables false
namespace Go.Pv
open Go
section
variable{K:cR}{Q:ca}{S S':St}{ops:Array Oper}{rest:List Oper}{t:TT}{ty:TypeId}{pos:String}{after:Array Edge}{g:Option (Nat×Bool)}
theorem wD(u q e k:Nat)(ht:get S.env u=nV)(hq:ak S.hp q=.res)(hlt:q<S.nx)(hpin:K.pins<=q):aY K S ⟨(u,.own q 0)::S.env,(q,.arr e k [])::S.hp,S.nx⟩:=by
 intro m β w a r;have hf:β q=none:=r.free hq
 let β':ba:=⟨fun i=>if i=q then some none else β i,fun i=>if i=q then fun _=>False else β.hid i⟩
 have hq':β' q=some none:=by show(if q=q then _ else _)=_;grind
 have ho:∀i,i≠q->β' i=β i:=fun i h=>by grind
 have hle:β.le β':=fun i l h=>by
  grind
 have hn:β'.hid q=fun _=>False:=by show(if _ then _ else _)=_;grind
 have hho:∀i,i≠q->β'.hid i=β.hid i:=fun i h=>by grind
 have hlive:∀i,i≠q->ak ((q,Ob.arr e k [])::S.hp) i≠.dead->ak S.hp i≠.dead:=by
  intro i h hi;rw[av,if_neg (Ne.symm h)] at hi;exact hi
 refine⟨m,β',r.imm,r.ext,r.mold,r.frame,r.size,r.same,r.tn,r.df,?_,?_,?_,?_,?_,fun id h=>(ho id (by grind)).trans (r.nx id h),fun p hp=>⟨(r.pin p hp).1,(ho p (by omega)).trans (r.pin p hp).2⟩⟩
 ·intro i
  show br m β' (get ((u,.own q 0)::S.env) i) _
  rw[cn];split
  ·rename_i h;subst h;have:=r.env u;rw[ht] at this;rw[this.of_con];exact .ownNil hq'
  ·exact(r.env i).mono (bB.le_refl _) hle
 ·intro id
  show bn m β' w (β'.hid id) (β' id) (ak ((q,Ob.arr e k [])::S.hp) id)
  rw[av];split
  ·simp_all[bn]
  ·rename_i h;rw[hho id (Ne.symm h),ho id (Ne.symm h)];exact bn.mono (bB.le_refl _) hle (fun _ _ h=>h) (fun _ _=>Y) (r.own id)
 ·intro id b cap hl hb;by_cases h:id=q
  ·grind
  ·rw[ho id h] at hb;exact r.priv id b cap (hlive id h hl) hb
 ·intro id id' b c c' hl hl' hb hb';by_cases h:id=q
  ·grind
  ·by_cases h':id'=q
   ·grind
   ·rw[ho id h] at hb;rw[ho id' h'] at hb';exact r.inj id id' b c c' (hlive id h hl) (hlive id' h' hl') hb hb'
 ·intro id x hl hx;by_cases h:id=q
  ·grind
  ·rw[hho id h] at hx;have z:=r.hid id x (hlive id h hl) hx;refine⟨z.lt,z.m,z.old,fun i b c hi hb=>?_,fun i hi hx'=>?_⟩
   ·by_cases h':i=q
    ·grind
    ·rw[ho i h'] at hb;exact z.ne i b c (hlive i h' hi) hb
   ·by_cases h':i=q
    ·grind
    ·rw[hho i h'] at hx';exact z.un i (hlive i h' hi) hx'
theorem oX{d T T' e k bytes n' nx u:Nat}{x:Operand}{sv:V}(idn q:Nat)(hid:(Nat.blt idn nx&&Nat.ble K.pins idn)=true)(hidq:(Nat.blt q nx&&Nat.ble K.pins q)=true)(hne:idn≠q)(hnxx:S.nx=nx)(hres:ak S.hp idn=.res)(hresq:ak S.hp q=.res)(rows2:List (List V))(hT:eQ K.P T e k bytes=true)(hT':cQ K.P T'=true)
  (hpos:Nat.blt 0 bytes=true) (hkp:Nat.blt 0 k=true)
  (hw:aN ops S ⟨some d,.call ⟨.builtin .append,#[.tmp u,x],#[T,T']⟩,ty,pos,after,none⟩ true)
  (hs:get S.env u=nV) (hx:evl K ⟨(u,.own q 0)::S.env,(q,.arr e k [])::S.hp,S.nx⟩ x=sv) (hsrc:xE ⟨(u,.own q 0)::S.env,(q,.arr e k [])::S.hp,S.nx⟩ k sv rows2)
  (hn':rows2.length=n') (hb:n'*bytes<=140737488355328) (hN:Nat.blt d K.N=true)
  (kk:ay K ops rest Q ⟨(d,.own idn n')::(u,.any)::S.env,(idn,.arr e k rows2)::(q,.dead)::S.hp,S.nx⟩):
  ay K ops (⟨some d,.call ⟨.builtin .append,#[.tmp u,x],#[T,T']⟩,ty,pos,after,none⟩::rest) Q S:=by
 simp only[aq9] at hidq;refine bp (wD u q e k hs hresq (by simp_all) (ax8 hidq.2)) ?_;refine ci (S:=⟨(u,.own q 0)::S.env,(q,.arr e k [])::S.hp,S.nx⟩) (id:=q) (n:=0) (rows:=[]) idn hid hnxx (by simp_all[av,Ne.symm]) rows2 rows2 hT hT' hpos hkp Y (by show get ((u,.own q 0)::S.env) u=_;simp_all[cn]) (by simp_all[av]) Y hx hsrc Y hn' hb hN ?_;refine bp (pA ((d,.own idn n')::(u,.any)::S.env) ((idn,.arr e k rows2)::(q,.dead)::S.hp) (fun i=>?_) (fun i=>?_)) kk
 ·grind [cn,ai.keepI,ai.any]
 ·show ag JE (ak ((idn,.arr e k rows2)::(q,.dead)::S.hp) i) (ak ((idn,.arr e k rows2)::(q,.dead)::(q,.arr e k [])::S.hp) i)
  simp_all[av,ag.keep,ai.keepI]
def KY(k:Nat)(e:cc)(hp:aC)(y:Operand):Option (List (List V)):=match eA e y with
 |some (.own id2 n2)=>(match pz hp id2 with
  |some (.arr _ k3 rows2)=>(match Nat.beq k3 k&&Nat.beq rows2.length n2&&Lb rows2 with|true=>some rows2|false=>none)
  |_=>none)
 |some (.con (.slice none 0 0))=>some []
 |_=>none
theorem HY{k:Nat}{e:cc}{hp:aC}{y:Operand}{rows2:List (List V)}(h:KY k e hp y=some rows2)(ha:Ag e S)(hh:Hu hp S):xE S k (evl K S y) rows2:=by
 unfold KY at h;split at h
 ·rename_i id2 n2 hy;split at h
  ·rename_i k3 rows3 ho;split at h
   ·rename_i hb;simp only[aq9] at hb;simp only[ax9] at h;subst h;have e4:=ci9 hb.1.1;subst e4;rw[aW ha hy]
    exact .own (hh _ _ ho) (ci9 hb.1.2) (fun row hr c hc=>by
     obtain⟨j,hj⟩:=bc8 hc;exact jv (sq hb.2 row hr) hj)
   grind
  grind
 ·rename_i hy;simp only[ax9] at h;subst h;rw[aW ha hy];exact .nil
 grind
def Pu(t:TT)(d:Nat)(e:cc)(hp:aC)(fr:Nat):Op->Option (cc×aC×Nat)
 | .call c=>(match c.callee,c.args.toList,c.argTypes.toList with
  | .builtin .append,[.tmp a,y],[T,T']=>(match du t T TF.qEl,du t T' TF.qSn with
   |some (ety,k,bytes),some _=>(match Nat.blt 0 bytes&&Nat.blt 0 k with
    |true=>(match KY k e hp y with
     |some rows2=>(match pf e a with
      |some (.own id n)=>(match pz hp id with
       |some (.arr e2 k2 rows)=>(match Nat.beq ety e2&&Nat.beq k k2&&Nat.beq rows.length n&&Nat.ble ((rows++rows2).length*bytes) 140737488355328 with
        |true=>some ([(d,.own fr (rows++rows2).length)],[(fr,.arr ety k (rows++rows2)),(id,.dead)],1)
        |false=>none)
       |_=>none)
      |some (.con (.slice none 0 0))=>(match Nat.ble (rows2.length*bytes) 140737488355328&&(match y with | .tmp b=>bif Nat.beq b a then false else true|_=>true) with
       |true=>some ([(d,.own fr rows2.length),(a,.any)],[(fr,.arr ety k rows2),(fr+1,.dead)],2)
       |false=>none)
      |_=>none)
     |none=>none)
    |false=>none)
   |_,_=>none)
  |_,_,_=>none)
 |_=>none
theorem KX{k u q e:Nat}{sv:V}{rows2:List (List V)}(h:xE S k sv rows2)(hq:ak S.hp q=.res):xE ⟨(u,.own q 0)::S.env,(q,.arr e k [])::S.hp,S.nx⟩ k sv rows2:=by
 cases h with
 |own ho hn hd=>
  exact .own (by
   rw[av];split
   ·rename_i h;subst h;rw[hq] at ho;simp at ho
   ·exact ho) hn hd
 |lst h=>exact .lst h
 |nil=>exact .nil
 |str hk hr=>exact .str hk hr
theorem LN{op:Op}(ht:cK K.P t){d:Nat}{e:cc}{hp:aC}{fr nx q:Nat}{ue:cc}{uh:aC}(ha:Ag e S)(hh:Hu hp S)(hnx:S.nx=nx)(h:Pu t d e hp fr op=some (ue,uh,q))(hres:∀i,fr<=i->i<fr+q->ak S.hp i=.res/\i<nx)(hpin:K.pins<=fr)
  (hN:Nat.blt d K.N=true) (k:ay K ops rest Q ⟨ue++S.env,uh++S.hp,S.nx⟩):ay K ops (⟨some d,op,ty,pos,after,none⟩::rest) Q S:=by
 cases op<;>simp only[Pu,reduceCtorEq] at h;rename_i c;obtain⟨callee,args,at'⟩:=c;simp only at h;split at h
 ·rename_i a y T T' hargs hats;have hargs:=dw hargs;have hats:=dw hats;subst hargs;subst hats;split at h
  ·rename_i ety kk bytes _ hT hT';split at h
   ·rename_i hb0;simp only[aq9] at hb0;split at h
    ·rename_i rows2 hy;have hsrc:=HY (K:=K) hy ha hh;split at h
     ·rename_i id n hx;split at h
      ·rename_i e2 k2 rows ho;split at h
       ·rename_i hb;simp only[aq9] at hb;have e1:=ci9 hb.1.1.1;have e2:=ci9 hb.1.1.2;have e3:=ci9 hb.1.2;subst e1;subst e2;simp only[ax9,Prod.mk.injEq] at h;obtain⟨rfl,rfl,rfl⟩:=h;obtain⟨r1,r2⟩:=hres fr (ae9 _) (ak8 _);exact ci fr (by simp only[aq9];exact⟨cj9 r2,cj9 hpin⟩) hnx r1 rows2 _ (kX ht hT) (j8 ht hT') hb0.1 hb0.2 Y (ha _ _ hx) (hh _ _ ho) e3 Y hsrc Y Y (ax8 hb.2) hN k
       ·simp at h
      ·simp at h
     ·rename_i hx;split at h
      ·rename_i hb;simp only[aq9] at hb;simp only[ax9,Prod.mk.injEq] at h;obtain⟨rfl,rfl,rfl⟩:=h;obtain⟨r1,r2⟩:=hres fr (ae9 _) (by omega);obtain⟨q1,q2⟩:=hres (fr+1) (al9 _) (by omega)
       have hey:evl K ⟨(a,.own (fr+1) 0)::S.env,(fr+1,.arr ety kk [])::S.hp,S.nx⟩ y=evl K S y:=by
        cases y with
        |tmp b=>
         have hba:b≠a:=fun e=>by
          subst e;have:=hb.2;simp at this
         show get ((a,.own (fr+1) 0)::S.env) b=get S.env b
         rw[cn,if_neg (Ne.symm hba)]
        |const v=>rfl
        |global g=>rfl
        |func f=>rfl
       refine oX fr (fr+1) (by simp only[aq9];exact⟨cj9 r2,cj9 hpin⟩) (by simp only[aq9];exact⟨cj9 q2,cj9 (Nat.le_succ_of_le hpin)⟩) (by omega) hnx r1 q1 rows2 (kX ht hT) (j8 ht hT') hb0.1 hb0.2 Y (ha _ _ hx) hey (KX hsrc q1) Y (ax8 hb.1) hN k
      ·simp at h
     ·simp at h
    ·simp at h
   ·simp at h
  ·simp at h
 ·simp at h
end
section
variable{K:cR}{Q:ca}{S S':St}{ops:Array Oper}{rest:List Oper}{t:TT}
def O8(cb:Nat->List V->Option V)(cb2:Nat->List V->aC->Nat->Option (V×aC×Nat))(t:TT)(mt:List MT)(N fr:Nat)(ops:Array Oper)(o:Oper)(e:cc)(hp:aC)(nx:Nat):Option (OD×Nat):=
 match K6 ops o e with
 |none=>none
 |some re=>(match wt ops re o.guard with
  |none=>none
  |some b=>(match b with
   |false=>(match o.dst with|some d=>(match Nat.blt d N with|true=>some (⟨re,[],[(d,.con undef)],[]⟩,fr)|false=>none)|none=>none)
   |true=>(match Nq re hp (hrO o.op) [] with
    |none=>none
    |some rh=>(match o.dst with
     |some d=>(match Nat.blt d N with
      |false=>none
      |true=>(match val t re rh o.op with
       |some v=>some (⟨re,rh,[(d,v)],[]⟩,fr)
       |none=>(match J8 t re fr o.op with
        |some (v,ob)=>(match Nat.blt fr nx,pz hp fr with
         |true,some .res=>some (⟨re,(fr,.res)::rh,[(d,v)],[(fr,ob)]⟩,fr+1)
         |_,_=>none)
        |none=>(match NJ t re o.op with
         |some (f,avs)=>(match o7 F4 avs,cb f avs with
          |true,some v=>some (⟨re,rh,[(d,v)],[]⟩,fr)
          |_,_=>(match Pp cb2 f avs hp fr nx with
           |some (dv,rh2,u,fr')=>some (⟨re,rh2,[(d,dv)],u⟩,fr')
           |none=>none))
         |none=>(match mY t mt re rh nx o.op with
          |some (v,[],0)=>some (⟨re,rh,[(d,v)],[]⟩,fr)
          |_=>(match o.guard,Pu t d re rh fr o.op with
           |none,some (ue,uh,q)=>(match Nat.ble (fr+q) nx&&EZ (ly fr q) hp with
            |true=>some (⟨re,H2 (ly fr q)++rh,ue,uh⟩,fr+q)
            |false=>none)
           |_,_=>none))))))
     |none=>(match Ow t mt re rh o.op with|some (id,ob)=>some (⟨re,rh,[],[(id,ob)]⟩,fr)|none=>none)))))
theorem La{cb:Nat->List V->Option V}{cb2:Nat->List V->aC->Nat->Option (V×aC×Nat)}(hcb2:∀f avs hp k v hp' k',cb2 f avs hp k=some (v,hp',k')->cE K.P f=true/\fV K.gl K.P f avs k hp v k' hp')(hcb:∀f avs v,cb f avs=some v->cE K.P f=true/\dY K.gl K.P f avs v)(ht:cK K.P t){mt:List MT}(hmt:tB K.P mt){o:Oper}{D:OD}{e:cc}{hp:aC}{fr fr' nx:Nat}(hpin:K.pins<=fr)
  (h:O8 cb cb2 t mt K.N fr ops o e hp nx=some (D,fr')):zk K nx ops o D/\tz e D.re/\lp hp D.rh/\fr<=fr':=by
 unfold O8 at h;split at h
 ·simp at h
 ·rename_i re hre;have hre':=H3 hre;split at h
  ·simp at h
  ·rename_i b hw;split at h
   ·split at h
    ·rename_i d hd;split at h
     ·rename_i hN;simp at h;obtain⟨rfl,rfl⟩:=h;exact⟨fun S2 hn h1 h2=>pJ (jc (da h1) hw) hd hN (aM ⟨Y,Y⟩),hre',trivial,ae9 _⟩
     grind
    grind
   ·split at h
    ·simp at h
    ·rename_i rh hrh;have hrh':=F9 (l:=[]) trivial hrh;obtain⟨dst,op,ty,pos,after,g⟩:=o;cases dst with
     |some d=>
      simp only at h;split at h
      ·simp at h
      ·rename_i hN;split at h
       ·rename_i v hv;simp at h;obtain⟨rfl,rfl⟩:=h;exact⟨fun S2 hn h1 h2=>zK ht (da h1) (nS h2) hv (jc (da h1) hw) hN (aM ⟨Y,Y⟩),hre',hrh',ae9 _⟩
       ·split at h
        ·rename_i v ob hv;split at h
         ·rename_i hb hres;simp at h;obtain⟨rfl,rfl⟩:=h;exact⟨fun S2 hn h1 h2=>LP ht (da h1) hv (by simp_all) hn h2.1 (jc (da h1) hw) hN (aM ⟨Y,Y⟩),hre',⟨fJ hres,hrh'⟩,al9 _⟩
         grind
        ·split at h
         ·rename_i f avs hc;split at h
          ·rename_i v hai hcv;simp at h;obtain⟨rfl,rfl⟩:=h;obtain⟨q1,q2⟩:=hcb _ _ _ hcv;refine⟨fun S2 hn h1 h2=>?_,hre',hrh',ae9 _⟩;refine iW (o:=⟨some d,op,ty,pos,after,g⟩) (jc (da h1) hw) Y hN (fun m β w a r=>?_) q2 (aM ⟨Y,Y⟩);obtain⟨vs,e1,e2⟩:=oN ht (o:=⟨some d,op,ty,pos,after,g⟩) (da h1) hc q1 m β w a r;exact⟨vs,e1,⟨e2.len,fun i c v a b=>kx (kE hai c (ay9 a)) (e2.at' i c v a b)⟩⟩
          ·split at h
           ·rename_i dv rh2 u fr2 hB;simp only[ax9,Prod.mk.injEq] at h;obtain⟨rfl,rfl⟩:=h;have p:=fun(Q:ca)=>LG (Q:=Q) (ops:=ops) (rest:=[]) hcb2 hB hpin ht (o:=⟨some d,op,ty,pos,after,g⟩) hc rfl hN;exact⟨fun S2 hn h1 h2=>(p _).2.2 S2 hn (da h1) h2 (jc (da h1) hw) (aM ⟨Y,Y⟩),hre',(p (fun _ _=>True)).1,(p (fun _ _=>True)).2.1⟩
           grind
         ·split at h
          ·rename_i v hv;simp at h;obtain⟨rfl,rfl⟩:=h;exact⟨fun S2 hn h1 h2=>Bz ht hmt (da h1) (nS h2) hn hv (jc (da h1) hw) hN (aM ⟨Y,Y⟩),hre',hrh',ae9 _⟩
          ·split at h
           ·rename_i ue uh q hap;split at h
            ·rename_i hb;simp only[aq9] at hb;simp only[ax9,Prod.mk.injEq] at h;obtain⟨rfl,rfl⟩:=h;refine⟨fun S2 hn h1 h2=>?_,hre',ov.2 ⟨vU hb.2,hrh'⟩,be8 _ _⟩;obtain⟨y1,y2⟩:=ov.1 h2;exact LN ht (da h1) (nS y2) hn hap (fun i h1 h2=>⟨vV y1 i (rX.2 ⟨h1,h2⟩),ck8 h2 (ax8 hb.1)⟩) hpin hN (aM ⟨Y,Y⟩)
            grind
           grind
     |none=>
      simp only at h;split at h
      ·rename_i id ob hv;simp at h;obtain⟨rfl,rfl⟩:=h;exact⟨fun S2 hn h1 h2=>DL ht hmt (da h1) (nS h2) hv (jc (da h1) hw) (aM ⟨Y,Y⟩),hre',hrh',ae9 _⟩
      grind
theorem yH{e e':cc}(h:∀t,get e t=get e' t):∀(u:cc) (t:Nat),get (u++e) t=get (u++e') t
 |[],t=>h t
 |(i,o)::u,t=>by
  show get ((i,o)::(u++e)) t=get ((i,o)::(u++e')) t
  rw[cn,cn,yH h u]
theorem u9{e e':aC}(h:∀t,ak e t=ak e' t):∀(u:aC) (t:Nat),ak (u++e) t=ak (u++e') t
 |[],t=>h t
 |(i,o)::u,t=>by
  show ak ((i,o)::(u++e)) t=ak ((i,o)::(u++e')) t
  rw[av,av,u9 h u]
def MH(cb:Nat->List V->Option V)(cb2:Nat->List V->aC->Nat->Option (V×aC×Nat))(t:TT)(mt:List MT)(N:Nat)(ops:Array Oper):List Oper->Nat->cc->aC->Nat->Option (List OD×cc×aC)
 |[],_,e,hp,_=>some ([],e,hp)
 |o::l,fr,e,hp,nx=>(match O8 cb cb2 t mt N fr ops o e hp nx with
  |some (D,fr')=>(match MH cb cb2 t mt N ops l fr' (uA D.ue e) (qd D.uh hp) nx with|some (ds,e',hp')=>some (D::ds,e',hp')|none=>none)
  |none=>none)
theorem Gw{cb:Nat->List V->Option V}{cb2:Nat->List V->aC->Nat->Option (V×aC×Nat)}(hcb2:∀f avs hp k v hp' k',cb2 f avs hp k=some (v,hp',k')->cE K.P f=true/\fV K.gl K.P f avs k hp v k' hp')(hcb:∀f avs v,cb f avs=some v->cE K.P f=true/\dY K.gl K.P f avs v)(ht:cK K.P t){mt:List MT}(hmt:tB K.P mt){nx:Nat} :
  ∀{l:List Oper} {fr:Nat} {e e':cc} {hp hp':aC} {ds:List OD} {S:St},K.pins<=fr->MH cb cb2 t mt K.N ops l fr e hp nx=some (ds,e',hp')->S.nx=nx->(∀t,get S.env t=get e t)->(∀t,ak S.hp t=ak hp t)->
  nz S ds/\nT K nx ops l ds/\(∀t,get (ef S ds).env t=get e' t)/\(∀t,ak (ef S ds).hp t=ak hp' t)/\(ef S ds).nx=nx
 |[],fr,e,e',hp,hp',ds,S,hpin,h,hn,h1,h2=>by
  simp[MH] at h;obtain⟨rfl,rfl,rfl⟩:=h;exact⟨trivial,.nil,h1,h2,hn⟩
 |o::l,fr,e,e',hp,hp',ds,S,hpin,h,hn,h1,h2=>by
  simp only[MH] at h;split at h
  ·rename_i D fr' hD;obtain⟨a1,a2,a3,a4⟩:=La hcb2 hcb ht hmt hpin hD;split at h
   ·rename_i ds' e2 hp2 hR;simp at h;obtain⟨rfl,rfl,rfl⟩:=h;have:=Gw hcb2 hcb ht hmt (S:=S.upd D) (bw9 hpin a4) hR hn (fun t=>(yH h1 _ t).trans (pB _ _ t).symm) (fun t=>(u9 h2 _ t).trans (ky _ _ t).symm);exact⟨⟨tz.congr (fun t _=>(h1 t).symm) a2,lp.congr (fun t _=>(h2 t).symm) a3,this.1⟩,.cons a1 this.2.1,this.2.2⟩
   ·simp at h
  ·simp at h
def E3(nx:Nat):Nat->aC->aC
 |0,hp=>hp
 |n+1,hp=>(nx+n,.res)::E3 nx n hp
theorem Ca{c:Code}{e:cc}{hp:aC}{nx:Nat}:∀(n:Nat),iC K c Q ⟨e,E3 nx n hp,nx+n⟩->iC K c Q ⟨e,hp,nx⟩
 |0,h=>h
 |n+1,h=>Ca n (bd cy h)
theorem GO{c:Code}(h:K.pins<=S.nx->iC K c Q S):iC K c Q S:=by
 intro m β w a r;refine h ?_ m β w a r;cases hp:K.pins with
 |zero=>grind
 |succ q=>have:=(r.pin q (by omega)).1;omega
theorem LI{cb:Nat->List V->Option V}{cb2:Nat->List V->aC->Nat->Option (V×aC×Nat)}(hcb2:∀f avs hp k v hp' k',cb2 f avs hp k=some (v,hp',k')->cE K.P f=true/\fV K.gl K.P f avs k hp v k' hp')(hcb:∀f avs v,cb f avs=some v->cE K.P f=true/\dY K.gl K.P f avs v)(ht:cK K.P t){mt:List MT}(hmt:tB K.P mt)(hm:K.P.follows .mixedOrders=true){rid n nx:Nat}{e e':cc}{hp hp':aC}{ds:List OD}
  (h:MH cb cb2 t mt K.N ops ops.toList nx e (E3 nx n hp) (nx+n)=some (ds,e',hp')) (hok:qr ops.toList ds=true) (k:∀S1,aY K S1 ⟨e',hp',nx+n⟩->Q .normal S1):iC K (.region rid ops true) Q ⟨e,hp,nx⟩:=by
 refine GO (fun hpin=>Ca n ?_);obtain⟨l⟩:=ops;obtain⟨a1,a2,a3,a4,a5⟩:=Gw hcb2 hcb ht hmt (S:=⟨e,E3 nx n hp,nx+n⟩) hpin h rfl (fun _=>rfl) (fun _=>rfl);exact IW ds hm a1 hok a2 (k _ (fun m β _ _ r=>⟨m,β,r.congr (fun t=>(a3 t).symm) (fun t=>(a4 t).symm) a5.symm⟩))
end
section
variable{K:cR}{Q:ca}{S S':St}{t:TT}
def rvT:ResultVar->Nat
 | .tmp x=>x
 | .cell x _=>x
def M1(e:cc):List ResultVar->Option (List (Nat×V))
 |[]=>some []
 |r::l=>(match pf e (rvT r) with|some v=>(match M1 e l with|some q=>some ((rvT r,v)::q)|none=>none)|none=>none)
def Nf(f:Nat->Option Nat):List (Nat×V)->Option cc
 |[]=>some []
 |(x,v)::l=>(match pe f 12 v with|some y=>(match Nf f l with|some q=>some ((x,y)::q)|none=>none)|none=>none)
def F8(hp:aC):Nat->List Nat
 |0=>[]
 |q+1=>Nn (ak hp q)++F8 hp q
def Np:List (Nat×V)->List Nat
 |[]=>[]
 |p::l=>yy 12 p.2++Np l
def Pn(k:Nat)(rs:List ResultVar):St->Option St
 |⟨e,hp,nx⟩=>(match M1 e rs with
  |some l=>(match vW hp 4000 (F8 hp k++Np l) (ly 0 k) with
   |some R=>(match Nf (t6 R 0) l with
    |some e2=>(match Iq (t6 R 0) hp 0 R with
     |some (h2,_)=>(match nodup R&&uG R k with|true=>some ⟨e2,h2,R.length⟩|false=>none)
     |none=>none)
    |none=>none)
   |none=>none)
  |none=>none)
theorem D4{R:List Nat}:uk (Ren R.length (sg R)) (t6 R 0):=by
 rintro m β m' β' ⟨rfl,h⟩
 refine⟨Y,fun i j hij=>?_⟩;obtain⟨q,rfl,hq⟩:=wA hij<;>simp_all[Ak]
theorem BG{Yo:Hy}{f:Nat->Option Nat}(hY:uk Yo f){e:cc}{rs:List ResultVar}:∀{l:List (Nat×V)} {e2:cc},(∀p,p∈l->get e p.1=p.2)->Nf f l=some e2->bP Yo e e2
 |[],e2,_,h=>by simp[Nf] at h;subst h;exact .nil
 |(x,v)::l,e2,hl,h=>by
  simp only[Nf] at h;split at h
  ·rename_i y hy;split at h
   ·rename_i q hq;simp at h;subst h;exact .cons (by grind [List.mem_cons_self,ro]) (BG (rs:=rs) hY (fun p hp=>hl p (by9 _ hp)) hq)
   grind
  grind
theorem ET{e:cc}:∀{rs:List ResultVar} {l:List (Nat×V)},M1 e rs=some l->∀p,p∈l->get e p.1=p.2
 |[],l,h,p,hp=>by simp_all[M1]
 |r::rs,l,h,p,hp=>by
  simp only[M1] at h;split at h
  ·rename_i v hv;split at h
   ·rename_i q hq;simp at h;subst h;rcases as9.1 hp with rfl|hp
    ·exact dN hv
    ·exact ET hq p hp
   ·simp at h
  ·simp at h
theorem LB{k:Nat}{rs:List ResultVar}{S S2:St}(h:Pn k rs S=some S2)(hk:K.pins=k):aY K S S2:=by
 obtain⟨e,hp,nx⟩:=S;simp only[Pn] at h;split at h
 ·rename_i l hl;split at h
  ·rename_i R hR;split at h
   ·rename_i e2 he;split at h
    ·rename_i h2 r hin;split at h
     ·rename_i hb;simp only[aq9] at hb;simp only[ax9] at h;subst h;exact bi (S:=⟨e,hp,nx⟩) R.length (sg R) e2 h2 (sn hb.1) (BG (rs:=rs) D4 (ET hl) he).get (bJ.get (Aq (R0:=R) D4 (fun q i h=>by grind) hin (Ap hin))) (by simp_all[sc])
     grind
    grind
   grind
  grind
 grind
def fin(k:Nat)(rs:List ResultVar)(S:St):St:=match Pn k rs S with|some S2=>S2|none=>S
theorem Lr{k:Nat}{rs:List ResultVar}{S:St}(hk:K.pins=k):aY K S (fin k rs S):=by
 unfold fin;split
 ·grind [LB]
 ·exact fun m β _ _ r=>⟨m,β,r⟩
def C5(k:Nat)(rs:List ResultVar)(o:Option St):Option St:=match o with|some S=>some (fin k rs S)|none=>none
theorem C4{k:Nat}{rs:List ResultVar}{o:Option St}{S2:St}(h:C5 k rs o=some S2):∃S,o=some S/\fin k rs S=S2:=by
 unfold C5 at h
 grind
end
section
variable{K:cR}{Q:ca}{S S':St}{ops:Array Oper}{rest:List Oper}{t:TT}
theorem zb{o:Oper}{d:Nat}{f:FuncId}{avs:List V}{k':Nat}{hp':aC}{dv:V}(hw:aN ops S o true)(hd:o.dst=some d)(hN:Nat.blt d K.N=true)
  (hrun:∀m β w a,bX K m β w a S->∃vs:Array Value,(execOp a.eval o).run K.P w=.ok (.enter f vs) w/\iY m β avs vs)
  (hc:fV K.gl K.P f avs S.nx S.hp dv k' hp') (kk:ay K ops rest Q ⟨(d,dv)::S.env,hp',k'⟩):ay K ops (o::rest) Q S:=by
 intro m β w a r;unfold wpListIn;rw[if_pos (hw.at r)];obtain⟨vs,h1,h2⟩:=hrun m β w a r;refine fY (.inr (kr h1 (fun d e=>by cases e))) ?_;unfold Oper.wp;rw[h1];refine(hc m β w vs r.imm (K.glok.mono r.ext) h2 r.own (fun id b cap hl hb=>(r.priv id b cap hl hb).1) r.inj (fun id x hl hx=>let q:=r.hid id x hl hx;⟨q.lt,q.m,q.ne,q.un⟩) r.nx).mono ?_
 rintro e w' ⟨v,m',β',rfl,hv,g⟩
 simp only[hd]
 have hle:S.nx<=k':=by
  cases hn:S.nx with
  |zero=>grind
  |succ q=>have:=(g.pin q (by omega)).1;omega
 have hβle:β.le β':=by
  intro id l hl;by_cases h:id<S.nx
  ·rw[(g.pin id h).2];exact hl
  ·rw[r.nx id (by omega)] at hl;simp at hl
 have hold:∀b,b<K.w0.heap.size->K.old b->b<w.heap.size/\c8 S.hp β b:=fun b hb ho=>
  ⟨ck8 hb r.size,fun i hl=>⟨fun c hb'=>(r.priv _ _ _ hl hb').2 hb ho,fun hx=>(r.hid _ _ hl hx).old hb ho⟩⟩
 have r2:bX K m' β' w' a ⟨S.env,hp',k'⟩:=by
  constructor
  ·exact g.imm
  ·exact bB.le_trans r.ext g.le
  ·intro b hb ho;obtain⟨q1,q2⟩:=hold b hb ho;rw[(g.old b q1 q2).1];exact r.mold b hb ho
  ·intro b hb ho;obtain⟨q1,q2⟩:=hold b hb ho;rw[(g.old b q1 q2).2];exact r.frame b hb ho
  ·exact bw9 r.size g.size
  ·exact r.same.trans g.same
  ·exact r.tn
  ·exact r.df.mono g.le
  ·exact fun t=>(r.env t).mono g.le hβle
  ·exact g.own
  ·intro id b cap hl hb;obtain⟨q1,q2⟩:=g.priv id b cap hl hb<;>grind
  ·exact g.inj
  ·intro id x hl hx;obtain⟨q1,q2,q3,q4,q5⟩:=g.hid id x hl hx;exact⟨q1,q2,fun hb0 ho=>q3 (hold x hb0 ho).1 (hold x hb0 ho).2,q4,q5⟩
  ·exact g.nx
  ·intro q hq;obtain⟨p1,p2⟩:=r.pin q hq;have:=g.pin q p1
   grind
 exact kk m' β' w' _ (r2.put hN hv)
def K3(t:TT)(e:cc)(hp:aC):ResultVar->Option V
 | .tmp x=>pf e x
 | .cell x T=>(match pf e x with
  |some (.ptr id k i o)=>(match pz hp id with
   |some (.arr _ k2 rows)=>(match Nat.beq k k2 with|true=>(match lH rows i with|some row=>CU t T row o|none=>none)|false=>none)
   |_=>none)
  |_=>none)
theorem H0(ht:cK K.P t){rv:ResultVar}{v:V}(h:K3 t S.env S.hp rv=some v):kF K.P S rv v:=by
 cases rv with
 |tmp x=>exact .tmp (dN h)
 |cell x T=>
  simp only[K3] at h;split at h
  ·rename_i id k i o hx;split at h
   ·rename_i k2 rows ho;split at h
    ·rename_i hk;have hk:=ci9 hk;subst hk;split at h
     ·rename_i row hr;cases hn:du t T TF.qA with
      |some n=>
       obtain⟨cs,rfl,hc,hd⟩:=rq hn h;exact .agg (IY ht hn) (dN hx) (fJ ho) (eR hr) (lU hc).1 (lU hc).2 hd
      |none=>
       obtain⟨hq,hc,hd⟩:=oC hn h;exact .cell (IX ht hq) (dN hx) (fJ ho) (eR hr) (eR hc) hd
     grind
    grind
   grind
  grind
def H1(t:TT)(e:cc)(hp:aC):List ResultVar->Option (List V)
 |[]=>some []
 |r::l=>(match K3 t e hp r with|some v=>(match H1 t e hp l with|some q=>some (v::q)|none=>none)|none=>none)
theorem zT(ht:cK K.P t):∀{l:List ResultVar} {ds:List V},H1 t S.env S.hp l=some ds->xh K.P S l ds
 |[],ds,h=>by simp[H1] at h;subst h;exact .nil
 |r::l,ds,h=>by
  simp only[H1] at h;split at h
  ·rename_i v hv;split at h
   ·rename_i q hq;simp at h;subst h;exact .cons (H0 ht hv) (zT ht hq)
   ·simp at h
  ·simp at h
abbrev FT:=List (Nat×Func)
def JF(P:Program)(ft:FT):Prop:=∀p,p∈ft->P.funcs[p.1]? = some p.2/\cE P p.1=true
def O9(P:Program)(l:List Nat):FT:=l.filterMap fun f=>match P.funcs[f]? with|some g=>some (f,g)|none=>none
theorem Nt{P:Program}{ft:FT}(l:List Nat)(h:ft=O9 P l)(hB:l.all (cE P)=true):JF P ft:=fun p hp=>by
 rw[h] at hp;obtain⟨f,hf,e⟩:=List.mem_filterMap.1 hp<;>grind
abbrev XT:=List (Nat×(List V->Option V))
def LQ(gl:Gl)(P:Program)(xt:XT):Prop:=∀p,p∈xt->cE P p.1=true/\∀avs v,p.2 avs=some v->dY gl P p.1 avs v
def M6(t:TT)(N:Nat)(ops:Array Oper)(e:cc)(o:Oper):Option (Nat×Nat×List V):=
 match qk N ops e o with
 |some d=>(match NJ t e o.op with|some (f,avs)=>some (d,f,avs)|none=>none)
 |none=>none
def zD(t:TT):List Oper->Nat
 |[]=>0
 |o::l=>(match o.op with | .alloc _=>zD t l+1 | .box _ _=>zD t l+1 | .makeMap _ _=>zD t l+1 | .buildSlice _ _ _=>zD t l+1 | .makeSlice _ _ _=>zD t l+1 | .call c=>(match c.callee with | .value x=>(match x with | .func f=>(match du t f TF.qR with|some n=>zD t l+n|none=>zD t l+12)|_=>zD t l+12) | .invoke _ _=>zD t l+12 | .builtin .append=>zD t l+2|_=>zD t l)|_=>zD t l)
def xB(ft:FT)(xt:XT)(t:TT)(mt:List MT):Nat->Nat->List It->St->Option St
 |0,_,_,_=>none
 |_+1,_,[],S=>some S
 |n+1,N,x::s,⟨e,hp,nx⟩=>
  match x with
  | .c .ret=>some ⟨e,hp,nx⟩
  | .c (.loop c)=>xB ft xt t mt n N (.c c::.c (.loop c)::s) ⟨e,hp,nx⟩
  | .c (.region _ ops true)=>
   (match MH (fun f avs=>match lk xt f with
     |some g=>g avs
     |none=>(match lk ft f with
      |some fn=>(match fn.body with
       |some c=>(match Nat.ble avs.length fn.ntmps,C5 0 fn.results.toList (xB ft xt t mt n fn.ntmps [.c c] ⟨gk 0 avs,[],0⟩) with
        |true,some ⟨e1,hp1,_⟩=>(match H1 t e1 hp1 fn.results.toList with
         |some ds=>(match F4 (ep ds) with|true=>some (ep ds)|false=>none)
         |none=>none)
        |_,_=>none)
       |none=>none)
      |none=>none)) (fun f avs hp k=>match lk ft f with
      |some fn=>(match fn.body with
       |some c=>(match Nat.ble avs.length fn.ntmps,C5 k fn.results.toList (xB ft xt t mt n fn.ntmps [.c c] ⟨gk 0 avs,hp,k⟩) with
        |true,some ⟨e1,hp1,k1⟩=>(match H1 t e1 hp1 fn.results.toList with
         |some ds=>some (ep ds,hp1,k1)
         |none=>none)
        |_,_=>none)
       |none=>none)
      |none=>none) t mt N ops ops.toList nx e (E3 nx (zD t ops.toList) hp) (nx+zD t ops.toList) with
   |some (ds,e',hp')=>(match qr ops.toList ds with|true=>xB ft xt t mt n N s ⟨e',BY nx (zD t ops.toList) hp',nx+zD t ops.toList⟩|false=>none)
   |none=>none)
  | .o ops (o::l)=>
   (match one t N ops o ⟨e,hp,nx⟩ with
   |some ⟨e',hp',nx'⟩=>xB ft xt t mt n N (.o ops l::s) ⟨Eg e',Ef hp',nx'⟩
   |none=>(match M6 t N ops e o with
    |some (d,f,avs)=>(match lk xt f with
     |some g=>(match g avs with|some v=>(match o7 F4 avs with|true=>xB ft xt t mt n N (.o ops l::s) ⟨r8 d v e,hp,nx⟩|false=>none)|none=>none)
     |none=>(match lk ft f with
      |some fn=>(match fn.body with
       |some c=>(match Nat.ble avs.length fn.ntmps,C5 nx fn.results.toList (xB ft xt t mt n fn.ntmps [.c c] ⟨gk 0 avs,hp,nx⟩) with
        |true,some ⟨e1,hp1,nx1⟩=>(match H1 t e1 hp1 fn.results.toList with
         |some ds=>xB ft xt t mt n N (.o ops l::s) ⟨r8 d (ep ds) e,hp1,nx1⟩
         |none=>none)
        |_,_=>none)
       |none=>none)
      |none=>none))
    |none=>(match qk N ops e o with
     |some d=>(match mY t mt e hp nx o.op with|some (v,u,q)=>xB ft xt t mt n N (.o ops l::s) ⟨r8 d v e,qd u hp,nx+q⟩|none=>(match o.guard,Px t d e hp nx o.op with|none,some (ue,uh)=>xB ft xt t mt n N (.o ops l::s) ⟨uA ue e,qd uh hp,nx+2⟩|_,_=>none))
     |none=>(match o.dst,wt ops e o.guard with
      |none,some true=>(match Ow t mt e hp o.op with|some (id,ob)=>xB ft xt t mt n N (.o ops l::s) ⟨e,qz id ob hp,nx⟩|none=>none)
      |_,_=>none))))
  |x=>(match EL t N (x::s) ⟨e,hp,nx⟩ with|some (s',S')=>xB ft xt t mt n N s' S'|none=>none)
theorem sM{d:Nat}{v:V}{e:cc}{hp:aC}{nx:Nat}:aY K ⟨(d,v)::e,hp,nx⟩ ⟨r8 d v e,hp,nx⟩:=fun m β _ _ r=>⟨m,β,r.congr (lP d v e) (fun _=>rfl) rfl⟩
theorem Aw{id:Nat}{ob:Ob}{e:cc}{hp:aC}{nx:Nat}:aY K ⟨e,(id,ob)::hp,nx⟩ ⟨e,qz id ob hp,nx⟩:=fun m β _ _ r=>⟨m,β,r.congr (fun _=>rfl) (mL id ob hp) rfl⟩
theorem Au{d:Nat}{v:V}{e:cc}{u hp:aC}{nx:Nat}:aY K ⟨(d,v)::e,u++hp,nx⟩ ⟨r8 d v e,qd u hp,nx⟩:=fun m β _ _ r=>⟨m,β,r.congr (lP d v e) (ky u hp) rfl⟩
theorem yD{ue e:cc}{u hp:aC}{nx:Nat}:aY K ⟨ue++e,u++hp,nx⟩ ⟨uA ue e,qd u hp,nx⟩:=fun m β _ _ r=>⟨m,β,r.congr (pB ue e) (ky u hp) rfl⟩
theorem yB{S1 S2 S3:St}(h:aY K S1 S2)(h':aY K S2 S3):aY K S1 S3:=aY.trans h h'
theorem kA:aY K S S:=fun m β _ _ r=>⟨m,β,r⟩
theorem OV{i:Nat}{s:List It}(h:WG K Q s S):WG K Q (.b i::s) S:=h
theorem Lz{gl:Gl}{P:Program}{ft:FT}{xt:XT}{mt:List MT}(hft:JF P ft)(hxt:LQ gl P xt)(ht:cK P t)(hmt:tB P mt)(hm:P.follows .mixedOrders=true):
  ∀(n:Nat) (K:cR),K.P=P->K.gl=gl->∀(s:List It) (S S':St) (Q:ca),xB ft xt t mt n K.N s S=some S'->(∀S0,aY K S0 S'->∀e,(e=.ret\/e=.normal)->Q e S0)->∀S0,aY K S0 S->WG K Q s S0:=by
 intro n
 induction n with
 |zero=>simp_all[xB]
 |succ n ih=>
  -- a call by its text
  have call:∀(f:Nat) (fn:Func) (c:Code) (avs:List V) (hp hp1:aC) (nx nx1:Nat) (e1:cc) (ds:List V),P.funcs[f]? = some fn->fn.body=some c->Nat.ble avs.length fn.ntmps=true->
    C5 nx fn.results.toList (xB ft xt t mt n fn.ntmps [.c c] ⟨gk 0 avs,hp,nx⟩)=some ⟨e1,hp1,nx1⟩->H1 t e1 hp1 fn.results.toList=some ds->fV gl P f avs nx hp (ep ds) nx1 hp1:=by
   intro f fn c avs hp hp1 nx nx1 e1 ds q1 hb hle hrun hds;refine dn (l:=fn.results.toList) q1 hb Y (by simp) hle _ Y (fun w0 m0 β0 hg=>?_);obtain⟨S9,hr9,hf9⟩:=C4 hrun;refine ih (pw gl P fn.ntmps nx hp w0 m0 β0 hg) Y Y [.c c] _ _ _ hr9 ?_ _ kA;exact fun S0 hg e he=>⟨he,e1,aY.trans hg (by grind [Lr]),zT (S:=⟨e1,hp1,nx1⟩) ht hds⟩
  intro K hP hgl s S S' Q h hQ S0 hg0;cases s with
  |nil=>simp only[xB,ax9] at h;subst h;exact hQ _ hg0 _ (.inr Y)
  |cons x s=>
   obtain⟨e,hp,nx⟩:=S;have ha:Ag e ⟨e,hp,nx⟩:=xd (S:=⟨e,hp,nx⟩);have htK:cK K.P t:=by rw[hP];exact ht
   have hmK:tB K.P mt:=by rw[hP];exact hmt
   simp only[xB] at h;split at h
   ·simp only[ax9] at h;subst h;exact wQ (iI (hQ _ hg0 _ (.inl Y)))
   ·exact bd hg0 (yU (ih K hP hgl _ _ _ _ h hQ _ kA))
   ·split at h
    ·rename_i ds e' hp' hdr;split at h
     ·rename_i hok;refine bd hg0 (LI ?_ ?_ htK hmK (by grind) hdr hok (fun S1 hg1=>ih K hP hgl _ _ _ _ h hQ _ (yB hg1 (Ax (Gu _ _ _)))))
      ·intro f avs hp k v hp' k' hv;split at hv
       ·rename_i fn hfn;obtain⟨q1,q2⟩:=hft _ (lG hfn)<;>grind
       grind
      intro f avs v hv;split at hv
      ·rename_i g hg;obtain⟨q1,q2⟩:=hxt _ (lG hg)<;>simp_all
      ·split at hv
       ·rename_i fn hfn;obtain⟨q1,q2⟩:=hft _ (lG hfn)<;>grind [yk]
       grind
     grind
    grind
   ·rename_i ops o l;refine bp hg0 ?_;split at h
    ·rename_i e' hp' nx' h1;exact Fg htK h1 (ih K hP hgl _ _ _ _ h hQ _ At)
    ·split at h
     ·rename_i d f avs hop;unfold M6 at hop;split at hop
      ·rename_i d' hd;split at hop
       ·rename_i hc;simp only[ax9,Prod.mk.injEq] at hop;obtain⟨rfl,rfl,rfl⟩:=hop;obtain⟨w1,w2,w3⟩:=kD ha hd;split at h
        ·rename_i g hg;split at h
         ·rename_i v hv;obtain⟨q1,q2⟩:=hxt _ (lG hg);split at h
          ·rename_i him
           exact iW w1 w2 w3 (fun m β w a r=>by
            obtain⟨vs,e1,e2⟩:=oN htK ha hc (by grind) m β w a r;exact⟨vs,e1,⟨e2.len,fun i c v a b=>kx (kE him c (ay9 a)) (e2.at' i c v a b)⟩⟩) (by grind) (ih K hP hgl _ _ _ _ h hQ _ sM)
          grind
         grind
        ·split at h
         ·rename_i fn hfn;obtain⟨q1,q2⟩:=hft _ (lG hfn);split at h
          ·rename_i c hb;split at h
           ·rename_i e1 hp1 nx1 hle hrun;split at h
            ·rename_i ds hds;exact zb w1 w2 w3 (oN htK ha hc (by grind)) (by grind) (ih K hP hgl _ _ _ _ h hQ _ sM)
            grind
           grind
          grind
         grind
       grind
      grind
     ·split at h
      ·rename_i d hd;obtain⟨w1,w2,w3⟩:=kD ha hd;split at h
       ·rename_i v u q h1;obtain⟨dst,op,ty,pos,after,g⟩:=o;simp only at w2;subst w2;exact Bz htK hmK ha (Py (S:=⟨e,hp,nx⟩)) Y h1 w1 w3 (ih K hP hgl _ _ _ _ h hQ _ Au)
       ·split at h
        ·rename_i hgd h1;obtain⟨dst,op,ty,pos,after,g⟩:=o;simp only at w2;subst w2;exact LO htK h1 hgd w3 (ih K hP hgl _ _ _ _ h hQ _ yD)
        grind
      ·split at h
       ·rename_i hdst hwt;have hw:=jc ha hwt;split at h
        ·rename_i id ob h1;obtain⟨dst,op,ty,pos,after,g⟩:=o;simp only at hdst;subst hdst;exact DL htK hmK ha (Py (S:=⟨e,hp,nx⟩)) h1 hw (ih K hP hgl _ _ _ _ h hQ _ Aw)
        grind
       grind
   ·rename_i x4 n1 n2 n3 n4;split at h
    ·rename_i s' S2 h1;have k:=EJ (Q:=Q) htK h1 (ih K hP hgl _ _ _ _ h hQ _ kA);cases x with
     |c x=>exact bd hg0 k
     |o ops l=>exact bp hg0 k
     |b i=>grind [EL,OV]
     |j J=>simp[EL] at h1
    grind
def Pg(ft:FT)(xt:XT)(t:TT)(mt:List MT)(n f:Nat)(avs:List V):Option V:=
 match lk ft f with
 |some fn=>(match fn.body with
  |some c=>(match Nat.ble avs.length fn.ntmps,xB ft xt t mt n fn.ntmps [.c c] ⟨gk 0 avs,[],0⟩ with
   |true,some ⟨e1,hp1,_⟩=>(match H1 t e1 hp1 fn.results.toList with
    |some ds=>(match F4 (ep ds) with|true=>some (ep ds)|false=>none)
    |none=>none)
   |_,_=>none)
  |none=>none)
 |none=>none
theorem LA{gl:Gl}{P:Program}{ft:FT}{xt:XT}{mt:List MT}(hft:JF P ft)(hxt:LQ gl P xt)(ht:cK P t)(hmt:tB P mt)(hm:P.follows .mixedOrders=true){n f:Nat}{avs:List V}{v:V}
  (h:Pg ft xt t mt n f avs=some v):dY gl P f avs v:=by
 unfold Pg at h;split at h
 ·rename_i fn hfn;obtain⟨q1,q2⟩:=hft _ (lG hfn);split at h
  ·rename_i c hb;split at h
   ·rename_i e1 hp1 nx1 hle hrun;split at h
    ·rename_i ds hds;split at h
     ·rename_i him;simp only[ax9] at h;subst h;refine yk (k':=nx1) (hp':=hp1) ?_ him;refine dn (l:=fn.results.toList) q1 hb Y (by simp) hle _ Y (fun w0 m0 β0 hg=>?_);refine Lz hft hxt ht hmt hm n (pw gl P fn.ntmps 0 [] w0 m0 β0 hg) Y Y [.c c] _ _ _ hrun ?_ _ kA;exact fun S0 hg e he=>⟨he,e1,hg,zT (S:=⟨e1,hp1,nx1⟩) ht hds⟩
     grind
    grind
   grind
  grind
 grind
end
end Go.Pv
namespace Go.Proofs.YtelmfadihfcgnaaGreatDoor
open Go Go.Pv
set_option maxRecDepth 100000
noncomputable def NF:FT:=[(11,Tryz.f11),(19,Tryz.f19),(30,Tryz.f30),(31,Tryz.f31),(32,Tryz.f32),(42,Tryz.f42),(43,Tryz.f43),(44,Tryz.f44),(50,Tryz.f50),(54,Tryz.f54),(60,Tryz.f60),(61,Tryz.f61),(62,Tryz.f62),(72,Tryz.f72),(74,Tryz.f74),(86,Tryz.f86),(87,Tryz.f87),(88,Tryz.f88),(100,Tryz.f100),(101,Tryz.f101),(102,Tryz.f102),(103,Tryz.f103),(104,Tryz.f104),(105,Tryz.f105),(106,Tryz.f106),(113,Tryz.f113),(116,Tryz.f116),(117,Tryz.f117),(118,Tryz.f118),(121,Tryz.f121),(128,Tryz.f128),(129,Tryz.f129),(130,Tryz.f130),(135,Tryz.f135),(136,Tryz.f136),(137,Tryz.f137),(138,Tryz.f138),(139,Tryz.f139),(140,Tryz.f140),(141,Tryz.f141),(142,Tryz.f142),(143,Tryz.f143),(144,Tryz.f144),(149,Tryz.f149),(150,Tryz.f150),(151,Tryz.f151),(162,Tryz.f162),(163,Tryz.f163),(164,Tryz.f164),(165,Tryz.f165),(190,Tryz.f190),(191,Tryz.f191),(192,Tryz.f192),(193,Tryz.f193),(194,Tryz.f194),(195,Tryz.f195),(196,Tryz.f196),(197,Tryz.f197),(207,Tryz.f207),(214,Tryz.f214),(224,Tryz.f224),(225,Tryz.f225),(226,Tryz.f226),(227,Tryz.f227),(234,Tryz.f234),(237,Tryz.f237),(239,Tryz.f239),(240,Tryz.f240),(241,Tryz.f241),(242,Tryz.f242),(243,Tryz.f243),(244,Tryz.f244),(245,Tryz.f245),(247,Tryz.f247),(248,Tryz.f248),(249,Tryz.f249),(250,Tryz.f250),(251,Tryz.f251),(252,Tryz.f252),(253,Tryz.f253),(254,Tryz.f254),(255,Tryz.f255),(256,Tryz.f256),(257,Tryz.f257),(258,Tryz.f258),(259,Tryz.f259),(260,Tryz.f260),(261,Tryz.f261),(262,Tryz.f262),(263,Tryz.f263),(264,Tryz.f264),(265,Tryz.f265),(281,Tryz.f281),(282,Tryz.f282),(283,Tryz.f283),(284,Tryz.f284),(285,Tryz.f285),(286,Tryz.f286),(287,Tryz.f287),(288,Tryz.f288),(289,Tryz.f289),(290,Tryz.f290),(291,Tryz.f291)]
theorem IB:JF Tryz.prog NF:=Nt [11,19,30,31,32,42,43,44,50,54,60,61,62,72,74,86,87,88,100,101,102,103,104,105,106,113,116,117,118,121,128,129,130,135,136,137,138,139,140,141,142,143,144,149,150,151,162,163,164,165,190,191,192,193,194,195,196,197,207,214,224,225,226,227,234,237,239,240,241,242,243,244,245,247,248,249,250,251,252,253,254,255,256,257,258,259,260,261,262,263,264,265,281,282,283,284,285,286,287,288,289,290,291] (by kernel_rfl) (by kernel_rfl)
def NE:TT:=[(2,[.I .i64,.U]),(3,[.C,.S 1,.Z 1 [.int .i64 0],.I .i64,.U]),(4,[.S 1,.C]),(5,[.Z 1 [.int .u8 0],.I .u8,.U,.C,.S 1]),(9,[.Str,.C,.S 1,.Z 1 [.string ⟨#[]⟩],.U,.Cn]),(22,[.C,.El 9 1 16,.Sn,.Sl 1,.S 1]),(23,[.C,.Sn,.Sl 6,.El 25 6 88,.S 1]),(25,[.S 6,.A 6,.F 5 5,.Z 6 [.int .i64 0,.string ⟨#[]⟩,.slice none 0 0,.int .i64 0,.int .i64 0,.slice none 0 0],.F 0 0,.F 1 1,.F 2 2,.F 3 3,.F 4 4,.Pl [(0,1),(1,1),(2,1),(3,1),(4,1),(5,1)]]),(26,[.C,.Sn,.Sl 2]),(27,[.El 41 2 24,.C,.Sn,.Sl 2]),(29,[.Z 4 [.string ⟨#[]⟩,.string ⟨#[]⟩,.slice none 0 0,.slice none 0 0],.Pl [(0,1),(1,1),(2,1),(3,1)],.S 4,.F 0 0,.F 1 1,.F 2 2,.F 3 3,.A 4]),(30,[.C,.S 1]),(39,[.A 2,.Z 2 [.string ⟨#[]⟩,.string ⟨#[]⟩],.S 2,.F 0 0,.F 1 1]),(41,[.Z 2 [.string ⟨#[]⟩,.int .i64 0],.Pl [(0,1),(1,1)],.A 2,.S 2,.F 0 0,.F 1 1]),(46,[.C,.El 58 9 128,.Sn,.S 1,.Sl 9]),(47,[.C,.El 185 6 72,.Sn,.S 1,.Sl 6]),(49,[.Z 2 [.slice none 0 0,.slice none 0 0],.S 2,.A 2,.Pl [(0,1),(1,1)],.F 0 0,.F 1 1]),(50,[.El 29 4 80,.Sn,.Sl 4]),(51,[.C,.Sn,.Sl 1,.El 3 1 8,.S 1]),(54,[.Sn,.Sl 4,.El 61 4 32]),(58,[.Z 9 [.string ⟨#[]⟩,.string ⟨#[]⟩,.int .i64 0,.string ⟨#[]⟩,.slice none 0 0,.int .i64 0,.int .i64 0,.slice none 0 0,.int .i64 0],.A 9,.S 9,.F 0 0,.F 1 1,.F 2 2,.F 3 8,.Pl [(0,1),(1,1),(2,6),(8,1)]]),(61,[.F 3 3,.Z 4 [.int .i64 0,.int .i64 0,.int .i64 0,.int .i64 0],.Pl [(0,1),(1,1),(2,1),(3,1)],.S 4,.F 2 2,.A 4]),(75,[.Z 1 [.nilIface],.C]),(91,[.C]),(92,[.C,.Mn]),(94,[.A 2,.Z 2 [.map none,.map none],.Pl [(0,1),(1,1)],.S 2,.F 0 0,.F 1 1]),(98,[.Z 4 [.bool false,.bool false,.string ⟨#[]⟩,.int .i64 0],.S 4,.F 0 0,.F 2 2,.A 4,.F 1 1,.F 3 3]),(109,[.El 75 1 16,.Sn,.Sl 1,.C]),(115,[.Sn,.Sl 3,.El 197 3 40]),(147,[.Z 2 [.string ⟨#[]⟩,.slice none 0 0],.Pl [(0,1),(1,1)],.Cn,.S 2,.F 0 0,.F 1 1,.M "provender/policy.holds" 282]),(148,[.Z 2 [.string ⟨#[]⟩,.slice none 0 0],.Pl [(0,1),(1,1)],.Cn,.S 2,.F 0 0,.F 1 1,.M "provender/policy.holds" 283]),(150,[.Z 1 [.string ⟨#[]⟩],.Pl [(0,1)],.Cn,.S 1,.F 0 0,.M "provender/policy.holds" 285]),(152,[.Z 3 [.string ⟨#[]⟩,.int .i64 0,.int .i64 0],.Pl [(0,1),(1,1),(2,1)],.Cn,.S 3,.F 0 0,.F 1 1,.F 2 2,.M "provender/policy.holds" 286]),(154,[.Z 1 [.nilIface],.Pl [(0,1)],.Cn,.S 1,.F 0 0,.M "provender/policy.holds" 288]),(156,[.Z 1 [.slice none 0 0],.Pl [(0,1)],.Cn,.S 1,.F 0 0,.M "provender/policy.holds" 289]),(157,[.Z 1 [.slice none 0 0],.Pl [(0,1)],.Cn,.S 1,.F 0 0,.M "provender/policy.holds" 290]),(159,[.Z 0 [],.Pl [],.Cn,.S 0,.M "provender/policy.holds" 291]),(177,[.S 1,.C]),(179,[.F 0 0,.F 2 2,.Z 3 [.int .i64 0,.string ⟨#[]⟩,.int .i64 0],.Pl [(0,1),(1,1),(2,1)],.S 3,.F 1 1,.A 3]),(181,[.Z 7 [.string ⟨#[]⟩,.int .i64 0,.int .i64 0,.string ⟨#[]⟩,.int .i64 0,.int .i64 0,.int .i64 0],.Pl [(0,1),(1,1),(2,3),(5,1),(6,1)],.S 7,.F 2 2,.F 4 6,.F 3 5,.F 1 1,.F 0 0]),(185,[.Z 6 [.string ⟨#[]⟩,.string ⟨#[]⟩,.int .i64 0,.int .i64 0,.string ⟨#[]⟩,.int .i64 0],.A 6,.S 6,.F 2 2,.F 3 3,.F 5 5,.F 0 0,.Pl [(0,1),(1,1),(2,1),(3,1),(4,1),(5,1)],.F 1 1,.F 4 4]),(194,[.I .u64,.U]),(197,[.A 3,.Z 3 [.int .i64 0,.int .i64 0,.slice none 0 0],.S 3,.F 0 0,.F 1 1,.F 2 2,.Pl [(0,1),(1,1),(2,1)]]),(207,[.Z 4 [.bool false,.bool false,.bool false,.int .i64 0],.S 4,.F 0 0,.F 1 1,.F 2 2,.Pl [(0,1),(1,1),(2,1),(3,1)],.F 3 3]),(208,[.AA 9 4 207,.A 36,.Z 36 [.bool false,.bool false,.bool false,.int .i64 0,.bool false,.bool false,.bool false,.int .i64 0,.bool false,.bool false,.bool false,.int .i64 0,.bool false,.bool false,.bool false,.int .i64 0,.bool false,.bool false,.bool false,.int .i64 0,.bool false,.bool false,.bool false,.int .i64 0,.bool false,.bool false,.bool false,.int .i64 0,.bool false,.bool false,.bool false,.int .i64 0,.bool false,.bool false,.bool false,.int .i64 0],.Arr 9 4,.S 36]),(237,[.I .u32,.U]),(239,[.U,.I .u64,.C]),(257,[.U,.El 5 1 1,.Sn,.Sl 1]),(261,[.C]),(289,[.AC 6 9,.A 6,.Z 6 [.string ⟨#[]⟩,.string ⟨#[]⟩,.string ⟨#[]⟩,.string ⟨#[]⟩,.string ⟨#[]⟩,.string ⟨#[]⟩],.Arr 6 1,.S 6]),(291,[.Cn]),(294,[.Cn]),(303,[.Z 3 [.string ⟨#[]⟩,.string ⟨#[]⟩,.nilIface],.Pl [(0,1),(1,1),(2,1)],.S 3]),(308,[.Cn]),(310,[.Z 1 [.string ⟨#[]⟩],.Pl [(0,1)],.S 1]),(312,[.Z 24 [.int .u8 0,.int .u8 0,.int .u8 0,.int .u8 0,.int .u8 0,.int .u8 0,.int .u8 0,.int .u8 0,.int .u8 0,.int .u8 0,.int .u8 0,.int .u8 0,.int .u8 0,.int .u8 0,.int .u8 0,.int .u8 0,.int .u8 0,.int .u8 0,.int .u8 0,.int .u8 0,.int .u8 0,.int .u8 0,.int .u8 0,.int .u8 0],.Arr 24 1]),(317,[.Arr 20 1]),(318,[.Z 65 [.int .u8 0,.int .u8 0,.int .u8 0,.int .u8 0,.int .u8 0,.int .u8 0,.int .u8 0,.int .u8 0,.int .u8 0,.int .u8 0,.int .u8 0,.int .u8 0,.int .u8 0,.int .u8 0,.int .u8 0,.int .u8 0,.int .u8 0,.int .u8 0,.int .u8 0,.int .u8 0,.int .u8 0,.int .u8 0,.int .u8 0,.int .u8 0,.int .u8 0,.int .u8 0,.int .u8 0,.int .u8 0,.int .u8 0,.int .u8 0,.int .u8 0,.int .u8 0,.int .u8 0,.int .u8 0,.int .u8 0,.int .u8 0,.int .u8 0,.int .u8 0,.int .u8 0,.int .u8 0,.int .u8 0,.int .u8 0,.int .u8 0,.int .u8 0,.int .u8 0,.int .u8 0,.int .u8 0,.int .u8 0,.int .u8 0,.int .u8 0,.int .u8 0,.int .u8 0,.int .u8 0,.int .u8 0,.int .u8 0,.int .u8 0,.int .u8 0,.int .u8 0,.int .u8 0,.int .u8 0,.int .u8 0,.int .u8 0,.int .u8 0,.int .u8 0,.int .u8 0],.Arr 65 1]),(319,[.Arr 32 1]),(320,[.Arr 64 1])]
theorem Iz:cK Tryz.prog NE:=MS (by kernel_rfl) (by kernel_rfl) ⟨⟨fun v args w=>by kernel_rfl,fun v w=>by kernel_rfl⟩,⟨fun v args w=>by kernel_rfl,fun v w=>by kernel_rfl⟩,⟨fun v args w=>by kernel_rfl,fun v w=>by kernel_rfl⟩,⟨fun v args w=>by kernel_rfl,fun v w=>by kernel_rfl⟩,⟨fun v args w=>by kernel_rfl,fun v w=>by kernel_rfl⟩,⟨fun v args w=>by kernel_rfl,fun v w=>by kernel_rfl⟩,⟨fun v args w=>by kernel_rfl,fun v w=>by kernel_rfl⟩,⟨fun v args w=>by kernel_rfl,fun v w=>by kernel_rfl⟩,trivial⟩
def Ly:List MT:=[⟨91,9,98,true,.i64,.agg [.con (.bool false),.con (.bool false),.con (.string ⟨#[]⟩),.con (.int .i64 0)]⟩,⟨92,9,4,true,.i64,.con (.bool false)⟩]
theorem IA:tB Tryz.prog Ly:=by
 intro p hp;simp only[Ly,as9,List.not_mem_nil,or_false] at hp;rcases hp with rfl|rfl
 ·exact⟨by kernel_rfl,sD (by kernel_rfl),_,by kernel_rfl,fun _=>(F1 [Value.bool false,Value.bool false,Value.string ⟨#[]⟩,Value.int .i64 0])⟩
 ·exact⟨by kernel_rfl,sD (by kernel_rfl),_,by kernel_rfl,fun _=>(.con _)⟩
def DI:List V->Option V
 |[.con (.string s)]=>(match Lib.atoi s.data.toList with
  |some n=>(match Nat.ble s.size 18 with|true=>some (.tup [.con (.int .i64 n),.con .nilIface])|false=>none)
  |none=>none)
 |_=>none
theorem DH{gl:Gl}{avs:List V}{v:V}(h:DI avs=some v):dY gl Tryz.prog 197 avs v:=by
 unfold DI at h;split at h
 ·rename_i s;split at h
  ·rename_i n hn;split at h
   ·rename_i hl;simp only[ax9] at h;subst h;refine zZ (l:=[.string s]) (v:=.tuple #[.int .i64 n,.nilIface]) (fun w=>(Go.Proofs.Tryz.strconv_Atoi s n (ax8 hl) hn w).mono ?_) (fun m=>.tup Y fun i c v a b=>?_)
    ·rintro e w' ⟨rfl,t,rfl⟩
     exact⟨Y,Go.Joins.below_bytesWorld _ w 5 t (ae9 _),trivial⟩
    ·match i with
     |0=>simp at a b;subst a b;exact .con _
     |1=>simp at a b;subst a b;exact .con _
     |i+2=>simp at a
   ·simp at h
  ·simp at h
 ·simp at h
def Lx:XT:=[(197,DI)]
theorem Iy{gl:Gl}:LQ gl Tryz.prog Lx:=by
 intro p hp;simp only[Lx,as9,List.not_mem_nil,or_false] at hp;subst hp;exact⟨by kernel_rfl,fun avs v h=>DH h⟩
theorem Lh:Tryz.prog.follows .mixedOrders=true:=by kernel_rfl
theorem Ed:Pg NF Lx NE Ly 6000 11 []=some (.con (.bool true)):=by kernel_rfl
theorem Cu{gl:Gl}:dY gl Tryz.prog 11 [] (bV true):=LA IB Iy Iz IA Lh Ed
theorem vE:(Tryz.prog.info? 103).bind (·.zero)=some (.pointer none):=by kernel_rfl
theorem En:D8 Tryz.prog 103=true:=by kernel_rfl
theorem oJ(p:B8×(Option ae)):bc p=((fun k=>str k) p.1,qK 161 bG p.2):=rfl
theorem ag.holePR{n:Nat}{σ:Nat->Nat}{a1:B8}{xs:List (B8×(Option ae))}{i j:Nat}(h1:Nat.blt j n=true)(h2:σ j=i):
  ag (Ren n σ) (.map (holeP bc (.ptr j 7 0 0) a1 xs)) (.map (holeP bc (.ptr i 7 0 0) a1 xs)):=
 ag.holeP bc a1 (jb.sub (ai.ptr h1 h2) rfl) (fun p=>jb.same jI.h (ai.kp (uZ _ _))) xs
theorem wK{K:cR}{S:St}(id nid a b c:Nat){xs:List (B8×(Option ae))}{k0:B8}(l1 l2:List B8)(l3:List Int)(t1 t2 t3:Bool)(w:Int)(hs:(aG xs k0).isSome=true)
  (ho:ak S.hp id=.map (holeP bc (.ptr nid 7 0 0) k0 xs)) (h1:ak S.hp nid=.arr 161 7 [[.own a l1.length,.own b l2.length,.own c l3.length,bV t1,bV t2,bV t3,iV w]])
  (ha:ak S.hp a=.arr 9 1 (l1.map ap)) (hb:ak S.hp b=.arr 9 1 (l2.map ap)) (hc:ak S.hp c=.arr 3 1 (l3.map au))
  (hd:([id,nid,a,b,c]:List Nat).Nodup):aY K S ⟨S.env,(id,.map ((bM xs k0 (some ⟨l1,l2,l3,t1,t2,t3,w⟩)).map bc))::(a,.dead)::(b,.dead)::(c,.dead)::(nid,.dead)::S.hp,S.nx⟩:=by
 simp only[aa9,as9,List.not_mem_nil,or_false,not_or,not_false_eq_true,List.nodup_nil,and_true] at hd;obtain⟨⟨d1,d2,d3,d4⟩,⟨d5,d6,d7⟩,⟨d8,d9⟩,d10⟩:=hd
 have bf:∀{i j:Nat},i≠j->Nat.beq i j=false:=fun h=>by
  grind [Nat.eq_of_beq_eq_true]
 refine aY.trans (kz nid 0 0 a h1 rfl rfl ha (bj9 _).symm (bf d5) (fun r hr=>by obtain⟨z,_,rfl⟩:=bf9.1 hr;exact(aJ z).keep)) ?_;refine aY.trans (kz nid 0 1 b (n:=l2.length) (by rw[mK]) rfl rfl (by rw[av,if_neg d6,av,if_neg d8];exact hb) (bj9 _).symm (bf d6) (fun r hr=>by obtain⟨z,_,rfl⟩:=bf9.1 hr;exact(aJ z).keep)) ?_;refine aY.trans (kz nid 0 2 c (n:=l3.length) (by rw[mK]) rfl rfl (by rw[av,if_neg d7,av,if_neg d10,av,if_neg d7,av,if_neg d9];exact hc) (bj9 _).symm (bf d7) (fun r hr=>by obtain⟨z,_,rfl⟩:=bf9.1 hr;exact(bt z).keep)) ?_
 refine aY.trans (Av id nid (y:=(⟨l1,l2,l3,t1,t2,t3,w⟩:ae)) bc (fun k=>str k) bG 161 7 oJ hs (by
  simp_all[av,Ne.symm]) (by rw[mK];rfl) (bf d1) (EK.h _)) ?_
 refine C1 _ fun q=>?_;simp only[av]
 grind
theorem pa{F:Nat}{a1:B8}{a2:List (B8×(Option ae))}{r}(h:G5 F a1 a2=some r):(aG r.1 a1).isSome=true:=by
 grind [G5,cL]
theorem K9(F:Nat)(a1:B8)(a2:List (B8×(Option ae)))(r:(List (B8×(Option ae))×ae))(h:G5 F a1 a2=some r):q8 Tryz.prog 89 [(sV a1),(V.ptr 0 1 0 0)] 2 [(0,(Ob.arr 77 1 [[(V.map 1)]])),(1,(Ob.map (a2.map bc)))] (ep [(V.ptr 2 7 0 0)]) 6 [(0,(Ob.arr 77 1 [[(V.map 1)]])),(1,(Ob.map (holeP bc (V.ptr 2 7 0 0) a1 r.1))),(2,(Ob.arr 161 7 [[(V.own 3 r.2.is.length),(V.own 4 r.2.begins.length),(V.own 5 r.2.numbers.length),(bV r.2.asText),(bV r.2.asNo),(bV r.2.has),(iV r.2.weight)]])),(3,(Ob.arr 9 1 (r.2.is.map ap))),(4,(Ob.arr 9 1 (r.2.begins.map ap))),(5,(Ob.arr 3 1 (r.2.numbers.map au)))]:=by
 unfold G5 at h;have key:∀(xs:List (B8×(Option ae))) (s:ae),(aG xs a1).isSome=true->i4 (str a1) (holeP bc (V.ptr 2 7 0 0) a1 xs) (some (V.ptr 2 7 0 0)):=fun xs s hs=>sG bc (fun k=>str k) bG 161 a1 (V.ptr 2 7 0 0) oJ (fun a b h=>el a b h) xs hs;have good:∀xs:List (B8×(Option ae)),∀p,p∈holeP bc (V.ptr 2 7 0 0) a1 xs->ng p.1:=fun xs=>sH bc a1 _ (fun _=>⟨_,rfl⟩) xs;cases hm:aG a2 a1 with
 |none=>
  rw[hm] at h;replace h:=ah8 h;subst h;refine dn Tryz.func89 Y Y (l:=[.tmp 3]) Y Y [(0,(sV a1)),(1,(V.ptr 0 1 0 0))] Y (fun w0 m0 β0 hg=>en ?_);refine rn 9 Y ?_;refine co none (V.con (.pointer none)) (V.con (.pointer none)) lv dD vE (iK _) af Y (.own Y) (.con Y) ⟨_,Y⟩ lT (sw bc (fun k=>str k) bG 161 a1 oJ (fun a b h=>el a b h) a2 hm) Y Y ?_;refine zf En af Y Y Y ?_;refine fo (rn 7 Y ?_);refine bp (fq 2 9 1 (.arr 161 7 [[V.own 3 0,nV,nV,bV false,bV false,bV false,iV 2]]) (ag.box (.cons ai.mkNil (.cons ai.keepNil (.cons ai.keepNil (.cons ai.keepNil (.cons ai.keepNil (.cons ai.keepNil (.cons ai.keepNil .nil))))))))) ?_;refine bp (fq 2 9 1 (.arr 161 7 [[V.own 3 0,V.own 4 0,nV,bV false,bV false,bV false,iV 2]]) (ag.box (.cons ai.keepNil (.cons ai.mkNil (.cons ai.keepNil (.cons ai.keepNil (.cons ai.keepNil (.cons ai.keepNil (.cons ai.keepNil .nil))))))))) ?_;refine bp (fq 2 3 1 (.arr 161 7 [[V.own 3 0,V.own 4 0,V.own 5 0,bV false,bV false,bV false,iV 2]]) (ag.box (.cons ai.keepNil (.cons ai.keepNil (.cons ai.mkNil (.cons ai.keepNil (.cons ai.keepNil (.cons ai.keepNil (.cons ai.keepNil .nil))))))))) ?_
  refine cJ (es:=a2.map bc) (holeP bc (V.ptr 2 7 0 0) a1 (bM a2 a1 (some (ae.mk [] [] [] false false false 2)))) lv dD af Y Y (.con Y) ⟨_,Y⟩ lT Y
   (uz bc (fun k=>str k) bG 161 a1 (V.ptr 2 7 0 0) (some (ae.mk [] [] [] false false false 2)) oJ (fun a b h=>el a b h) a2 hm) ?_
  refine fo (rn 5 Y ?_);refine co (some (V.ptr 2 7 0 0)) (V.con (.pointer none)) (V.ptr 2 7 0 0) lv dD vE (iK _) af Y (.own Y) (.con Y) ⟨_,Y⟩ (good _) (key _ (ae.mk [] [] [] false false false 2) (by simp[cL])) Y Y ?_;refine fo (rn 2 Y ?_);exact wR ⟨.inl Y,[(3,V.ptr 2 7 0 0)],(bi 6 (fun i=>([0,1,2,3,4,5]:List Nat).getD i 0) _ _ (by decide) (bP.get (.cons (ai.ptr Y Y) .nil)) (bJ.get (.cons Y (ag.box (.cons (ai.map Y Y) .nil)) (.cons Y (ag.holePR Y Y) (.cons Y (ag.box (.cons (ai.own Y Y) (.cons (ai.own Y Y) (.cons (ai.own Y Y) (.cons (ai.imm (aw.con _)) (.cons (ai.imm (aw.con _)) (.cons (ai.imm (aw.con _)) (.cons (ai.imm (aw.con _)) .nil)))))))) (.cons Y (ag.rows (ao aJ)) (.cons Y (ag.rows (ao aJ)) (.cons Y (ag.rows (ao bt)) .nil))))))) Y),.cons (.tmp Y) .nil⟩
 |some q=>
  rw[hm] at h;cases q with
  |none=>cases h
  |some s=>
   replace h:=ah8 h;subst h;refine dn Tryz.func89 Y Y (l:=[.tmp 3]) Y Y [(0,(sV a1)),(1,(V.ptr 0 1 0 0))] Y (fun w0 m0 β0 hg=>en ?_);refine rn 9 Y ?_;refine bp (yC 1 2 bc (fun k=>str k) bG 161 7 oJ Y hm Y Y) ?_;refine bp (nI 2 0 0 3 (rows:=[bG s]) Y Y Y Y) ?_;refine bp (nI 2 0 1 4 (e:=161) (k:=7) (rows:=[[V.own 3 s.is.length,(V.dsl 9 1 (s.begins.map ap)),(V.dsl 3 1 (s.numbers.map au)),(bV s.asText),(bV s.asNo),(bV s.has),(iV s.weight)]]) (by simp[av,qy,bG]) Y Y Y) ?_;refine bp (nI 2 0 2 5 (e:=161) (k:=7) (rows:=[[V.own 3 s.is.length,V.own 4 s.begins.length,(V.dsl 3 1 (s.numbers.map au)),(bV s.asText),(bV s.asNo),(bV s.has),(iV s.weight)]]) (by simp[av,qy]) Y Y Y) ?_;refine bp (lN 2 (.arr 161 7 [[V.own 3 s.is.length,V.own 4 s.begins.length,V.own 5 s.numbers.length,(bV s.asText),(bV s.asNo),(bV s.has),(iV s.weight)]]) (ob0:=.arr 161 7 [[V.own 3 s.is.length,V.own 4 s.begins.length,V.own 5 s.numbers.length,(bV s.asText),(bV s.asNo),(bV s.has),(iV s.weight)]]) (by simp[av,qy]) (ag.keep (fun _=>ai.keepI) _)) ?_;refine co (some (V.ptr 2 7 0 0)) (V.con (.pointer none)) (V.ptr 2 7 0 0) lv dD vE (iK _) af Y (.own Y) (.con Y) ⟨_,Y⟩ (good _) (key _ s (by simp[hm])) Y Y ?_;refine ze En af Y Y Y ?_;refine fo (rn 7 Y ?_);refine co (some (V.ptr 2 7 0 0)) (V.con (.pointer none)) (V.ptr 2 7 0 0) lv dD vE (iK _) af Y (.own Y) (.con Y) ⟨_,Y⟩ (good _) (key _ s (by simp[hm])) Y Y ?_;refine fo (rn 2 Y ?_);exact wR ⟨.inl Y,[(3,V.ptr 2 7 0 0)],(bi 6 (fun i=>([0,1,2,3,4,5]:List Nat).getD i 0) _ _ (by decide) (bP.get (.cons (ai.ptr Y Y) .nil)) (bJ.get (.cons Y (ag.box (.cons (ai.map Y Y) .nil)) (.cons Y (ag.holePR Y Y) (.cons Y (ag.box (.cons (ai.own Y Y) (.cons (ai.own Y Y) (.cons (ai.own Y Y) (.cons (ai.imm (aw.con _)) (.cons (ai.imm (aw.con _)) (.cons (ai.imm (aw.con _)) (.cons (ai.imm (aw.con _)) .nil)))))))) (.cons Y (ag.rows (ao aJ)) (.cons Y (ag.rows (ao aJ)) (.cons Y (ag.rows (ao bt)) .nil))))))) Y),.cons (.tmp Y) .nil⟩
end Go.Proofs.YtelmfadihfcgnaaGreatDoor
