/- Part of the proof. -/
import Derived.Test.YtelmfadihfcgnaaGreatDoorHDX6
set_option linter.unusedSimpArgs false
set_option linter.unusedVariables false
namespace Go.Pv
open Go
section
variable{K:cR}{Q:ca}{S S':St}{ops:Array Oper}{rest:List Oper}{t:TT}
def r8(d:Nat)(v:V):cc->cc
 |[]=>[(d,v)]
 |(k,x)::e=>bif Nat.beq k d then (d,v)::e else (k,x)::r8 d v e
def qz(d:Nat)(v:Ob):aC->aC
 |[]=>(match v with | .dead=>[]|v=>[(d,v)])
 |(k,x)::e=>bif Nat.beq k d then (d,v)::e else (k,x)::qz d v e
theorem B9(k d:Nat){α:Type}(a b:α):(bif Nat.beq k d then a else b)=if k=d then a else b:=by
 simp_all
theorem lP(d:Nat)(v:V):∀(e:cc) (t:Nat),get (r8 d v e) t=get ((d,v)::e) t
 |[],t=>rfl
 |(k,x)::e,t=>by
  simp only[r8,B9];split
  ·simp_all[cn]
  ·rename_i h;rw[cn,lP d v e t,cn,cn,cn]
   grind
theorem mL(d:Nat)(v:Ob):∀(e:aC) (t:Nat),ak (qz d v e) t=ak ((d,v)::e) t
 |[],t=>by
  cases v with
  |dead=>simp only[qz];rw[av];split<;>rfl
  |_=>rfl
 |(k,x)::e,t=>by
  simp only[qz,B9];split
  ·simp_all[av]
  ·rename_i h;rw[av,mL d v e t,av,av,av]
   grind
def Eg:cc->cc
 |(d,v)::e=>r8 d v e
 |[]=>[]
def Ef:aC->aC
 |(d,v)::(d2,v2)::e=>qz d v (qz d2 v2 e)
 |e=>e
theorem C2(e:cc)(t:Nat):get (Eg e) t=get e t:=by
 cases e with
 |nil=>rfl
 |cons p e=>exact lP p.1 p.2 e t
theorem As(e:aC)(t:Nat):ak (Ef e) t=ak e t:=by
 match e with
 |[]=>rfl
 |[p]=>rfl
 |(d,v)::(d2,v2)::e=>
  show ak (qz d v (qz d2 v2 e)) t=_
  simp_all[mL,av]
theorem At{e:cc}{hp:aC}{nx:Nat}:aY K ⟨e,hp,nx⟩ ⟨Eg e,Ef hp,nx⟩:=fun m β _ _ r=>⟨m,β,r.congr (C2 e) (As hp) rfl⟩
def BL:Value->Value->Option Bool
 | .int k a,.int k' b=>(match decide (k=k') with|true=>some (decide (a=b))|false=>none)
 | .string a,.string b=>some (lx a==lx b)
 |_,_=>none
theorem EH{a b:ByteArray}(h:lx a=lx b):a=b:=by
 exact Value.string.inj ((gA a).symm.trans ((congrArg str h).trans (gA b)))
theorem yu{x y:Value}{b:Bool}(h:BL x y=some b):(x=y<->b=true):=by
 unfold BL at h;split at h
 ·grind
 ·simp at h;subst h;constructor
  ·grind
  ·intro e;exact congrArg Value.string (EH (by grind))
 grind
def yp(x:Value):List (Value×V)->Option (Option V)
 |[]=>some none
 |(k,v)::es=>match BL k x with|some b=>(match b with|true=>some (some v)|false=>yp x es)|none=>none
theorem sy{x:Value}:∀{es:List (Value×V)} {r:Option V},yp x es=some r->i4 x es r
 |[],r,h=>by simp[yp] at h;subst h;exact .nil
 |(k,v)::es,r,h=>by
  simp only[yp] at h;split at h
  ·rename_i b hb;have hb:=yu hb;split at h
   ·simp at h;subst h;rw[hb.2 rfl];exact .here
   ·exact .there (fun e=>by simpa using hb.1 e) (sy h)
  ·simp at h
def ya(x:Value)(v:V):List (Value×V)->Option (List (Value×V))
 |[]=>some [(x,v)]
 |(k,v')::es=>match BL k x with
  |some b=>(match b with|true=>some ((x,v)::es)|false=>(match ya x v es with|some r=>some ((k,v')::r)|none=>none))
  |none=>none
theorem x5{x:Value}{v:V}:∀{es r:List (Value×V)},ya x v es=some r->ic x v es r
 |[],r,h=>by simp[ya] at h;subst h;exact .nil
 |(k,v')::es,r,h=>by
  simp only[ya] at h;split at h
  ·rename_i b hb;have hb:=yu hb;split at h
   ·simp at h;subst h;rw[hb.2 rfl];exact .here
   ·split at h
    ·rename_i q hq;simp at h;subst h;exact .there (fun e=>by simpa using hb.1 e) (x5 hq)
    ·simp at h
  ·simp at h
structure MT where
 T:Nat
 k:Nat
 e:Nat
 txt:Bool
 ik:IntKind
 z:V
def Is(txt:Bool)(ik:IntKind):Value->Prop:=fun v=>match txt with|true=>ng v|false=>Nl ik v
structure Kc(P:Program)(p:MT):Prop where
 h1:eh P p.T p.k p.e=true
 h2:ja P p.k (Is p.txt p.ik)
 h3:∃zv,(P.info? p.e).bind (·.zero)=some zv/\∀m,bN m p.z zv
def tB(P:Program)(l:List MT):Prop:=∀p,p∈l->Kc P p
def MF:List MT->Nat->Option MT
 |[],_=>none
 |p::l,T=>bif Nat.beq p.T T then some p else MF l T
theorem Ae{P:Program}:∀{l:List MT} {T:Nat} {p:MT},tB P l->MF l T=some p->Kc P p/\p.T=T
 |q::l,T,p,hl,h=>by
  simp only[MF] at h;cases hb:Nat.beq q.T T with
  |true=>rw[hb] at h;simp at h;subst h;exact⟨hl _ ce8,ci9 hb⟩
  |false=>rw[hb] at h;simp at h;exact Ae (fun p hp=>hl p (by9 _ hp)) h
 |[],T,p,hl,h=>by simp[MF] at h
def u6(txt:Bool)(ik:IntKind):Value->Bool
 | .string _=>txt
 | .int k _=>(match txt with|true=>false|false=>decide (k=ik))
 |_=>false
theorem oE{txt:Bool}{ik:IntKind}{v:Value}(h:u6 txt ik v=true):Is txt ik v:=by
 unfold u6 at h;unfold Is;split at h
 ·subst h;exact⟨_,Y⟩
 ·split at h
  ·simp at h
  ·have h:=of_decide_eq_true h;subst h;exact⟨_,Y⟩
 grind
def G2(txt:Bool)(ik:IntKind):List (Value×V)->Bool
 |[]=>true
 |p::l=>bif u6 txt ik p.1 then G2 txt ik l else false
theorem rB{txt:Bool}{ik:IntKind}:∀{l:List (Value×V)},G2 txt ik l=true->∀p,p∈l->Is txt ik p.1
 |[],_,p,hp=>by simp at hp
 |q::l,h,p,hp=>by
  simp only[G2] at h;cases hb:u6 txt ik q.1 with
  |true=>
   rw[hb] at h;simp at h;rcases as9.1 hp with rfl|hp
   ·exact oE hb
   ·exact rB h p hp
  |false=>rw[hb] at h;simp at h
def AL(e:cc)(d:Nat):Option Operand->Option Nat
 |none=>some d
 |some y=>(match eA e y with|some (.con (.int _ n))=>(match n with | .ofNat j=>some j|_=>none)|_=>none)
theorem oO{e:cc}(ha:Ag e S){d j:Nat}{x:Option Operand}(h:AL e d x=some j):qw K S x d j:=by
 unfold AL at h;split at h
 ·grind
 ·split at h
  ·rename_i hv;split at h<;>grind [aW]
  grind
def Lb:List (List V)->Bool
 |[]=>true
 |r::l=>bif uQ r then Lb l else false
theorem sq:∀{l:List (List V)},Lb l=true->∀row,row∈l->uQ row=true
 |[],_,r,hr=>by simp at hr
 |q::l,h,r,hr=>by
  simp only[Lb] at h;cases hb:uQ q with
  |true=>
   rw[hb] at h;simp at h;rcases as9.1 hr with rfl|hr
   ·exact hb
   ·exact sq h r hr
  |false=>rw[hb] at h;simp at h
def rowsK(k:Nat):List (List V)->Bool
 |[]=>true
 |r::l=>bif fZ k r then rowsK k l else false
theorem rZ{k:Nat}:∀{l:List (List V)},rowsK k l=true->∀row,row∈l->row.length=k
 |[],_,r,hr=>by simp at hr
 |q::l,h,r,hr=>by
  simp only[rowsK] at h;cases hb:fZ k q with
  |true=>
   rw[hb] at h;simp at h;rcases as9.1 hr with rfl|hr
   ·exact ew hb
   ·exact rZ h r hr
  |false=>rw[hb] at h;simp at h
def wM(k:Nat):Nat->List V->List (List V)
 |0,_=>[]
 |n+1,l=>l.take k::wM k n (l.drop k)
theorem pD{k:Nat}:∀(n:Nat) (l:List V),l.length=n*k->oG (wM k n l)=l
 |0,l,h=>by simp at h;subst h;rfl
 |n+1,l,h=>by
  simp only[wM,oG];rw[pD n _ (by rw[am8,h,Nat.succ_mul];omega),ch9]
theorem td{k:Nat}:∀(n:Nat) (l:List V),(wM k n l).length=n
 |0,l=>rfl
 |n+1,l=>by simp[wM,td n]
def KU(t:TT)(e:cc)(hp:aC):Op->Option (Nat×Ob)
 | .store T x y=>(match du t T TF.qS with
  |some n=>(match eA e x with
   |some (.ptr id k i off)=>(match pz hp id with
    |some (.arr ty k2 rows)=>(match Nat.beq k k2,lH rows i with
     |true,some row=>(match eA e y with
      |some v=>(match Kk v with
       |some cs=>(match fZ n cs&&zi cs&&Nat.ble (off+n) row.length with
        |true=>some (id,.arr ty k (rows.set i (row.take off++cs++row.drop (off+n))))
        |false=>none)
       |none=>none)
      |none=>none)
     |_,_=>none)
    |_=>none)
   |_=>none)
  |none=>none)
 |_=>none
theorem HV{op:Op}{ty:TypeId}{pos:String}{after:Array Edge}{g:Option (Nat×Bool)}(ht:cK K.P t){e:cc}{hp:aC}(ha:Ag e S)(hh:Hu hp S){id:Nat}{ob:Ob}(h:KU t e hp op=some (id,ob))(hw:aN ops S ⟨none,op,ty,pos,after,g⟩ true)
  (k:ay K ops rest Q ⟨S.env,(id,ob)::S.hp,S.nx⟩):ay K ops (⟨none,op,ty,pos,after,g⟩::rest) Q S:=by
 unfold KU at h;split at h
 ·split at h
  ·rename_i n hn;split at h
   ·rename_i hx;split at h
    ·rename_i ho;split at h
     ·rename_i row hk hr;have hk:=ci9 hk;subst hk;split at h
      ·rename_i v hy;split at h
       ·rename_i cs hc;split at h
        ·rename_i hb;simp only[aq9] at hb;have hl:=ew hb.1.1;subst hl;simp at h;obtain⟨rfl,rfl⟩:=h;exact dB cs _ (LJ ht hn) hw (aW ha hx) (aW ha hy) (rM hc) (mT hb.1.2) (hh _ _ ho) (eR hr) hb.2 (by simp) k
        grind
       grind
      grind
     grind
    grind
   grind
  grind
 grind
def mY(t:TT)(mt:List MT)(e:cc)(hp:aC)(nx:Nat):Op->Option (V×aC×Nat)
 | .indexAddr T x y=>(match du t T TF.qSl with
  |some k=>(match eA e x with
   |some (.own id len)=>(match eA e y with
    |some (.con (.int _ n))=>(match n with
     | .ofNat j=>(match Nat.blt j len with|true=>some (.ptr id k j 0,[],0)|false=>none)
     |_=>none)
    |_=>none)
   |_=>none)
  |none=>none)
 | .build T parts=>(match du t T TF.qArr with
  |some (_,k)=>(match du t T TF.qZ with
   |some (_,zs)=>(match J4 e parts.toList with
    |some ps=>(match ji (fun i=>some (i*k,k)) (zs.map .con) ps with|some cs=>some (.agg cs,[],0)|none=>none)
    |none=>none)
   |none=>none)
  |none=>none)
 | .index T x y=>(match eA e x with
  |some (.agg cs)=>(match eA e y with
   |some (.con (.int _ n))=>(match n with
    | .ofNat j=>(match du t T TF.qAA with
     |some (n,k,_)=>(match Nat.blt j n&&fZ (n*k) cs with|true=>some (.agg ((cs.drop (j*k)).take k),[],0)|false=>none)
     |none=>(match du t T TF.qAC with
      |some (n,_)=>(match Nat.blt j n,lH cs j with|true,some c=>some (c,[],0)|_,_=>none)
      |none=>none))
    |_=>none)
   |_=>none)
  |_=>(match du t T TF.qStr with
  |some _=>(match eA e x with
   |some (.con (.string b))=>(match eA e y with
    |some (.con (.int _ n))=>(match n with
     | .ofNat j=>(match lH (lx b) j with|some c=>some (.con (.int .u8 c.toNat),[],0)|none=>none)
     |_=>none)
    |_=>none)
   |_=>none)
  |none=>none))
 | .slice T x lo hi mx=>(match mx with
  |some _=>none
  |none=>(match eA e x with
   |some (.con (.string b))=>(match du t T TF.qStr with
    |some _=>(match AL e 0 lo with
     |some a0=>(match AL e (lx b).length hi with
      |some b0=>(match Nat.ble a0 b0&&Nat.ble b0 (lx b).length with|true=>some (.con (str (((lx b).drop a0).take (b0 - a0))),[],0)|false=>none)
      |none=>none)
     |none=>none)
    |none=>none)
   |some (.own id n)=>(match du t T TF.qSl with
    |some k=>(match pz hp id with
     |some (.arr ety k2 rows)=>(match Nat.beq k k2&&Nat.beq n rows.length&&Lb rows with
      |true=>(match lo with
       |none=>(match AL e n hi with
        |some b0=>(match Nat.ble b0 n with|true=>some (.own id b0,[],0)|false=>none)
        |none=>none)
       |some _=>(match AL e 0 lo with
        |some a0=>(match AL e n hi with
         |some b0=>(match Nat.ble a0 b0&&Nat.ble b0 n with|true=>some (.own nx (b0 - a0),[(nx,.arr ety k (rows.drop a0)),(id,.dead)],1)|false=>none)
         |none=>none)
        |none=>none))
      |false=>none)
     |_=>none)
    |none=>none)
   |_=>none))
 | .binOp bop T x y T'=>(match eA e x,eA e y with
  |some (.con (.string a)),some (.con (.string b))=>(match GK bop (lx a) (lx b) with|some v=>some (.con v,[],0)|none=>none)
  |some v,some (.con (.slice none 0 0))=>(match du t T TF.qSn,v with
   |some _,.own _ n=>(match n with
    |0=>none
    |_+1=>(match bop with | .eql=>some (.con (.bool false),[],0) | .neq=>some (.con (.bool true),[],0)|_=>none))
   |_,_=>none)
  |some v,some (.con (.map none))=>(match du t T TF.qMn,Ai v with
   |some _,some b=>(match bop with | .eql=>some (.con (.bool b),[],0) | .neq=>some (.con (.bool (!b)),[],0)|_=>none)
   |_,_=>none)
  |_,_=>none)
 | .makeFunc fn first caps=>(match fn,first.toList,caps.toList with
  | .method name,[x],[]=>(match eA e x with|some (.con (.iface T v))=>some (.con (.func (.method name) #[.iface T v] #[]),[],0)|_=>none)
  |_,_,_=>none)
 | .nilCheck x=>(match eA e x with
  |some (.con (.func (.method name) first caps))=>(match first.toList,caps.toList with
   |[.iface T v],[]=>(match du t T (TF.qM name) with|some _=>some (.con (.func (.method name) #[.iface T v] #[]),[],0)|none=>none)
   |_,_=>none)
  |_=>none)
 | .makeInterface T x=>(match du t T TF.qCn with
  |some _=>(match eA e x with
   |some v=>(match yR 8 v with|some c=>some (.con (.iface T c),[],0)|none=>none)
   |none=>none)
  |none=>none)
 | .buildSlice T n parts=>(match du t T TF.qEl with
  |some (ety,k,_)=>(match n with
   |0=>(match parts.toList with|[]=>some (.own nx 0,[(nx,.arr ety k [])],1)|_=>none)
   |n'+1=>(match du t ety TF.qZ with
    |some (_,zs)=>(match J4 e parts.toList with
     |some ps=>(match ji (fun i=>some (i*k,k)) (((List.range ((n'+1)*k)).map fun i=>zs.getD (i % k) undef).map .con) ps with
      |some cs=>(match Nat.beq cs.length ((n'+1)*k)&&rowsK k (wM k (n'+1) cs)&&Nat.blt 0 k&&Nat.ble ((n'+1)*k) 16777216 with
       |true=>some (.own nx (n'+1),[(nx,.arr ety k (wM k (n'+1) cs))],1)
       |false=>none)
      |none=>none)
     |none=>none)
    |none=>none))
  |none=>none)
 | .makeSlice T x y=>(match du t T TF.qEl with
  |some (ety,k,bytes)=>(match du t ety TF.qZ with
   |some (_,zs)=>(match x,y with
    | .tmp a,.tmp b=>(match Nat.beq a b,eA e x with
     |true,some (.con (.int .i64 n))=>(match n with
      | .ofNat j=>(match Nat.ble (bytes*j) 140737488355328&&Nat.ble j 140737488355328&&Nat.blt 0 k with
       |true=>some (.own nx j,[(nx,.arr ety k (List.replicate j (zs.map .con)))],1)
       |false=>none)
      |_=>none)
     |_,_=>none)
    |_,_=>none)
   |none=>none)
  |none=>none)
 | .lookup T x y ok=>(match MF mt T with
  |some p=>(match eA e x with
   |some (.map id)=>(match pz hp id with
    |some (.map es)=>(match eA e y with
     |some (.con kv)=>(match u6 p.txt p.ik kv&&G2 p.txt p.ik es with
      |true=>(match yp kv es with
       |some r=>(match (r.getD p.z).deep with
        |false=>(match ok with
         |true=>some (.tup [r.getD p.z,.con (.bool r.isSome)],[],0)
         |false=>some (r.getD p.z,[],0))
        |true=>none)
       |none=>none)
      |false=>none)
     |_=>none)
    |_=>none)
   |_=>none)
  |none=>none)
 | .call c=>(match c.callee,c.args.toList,c.argTypes.toList with
  | .builtin .append,[x,y],[T,T']=>(match du t T TF.qEl,du t T' TF.qSn with
   |some (ety,k,bytes),some _=>(match Nat.blt 0 bytes&&Nat.blt 0 k with
    |true=>(match eA e x with
     |some (.own id n)=>(match pz hp id with
      |some (.arr e2 k2 rows)=>(match Nat.beq ety e2&&Nat.beq k k2&&Nat.beq rows.length n with
       |true=>(match eA e y with
        |some (.own id2 n2)=>(match pz hp id2 with
         |some (.arr _ k3 rows2)=>(match Nat.beq k3 k&&Nat.beq rows2.length n2&&Lb rows2&&Nat.ble ((n+n2)*bytes) 140737488355328 with
          |true=>some (.own nx (n+n2),[(nx,.arr ety k (rows++rows2)),(id,.dead)],1)
          |false=>none)
         |_=>none)
        |some (.con (.slice none 0 0))=>(match Nat.ble (n*bytes) 140737488355328 with
         |true=>some (.own nx n,[(nx,.arr ety k rows),(id,.dead)],1)
         |false=>none)
        |_=>none)
       |false=>none)
      |_=>none)
     |_=>none)
    |false=>none)
   |_,_=>none)
  |_,_,_=>none)
 |_=>none
theorem rR{α:Type}{a:Array α}{l:List α}(h:a.toList=l):a=l.toArray:=by grind
section
variable{op:Op}{ty:TypeId}{pos:String}{after:Array Edge}{g:Option (Nat×Bool)}
theorem Bz(ht:cK K.P t){mt:List MT}(hmt:tB K.P mt){d:Nat}{e:cc}{hp u:aC}{nx q:Nat}{v:V}(ha:Ag e S)(hh:Hu hp S)(hnx:S.nx=nx)(h:mY t mt e hp nx op=some (v,u,q))(hw:aN ops S ⟨some d,op,ty,pos,after,g⟩ true)(hN:Nat.blt d K.N=true)
  (k:ay K ops rest Q ⟨(d,v)::S.env,u++S.hp,S.nx+q⟩):ay K ops (⟨some d,op,ty,pos,after,g⟩::rest) Q S:=by
 subst hnx;cases op with
 |indexAddr T x y=>
  simp only[mY] at h;split at h
  ·rename_i kk hk;split at h
   ·rename_i hx;split at h
    ·rename_i hy;split at h
     ·rename_i j;split at h
      ·rename_i hb;simp only[ax9,Prod.mk.injEq] at h;obtain⟨rfl,rfl,rfl⟩:=h;exact lZ (yW ht hk) hw (aW ha hx) (aW ha hy) (Int.natCast_nonneg j) (ax8 hb) hN k
      grind
     grind
    grind
   grind
  grind
 |build T parts=>
  simp only[mY] at h;split at h
  ·rename_i hA;split at h
   ·rename_i hz;split at h
    ·rename_i ps hps;split at h
     ·rename_i cs hcs;obtain⟨z1,z2,z3⟩:=wS ht hz;simp only[ax9,Prod.mk.injEq] at h;obtain⟨rfl,rfl,rfl⟩:=h;exact mb ps cs z1 (GR ht hA) z3 hw (sU ha hps) hcs hN k
     grind
    grind
   grind
  grind
 |index T x y=>
  simp only[mY] at h;split at h
  ·rename_i cs hx;split at h
   ·rename_i hy;split at h
    ·rename_i j;split at h
     ·rename_i n kk _ hT;split at h
      ·rename_i hb;simp only[aq9] at hb;simp only[ax9,Prod.mk.injEq] at h;obtain⟨rfl,rfl,rfl⟩:=h;exact ma _ (NS ht hT) hw (aW ha hx) (aW ha hy) ⟨Int.natCast_nonneg j,ax8 hb.1⟩ (ew hb.2) Y hN k
      grind
     ·split at h
      ·rename_i hT;split at h
       ·rename_i c hb hc;simp only[ax9,Prod.mk.injEq] at h;obtain⟨rfl,rfl,rfl⟩:=h;exact w7 c (NR ht hT) hw (aW ha hx) (aW ha hy) ⟨Int.natCast_nonneg j,ax8 hb⟩ (eR hc) hN k
       grind
      grind
    grind
   grind
  ·split at h
   ·rename_i hk;split at h
    ·rename_i b hx;split at h
     ·rename_i hy;split at h
      ·rename_i j;split at h
       ·rename_i c hc;simp only[ax9,Prod.mk.injEq] at h;obtain⟨rfl,rfl,rfl⟩:=h;exact qn (l:=lx b) c (wT ht hk) hw (by rw[aW ha hx,gA]) (aW ha hy) (Int.natCast_nonneg j) (eR hc) hN k
       grind
      grind
     grind
    grind
   grind
 |slice T x lo hi mx=>
  simp only[mY] at h;split at h
  ·simp at h
  ·split at h
   ·rename_i b hx;split at h
    ·rename_i hk;split at h
     ·rename_i a0 h0;split at h
      ·rename_i b0 h1;split at h
       ·rename_i hb;simp only[aq9] at hb;simp only[ax9,Prod.mk.injEq] at h;obtain⟨rfl,rfl,rfl⟩:=h;have e0:=oO (K:=K) ha h0;have e1:=oO (K:=K) ha h1;exact lX (l:=lx b) a0 b0 _ (wT ht hk) hw (by rw[aW ha hx,gA]) (by grind) (by grind) (ax8 hb.1) (ax8 hb.2) Y hN k
       grind
      grind
     grind
    grind
   ·rename_i id n hx;split at h
    ·rename_i kk hk;split at h
     ·rename_i ety k2 rows ho;split at h
      ·rename_i hb;simp only[aq9] at hb;have e1:=ci9 hb.1.1;have e2:=ci9 hb.1.2;subst e1;split at h
       ·split at h
        ·rename_i b0 h1;split at h
         ·rename_i hb2;simp only[ax9,Prod.mk.injEq] at h;obtain⟨rfl,rfl,rfl⟩:=h;exact pI (yW ht hk) hw (aW ha hx) (hh _ _ ho) (Nat.le_of_eq e2) (oO ha h1) (ax8 hb2) hN k
         grind
        grind
       ·split at h
        ·rename_i a0 h0;split at h
         ·rename_i b0 h1;split at h
          ·rename_i hb2;simp only[aq9] at hb2;simp only[ax9,Prod.mk.injEq] at h;obtain⟨rfl,rfl,rfl⟩:=h;exact lW a0 b0 _ (yW ht hk) hw (aW ha hx) (hh _ _ ho) e2 Y (oO ha h0) (oO ha h1) (ax8 hb2.1) (ax8 hb2.2) Y (sq hb.2) hN k
          grind
         grind
        grind
      grind
     grind
    grind
   grind
 |binOp bop T x y T'=>
  simp only[mY] at h;split at h
  ·rename_i a b hx hy;split at h
   ·rename_i v hv;simp only[ax9,Prod.mk.injEq] at h;obtain⟨rfl,rfl,rfl⟩:=h;exact mS v hw (by rw[aW ha hx,gA]) (by rw[aW ha hy,gA]) hv hN k
   grind
  ·rename_i v _ hx hy;split at h
   ·rename_i id n hk;split at h
    ·simp at h
    ·split at h
     ·simp only[ax9,Prod.mk.injEq] at h;obtain⟨rfl,rfl,rfl⟩:=h;exact nO false (j8 ht hk) hw (aW ha hx) (aW ha hy) Y hN (fun b hb=>by rw[hb (Nat.succ_ne_zero _)];exact k)
     ·simp only[ax9,Prod.mk.injEq] at h;obtain⟨rfl,rfl,rfl⟩:=h;exact nO true (j8 ht hk) hw (aW ha hx) (aW ha hy) Y hN (fun b hb=>by rw[hb (Nat.succ_ne_zero _)];exact k)
     grind
   grind
  ·rename_i v _ hx hy;split at h
   ·rename_i b hk hb;split at h
    ·simp only[ax9,Prod.mk.injEq] at h;obtain⟨rfl,rfl,rfl⟩:=h;exact qp false (J7 ht hk) hw (aW ha hx) hb (aW ha hy) hN k
    ·simp only[ax9,Prod.mk.injEq] at h;obtain⟨rfl,rfl,rfl⟩:=h;exact qp true (J7 ht hk) hw (aW ha hx) hb (aW ha hy) hN k
    grind
   grind
  grind
 |makeFunc fn first caps=>
  simp only[mY] at h;split at h
  ·rename_i name x hf1 hc1;have hf1:=fi hf1;have hc1:=iE hc1;subst hf1 hc1;split at h
   ·rename_i hx;simp only[ax9,Prod.mk.injEq] at h;obtain⟨rfl,rfl,rfl⟩:=h;exact yY hw (aW ha hx) hN k
   grind
  grind
 |nilCheck x=>
  simp only[mY] at h;split at h
  ·rename_i name first caps hx
   split at h
   ·rename_i T v hf1 hc1;have hf1:=fi hf1;have hc1:=iE hc1;subst hf1 hc1;split at h
    ·rename_i hm;simp only[ax9,Prod.mk.injEq] at h;obtain⟨rfl,rfl,rfl⟩:=h;exact wW (LK ht hm).2 hw (aW ha hx) hN k
    grind
   grind
  grind
 |makeInterface T x=>
  simp only[mY] at h;split at h
  ·rename_i hk;split at h
   ·rename_i hx;split at h
    ·rename_i hc;simp only[ax9,Prod.mk.injEq] at h;obtain⟨rfl,rfl,rfl⟩:=h;exact wY (NP ht hk) hw (aW ha hx) hc hN k
    grind
   grind
  grind
 |buildSlice T n parts=>
  simp only[mY] at h;split at h
  ·rename_i ety kk bytes hT;split at h
   ·split at h
    ·rename_i hp0;have:=rR hp0;subst this;simp only[ax9,Prod.mk.injEq] at h;obtain⟨rfl,rfl,rfl⟩:=h;exact kZ (kX ht hT) hw hN k
    grind
   ·rename_i n';split at h
    ·rename_i zs hz;split at h
     ·rename_i ps hps;split at h
      ·rename_i cs hcs;split at h
       ·rename_i hb;simp only[aq9] at hb;have e1:=ci9 hb.1.1.1;obtain⟨z1,z2,z3⟩:=wS ht hz;simp only[ax9,Prod.mk.injEq] at h;obtain⟨rfl,rfl,rfl⟩:=h;exact ax ps _ (kX ht hT) z1 z3 hb.1.2 Y hb.2 hw (sU ha hps) (by simp_all[pD]) (td _ _) (rZ hb.1.1.2) hN k
       grind
      grind
     grind
    grind
  grind
 |makeSlice T x y=>
  simp only[mY] at h;split at h
  ·rename_i ety kk bytes hT;split at h
   ·rename_i zs hz;split at h
    ·rename_i a b;split at h
     ·rename_i n hab hx;have hab:=ci9 hab;subst hab;split at h
      ·rename_i j;split at h
       ·rename_i hb;simp only[aq9] at hb;obtain⟨z1,z2,z3⟩:=wS ht hz;simp only[ax9,Prod.mk.injEq] at h;obtain⟨rfl,rfl,rfl⟩:=h;have b1:=ax8 hb.1.1;have b2:=ax8 hb.1.2;have c1:((bytes*j:Nat):Int)<=((140737488355328:Nat):Int):=Int.ofNat_le.2 b1;have c2:((j:Nat):Int)<=((140737488355328:Nat):Int):=Int.ofNat_le.2 b2;rw[Int.natCast_mul] at c1;exact iT _ (kX ht hT) z1 z3 hb.2 ⟨Int.natCast_nonneg j,c1,c2⟩ Y Y hw (aW ha hx) hN k
       grind
      grind
     grind
    grind
   grind
  grind
 |lookup T x y ok=>
  simp only[mY] at h;split at h
  ·rename_i p hp0;obtain⟨hm,hTe⟩:=Ae hmt hp0;subst hTe;obtain⟨zv,hz1,hz2⟩:=hm.h3;split at h
   ·rename_i id hx;split at h
    ·rename_i es ho;split at h
     ·rename_i kv hy;split at h
      ·rename_i hb;simp only[aq9] at hb;split at h
       ·rename_i r hr;split at h
        ·rename_i hdp;split at h
         ·simp only[ax9,Prod.mk.injEq] at h;obtain⟨rfl,rfl,rfl⟩:=h;exact kY r p.z _ hm.h1 hm.h2 hz1 hz2 hw (aW ha hx) (.own (hh _ _ ho)) (.con (aW ha hy)) (oE hb.1) (rB hb.2) (sy hr) Y Y hN k hdp
         ·simp only[ax9,Prod.mk.injEq] at h;obtain⟨rfl,rfl,rfl⟩:=h;exact co r p.z _ hm.h1 hm.h2 hz1 hz2 hw (aW ha hx) (.own (hh _ _ ho)) (.con (aW ha hy)) (oE hb.1) (rB hb.2) (sy hr) Y hN k hdp
        grind
       grind
      grind
     grind
    grind
   grind
  grind
 |call c=>
  obtain⟨callee,args,at'⟩:=c;simp only[mY] at h;split at h
  ·rename_i x y T T' _ hargs hats;have hargs:=dw hargs;have hats:=dw hats;subst hargs;subst hats;split at h
   ·rename_i ety kk bytes _ hT hT';split at h
    ·rename_i hb0;simp only[aq9] at hb0;split at h
     ·rename_i id n hx;split at h
      ·rename_i rows ho;split at h
       ·rename_i hb;simp only[aq9] at hb;have e1:=ci9 hb.1.1;have e2:=ci9 hb.1.2;have e3:=ci9 hb.2;subst e1;subst e2;split at h
        ·rename_i id2 n2 hy;split at h
         ·rename_i k3 rows2 ho2;split at h
          ·rename_i hb2;simp only[aq9] at hb2;have e4:=ci9 hb2.1.1.1;have e5:=ci9 hb2.1.1.2;subst e4;simp only[ax9,Prod.mk.injEq] at h;obtain⟨rfl,rfl,rfl⟩:=h
           exact mc rows2 _ (kX ht hT) (j8 ht hT') hb0.1 hb0.2 hw (aW ha hx) (hh _ _ ho) e3 (aW ha hy) (.own (hh _ _ ho2) e5 (fun row hr c hc=>by
            obtain⟨j,hj⟩:=bc8 hc;exact jv (sq hb2.1.2 row hr) hj)) Y (by grind) (ax8 hb2.2) hN k
          grind
         grind
        ·rename_i hy;split at h
         ·rename_i hb2;simp only[ax9,Prod.mk.injEq] at h;obtain⟨rfl,rfl,rfl⟩:=h;exact mc [] _ (kX ht hT) (j8 ht hT') hb0.1 hb0.2 hw (aW ha hx) (hh _ _ ho) e3 (aW ha hy) .nil (List.append_nil _) e3 (ax8 hb2) hN k
         grind
        grind
       grind
      grind
     grind
    grind
   grind
  grind
 |_=>simp[mY] at h
end
def Px(t:TT)(d:Nat)(e:cc)(hp:aC)(nx:Nat):Op->Option (cc×aC)
 | .call c=>(match c.callee,c.args.toList,c.argTypes.toList with
  | .builtin .append,[.tmp a,y],[T,T']=>(match pf e a with
   |some (.con (.slice none 0 0))=>(match du t T TF.qEl,du t T' TF.qSn with
    |some (ety,k,bytes),some _=>(match Nat.blt 0 bytes&&Nat.blt 0 k with
     |true=>(match eA ((a,.own nx 0)::e) y with
      |some (.own id2 n2)=>(match pz ((nx,.arr ety k [])::hp) id2 with
       |some (.arr _ k3 rows2)=>(match Nat.beq k3 k&&Nat.beq rows2.length n2&&Lb rows2&&Nat.ble (n2*bytes) 140737488355328 with
        |true=>some ([(d,.own (nx+1) n2),(a,.own nx 0)],[(nx+1,.arr ety k rows2),(nx,.dead)])
        |false=>none)
       |_=>none)
      |_=>none)
     |false=>none)
    |_,_=>none)
   |_=>none)
  |_,_,_=>none)
 |_=>none
theorem LO{op:Op}{ty:TypeId}{pos:String}{after:Array Edge}{g:Option (Nat×Bool)}(ht:cK K.P t){d:Nat}{e:cc}{hp:aC}{nx:Nat}{ue:cc}{uh:aC}(h:Px t d e hp nx op=some (ue,uh))(hg:g=none)(hN:Nat.blt d K.N=true)
    (k:ay K ops rest Q ⟨ue++e,uh++hp,nx+2⟩):ay K ops (⟨some d,op,ty,pos,after,g⟩::rest) Q ⟨e,hp,nx⟩:=by
  subst hg;cases op<;>simp only[Px,reduceCtorEq] at h;rename_i c;obtain⟨callee,args,at'⟩:=c;simp only at h;split at h
  · rename_i a y T T' hargs hats
    have hargs:=dw hargs;have hats:=dw hats;subst hargs;subst hats;split at h
    · rename_i hx
      split at h
      · rename_i ety kk bytes _ hT hT'
        split at h
        · rename_i hb0
          simp only[aq9] at hb0;split at h
          · rename_i id2 n2 hy
            split at h
            · rename_i k3 rows2 ho2
              split at h
              · rename_i hb2
                simp only[aq9] at hb2;have e4:=ci9 hb2.1.1.1;have e5:=ci9 hb2.1.1.2;subst e4;simp only[ax9,Prod.mk.injEq] at h;obtain⟨rfl,rfl⟩:=h;refine bp (ey (S:=⟨e,hp,nx⟩) a ety k3 (dN hx)) ?_
                let S2:St:=⟨(a,.own nx 0)::e,(nx,.arr ety k3 [])::hp,nx+1⟩
                have hex:evl K S2 (.tmp a)=.own nx 0:=by show get ((a,.own nx 0)::e) a=_;rw[cn,if_pos rfl]
                have hho:ak S2.hp nx=.arr ety k3 []:=by show ak ((nx,.arr ety k3 [])::hp) nx=_;rw[av,if_pos rfl]
                refine mc (S:=S2) rows2 _ (kX ht hT) (j8 ht hT') hb0.1 hb0.2 rfl hex hho rfl (aW (xd (S:=S2)) hy) (.own (fJ ho2) e5 (fun row hr c hc=>by
                        obtain⟨j,hj⟩:=bc8 hc;exact jv (sq hb2.1.2 row hr) hj)) (ad9 _) e5 (ax8 hb2.2) hN ?_
                have gh:aY K ⟨(d,.own S2.nx n2)::S2.env,(S2.nx,.arr ety k3 rows2)::(nx,.dead)::S2.hp,S2.nx+1⟩ ⟨[(d,.own (nx+1) n2),(a,.own nx 0)]++e,[(nx+1,.arr ety k3 rows2),(nx,.dead)]++hp,nx+2⟩:=by
                  refine fun m β _ _ r=>⟨m,β,r.congr (fun _=>Y) (fun t=>?_) Y⟩
                  show ak ((nx+1,.arr ety k3 rows2)::(nx,.dead)::hp) t=ak ((nx+1,.arr ety k3 rows2)::(nx,.dead)::(nx,.arr ety k3 [])::hp) t
                  rw[av,av,av,av,av];split
                  · rfl
                  · split<;>rfl
                exact bp gh k
              · simp at h
            · simp at h
          · simp at h
        · simp at h
      · simp at h
    · simp at h
  · simp at h
end
section
variable{K:cR}{Q:ca}{S S':St}{ops:Array Oper}{rest:List Oper}{t:TT}
def uA:cc->cc->cc
 |[],e=>e
 |(i,o)::u,e=>r8 i o (uA u e)
theorem pB:∀(u e:cc) (t:Nat),get (uA u e) t=get (u++e) t
 |[],e,t=>rfl
 |(i,o)::u,e,t=>by
  show get (r8 i o (uA u e)) t=get ((i,o)::(u++e)) t
  rw[lP,cn,cn,pB u e]
def qd:aC->aC->aC
 |[],hp=>hp
 |(i,o)::u,hp=>qz i o (qd u hp)
theorem ky:∀(u hp:aC) (t:Nat),ak (qd u hp) t=ak (u++hp) t
 |[],hp,t=>rfl
 |(i,o)::u,hp,t=>by
  show ak (qz i o (qd u hp)) t=ak ((i,o)::(u++hp)) t
  rw[mL,av,av,ky u hp]
def o7(f:V->Bool):List V->Bool
 |[]=>true
 |x::l=>bif f x then o7 f l else false
def sE:Nat->V->Bool
 |0,_=>false
 |n+1,v=>(match v with
  | .con _=>true
  | .agg cs=>o7 (sE n) cs
  | .tup cs=>o7 (sE n) cs
  | .fn _ a b=>o7 (sE n) a&&o7 (sE n) b
  |_=>false)
theorem kE{f:V->Bool}:∀{l:List V},o7 f l=true->∀x,x∈l->f x=true
 |[],_,x,hx=>by simp at hx
 |y::l,h,x,hx=>by
  simp only[o7] at h;cases hb:f y with
  |true=>
   rw[hb] at h;simp at h;rcases as9.1 hx with rfl|hx
   ·exact hb
   ·exact kE h x hx
  |false=>rw[hb] at h;simp at h
theorem kx:∀{n:Nat} {v:V},sE n v=true->∀{m:bB} {β:ba} {x:Value},br m β v x->bN m v x
 |0,v,h=>by simp[sE] at h
 |n+1,v,h=>by
  intro hv;cases hv with
  |imm h=>exact h
  |agg hl hh=>
   simp only[sE] at h;exact .agg hl fun i c v a b=>kx (kE h c (ay9 a)) (hh i c v a b)
  |tup hl hh=>
   simp only[sE] at h;exact .tup hl fun i c v a b=>kx (kE h c (ay9 a)) (hh i c v a b)
  |fn hl hl' h1 h2=>
   simp only[sE,aq9] at h;exact .fn hl hl' (fun i c v a b=>kx (kE h.1 c (ay9 a)) (h1 i c v a b)) (fun i c v a b=>kx (kE h.2 c (ay9 a)) (h2 i c v a b))
  |_=>simp[sE] at h
def F4(v:V):Bool:=sE 12 v
theorem yk{gl:Gl}{P:Program}{f:FuncId}{avs:List V}{v:V}{k':Nat}{hp':aC}(h:fV gl P f avs 0 [] v k' hp')(hv:F4 v=true):dY gl P f avs v:=by
 intro m w vs himm hgl hargs
 let β:ba:=⟨fun _=>none,fun _ _=>False⟩
 refine(h m β w vs himm hgl ⟨hargs.len,fun i c v a b=>.imm (hargs.at' i c v a b)⟩ (fun id=>trivial) (fun id b cap hl=>absurd Y hl) (fun id id' b cap cap' hl=>absurd Y hl) (fun id x hl=>absurd Y hl) (fun _ _=>Y)).mono ?_
 rintro e w' ⟨x,m',β',rfl,hx,g⟩
 have hF:∀b,c8 [] β b:=fun b id hl=>absurd rfl hl;exact⟨x,m',Y,kx hv hx,g.le,g.imm,fun b hb=>(g.old b hb (hF b)).1,fun b hb=>(g.old b hb (hF b)).2,g.size,g.same⟩
def O6:Op->List Operand
 | .slice _ x lo hi _=>x::(lo.toList++hi.toList)
 | .lookup _ x y _=>[x,y]
 | .mapUpdate _ x y z=>[x,y,z]
 | .insert _ x y z=>[x,y,z]
 | .buildSlice _ _ ps=>ps.toList.map (·.2)
 | .makeSlice _ x _=>[x]
 | .box _ x=>[x]
 | .makeFunc _ fs cs=>fs.toList++cs.toList
 | .makeInterface _ x=>[x]
 | .call c=>(match c.callee with | .invoke r _=>r::c.args.toList|_=>O7 (.call c))
 |op=>O7 op
def K6(ops:Array Oper)(o:Oper)(e:cc):Option cc:=match grd ops o (OB (O6 o.op)) with|some l=>MC e l|none=>none
theorem H3{o:Oper}{e re:cc}(h:K6 ops o e=some re):tz e re:=by
 grind [K6,zU]
def Pd(e:cc)(hp:aC)(x:Operand)(l:aC):Option aC:=
 match eA e x with
 |some (.ptr id _ _ _)=>(match pz hp id with|some ob=>some ((id,ob)::l)|none=>none)
 |some (.own id _)=>(match pz hp id with|some ob=>some ((id,ob)::l)|none=>none)
 |some (.map id)=>(match pz hp id with|some ob=>some ((id,ob)::l)|none=>none)
 |some _=>some l
 |none=>none
theorem Lj{e:cc}{hp l rh:aC}{x:Operand}(hl:lp hp l)(h:Pd e hp x l=some rh):lp hp rh:=by
 unfold Pd at h;split at h
 ·split at h
  ·rename_i ho;simp at h;subst h;exact⟨fJ ho,hl⟩
  grind
 ·split at h
  ·rename_i ho;simp at h;subst h;exact⟨fJ ho,hl⟩
  grind
 ·split at h
  ·rename_i ho;simp at h;subst h;exact⟨fJ ho,hl⟩
  grind
 ·grind
 grind
def Nq(e:cc)(hp:aC):List Operand->aC->Option aC
 |[],l=>some l
 |x::xs,l=>match Pd e hp x l with|some l=>Nq e hp xs l|none=>none
theorem F9{e:cc}{hp rh:aC}:∀{xs:List Operand} {l:aC},lp hp l->Nq e hp xs l=some rh->lp hp rh
 |[],l,hl,h=>by simp_all[Nq]
 |x::xs,l,hl,h=>by
  simp only[Nq] at h;split at h
  ·rename_i q hq;exact F9 (Lj hl hq) h
  ·simp at h
def hrO:Op->List Operand
 | .load _ x=>[x]
 | .store _ x _=>[x]
 | .lookup _ x _ _=>[x]
 | .slice _ x _ _ _=>[x]
 | .mapUpdate _ x _ _=>[x]
 | .insert _ x _ _=>[x]
 | .call c=>(match c.callee with | .builtin .append=>c.args.toList|_=>[])
 |_=>[]
def J8(t:TT)(e:cc)(id:Nat):Op->Option (V×Ob)
 | .alloc T=>(match du t T TF.qZ with
  |some (n,zs)=>some (.ptr id n 0 0,.arr T n [zs.map .con])
  |none=>none)
 | .box T x=>(match du t T TF.qS with
  |some n=>(match eA e x with
   |some v=>(match Kk v with
    |some cs=>(match fZ n cs&&zi cs with|true=>some (.ptr id n 0 0,.arr T n [cs])|false=>none)
    |none=>none)
   |none=>none)
  |none=>none)
 | .makeMap _ r=>(match r with|none=>some (.map id,.map [])|some _=>none)
 | .buildSlice T n parts=>(match du t T TF.qEl with
  |some (ety,k,_)=>(match n with
   |0=>(match parts.toList with|[]=>some (.own id 0,.arr ety k [])|_=>none)
   |n'+1=>(match du t ety TF.qZ with
    |some (_,zs)=>(match J4 e parts.toList with
     |some ps=>(match ji (fun i=>some (i*k,k)) (((List.range ((n'+1)*k)).map fun i=>zs.getD (i % k) undef).map .con) ps with
      |some cs=>(match Nat.beq cs.length ((n'+1)*k)&&rowsK k (wM k (n'+1) cs)&&Nat.blt 0 k&&Nat.ble ((n'+1)*k) 16777216 with
       |true=>some (.own id (n'+1),.arr ety k (wM k (n'+1) cs))
       |false=>none)
      |none=>none)
     |none=>none)
    |none=>none))
  |none=>none)
 | .makeSlice T x y=>(match du t T TF.qEl with
  |some (ety,k,bytes)=>(match du t ety TF.qZ with
   |some (_,zs)=>(match x,y with
    | .tmp a,.tmp b=>(match Nat.beq a b,eA e x with
     |true,some (.con (.int .i64 n))=>(match n with
      | .ofNat j=>(match Nat.ble (bytes*j) 140737488355328&&Nat.ble j 140737488355328&&Nat.blt 0 k with
       |true=>some (.own id j,.arr ety k (List.replicate j (zs.map .con)))
       |false=>none)
      |_=>none)
     |_,_=>none)
    |_,_=>none)
   |none=>none)
  |none=>none)
 |_=>none
theorem LP{op:Op}{ty:TypeId}{pos:String}{after:Array Edge}{g:Option (Nat×Bool)}(ht:cK K.P t){d id nx:Nat}{e:cc}{v:V}{ob:Ob}(ha:Ag e S)(h:J8 t e id op=some (v,ob))(hid:(Nat.blt id nx&&Nat.ble K.pins id)=true)(hnx:S.nx=nx)(hres:ak S.hp id=.res)
  (hw:aN ops S ⟨some d,op,ty,pos,after,g⟩ true) (hN:Nat.blt d K.N=true) (k:ay K ops rest Q ⟨(d,v)::S.env,(id,ob)::S.hp,S.nx⟩):ay K ops (⟨some d,op,ty,pos,after,g⟩::rest) Q S:=by
 cases op with
 |alloc T=>
  simp only[J8] at h;split at h
  ·rename_i n zs hz;obtain⟨z1,z2,z3⟩:=wS ht hz<;>grind [jB]
  grind
 |box T x=>
  simp only[J8] at h;split at h
  ·split at h
   ·rename_i hv;split at h
    ·rename_i cs hc;split at h
     ·rename_i hb;simp only[aq9] at hb;have hl:=ew hb.1;subst hl;simp only[ax9,Prod.mk.injEq] at h;obtain⟨rfl,rfl⟩:=h;exact qq id hid hnx hres cs hw (aW ha hv) (rM hc) (mT hb.2) hN k
     grind
    grind
   grind
  grind
 |makeMap T r=>
  simp only[J8] at h
  grind [qT]
 |buildSlice T n parts=>
  simp only[J8] at h;split at h
  ·rename_i ety kk bytes hT;split at h
   ·split at h
    ·rename_i hp0;have:=rR hp0;subst this;simp only[ax9,Prod.mk.injEq] at h;obtain⟨rfl,rfl⟩:=h;exact nP id hid hnx hres (kX ht hT) hw hN k
    grind
   ·rename_i n';split at h
    ·rename_i zs hz;split at h
     ·rename_i ps hps;split at h
      ·rename_i cs hcs;split at h
       ·rename_i hb;simp only[aq9] at hb;have e1:=ci9 hb.1.1.1;obtain⟨z1,z2,z3⟩:=wS ht hz;simp only[ax9,Prod.mk.injEq] at h;obtain⟨rfl,rfl⟩:=h;exact nQ id hid hnx hres ps _ (kX ht hT) z1 hw z3 hb.1.2 Y hb.2 (sU ha hps) (by simp_all[pD]) (td _ _) (rZ hb.1.1.2) hN k
       grind
      grind
     grind
    grind
  grind
 |makeSlice T x y=>
  simp only[J8] at h;split at h
  ·rename_i ety kk bytes hT;split at h
   ·rename_i zs hz;split at h
    ·rename_i a b;split at h
     ·rename_i n hab hx;have hab:=ci9 hab;subst hab;split at h
      ·rename_i j;split at h
       ·rename_i hb;simp only[aq9] at hb;obtain⟨z1,z2,z3⟩:=wS ht hz;simp only[ax9,Prod.mk.injEq] at h;obtain⟨rfl,rfl⟩:=h;have b1:=ax8 hb.1.1;have b2:=ax8 hb.1.2;have c1:((bytes*j:Nat):Int)<=((140737488355328:Nat):Int):=Int.ofNat_le.2 b1;have c2:((j:Nat):Int)<=((140737488355328:Nat):Int):=Int.ofNat_le.2 b2;rw[Int.natCast_mul] at c1;exact oT id hid hnx hres _ (kX ht hT) z1 z3 hb.2 ⟨Int.natCast_nonneg j,c1,c2⟩ Y Y hw (aW ha hx) hN k
       grind
      grind
     grind
    grind
   grind
  grind
 |_=>simp[J8] at h
def Ox(mt:List MT)(e:cc)(hp:aC)(T:TypeId)(x y z:Operand):Option (Nat×Ob):=
 match MF mt T with
 |some p=>(match eA e x with
  |some (.map id)=>(match pz hp id with
   |some (.map es)=>(match eA e y with
    |some (.con kv)=>(match u6 p.txt p.ik kv&&G2 p.txt p.ik es with
     |true=>(match eA e z with
      |some v=>(match ya kv v es with|some es'=>some (id,.map es')|none=>none)
      |none=>none)
     |false=>none)
    |_=>none)
   |_=>none)
  |_=>none)
 |none=>none
theorem DV{op:Op}{T:TypeId}{x y z:Operand}(hop:op=.mapUpdate T x y z\/op=.insert T x y z){ty:TypeId}{pos:String}{after:Array Edge}{g:Option (Nat×Bool)}{mt:List MT}(hmt:tB K.P mt){e:cc}{hp:aC}{id:Nat}{ob:Ob}(ha:Ag e S)(hh:Hu hp S)(h:Ox mt e hp T x y z=some (id,ob))(hw:aN ops S ⟨none,op,ty,pos,after,g⟩ true)
  (k:ay K ops rest Q ⟨S.env,(id,ob)::S.hp,S.nx⟩):ay K ops (⟨none,op,ty,pos,after,g⟩::rest) Q S:=by
 unfold Ox at h;split at h
 ·rename_i p hp0;obtain⟨hm,hTe⟩:=Ae hmt hp0;subst hTe;split at h
  ·rename_i id hx;split at h
   ·rename_i es ho;split at h
    ·rename_i kv hy;split at h
     ·rename_i hb;simp only[aq9] at hb;split at h
      ·rename_i v hz;split at h
       ·rename_i es' hp';simp only[ax9,Prod.mk.injEq] at h;obtain⟨rfl,rfl⟩:=h;exact qm hop es' hm.h1 hm.h2 hw (aW ha hx) (hh _ _ ho) (.con (aW ha hy)) (oE hb.1) (rB hb.2) (aW ha hz) (x5 hp') k
       grind
      grind
     grind
    grind
   grind
  grind
 grind
def Ow(t:TT)(mt:List MT)(e:cc)(hp:aC)(op:Op):Option (Nat×Ob):=
 match op with
 | .mapUpdate T x y z=>Ox mt e hp T x y z
 | .insert T x y z=>Ox mt e hp T x y z
 |op=>KU t e hp op
theorem DL{op:Op}{ty:TypeId}{pos:String}{after:Array Edge}{g:Option (Nat×Bool)}(ht:cK K.P t){mt:List MT}(hmt:tB K.P mt){e:cc}{hp:aC}{id:Nat}{ob:Ob}(ha:Ag e S)(hh:Hu hp S)(h:Ow t mt e hp op=some (id,ob))(hw:aN ops S ⟨none,op,ty,pos,after,g⟩ true)
  (k:ay K ops rest Q ⟨S.env,(id,ob)::S.hp,S.nx⟩):ay K ops (⟨none,op,ty,pos,after,g⟩::rest) Q S:=by
 unfold Ow at h;split at h
 ·grind [DV]
 ·exact DV (.inr Y) hmt ha hh h hw k
 grind [HV]
theorem GF{e:cc}(ha:Ag e S){o:Oper}{f:Nat}{avs:List V}(h:LF e o.op=some (f,avs))(hf:cE K.P f=true):
  ∀m β w a,bX K m β w a S->∃vs:Array Value,(execOp a.eval o).run K.P w=.ok (.enter f vs) w/\iY m β avs vs:=by
 obtain⟨dst,op,ty',pos,after,g⟩:=o;cases op<;>simp_all[LF];rename_i c;obtain⟨callee,args,at'⟩:=c;simp only at h;split at h
 ·rename_i x;split at h
  ·rename_i first caps hx
   split at h
   ·split at h
    ·rename_i vs hv;split at h
     ·rename_i q hq;simp only[ax9,Prod.mk.injEq] at h;obtain⟨rfl,rfl⟩:=h;have hq:=jx hq;have hv:=sW (K:=K) ha hv;exact sr hf (aW ha hx) (by grind)
     grind
    grind
   grind
  grind
 grind
def NJ(t:TT)(e:cc)(op:Op):Option (Nat×List V):=match LF e op with|some r=>some r|none=>Po t e op
theorem oN(ht:cK K.P t){e:cc}(ha:Ag e S){o:Oper}{f:Nat}{avs:List V}(h:NJ t e o.op=some (f,avs))(hf:cE K.P f=true):
  ∀m β w a,bX K m β w a S->∃vs:Array Value,(execOp a.eval o).run K.P w=.ok (.enter f vs) w/\iY m β avs vs:=by
 grind [NJ,GF,GD]
end
section
variable{K:cR}{Q:ca}{S S':St}{ops:Array Oper}{rest:List Oper}{t:TT}
def Ah(f:V->Option V):List V->Option (List V)
 |[]=>some []
 |x::l=>(match f x with|some y=>(match Ah f l with|some r=>some (y::r)|none=>none)|none=>none)
def pe(f:Nat->Option Nat):Nat->V->Option V
 |0,_=>none
 |n+1,v=>(match v with
  | .con v=>some (.con v)
  | .agg cs=>(match Ah (pe f n) cs with|some r=>some (.agg r)|none=>none)
  | .tup cs=>(match Ah (pe f n) cs with|some r=>some (.tup r)|none=>none)
  | .fn g a b=>(match Ah (pe f n) a,Ah (pe f n) b with|some r,some q=>some (.fn g r q)|_,_=>none)
  | .ptr id k i o=>(match f id with|some j=>some (.ptr j k i o)|none=>none)
  | .own id l=>(match f id with|some j=>some (.own j l)|none=>none)
  | .map id=>(match f id with|some j=>some (.map j)|none=>none)
  |_=>none)
theorem Af{f:V->Option V}:∀{l r:List V},Ah f l=some r->r.length=l.length/\∀(i:Nat) c c',l[i]? = some c->r[i]? = some c'->f c=some c'
 |[],r,h=>by simp_all[Ah]
 |x::l,r,h=>by
  simp only[Ah] at h;split at h
  ·rename_i y hy;split at h
   ·rename_i q hq;simp at h;subst h;obtain⟨h1,h2⟩:=Af hq;refine⟨by simp[h1],fun i c c' a b=>?_⟩;cases i with
    |zero=>simp at a b;subst a;subst b;exact hy
    |succ i=>exact h2 i c c' (by simpa using a) (by simpa using b)
   ·simp at h
  ·simp at h
theorem FG{f:Nat->Option Nat}{m:bB}{β β':ba}(hf:∀i j,f i=some j->β' j=β i):∀{n:Nat} {v v':V} {x:Value},pe f n v=some v'->br m β v x->br m β' v' x
 |0,v,v',x,h=>by simp[pe] at h
 |n+1,v,v',x,h=>by
  intro hv
  have lst:∀{cs r:List V} {vs:Array Value},Ah (pe f n) cs=some r->cs.length=vs.size->(∀(i:Nat) c v,cs[i]? = some c->vs[i]? = some v->br m β c v)->r.length=vs.size/\∀(i:Nat) c v,r[i]? = some c->vs[i]? = some v->br m β' c v:=by
   intro cs r vs hr hl hh;obtain⟨a1,a2⟩:=Af hr;refine⟨a1.trans hl,fun i c v hc hx=>?_⟩;have hi:i<cs.length:=by rw[<-a1];exact(bd9.1 hc).1
   exact FG hf (a2 i _ _ (az9 hi) hc) (hh i _ v (az9 hi) hx)
  cases v with
  |con c=>simp[pe] at h;subst h;rw[hv.of_con];exact .imm (.con _)
  |agg cs=>
   simp only[pe] at h;split at h
   ·rename_i r hr;simp at h;subst h;obtain⟨vs,rfl,h2,h3⟩:=rD hv;obtain⟨b1,b2⟩:=lst hr h2 h3;exact .agg b1 b2
   ·simp at h
  |tup cs=>
   simp only[pe] at h;split at h
   ·rename_i r hr;simp at h;subst h;cases hv with
    |imm hv=>cases hv with|tup hl hh=>obtain⟨b1,b2⟩:=lst hr hl (fun i c v a b=>.imm (hh i c v a b));exact .tup b1 b2
    |tup hl hh=>obtain⟨b1,b2⟩:=lst hr hl hh;exact .tup b1 b2
   ·simp at h
  |fn g a b=>
   simp only[pe] at h;split at h
   ·rename_i r q hr hq;simp at h;subst h;cases hv with
    |imm hv=>cases hv with|fn hl hl' h1 h2=>obtain⟨b1,b2⟩:=lst hr hl (fun i c v a b=>.imm (h1 i c v a b));obtain⟨c1,c2⟩:=lst hq hl' (fun i c v a b=>.imm (h2 i c v a b));exact .fn b1 c1 b2 c2
    |fn hl hl' h1 h2=>obtain⟨b1,b2⟩:=lst hr hl h1;obtain⟨c1,c2⟩:=lst hq hl' h2;exact .fn b1 c1 b2 c2
   ·simp at h
  |ptr id k i o=>
   simp only[pe] at h;split at h
   ·rename_i j hj;simp at h;subst h;cases hv with
    |imm hv=>cases hv
    |ptr hb=>exact .ptr (by rw[hf _ _ hj];exact hb)
   ·simp at h
  |own id l=>
   simp only[pe] at h;split at h
   ·rename_i j hj;simp at h;subst h;cases hv with
    |imm hv=>cases hv
    |ownNil hb=>exact .ownNil (by rw[hf _ _ hj];exact hb)
    |own hb=>exact .own (by rw[hf _ _ hj];exact hb)
   ·simp at h
  |map id=>
   simp only[pe] at h;split at h
   ·rename_i j hj;simp at h;subst h;cases hv with
    |imm hv=>cases hv
    |map hb=>exact .map (by rw[hf _ _ hj];exact hb)
   ·simp at h
  |_=>simp[pe] at h
theorem FH{f:Nat->Option Nat}{n:Nat}{v v':V}(h:pe f n v=some v'):v.deep=false:=by
 cases n with
 |zero=>simp[pe] at h
 |succ n=>cases v<;>first|rfl|simp[pe] at h
def Nc(f:Nat->Option Nat):List (List V)->Option (List (List V))
 |[]=>some []
 |x::l=>(match Ah (pe f 12) x with|some y=>(match Nc f l with|some r=>some (y::r)|none=>none)|none=>none)
def Nd(f:Nat->Option Nat):List (Value×V)->Option (List (Value×V))
 |[]=>some []
 |(k,x)::l=>(match pe f 12 x with|some y=>(match Nd f l with|some r=>some ((k,y)::r)|none=>none)|none=>none)
def Ib(f:Nat->Option Nat):Ob->Option Ob
 | .dead=>some .dead
 | .arr e k rows=>(match Nc f rows with|some r=>some (.arr e k r)|none=>none)
 | .map es=>(match Nd f es with|some r=>some (.map r)|none=>none)
 | .res=>none
 | .iter _ _=>none
 | .bld _ _ _ _=>none
def uk(Yo:Hy)(f:Nat->Option Nat):Prop:=∀m β m' β',Yo m β m' β'->m'=m/\∀i j,f i=some j->β' j=β i
theorem ro{Yo:Hy}{f:Nat->Option Nat}(hY:uk Yo f){n:Nat}{v v':V}(h:pe f n v=some v'):ai Yo v' v:=fun m β m' β' x hy hx=>by
 obtain⟨rfl,hf⟩:=hY _ _ _ _ hy
 grind [FG]
theorem ym{Yo:Hy}{f:Nat->Option Nat}(hY:uk Yo f){n:Nat}{v v':V}(h:pe f n v=some v'):jb Yo v' v:=.sub (ro hY h) (FH h)
theorem FI{f:Nat->Option Nat}:∀{l r:List (List V)},Nc f l=some r->r.length=l.length/\∀(i:Nat) c c',l[i]? = some c->r[i]? = some c'->Ah (pe f 12) c=some c'
 |[],r,h=>by simp_all[Nc]
 |x::l,r,h=>by
  simp only[Nc] at h;split at h
  ·rename_i y hy;split at h
   ·rename_i q hq;simp at h;subst h;obtain⟨h1,h2⟩:=FI hq;refine⟨by simp[h1],fun i c c' a b=>?_⟩;cases i with
    |zero=>simp at a b;subst a;subst b;exact hy
    |succ i=>exact h2 i c c' (by simpa using a) (by simpa using b)
   ·simp at h
  ·simp at h
theorem FJ{f:Nat->Option Nat}:∀{l r:List (Value×V)},Nd f l=some r->r.length=l.length/\∀(i:Nat) c c',l[i]? = some c->r[i]? = some c'->c'.1=c.1/\pe f 12 c.2=some c'.2
 |[],r,h=>by simp_all[Nd]
 |(k,x)::l,r,h=>by
  simp only[Nd] at h;split at h
  ·rename_i y hy;split at h
   ·rename_i q hq;simp at h;subst h;obtain⟨h1,h2⟩:=FJ hq;refine⟨by simp[h1],fun i c c' a b=>?_⟩;cases i with
    |zero=>simp at a b;subst a;subst b;exact⟨Y,hy⟩
    |succ i=>exact h2 i c c' (by simpa using a) (by simpa using b)
   ·simp at h
  ·simp at h
theorem BF{Yo:Hy}{f:Nat->Option Nat}(hY:uk Yo f){ob ob':Ob}(h:Ib f ob=some ob'):ag Yo ob' ob:=by
 cases ob with
 |dead=>simp[Ib] at h;subst h;trivial
 |res=>simp[Ib] at h
 |iter c l=>simp[Ib] at h
 |bld T e l=>simp[Ib] at h
 |arr e k rows=>
  simp only[Ib] at h;split at h
  ·rename_i r hr;simp at h;subst h;obtain⟨h1,h2⟩:=FI hr;refine⟨Y,Y,h1,fun i r' r0 a b=>?_⟩
   grind [Af,ym]
  grind
 |map es=>
  simp only[Ib] at h;split at h
  ·rename_i r hr;simp at h;subst h;obtain⟨h1,h2⟩:=FJ hr;refine⟨h1,fun i p p' a b=>?_⟩
   grind [ym]
  grind
theorem yn{Yo:Hy}{f:Nat->Option Nat}(hY:uk Yo f){n:Nat}:∀{l r:List V},Ah (pe f n) l=some r->ia Yo r l
 |[],r,h=>by simp[Ah] at h;subst h;exact .nil
 |x::l,r,h=>by
  simp only[Ah] at h;split at h
  ·rename_i y hy;split at h
   ·rename_i q hq;simp at h;subst h;exact .cons (ro hY hy) (yn hY hq)
   ·simp at h
  ·simp at h
def Ar(f:V->List Nat):List V->List Nat
 |[]=>[]
 |x::l=>f x++Ar f l
def yy:Nat->V->List Nat
 |0,_=>[]
 |n+1,v=>(match v with
  | .agg cs=>Ar (yy n) cs
  | .tup cs=>Ar (yy n) cs
  | .fn _ a b=>Ar (yy n) a++Ar (yy n) b
  | .ptr id _ _ _=>[id]
  | .own id _=>[id]
  | .map id=>[id]
  |_=>[])
def Nm:List (List V)->List Nat
 |[]=>[]
 |r::l=>Ar (yy 12) r++Nm l
def No:List (Value×V)->List Nat
 |[]=>[]
 |p::l=>yy 12 p.2++No l
def Nn:Ob->List Nat
 | .arr _ _ rows=>Nm rows
 | .map es=>No es
 |_=>[]
def vW(hp:aC):Nat->List Nat->List Nat->Option (List Nat)
 |0,_,_=>none
 |n+1,l,acc=>(match l with
  |[]=>some acc
  |i::l=>(match uO i acc with
   |false=>vW hp n l acc
   |true=>vW hp n (Nn (ak hp i)++l) (acc++[i])))
def t6:List Nat->Nat->Nat->Option Nat
 |[],_,_=>none
 |x::l,j,i=>bif Nat.beq x i then some j else t6 l (j+1) i
theorem wA:∀{l:List Nat} {j i r:Nat},t6 l j i=some r->∃q,r=j+q/\lH l q=some i
 |x::l,j,i,r,h=>by
  simp only[t6] at h;cases hb:Nat.beq x i with
  |true=>rw[hb] at h;simp at h;exact⟨0,h.symm,by rw[ci9 hb];rfl⟩
  |false=>
   rw[hb] at h;simp at h;obtain⟨q,h1,h2⟩:=wA h;exact⟨q+1,by omega,h2⟩
 |[],j,i,r,h=>by simp[t6] at h
def Iq(f:Nat->Option Nat)(hp:aC):Nat->List Nat->Option (aC×aC)
 |_,[]=>some ([],[])
 |j,i::l=>(match Ib f (ak hp i) with
  |some ob=>(match Iq f hp (j+1) l with|some (h,r)=>some ((j,ob)::h,(i,ak hp i)::r)|none=>none)
  |none=>none)
theorem Aq{Yo:Hy}{f:Nat->Option Nat}(hY:uk Yo f){hp hpS:aC}{R0:List Nat}:∀{l:List Nat} {j:Nat} {h r:aC},(∀q i,lH l q=some i->lH R0 (j+q)=some i)->Iq f hp j l=some (h,r)->lp hpS r->
  bJ Yo R0.length (sg R0) hpS h
 |[],j,h,r,hR,hh,hr=>by simp[Iq] at hh;obtain⟨rfl,rfl⟩:=hh;exact .nil
 |i::l,j,h,r,hR,hh,hr=>by
  simp only[Iq] at hh;split at hh
  ·rename_i ob ho;split at hh
   ·rename_i h' r' hq;simp at hh;obtain⟨rfl,rfl⟩:=hh;have h0:=hR 0 i rfl;obtain⟨a1,a2⟩:=kg h0;simp only[bg8] at a1 a2;refine .cons a1 ?_ (Aq hY (fun q i' hq'=>by have:=hR (q+1) i' hq';grind) hq hr.2);rw[a2,hr.1];exact BF hY ho
   grind
  grind
theorem Ap{f:Nat->Option Nat}{hp:aC}:∀{l:List Nat} {j:Nat} {h r:aC},Iq f hp j l=some (h,r)->lp hp r
 |[],j,h,r,hh=>by simp[Iq] at hh;obtain⟨rfl,rfl⟩:=hh;trivial
 |i::l,j,h,r,hh=>by
  simp only[Iq] at hh;split at hh
  ·split at hh
   ·rename_i h' r' hq;simp at hh;obtain⟨rfl,rfl⟩:=hh;exact⟨Y,Ap hq⟩
   ·simp at hh
  ·simp at hh
def E6(f:Nat->Option Nat)(hp':aC):Nat->List Nat->Option aC
 |_,[]=>some []
 |j,i::l=>(match Ib f (ak hp' j) with
  |some ob=>(match E6 f hp' (j+1) l with|some u=>some ((i,ob)::u)|none=>none)
  |none=>none)
theorem By{Yo:Hy}{f:Nat->Option Nat}(hY:uk Yo f){hp':aC}{R0:List Nat}:∀{l:List Nat} {j:Nat} {u:aC},(∀q i,lH l q=some i->lH R0 (j+q)=some i)->j+l.length=R0.length->E6 f hp' j l=some u->kS Yo (sg R0) hp' R0.length j u
 |[],j,u,hR,hl,h=>by simp[E6] at h;subst h;simp at hl;subst hl;exact .nil
 |i::l,j,u,hR,hl,h=>by
  simp only[E6] at h;split at h
  ·rename_i ob ho;split at h
   ·rename_i u' hu;simp at h;subst h;have h0:=hR 0 i rfl;obtain⟨a1,a2⟩:=kg h0;simp only[bg8] at a1 a2;exact .cons a2 (BF hY ho) (By hY (fun q i' hq'=>by have:=hR (q+1) i' hq';grind) (by grind) hu)
   grind
  grind
def ly(fr:Nat):Nat->List Nat
 |0=>[]
 |n+1=>fr::ly (fr+1) n
def EZ:List Nat->aC->Bool
 |[],_=>true
 |i::l,hp=>(match pz hp i with|some .res=>EZ l hp|_=>false)
def H2(l:List Nat):aC:=l.map fun i=>(i,.res)
theorem vU:∀{l:List Nat} {hp:aC},EZ l hp=true->lp hp (H2 l)
 |[],hp,_=>trivial
 |i::l,hp,h=>by
  simp only[EZ] at h;split at h
  ·rename_i ho;exact⟨fJ ho,vU h⟩
  ·simp at h
theorem ov{hp:aC}:∀{a b:aC},lp hp (a++b)<->lp hp a/\lp hp b
 |[],b=>by simp[lp]
 |(i,o)::a,b=>by
  simp_all[ov,lp,and_assoc]
theorem vV:∀{l:List Nat} {hp:aC},lp hp (H2 l)->∀i,i∈l->ak hp i=.res
 |[],_,_,i,hi=>by simp at hi
 |j::l,hp,h,i,hi=>by
  rcases as9.1 hi with rfl|hi
  ·exact h.1
  ·exact vV (l:=l) h.2 i hi
theorem rX:∀{n fr i:Nat},i∈ly fr n<->fr<=i/\i<fr+n
 |0,fr,i=>by simp[ly]
 |n+1,fr,i=>by simp only[ly,as9,rX (n:=n)];omega
theorem Ak{R:List Nat}{j i:Nat}(h:lH R j=some i):sg R j=i/\j<R.length:=by
 obtain⟨a,b⟩:=kg h<;>simp_all
def Pp(cb:Nat->List V->aC->Nat->Option (V×aC×Nat))(f:Nat)(avs:List V)(hp:aC)(fr nx:Nat):Option (V×aC×aC×Nat):=
 match vW hp 2000 (Ar (yy 12) avs) [] with
 |some R=>(match Ah (pe (t6 R 0) 12) avs with
  |some avs'=>(match Iq (t6 R 0) hp 0 R with
   |some (hpc,rh)=>(match cb f avs' hpc R.length with
    |some (dc,hp',k')=>
     let nw:=ly fr (k' - R.length)
     let ρ:=R++nw
     (match Nat.ble R.length k'&&EZ nw hp&&Cv R.length k' nx nx (sg R) (sg ρ) (fun i=>Nat.ble fr i&&Nat.blt i (fr+(k' - R.length)))&&qG k' (sg ρ) with
     |true=>(match pe (lH ρ) 12 dc with
      |some dv=>(match E6 (lH ρ) hp' 0 ρ with
       |some u=>some (dv,rh++H2 nw,u,fr+(k' - R.length))
       |none=>none)
      |none=>none)
     |false=>none)
    |none=>none)
   |none=>none)
  |none=>none)
 |none=>none
theorem LG{cb:Nat->List V->aC->Nat->Option (V×aC×Nat)}(hcb:∀f avs hp k v hp' k',cb f avs hp k=some (v,hp',k')->cE K.P f=true/\fV K.gl K.P f avs k hp v k' hp'){f:Nat}{avs:List V}{hp rh u:aC}{fr fr' nx d:Nat}{dv:V}
  (h:Pp cb f avs hp fr nx=some (dv,rh,u,fr')) (hpin:K.pins<=fr) (ht:cK K.P t) {o:Oper} {e:cc} (hc:NJ t e o.op=some (f,avs)) (hdst:o.dst=some d) (hN:Nat.blt d K.N=true):
  lp hp rh/\fr<=fr'/\∀S,S.nx=nx->Ag e S->lp S.hp rh->aN ops S o true->ay K ops rest Q ⟨(d,dv)::S.env,u++S.hp,S.nx⟩->ay K ops (o::rest) Q S:=by
 unfold Pp at h;split at h
 ·rename_i R hR;split at h
  ·rename_i avs' ha;split at h
   ·rename_i hpc rh0 hin;split at h
    ·rename_i dc hp' k' hcall;obtain⟨q1,q2⟩:=hcb _ _ _ _ _ _ _ hcall;simp only at h;split at h
     ·rename_i hb;simp only[aq9] at hb;obtain⟨⟨⟨b1,b2⟩,b3⟩,b4⟩:=hb;have b1':=ax8 b1;split at h
      ·rename_i dv' hdv;split at h
       ·rename_i u' hu;simp only[ax9,Prod.mk.injEq] at h;obtain⟨rfl,rfl,rfl,rfl⟩:=h
        have hl:(R++ly fr (k' - R.length)).length=k':=by
         have:∀n fr,(ly fr n).length=n:=by intro n;induction n with|zero=>intro _;rfl|succ n ih=>simp_all[ly]
         simp[this];omega
        have hYR:uk (Ren R.length (sg R)) (t6 R 0):=by
         rintro m β m' β' ⟨rfl,hy⟩
         refine⟨Y,fun i j hij=>?_⟩;obtain⟨q,e1,e2⟩:=wA hij;obtain⟨s1,s2⟩:=Ak e2
         grind
        have hYT:uk (To k' (sg (R++ly fr (k' - R.length)))) (lH (R++ly fr (k' - R.length))):=by
         rintro m β m' β' ⟨rfl,hy⟩
         refine⟨Y,fun i j hij=>?_⟩;obtain⟨s1,s2⟩:=Ak hij
         grind
        refine⟨ov.2 ⟨Ap hin,vU b2⟩,be8 _ _,fun S hn hag hrd hw kk=>?_⟩;obtain⟨r1,r2⟩:=ov.1 hrd
        have hun:kS (To k' (sg (R++ly fr (k' - R.length)))) (sg (R++ly fr (k' - R.length))) hp' k' 0 u':=by
         have:=By (R0:=R++ly fr (k' - R.length)) hYT (j:=0) (fun q i h=>by grind) (by simp) hu;rw[hl] at this;exact this
        refine gH (sg R) (sg (R++ly fr (k' - R.length))) S.nx u' _ hw hdst hN (oN ht hag hc q1) (yn hYR ha) (bJ.get (Aq hYR (fun q i h=>by grind) hin r1)) q2 (fun i hi=>?_) (by rw[hn];exact b3) b4
         (cj9 (ae9 _)) b1 (fun i hi=>?_) (ro hYT hdv) hun kk
        ·simp only[aq9] at hi;exact vV r2 i (rX.2 ⟨ax8 hi.1,ax8 hi.2⟩)
        ·simp only[aq9] at hi;exact bw9 hpin (ax8 hi.1)
       grind
      grind
     grind
    grind
   grind
  grind
 grind
def MG(nx:Nat):aC->aC
 |[]=>[]
 |(i,o)::l=>bif Nat.blt i nx then (i,o)::MG nx l else MG nx l
def z7(hp:aC):Nat->Nat->aC->aC
 |_,0,r=>r
 |i,n+1,r=>(match ak hp i with | .res=>z7 hp (i+1) n r | .dead=>z7 hp (i+1) n r|o=>(i,o)::z7 hp (i+1) n r)
def BY(nx n:Nat)(hp:aC):aC:=z7 hp nx n (MG nx hp)
theorem IR(i n:Nat){α:Type}(a b:α):(bif Nat.blt i n then a else b)=if i<n then a else b:=by
 simp_all
theorem FN(nx:Nat):∀(l:aC) (t:Nat),ak (MG nx l) t=if t<nx then ak l t else .dead
 |[],t=>by simp[MG,ak]
 |(i,o)::l,t=>by
  have ih:=FN nx l t;simp only[MG,IR];split
  ·rename_i h;rw[av,av,ih]
   grind
  ·rename_i h;rw[ih,av]
   grind
theorem Bx(hp:aC):∀(n i:Nat) (r:aC) (t:Nat),ak (z7 hp i n r) t=ak r t\/(i<=t/\ak (z7 hp i n r) t=ak hp t)
 |0,i,r,t=>.inl rfl
 |n+1,i,r,t=>by
  have ih:=Bx hp n (i+1) r t;simp only[z7];split
  ·grind
  ·grind
  ·rw[av]
   grind
theorem Gu(nx n:Nat)(hp:aC)(t:Nat):ak (BY nx n hp) t=ak hp t\/ak (BY nx n hp) t=.dead:=by
 grind [BY,Bx,FN]
theorem bX.less{m:bB}{β:ba}{w:World}{a:Act}(r:bX K m β w a S){hp:aC}(h:∀t,ak hp t=ak S.hp t\/ak hp t=.dead):bX K m β w a ⟨S.env,hp,S.nx⟩:=by
 have hl:∀i,ak hp i≠.dead->ak S.hp i≠.dead:=fun i hi=>by grind
 constructor
 ·exact r.imm
 ·exact r.ext
 ·exact r.mold
 ·exact r.frame
 ·exact r.size
 ·exact r.same
 ·exact r.tn
 ·exact r.df
 ·exact r.env
 ·intro id
  show bn m β w _ _ (ak hp id)
  rcases h id with e|e
  ·rw[e];exact r.own id
  simp_all[bn.dead']
 ·exact fun id b cap hi=>r.priv id b cap (hl id hi)
 ·exact fun id id' b cap cap' hi hi'=>r.inj id id' b cap cap' (hl id hi) (hl id' hi')
 ·exact fun id x hi hx=>(r.hid id x (hl id hi) hx).weak hl
 ·exact r.nx
 ·exact r.pin
theorem Ax{e:cc}{hp hp':aC}{nx:Nat}(h:∀t,ak hp' t=ak hp t\/ak hp' t=.dead):aY K ⟨e,hp,nx⟩ ⟨e,hp',nx⟩:=fun m β _ _ r=>⟨m,β,r.less h⟩
end
end Go.Pv
