/- Part of the proof. -/
import Derived.Test.YtelmfadihfcgnaaGreatDoorGEV
set_option linter.unusedSimpArgs false
set_option linter.unusedVariables false
namespace Go.Pv
open Go
section
variable{K:cS}{Q:bX}{S S':St}{ops:Array Oper}{rest:List Oper}{t:TT}
def ug:bY->bY->bY
 |[],e=>e
 |(i,o)::u,e=>rI i o (ug u e)
theorem pn:∀(u e:bY) (t:Nat),get (ug u e) t=get (u++e) t
 |[],e,t=>rfl
 |(i,o)::u,e,t=>by
  show get (rI i o (ug u e)) t=get ((i,o)::(u++e)) t
  rw[lI,ci,ci,pn u e]
def pQ:aD->aD->aD
 |[],hp=>hp
 |(i,o)::u,hp=>qj i o (pQ u hp)
theorem kh:∀(u hp:aD) (t:Nat),ao (pQ u hp) t=ao (u++hp) t
 |[],hp,t=>rfl
 |(i,o)::u,hp,t=>by
  show ao (qj i o (pQ u hp)) t=ao ((i,o)::(u++hp)) t
  rw[mF,av,av,kh u hp]
def oS(f:V->Bool):List V->Bool
 |[]=>true
 |x::l=>bif f x then oS f l else false
def r9:Nat->V->Bool
 |0,_=>false
 |n+1,v=>(match v with
  | .con _=>true
  | .agg cs=>oS (r9 n) cs
  | .tup cs=>oS (r9 n) cs
  | .fn _ a b=>oS (r9 n) a&&oS (r9 n) b
  |_=>false)
theorem ku{f:V->Bool}:∀{l:List V},oS f l=true->∀x,x∈l->f x=true
 |[],_,x,hx=>by simp at hx
 |y::l,h,x,hx=>by
  simp only[oS] at h;cases hb:f y with
  |true=>
   rw[hb] at h;simp at h;rcases aq8.1 hx with rfl|hx
   ·exact hb
   ·exact ku h x hx
  |false=>rw[hb] at h;simp at h
theorem kg:∀{n:Nat} {v:V},r9 n v=true->∀{m:bA} {β:aZ} {x:Value},bn m β v x->bT m v x
 |0,v,h=>by simp[r9] at h
 |n+1,v,h=>by
  intro hv;cases hv with
  |imm h=>exact h
  |agg hl hh=>
   simp only[r9] at h;exact .agg hl fun i c v a b=>kg (ku h c (aw8 a)) (hh i c v a b)
  |tup hl hh=>
   simp only[r9] at h;exact .tup hl fun i c v a b=>kg (ku h c (aw8 a)) (hh i c v a b)
  |fn hl hl' h1 h2=>
   simp only[r9,ap9] at h;exact .fn hl hl' (fun i c v a b=>kg (ku h.1 c (aw8 a)) (h1 i c v a b)) (fun i c v a b=>kg (ku h.2 c (aw8 a)) (h2 i c v a b))
  |_=>simp[r9] at h
def FH(v:V):Bool:=r9 12 v
theorem xR{gl:Gl}{P:Program}{f:FuncId}{avs:List V}{v:V}{k':Nat}{hp':aD}(h:g9 gl P f avs 0 [] v k' hp')(hv:FH v=true):dX gl P f avs v:=by
 intro m w vs himm hgl hargs
 let β:aZ:=⟨fun _=>none,fun _ _=>False⟩
 refine(h m β w vs himm hgl ⟨hargs.len,fun i c v a b=>.imm (hargs.at' i c v a b)⟩ (fun id=>trivial) (fun id b cap hl=>absurd Y hl) (fun id id' b cap cap' hl=>absurd Y hl) (fun id x hl=>absurd Y hl) (fun _ _=>Y)).mono ?_
 rintro e w' ⟨x,m',β',rfl,hx,g⟩
 have hF:∀b,di [] β b:=fun b id hl=>absurd rfl hl;exact⟨x,m',Y,kg hv hx,g.le,g.imm,fun b hb=>(g.old b hb (hF b)).1,fun b hb=>(g.old b hb (hF b)).2,g.size,g.same⟩
def OB:Op->List Operand
 | .slice _ x lo hi _=>x::(lo.toList++hi.toList)
 | .lookup _ x y _=>[x,y]
 | .mapUpdate _ x y z=>[x,y,z]
 | .insert _ x y z=>[x,y,z]
 | .buildSlice _ _ ps=>ps.toList.map (·.2)
 | .makeSlice _ x _=>[x]
 | .box _ x=>[x]
 | .makeFunc _ fs cs=>fs.toList++cs.toList
 | .makeInterface _ x=>[x]
 | .call c=>(match c.callee with | .invoke r _=>r::c.args.toList|_=>OC (.call c))
 |op=>OC op
def KH(ops:Array Oper)(o:Oper)(e:bY):Option bY:=match grd ops o (N4 (OB o.op)) with|some l=>Mg e l|none=>none
theorem HF{o:Oper}{e re:bY}(h:KH ops o e=some re):sY e re:=by
 grind [KH,zA]
def OI(e:bY)(hp:aD)(x:Operand)(l:aD):Option aD:=
 match eu e x with
 |some (.ptr id _ _ _)=>(match pk hp id with|some ob=>some ((id,ob)::l)|none=>none)
 |some (.own id _)=>(match pk hp id with|some ob=>some ((id,ob)::l)|none=>none)
 |some (.map id)=>(match pk hp id with|some ob=>some ((id,ob)::l)|none=>none)
 |some _=>some l
 |none=>none
theorem KX{e:bY}{hp l rh:aD}{x:Operand}(hl:kY hp l)(h:OI e hp x l=some rh):kY hp rh:=by
 unfold OI at h;split at h
 ·split at h
  ·rename_i ho;simp at h;subst h;exact⟨fI ho,hl⟩
  grind
 ·split at h
  ·rename_i ho;simp at h;subst h;exact⟨fI ho,hl⟩
  grind
 ·split at h
  ·rename_i ho;simp at h;subst h;exact⟨fI ho,hl⟩
  grind
 ·grind
 grind
def MU(e:bY)(hp:aD):List Operand->aD->Option aD
 |[],l=>some l
 |x::xs,l=>match OI e hp x l with|some l=>MU e hp xs l|none=>none
theorem FK{e:bY}{hp rh:aD}:∀{xs:List Operand} {l:aD},kY hp l->MU e hp xs l=some rh->kY hp rh
 |[],l,hl,h=>by simp_all[MU]
 |x::xs,l,hl,h=>by
  simp only[MU] at h;split at h
  ·rename_i q hq;exact FK (KX hl hq) h
  ·simp at h
def hrO:Op->List Operand
 | .load _ x=>[x]
 | .store _ x _=>[x]
 | .lookup _ x _ _=>[x]
 | .slice _ x _ _ _=>[x]
 | .mapUpdate _ x _ _=>[x]
 | .insert _ x _ _=>[x]
 | .call c=>(match c.callee with | .builtin .append=>c.args.toList|_=>[])
 |_=>[]
def JL(t:TT)(e:bY)(id:Nat):Op->Option (V×Ob)
 | .alloc T=>(match dq t T TF.qZ with
  |some (n,zs)=>some (.ptr id n 0 0,.arr T n [zs.map .con])
  |none=>none)
 | .box T x=>(match dq t T TF.qS with
  |some n=>(match eu e x with
   |some v=>(match J1 v with
    |some cs=>(match fU n cs&&yL cs with|true=>some (.ptr id n 0 0,.arr T n [cs])|false=>none)
    |none=>none)
   |none=>none)
  |none=>none)
 | .makeMap _ r=>(match r with|none=>some (.map id,.map [])|some _=>none)
 | .buildSlice T n parts=>(match dq t T TF.qEl with
  |some (ety,k,_)=>(match n with
   |0=>(match parts.toList with|[]=>some (.own id 0,.arr ety k [])|_=>none)
   |n'+1=>(match dq t ety TF.qZ with
    |some (_,zs)=>(match JI e parts.toList with
     |some ps=>(match i8 (fun i=>some (i*k,k)) (((List.range ((n'+1)*k)).map fun i=>zs.getD (i % k) undef).map .con) ps with
      |some cs=>(match Nat.beq cs.length ((n'+1)*k)&&rowsK k (wv k (n'+1) cs)&&Nat.blt 0 k&&Nat.ble ((n'+1)*k) 16777216 with
       |true=>some (.own id (n'+1),.arr ety k (wv k (n'+1) cs))
       |false=>none)
      |none=>none)
     |none=>none)
    |none=>none))
  |none=>none)
 | .makeSlice T x y=>(match dq t T TF.qEl with
  |some (ety,k,bytes)=>(match dq t ety TF.qZ with
   |some (_,zs)=>(match x,y with
    | .tmp a,.tmp b=>(match Nat.beq a b,eu e x with
     |true,some (.con (.int .i64 n))=>(match n with
      | .ofNat j=>(match Nat.ble (bytes*j) 140737488355328&&Nat.ble j 140737488355328&&Nat.blt 0 k with
       |true=>some (.own id j,.arr ety k (List.replicate j (zs.map .con)))
       |false=>none)
      |_=>none)
     |_,_=>none)
    |_,_=>none)
   |none=>none)
  |none=>none)
 |_=>none
theorem Lr{op:Op}{ty:TypeId}{pos:String}{after:Array Edge}{g:Option (Nat×Bool)}(ht:cK K.P t){d id nx:Nat}{e:bY}{v:V}{ob:Ob}(ha:Ag e S)(h:JL t e id op=some (v,ob))(hid:(Nat.blt id nx&&Nat.ble K.pins id)=true)(hnx:S.nx=nx)(hres:ao S.hp id=.res)
  (hw:aT ops S ⟨some d,op,ty,pos,after,g⟩ true) (hN:Nat.blt d K.N=true) (k:ax K ops rest Q ⟨(d,v)::S.env,(id,ob)::S.hp,S.nx⟩):ax K ops (⟨some d,op,ty,pos,after,g⟩::rest) Q S:=by
 cases op with
 |alloc T=>
  simp only[JL] at h;split at h
  ·rename_i n zs hz;obtain⟨z1,z2,z3⟩:=wA ht hz<;>grind [js]
  grind
 |box T x=>
  simp only[JL] at h;split at h
  ·split at h
   ·rename_i hv;split at h
    ·rename_i cs hc;split at h
     ·rename_i hb;simp only[ap9] at hb;have hl:=el hb.1;subst hl;simp only[av8,Prod.mk.injEq] at h;obtain⟨rfl,rfl⟩:=h;exact qb id hid hnx hres cs hw (aU ha hv) (rp hc) (mN hb.2) hN k
     grind
    grind
   grind
  grind
 |makeMap T r=>
  simp only[JL] at h
  grind [qu]
 |buildSlice T n parts=>
  simp only[JL] at h;split at h
  ·rename_i ety kk bytes hT;split at h
   ·split at h
    ·rename_i hp0;have:=rA hp0;subst this;simp only[av8,Prod.mk.injEq] at h;obtain⟨rfl,rfl⟩:=h;exact nH id hid hnx hres (kO ht hT) hw hN k
    grind
   ·rename_i n';split at h
    ·rename_i zs hz;split at h
     ·rename_i ps hps;split at h
      ·rename_i cs hcs;split at h
       ·rename_i hb;simp only[ap9] at hb;have e1:=cg9 hb.1.1.1;obtain⟨z1,z2,z3⟩:=wA ht hz;simp only[av8,Prod.mk.injEq] at h;obtain⟨rfl,rfl⟩:=h;exact nI id hid hnx hres ps _ (kO ht hT) z1 hw z3 hb.1.2 Y hb.2 (sC ha hps) (by simp_all[pp]) (sK _ _) (rF hb.1.1.2) hN k
       grind
      grind
     grind
    grind
  grind
 |makeSlice T x y=>
  simp only[JL] at h;split at h
  ·rename_i ety kk bytes hT;split at h
   ·rename_i zs hz;split at h
    ·rename_i a b;split at h
     ·rename_i n hab hx;have hab:=cg9 hab;subst hab;split at h
      ·rename_i j;split at h
       ·rename_i hb;simp only[ap9] at hb;obtain⟨z1,z2,z3⟩:=wA ht hz;simp only[av8,Prod.mk.injEq] at h;obtain⟨rfl,rfl⟩:=h;have b1:=aw9 hb.1.1;have b2:=aw9 hb.1.2;have c1:((bytes*j:Nat):Int)<=((140737488355328:Nat):Int):=Int.ofNat_le.2 b1;have c2:((j:Nat):Int)<=((140737488355328:Nat):Int):=Int.ofNat_le.2 b2;rw[Int.natCast_mul] at c1;exact oL id hid hnx hres _ (kO ht hT) z1 z3 hb.2 ⟨Int.natCast_nonneg j,c1,c2⟩ Y Y hw (aU ha hx) hN k
       grind
      grind
     grind
    grind
   grind
  grind
 |_=>simp[JL] at h
def N0(mt:List MT)(e:bY)(hp:aD)(T:TypeId)(x y z:Operand):Option (Nat×Ob):=
 match Mi mt T with
 |some p=>(match eu e x with
  |some (.map id)=>(match pk hp id with
   |some (.map es)=>(match eu e y with
    |some (.con kv)=>(match uM p.txt p.ik kv&&GC p.txt p.ik es with
     |true=>(match eu e z with
      |some v=>(match xJ kv v es with|some es'=>some (id,.map es')|none=>none)
      |none=>none)
     |false=>none)
    |_=>none)
   |_=>none)
  |_=>none)
 |none=>none
theorem Dq{op:Op}{T:TypeId}{x y z:Operand}(hop:op=.mapUpdate T x y z\/op=.insert T x y z){ty:TypeId}{pos:String}{after:Array Edge}{g:Option (Nat×Bool)}{mt:List MT}(hmt:s9 K.P mt){e:bY}{hp:aD}{id:Nat}{ob:Ob}(ha:Ag e S)(hh:G6 hp S)(h:N0 mt e hp T x y z=some (id,ob))(hw:aT ops S ⟨none,op,ty,pos,after,g⟩ true)
  (k:ax K ops rest Q ⟨S.env,(id,ob)::S.hp,S.nx⟩):ax K ops (⟨none,op,ty,pos,after,g⟩::rest) Q S:=by
 unfold N0 at h;split at h
 ·rename_i p hp0;obtain⟨hm,hTe⟩:=zM hmt hp0;subst hTe;split at h
  ·rename_i id hx;split at h
   ·rename_i es ho;split at h
    ·rename_i kv hy;split at h
     ·rename_i hb;simp only[ap9] at hb;split at h
      ·rename_i v hz;split at h
       ·rename_i es' hp';simp only[av8,Prod.mk.injEq] at h;obtain⟨rfl,rfl⟩:=h;exact pZ hop es' hm.h1 hm.h2 hw (aU ha hx) (hh _ _ ho) (.con (aU ha hy)) (ot hb.1) (qY hb.2) (aU ha hz) (xI hp') k
       grind
      grind
     grind
    grind
   grind
  grind
 grind
def NZ(t:TT)(mt:List MT)(e:bY)(hp:aD)(op:Op):Option (Nat×Ob):=
 match op with
 | .mapUpdate T x y z=>N0 mt e hp T x y z
 | .insert T x y z=>N0 mt e hp T x y z
 |op=>Ky t e hp op
theorem Dp{op:Op}{ty:TypeId}{pos:String}{after:Array Edge}{g:Option (Nat×Bool)}(ht:cK K.P t){mt:List MT}(hmt:s9 K.P mt){e:bY}{hp:aD}{id:Nat}{ob:Ob}(ha:Ag e S)(hh:G6 hp S)(h:NZ t mt e hp op=some (id,ob))(hw:aT ops S ⟨none,op,ty,pos,after,g⟩ true)
  (k:ax K ops rest Q ⟨S.env,(id,ob)::S.hp,S.nx⟩):ax K ops (⟨none,op,ty,pos,after,g⟩::rest) Q S:=by
 unfold NZ at h;split at h
 ·grind [Dq]
 ·exact Dq (.inr Y) hmt ha hh h hw k
 grind [Hw]
theorem Gd{e:bY}(ha:Ag e S){o:Oper}{f:Nat}{avs:List V}(h:Li e o.op=some (f,avs))(hf:cM K.P f=true):
  ∀m β w a,bQ K m β w a S->∃vs:Array Value,(execOp a.eval o).run K.P w=.ok (.enter f vs) w/\kR m β avs vs:=by
 obtain⟨dst,op,ty',pos,after,g⟩:=o;cases op<;>simp_all[Li];rename_i c;obtain⟨callee,args,at'⟩:=c;simp only at h;split at h
 ·rename_i x;split at h
  ·rename_i first caps hx
   split at h
   ·split at h
    ·rename_i vs hv;split at h
     ·rename_i q hq;simp only[av8,Prod.mk.injEq] at h;obtain⟨rfl,rfl⟩:=h;have hq:=jo hq;have hv:=sD (K:=K) ha hv;exact rV hf (aU ha hx) (by grind)
     grind
    grind
   grind
  grind
 grind
def Nb(t:TT)(e:bY)(op:Op):Option (Nat×List V):=match Li e op with|some r=>some r|none=>OS t e op
theorem oG(ht:cK K.P t){e:bY}(ha:Ag e S){o:Oper}{f:Nat}{avs:List V}(h:Nb t e o.op=some (f,avs))(hf:cM K.P f=true):
  ∀m β w a,bQ K m β w a S->∃vs:Array Value,(execOp a.eval o).run K.P w=.ok (.enter f vs) w/\kR m β avs vs:=by
 grind [Nb,Gd,Gc]
end
section
variable{K:cS}{Q:bX}{S S':St}{ops:Array Oper}{rest:List Oper}{t:TT}
def zO(f:V->Option V):List V->Option (List V)
 |[]=>some []
 |x::l=>(match f x with|some y=>(match zO f l with|some r=>some (y::r)|none=>none)|none=>none)
def oX(f:Nat->Option Nat):Nat->V->Option V
 |0,_=>none
 |n+1,v=>(match v with
  | .con v=>some (.con v)
  | .agg cs=>(match zO (oX f n) cs with|some r=>some (.agg r)|none=>none)
  | .tup cs=>(match zO (oX f n) cs with|some r=>some (.tup r)|none=>none)
  | .fn g a b=>(match zO (oX f n) a,zO (oX f n) b with|some r,some q=>some (.fn g r q)|_,_=>none)
  | .ptr id k i o=>(match f id with|some j=>some (.ptr j k i o)|none=>none)
  | .own id l=>(match f id with|some j=>some (.own j l)|none=>none)
  | .map id=>(match f id with|some j=>some (.map j)|none=>none)
  |_=>none)
theorem zN{f:V->Option V}:∀{l r:List V},zO f l=some r->r.length=l.length/\∀(i:Nat) c c',l[i]? = some c->r[i]? = some c'->f c=some c'
 |[],r,h=>by simp_all[zO]
 |x::l,r,h=>by
  simp only[zO] at h;split at h
  ·rename_i y hy;split at h
   ·rename_i q hq;simp at h;subst h;obtain⟨h1,h2⟩:=zN hq;refine⟨by simp[h1],fun i c c' a b=>?_⟩;cases i with
    |zero=>simp at a b;subst a;subst b;exact hy
    |succ i=>exact h2 i c c' (by simpa using a) (by simpa using b)
   ·simp at h
  ·simp at h
theorem Fi{f:Nat->Option Nat}{m:bA}{β β':aZ}(hf:∀i j,f i=some j->β' j=β i):∀{n:Nat} {v v':V} {x:Value},oX f n v=some v'->bn m β v x->bn m β' v' x
 |0,v,v',x,h=>by simp[oX] at h
 |n+1,v,v',x,h=>by
  intro hv
  have lst:∀{cs r:List V} {vs:Array Value},zO (oX f n) cs=some r->cs.length=vs.size->(∀(i:Nat) c v,cs[i]? = some c->vs[i]? = some v->bn m β c v)->r.length=vs.size/\∀(i:Nat) c v,r[i]? = some c->vs[i]? = some v->bn m β' c v:=by
   intro cs r vs hr hl hh;obtain⟨a1,a2⟩:=zN hr;refine⟨a1.trans hl,fun i c v hc hx=>?_⟩;have hi:i<cs.length:=by rw[<-a1];exact(bb8.1 hc).1
   exact Fi hf (a2 i _ _ (ax8 hi) hc) (hh i _ v (ax8 hi) hx)
  cases v with
  |con c=>simp[oX] at h;subst h;rw[hv.of_con];exact .imm (.con _)
  |agg cs=>
   simp only[oX] at h;split at h
   ·rename_i r hr;simp at h;subst h;obtain⟨vs,rfl,h2,h3⟩:=q8 hv;obtain⟨b1,b2⟩:=lst hr h2 h3;exact .agg b1 b2
   ·simp at h
  |tup cs=>
   simp only[oX] at h;split at h
   ·rename_i r hr;simp at h;subst h;cases hv with
    |imm hv=>cases hv with|tup hl hh=>obtain⟨b1,b2⟩:=lst hr hl (fun i c v a b=>.imm (hh i c v a b));exact .tup b1 b2
    |tup hl hh=>obtain⟨b1,b2⟩:=lst hr hl hh;exact .tup b1 b2
   ·simp at h
  |fn g a b=>
   simp only[oX] at h;split at h
   ·rename_i r q hr hq;simp at h;subst h;cases hv with
    |imm hv=>cases hv with|fn hl hl' h1 h2=>obtain⟨b1,b2⟩:=lst hr hl (fun i c v a b=>.imm (h1 i c v a b));obtain⟨c1,c2⟩:=lst hq hl' (fun i c v a b=>.imm (h2 i c v a b));exact .fn b1 c1 b2 c2
    |fn hl hl' h1 h2=>obtain⟨b1,b2⟩:=lst hr hl h1;obtain⟨c1,c2⟩:=lst hq hl' h2;exact .fn b1 c1 b2 c2
   ·simp at h
  |ptr id k i o=>
   simp only[oX] at h;split at h
   ·rename_i j hj;simp at h;subst h;cases hv with
    |imm hv=>cases hv
    |ptr hb=>exact .ptr (by rw[hf _ _ hj];exact hb)
   ·simp at h
  |own id l=>
   simp only[oX] at h;split at h
   ·rename_i j hj;simp at h;subst h;cases hv with
    |imm hv=>cases hv
    |ownNil hb=>exact .ownNil (by rw[hf _ _ hj];exact hb)
    |own hb=>exact .own (by rw[hf _ _ hj];exact hb)
   ·simp at h
  |map id=>
   simp only[oX] at h;split at h
   ·rename_i j hj;simp at h;subst h;cases hv with
    |imm hv=>cases hv
    |map hb=>exact .map (by rw[hf _ _ hj];exact hb)
   ·simp at h
  |_=>simp[oX] at h
theorem Fj{f:Nat->Option Nat}{n:Nat}{v v':V}(h:oX f n v=some v'):v.deep=false:=by
 cases n with
 |zero=>simp[oX] at h
 |succ n=>cases v<;>first|rfl|simp[oX] at h
def MG(f:Nat->Option Nat):List (List V)->Option (List (List V))
 |[]=>some []
 |x::l=>(match zO (oX f 12) x with|some y=>(match MG f l with|some r=>some (y::r)|none=>none)|none=>none)
def MH(f:Nat->Option Nat):List (Value×V)->Option (List (Value×V))
 |[]=>some []
 |(k,x)::l=>(match oX f 12 x with|some y=>(match MH f l with|some r=>some ((k,y)::r)|none=>none)|none=>none)
def HN(f:Nat->Option Nat):Ob->Option Ob
 | .dead=>some .dead
 | .arr e k rows=>(match MG f rows with|some r=>some (.arr e k r)|none=>none)
 | .map es=>(match MH f es with|some r=>some (.map r)|none=>none)
 | .res=>none
 | .iter _ _=>none
 | .bld _ _ _ _=>none
def tU(Yo:Hy)(f:Nat->Option Nat):Prop:=∀m β m' β',Yo m β m' β'->m'=m/\∀i j,f i=some j->β' j=β i
theorem qP{Yo:Hy}{f:Nat->Option Nat}(hY:tU Yo f){n:Nat}{v v':V}(h:oX f n v=some v'):ak Yo v' v:=fun m β m' β' x hy hx=>by
 obtain⟨rfl,hf⟩:=hY _ _ _ _ hy
 grind [Fi]
theorem xS{Yo:Hy}{f:Nat->Option Nat}(hY:tU Yo f){n:Nat}{v v':V}(h:oX f n v=some v'):iZ Yo v' v:=.sub (qP hY h) (Fj h)
theorem Fk{f:Nat->Option Nat}:∀{l r:List (List V)},MG f l=some r->r.length=l.length/\∀(i:Nat) c c',l[i]? = some c->r[i]? = some c'->zO (oX f 12) c=some c'
 |[],r,h=>by simp_all[MG]
 |x::l,r,h=>by
  simp only[MG] at h;split at h
  ·rename_i y hy;split at h
   ·rename_i q hq;simp at h;subst h;obtain⟨h1,h2⟩:=Fk hq;refine⟨by simp[h1],fun i c c' a b=>?_⟩;cases i with
    |zero=>simp at a b;subst a;subst b;exact hy
    |succ i=>exact h2 i c c' (by simpa using a) (by simpa using b)
   ·simp at h
  ·simp at h
theorem Fl{f:Nat->Option Nat}:∀{l r:List (Value×V)},MH f l=some r->r.length=l.length/\∀(i:Nat) c c',l[i]? = some c->r[i]? = some c'->c'.1=c.1/\oX f 12 c.2=some c'.2
 |[],r,h=>by simp_all[MH]
 |(k,x)::l,r,h=>by
  simp only[MH] at h;split at h
  ·rename_i y hy;split at h
   ·rename_i q hq;simp at h;subst h;obtain⟨h1,h2⟩:=Fl hq;refine⟨by simp[h1],fun i c c' a b=>?_⟩;cases i with
    |zero=>simp at a b;subst a;subst b;exact⟨Y,hy⟩
    |succ i=>exact h2 i c c' (by simpa using a) (by simpa using b)
   ·simp at h
  ·simp at h
theorem Bq{Yo:Hy}{f:Nat->Option Nat}(hY:tU Yo f){ob ob':Ob}(h:HN f ob=some ob'):ag Yo ob' ob:=by
 cases ob with
 |dead=>simp[HN] at h;subst h;trivial
 |res=>simp[HN] at h
 |iter c l=>simp[HN] at h
 |bld T e l=>simp[HN] at h
 |arr e k rows=>
  simp only[HN] at h;split at h
  ·rename_i r hr;simp at h;subst h;obtain⟨h1,h2⟩:=Fk hr;refine⟨Y,Y,h1,fun i r' r0 a b=>?_⟩
   grind [zN,xS]
  grind
 |map es=>
  simp only[HN] at h;split at h
  ·rename_i r hr;simp at h;subst h;obtain⟨h1,h2⟩:=Fl hr;refine⟨h1,fun i p p' a b=>?_⟩
   grind [xS]
  grind
theorem xU{Yo:Hy}{f:Nat->Option Nat}(hY:tU Yo f){n:Nat}:∀{l r:List V},zO (oX f n) l=some r->iP Yo r l
 |[],r,h=>by simp[zO] at h;subst h;exact .nil
 |x::l,r,h=>by
  simp only[zO] at h;split at h
  ·rename_i y hy;split at h
   ·rename_i q hq;simp at h;subst h;exact .cons (qP hY hy) (xU hY hq)
   ·simp at h
  ·simp at h
def z7(f:V->List Nat):List V->List Nat
 |[]=>[]
 |x::l=>f x++z7 f l
def yb:Nat->V->List Nat
 |0,_=>[]
 |n+1,v=>(match v with
  | .agg cs=>z7 (yb n) cs
  | .tup cs=>z7 (yb n) cs
  | .fn _ a b=>z7 (yb n) a++z7 (yb n) b
  | .ptr id _ _ _=>[id]
  | .own id _=>[id]
  | .map id=>[id]
  |_=>[])
def MP:List (List V)->List Nat
 |[]=>[]
 |r::l=>z7 (yb 12) r++MP l
def MR:List (Value×V)->List Nat
 |[]=>[]
 |p::l=>yb 12 p.2++MR l
def MQ:Ob->List Nat
 | .arr _ _ rows=>MP rows
 | .map es=>MR es
 |_=>[]
def vG(hp:aD):Nat->List Nat->List Nat->Option (List Nat)
 |0,_,_=>none
 |n+1,l,acc=>(match l with
  |[]=>some acc
  |i::l=>(match uw i acc with
   |false=>vG hp n l acc
   |true=>vG hp n (MQ (ao hp i)++l) (acc++[i])))
def tL:List Nat->Nat->Nat->Option Nat
 |[],_,_=>none
 |x::l,j,i=>bif Nat.beq x i then some j else tL l (j+1) i
theorem we:∀{l:List Nat} {j i r:Nat},tL l j i=some r->∃q,r=j+q/\lA l q=some i
 |x::l,j,i,r,h=>by
  simp only[tL] at h;cases hb:Nat.beq x i with
  |true=>rw[hb] at h;simp at h;exact⟨0,h.symm,by rw[cg9 hb];rfl⟩
  |false=>
   rw[hb] at h;simp at h;obtain⟨q,h1,h2⟩:=we h;exact⟨q+1,by omega,h2⟩
 |[],j,i,r,h=>by simp[tL] at h
def HY(f:Nat->Option Nat)(hp:aD):Nat->List Nat->Option (aD×aD)
 |_,[]=>some ([],[])
 |j,i::l=>(match HN f (ao hp i) with
  |some ob=>(match HY f hp (j+1) l with|some (h,r)=>some ((j,ob)::h,(i,ao hp i)::r)|none=>none)
  |none=>none)
theorem z6{Yo:Hy}{f:Nat->Option Nat}(hY:tU Yo f){hp hpS:aD}{R0:List Nat}:∀{l:List Nat} {j:Nat} {h r:aD},(∀q i,lA l q=some i->lA R0 (j+q)=some i)->HY f hp j l=some (h,r)->kY hpS r->
  bR Yo R0.length (sg R0) hpS h
 |[],j,h,r,hR,hh,hr=>by simp[HY] at hh;obtain⟨rfl,rfl⟩:=hh;exact .nil
 |i::l,j,h,r,hR,hh,hr=>by
  simp only[HY] at hh;split at hh
  ·rename_i ob ho;split at hh
   ·rename_i h' r' hq;simp at hh;obtain⟨rfl,rfl⟩:=hh;have h0:=hR 0 i rfl;obtain⟨a1,a2⟩:=j3 h0;simp only[bd9] at a1 a2;refine .cons a1 ?_ (z6 hY (fun q i' hq'=>by have:=hR (q+1) i' hq';grind) hq hr.2);rw[a2,hr.1];exact Bq hY ho
   grind
  grind
theorem zZ{f:Nat->Option Nat}{hp:aD}:∀{l:List Nat} {j:Nat} {h r:aD},HY f hp j l=some (h,r)->kY hp r
 |[],j,h,r,hh=>by simp[HY] at hh;obtain⟨rfl,rfl⟩:=hh;trivial
 |i::l,j,h,r,hh=>by
  simp only[HY] at hh;split at hh
  ·split at hh
   ·rename_i h' r' hq;simp at hh;obtain⟨rfl,rfl⟩:=hh;exact⟨Y,zZ hq⟩
   ·simp at hh
  ·simp at hh
def EE(f:Nat->Option Nat)(hp':aD):Nat->List Nat->Option aD
 |_,[]=>some []
 |j,i::l=>(match HN f (ao hp' j) with
  |some ob=>(match EE f hp' (j+1) l with|some u=>some ((i,ob)::u)|none=>none)
  |none=>none)
theorem Bh{Yo:Hy}{f:Nat->Option Nat}(hY:tU Yo f){hp':aD}{R0:List Nat}:∀{l:List Nat} {j:Nat} {u:aD},(∀q i,lA l q=some i->lA R0 (j+q)=some i)->j+l.length=R0.length->EE f hp' j l=some u->kZ Yo (sg R0) hp' R0.length j u
 |[],j,u,hR,hl,h=>by simp[EE] at h;subst h;simp at hl;subst hl;exact .nil
 |i::l,j,u,hR,hl,h=>by
  simp only[EE] at h;split at h
  ·rename_i ob ho;split at h
   ·rename_i u' hu;simp at h;subst h;have h0:=hR 0 i rfl;obtain⟨a1,a2⟩:=j3 h0;simp only[bd9] at a1 a2;exact .cons a2 (Bq hY ho) (Bh hY (fun q i' hq'=>by have:=hR (q+1) i' hq';grind) (by grind) hu)
   grind
  grind
def lp(fr:Nat):Nat->List Nat
 |0=>[]
 |n+1=>fr::lp (fr+1) n
def Ey:List Nat->aD->Bool
 |[],_=>true
 |i::l,hp=>(match pk hp i with|some .res=>Ey l hp|_=>false)
def HE(l:List Nat):aD:=l.map fun i=>(i,.res)
theorem vD:∀{l:List Nat} {hp:aD},Ey l hp=true->kY hp (HE l)
 |[],hp,_=>trivial
 |i::l,hp,h=>by
  simp only[Ey] at h;split at h
  ·rename_i ho;exact⟨fI ho,vD h⟩
  ·simp at h
theorem oi{hp:aD}:∀{a b:aD},kY hp (a++b)<->kY hp a/\kY hp b
 |[],b=>by simp[kY]
 |(i,o)::a,b=>by
  simp_all[oi,kY,and_assoc]
theorem vE:∀{l:List Nat} {hp:aD},kY hp (HE l)->∀i,i∈l->ao hp i=.res
 |[],_,_,i,hi=>by simp at hi
 |j::l,hp,h,i,hi=>by
  rcases aq8.1 hi with rfl|hi
  ·exact h.1
  ·exact vE (l:=l) h.2 i hi
theorem rD:∀{n fr i:Nat},i∈lp fr n<->fr<=i/\i<fr+n
 |0,fr,i=>by simp[lp]
 |n+1,fr,i=>by simp only[lp,aq8,rD (n:=n)];omega
theorem zS{R:List Nat}{j i:Nat}(h:lA R j=some i):sg R j=i/\j<R.length:=by
 obtain⟨a,b⟩:=j3 h<;>simp_all
def OT(cb:Nat->List V->aD->Nat->Option (V×aD×Nat))(f:Nat)(avs:List V)(hp:aD)(fr nx:Nat):Option (V×aD×aD×Nat):=
 match vG hp 2000 (z7 (yb 12) avs) [] with
 |some R=>(match zO (oX (tL R 0) 12) avs with
  |some avs'=>(match HY (tL R 0) hp 0 R with
   |some (hpc,rh)=>(match cb f avs' hpc R.length with
    |some (dc,hp',k')=>
     let nw:=lp fr (k' - R.length)
     let ρ:=R++nw
     (match Nat.ble R.length k'&&Ey nw hp&&Dh R.length k' nx nx (sg R) (sg ρ) (fun i=>Nat.ble fr i&&Nat.blt i (fr+(k' - R.length)))&&r8 k' (sg ρ) with
     |true=>(match oX (lA ρ) 12 dc with
      |some dv=>(match EE (lA ρ) hp' 0 ρ with
       |some u=>some (dv,rh++HE nw,u,fr+(k' - R.length))
       |none=>none)
      |none=>none)
     |false=>none)
    |none=>none)
   |none=>none)
  |none=>none)
 |none=>none
theorem Lj{cb:Nat->List V->aD->Nat->Option (V×aD×Nat)}(hcb:∀f avs hp k v hp' k',cb f avs hp k=some (v,hp',k')->cM K.P f=true/\g9 K.gl K.P f avs k hp v k' hp'){f:Nat}{avs:List V}{hp rh u:aD}{fr fr' nx d:Nat}{dv:V}
  (h:OT cb f avs hp fr nx=some (dv,rh,u,fr')) (hpin:K.pins<=fr) (ht:cK K.P t) {o:Oper} {e:bY} (hc:Nb t e o.op=some (f,avs)) (hdst:o.dst=some d) (hN:Nat.blt d K.N=true):
  kY hp rh/\fr<=fr'/\∀S,S.nx=nx->Ag e S->kY S.hp rh->aT ops S o true->ax K ops rest Q ⟨(d,dv)::S.env,u++S.hp,S.nx⟩->ax K ops (o::rest) Q S:=by
 unfold OT at h;split at h
 ·rename_i R hR;split at h
  ·rename_i avs' ha;split at h
   ·rename_i hpc rh0 hin;split at h
    ·rename_i dc hp' k' hcall;obtain⟨q1,q2⟩:=hcb _ _ _ _ _ _ _ hcall;simp only at h;split at h
     ·rename_i hb;simp only[ap9] at hb;obtain⟨⟨⟨b1,b2⟩,b3⟩,b4⟩:=hb;have b1':=aw9 b1;split at h
      ·rename_i dv' hdv;split at h
       ·rename_i u' hu;simp only[av8,Prod.mk.injEq] at h;obtain⟨rfl,rfl,rfl,rfl⟩:=h
        have hl:(R++lp fr (k' - R.length)).length=k':=by
         have:∀n fr,(lp fr n).length=n:=by intro n;induction n with|zero=>intro _;rfl|succ n ih=>simp_all[lp]
         simp[this];omega
        have hYR:tU (Ren R.length (sg R)) (tL R 0):=by
         rintro m β m' β' ⟨rfl,hy⟩
         refine⟨Y,fun i j hij=>?_⟩;obtain⟨q,e1,e2⟩:=we hij;obtain⟨s1,s2⟩:=zS e2
         grind
        have hYT:tU (To k' (sg (R++lp fr (k' - R.length)))) (lA (R++lp fr (k' - R.length))):=by
         rintro m β m' β' ⟨rfl,hy⟩
         refine⟨Y,fun i j hij=>?_⟩;obtain⟨s1,s2⟩:=zS hij
         grind
        refine⟨oi.2 ⟨zZ hin,vD b2⟩,Nat.le_add_right _ _,fun S hn hag hrd hw kk=>?_⟩;obtain⟨r1,r2⟩:=oi.1 hrd
        have hun:kZ (To k' (sg (R++lp fr (k' - R.length)))) (sg (R++lp fr (k' - R.length))) hp' k' 0 u':=by
         have:=Bh (R0:=R++lp fr (k' - R.length)) hYT (j:=0) (fun q i h=>by grind) (by simp) hu;rw[hl] at this;exact this
        refine jb (sg R) (sg (R++lp fr (k' - R.length))) S.nx u' _ hw hdst hN (oG ht hag hc q1) (xU hYR ha) (bR.get (z6 hYR (fun q i h=>by grind) hin r1)) q2 (fun i hi=>?_) (by rw[hn];exact b3) b4
         (ch9 (ae9 _)) b1 (fun i hi=>?_) (qP hYT hdv) hun kk
        ·simp only[ap9] at hi;exact vE r2 i (rD.2 ⟨aw9 hi.1,aw9 hi.2⟩)
        ·simp only[ap9] at hi;exact bt8 hpin (aw9 hi.1)
       grind
      grind
     grind
    grind
   grind
  grind
 grind
def Mj(nx:Nat):aD->aD
 |[]=>[]
 |(i,o)::l=>bif Nat.blt i nx then (i,o)::Mj nx l else Mj nx l
def zF(hp:aD):Nat->Nat->aD->aD
 |_,0,r=>r
 |i,n+1,r=>(match ao hp i with | .res=>zF hp (i+1) n r | .dead=>zF hp (i+1) n r|o=>(i,o)::zF hp (i+1) n r)
def BH(nx n:Nat)(hp:aD):aD:=zF hp nx n (Mj nx hp)
theorem Il(i n:Nat){α:Type}(a b:α):(bif Nat.blt i n then a else b)=if i<n then a else b:=by
 simp_all
theorem Fq(nx:Nat):∀(l:aD) (t:Nat),ao (Mj nx l) t=if t<nx then ao l t else .dead
 |[],t=>by simp[Mj,ao]
 |(i,o)::l,t=>by
  have ih:=Fq nx l t;simp only[Mj,Il];split
  ·rename_i h;rw[av,av,ih]
   grind
  ·rename_i h;rw[ih,av]
   grind
theorem Bg(hp:aD):∀(n i:Nat) (r:aD) (t:Nat),ao (zF hp i n r) t=ao r t\/(i<=t/\ao (zF hp i n r) t=ao hp t)
 |0,i,r,t=>.inl rfl
 |n+1,i,r,t=>by
  have ih:=Bg hp n (i+1) r t;simp only[zF];split
  ·grind
  ·grind
  ·rw[av]
   grind
theorem F3(nx n:Nat)(hp:aD)(t:Nat):ao (BH nx n hp) t=ao hp t\/ao (BH nx n hp) t=.dead:=by
 grind [BH,Bg,Fq]
theorem bQ.less{m:bA}{β:aZ}{w:World}{a:Act}(r:bQ K m β w a S){hp:aD}(h:∀t,ao hp t=ao S.hp t\/ao hp t=.dead):bQ K m β w a ⟨S.env,hp,S.nx⟩:=by
 have hl:∀i,ao hp i≠.dead->ao S.hp i≠.dead:=fun i hi=>by grind
 constructor
 ·exact r.imm
 ·exact r.ext
 ·exact r.mold
 ·exact r.frame
 ·exact r.size
 ·exact r.same
 ·exact r.tn
 ·exact r.df
 ·exact r.env
 ·intro id
  show bo m β w _ _ (ao hp id)
  rcases h id with e|e
  ·rw[e];exact r.own id
  simp_all[bo.dead']
 ·exact fun id b cap hi=>r.priv id b cap (hl id hi)
 ·exact fun id id' b cap cap' hi hi'=>r.inj id id' b cap cap' (hl id hi) (hl id' hi')
 ·exact fun id x hi hx=>(r.hid id x (hl id hi) hx).weak hl
 ·exact r.nx
 ·exact r.pin
theorem Af{e:bY}{hp hp':aD}{nx:Nat}(h:∀t,ao hp' t=ao hp t\/ao hp' t=.dead):aV K ⟨e,hp,nx⟩ ⟨e,hp',nx⟩:=fun m β _ _ r=>⟨m,β,r.less h⟩
end
section
variable{K:cS}{Q:bX}{S S':St}{ops:Array Oper}{rest:List Oper}{t:TT}{ty:TypeId}{pos:String}{after:Array Edge}{g:Option (Nat×Bool)}
theorem wi(u q e k:Nat)(ht:get S.env u=nV)(hq:ao S.hp q=.res)(hlt:q<S.nx)(hpin:K.pins<=q):aV K S ⟨(u,.own q 0)::S.env,(q,.arr e k [])::S.hp,S.nx⟩:=by
 intro m β w a r;have hf:β q=none:=r.free hq
 let β':aZ:=⟨fun i=>if i=q then some none else β i,fun i=>if i=q then fun _=>False else β.hid i⟩
 have hq':β' q=some none:=by show(if q=q then _ else _)=_;grind
 have ho:∀i,i≠q->β' i=β i:=fun i h=>by grind
 have hle:β.le β':=fun i l h=>by
  grind
 have hn:β'.hid q=fun _=>False:=by show(if _ then _ else _)=_;grind
 have hho:∀i,i≠q->β'.hid i=β.hid i:=fun i h=>by grind
 have hlive:∀i,i≠q->ao ((q,Ob.arr e k [])::S.hp) i≠.dead->ao S.hp i≠.dead:=by
  intro i h hi;rw[av,if_neg (Ne.symm h)] at hi;exact hi
 refine⟨m,β',r.imm,r.ext,r.mold,r.frame,r.size,r.same,r.tn,r.df,?_,?_,?_,?_,?_,fun id h=>(ho id (by grind)).trans (r.nx id h),fun p hp=>⟨(r.pin p hp).1,(ho p (by omega)).trans (r.pin p hp).2⟩⟩
 ·intro i
  show bn m β' (get ((u,.own q 0)::S.env) i) _
  rw[ci];split
  ·rename_i h;subst h;have:=r.env u;rw[ht] at this;rw[this.of_con];exact .ownNil hq'
  ·exact(r.env i).mono (bA.le_refl _) hle
 ·intro id
  show bo m β' w (β'.hid id) (β' id) (ao ((q,Ob.arr e k [])::S.hp) id)
  rw[av];split
  ·simp_all[bo]
  ·rename_i h;rw[hho id (Ne.symm h),ho id (Ne.symm h)];exact bo.mono (bA.le_refl _) hle (fun _ _ h=>h) (fun _ _=>Y) (r.own id)
 ·intro id b cap hl hb;by_cases h:id=q
  ·grind
  ·rw[ho id h] at hb;exact r.priv id b cap (hlive id h hl) hb
 ·intro id id' b c c' hl hl' hb hb';by_cases h:id=q
  ·grind
  ·by_cases h':id'=q
   ·grind
   ·rw[ho id h] at hb;rw[ho id' h'] at hb';exact r.inj id id' b c c' (hlive id h hl) (hlive id' h' hl') hb hb'
 ·intro id x hl hx;by_cases h:id=q
  ·grind
  ·rw[hho id h] at hx;have z:=r.hid id x (hlive id h hl) hx;refine⟨z.lt,z.m,z.old,fun i b c hi hb=>?_,fun i hi hx'=>?_⟩
   ·by_cases h':i=q
    ·grind
    ·rw[ho i h'] at hb;exact z.ne i b c (hlive i h' hi) hb
   ·by_cases h':i=q
    ·grind
    ·rw[hho i h'] at hx';exact z.un i (hlive i h' hi) hx'
theorem oP{d T T' e k bytes n' nx u:Nat}{x:Operand}{sv:V}(idn q:Nat)(hid:(Nat.blt idn nx&&Nat.ble K.pins idn)=true)(hidq:(Nat.blt q nx&&Nat.ble K.pins q)=true)(hne:idn≠q)(hnxx:S.nx=nx)(hres:ao S.hp idn=.res)(hresq:ao S.hp q=.res)(rows2:List (List V))(hT:fd K.P T e k bytes=true)(hT':cR K.P T'=true)
  (hpos:Nat.blt 0 bytes=true) (hkp:Nat.blt 0 k=true)
  (hw:aT ops S ⟨some d,.call ⟨.builtin .append,#[.tmp u,x],#[T,T']⟩,ty,pos,after,none⟩ true)
  (hs:get S.env u=nV) (hx:evl K ⟨(u,.own q 0)::S.env,(q,.arr e k [])::S.hp,S.nx⟩ x=sv) (hsrc:xm ⟨(u,.own q 0)::S.env,(q,.arr e k [])::S.hp,S.nx⟩ k sv rows2)
  (hn':rows2.length=n') (hb:n'*bytes<=140737488355328) (hN:Nat.blt d K.N=true)
  (kk:ax K ops rest Q ⟨(d,.own idn n')::(u,.any)::S.env,(idn,.arr e k rows2)::(q,.dead)::S.hp,S.nx⟩):
  ax K ops (⟨some d,.call ⟨.builtin .append,#[.tmp u,x],#[T,T']⟩,ty,pos,after,none⟩::rest) Q S:=by
 simp only[ap9] at hidq;refine bz (wi u q e k hs hresq (by simp_all) (aw9 hidq.2)) ?_;refine ca (S:=⟨(u,.own q 0)::S.env,(q,.arr e k [])::S.hp,S.nx⟩) (id:=q) (n:=0) (rows:=[]) idn hid hnxx (by simp_all[av,Ne.symm]) rows2 rows2 hT hT' hpos hkp Y (by show get ((u,.own q 0)::S.env) u=_;simp_all[ci]) (by simp_all[av]) Y hx hsrc Y hn' hb hN ?_;refine bz (pm ((d,.own idn n')::(u,.any)::S.env) ((idn,.arr e k rows2)::(q,.dead)::S.hp) (fun i=>?_) (fun i=>?_)) kk
 ·grind [ci,ak.keepI,ak.any]
 ·show ag Jl (ao ((idn,.arr e k rows2)::(q,.dead)::S.hp) i) (ao ((idn,.arr e k rows2)::(q,.dead)::(q,.arr e k [])::S.hp) i)
  simp_all[av,ag.keep,ak.keepI]
def KA(k:Nat)(e:bY)(hp:aD)(y:Operand):Option (List (List V)):=match eu e y with
 |some (.own id2 n2)=>(match pk hp id2 with
  |some (.arr _ k3 rows2)=>(match Nat.beq k3 k&&Nat.beq rows2.length n2&&KP rows2 with|true=>some rows2|false=>none)
  |_=>none)
 |some (.con (.slice none 0 0))=>some []
 |_=>none
theorem HA{k:Nat}{e:bY}{hp:aD}{y:Operand}{rows2:List (List V)}(h:KA k e hp y=some rows2)(ha:Ag e S)(hh:G6 hp S):xm S k (evl K S y) rows2:=by
 unfold KA at h;split at h
 ·rename_i id2 n2 hy;split at h
  ·rename_i k3 rows3 ho;split at h
   ·rename_i hb;simp only[ap9] at hb;simp only[av8] at h;subst h;have e4:=cg9 hb.1.1;subst e4;rw[aU ha hy]
    exact .own (hh _ _ ho) (cg9 hb.1.2) (fun row hr c hc=>by
     obtain⟨j,hj⟩:=bb9 hc;exact jl (rT hb.2 row hr) hj)
   grind
  grind
 ·rename_i hy;simp only[av8] at h;subst h;rw[aU ha hy];exact .nil
 grind
def OX(t:TT)(d:Nat)(e:bY)(hp:aD)(fr:Nat):Op->Option (bY×aD×Nat)
 | .call c=>(match c.callee,c.args.toList,c.argTypes.toList with
  | .builtin .append,[.tmp a,y],[T,T']=>(match dq t T TF.qEl,dq t T' TF.qSn with
   |some (ety,k,bytes),some _=>(match Nat.blt 0 bytes&&Nat.blt 0 k with
    |true=>(match KA k e hp y with
     |some rows2=>(match oY e a with
      |some (.own id n)=>(match pk hp id with
       |some (.arr e2 k2 rows)=>(match Nat.beq ety e2&&Nat.beq k k2&&Nat.beq rows.length n&&Nat.ble ((rows++rows2).length*bytes) 140737488355328 with
        |true=>some ([(d,.own fr (rows++rows2).length)],[(fr,.arr ety k (rows++rows2)),(id,.dead)],1)
        |false=>none)
       |_=>none)
      |some (.con (.slice none 0 0))=>(match Nat.ble (rows2.length*bytes) 140737488355328&&(match y with | .tmp b=>bif Nat.beq b a then false else true|_=>true) with
       |true=>some ([(d,.own fr rows2.length),(a,.any)],[(fr,.arr ety k rows2),(fr+1,.dead)],2)
       |false=>none)
      |_=>none)
     |none=>none)
    |false=>none)
   |_,_=>none)
  |_,_,_=>none)
 |_=>none
theorem Kz{k u q e:Nat}{sv:V}{rows2:List (List V)}(h:xm S k sv rows2)(hq:ao S.hp q=.res):xm ⟨(u,.own q 0)::S.env,(q,.arr e k [])::S.hp,S.nx⟩ k sv rows2:=by
 cases h with
 |own ho hn hd=>
  exact .own (by
   rw[av];split
   ·rename_i h;subst h;rw[hq] at ho;simp at ho
   ·exact ho) hn hd
 |lst h=>exact .lst h
 |nil=>exact .nil
 |str hk hr=>exact .str hk hr
theorem Lp{op:Op}(ht:cK K.P t){d:Nat}{e:bY}{hp:aD}{fr nx q:Nat}{ue:bY}{uh:aD}(ha:Ag e S)(hh:G6 hp S)(hnx:S.nx=nx)(h:OX t d e hp fr op=some (ue,uh,q))(hres:∀i,fr<=i->i<fr+q->ao S.hp i=.res/\i<nx)(hpin:K.pins<=fr)
  (hN:Nat.blt d K.N=true) (k:ax K ops rest Q ⟨ue++S.env,uh++S.hp,S.nx⟩):ax K ops (⟨some d,op,ty,pos,after,none⟩::rest) Q S:=by
 cases op<;>simp only[OX,reduceCtorEq] at h;rename_i c;obtain⟨callee,args,at'⟩:=c;simp only at h;split at h
 ·rename_i a y T T' hargs hats;have hargs:=dt hargs;have hats:=dt hats;subst hargs;subst hats;split at h
  ·rename_i ety kk bytes _ hT hT';split at h
   ·rename_i hb0;simp only[ap9] at hb0;split at h
    ·rename_i rows2 hy;have hsrc:=HA (K:=K) hy ha hh;split at h
     ·rename_i id n hx;split at h
      ·rename_i e2 k2 rows ho;split at h
       ·rename_i hb;simp only[ap9] at hb;have e1:=cg9 hb.1.1.1;have e2:=cg9 hb.1.1.2;have e3:=cg9 hb.1.2;subst e1;subst e2;simp only[av8,Prod.mk.injEq] at h;obtain⟨rfl,rfl,rfl⟩:=h;obtain⟨r1,r2⟩:=hres fr (ae9 _) (ak9 _);exact ca fr (by simp only[ap9];exact⟨ch9 r2,ch9 hpin⟩) hnx r1 rows2 _ (kO ht hT) (jT ht hT') hb0.1 hb0.2 Y (ha _ _ hx) (hh _ _ ho) e3 Y hsrc Y Y (aw9 hb.2) hN k
       ·simp at h
      ·simp at h
     ·rename_i hx;split at h
      ·rename_i hb;simp only[ap9] at hb;simp only[av8,Prod.mk.injEq] at h;obtain⟨rfl,rfl,rfl⟩:=h;obtain⟨r1,r2⟩:=hres fr (ae9 _) (by omega);obtain⟨q1,q2⟩:=hres (fr+1) (ak8 _) (by omega)
       have hey:evl K ⟨(a,.own (fr+1) 0)::S.env,(fr+1,.arr ety kk [])::S.hp,S.nx⟩ y=evl K S y:=by
        cases y with
        |tmp b=>
         have hba:b≠a:=fun e=>by
          subst e;have:=hb.2;simp at this
         show get ((a,.own (fr+1) 0)::S.env) b=get S.env b
         rw[ci,if_neg (Ne.symm hba)]
        |const v=>rfl
        |global g=>rfl
        |func f=>rfl
       refine oP fr (fr+1) (by simp only[ap9];exact⟨ch9 r2,ch9 hpin⟩) (by simp only[ap9];exact⟨ch9 q2,ch9 (Nat.le_succ_of_le hpin)⟩) (by omega) hnx r1 q1 rows2 (kO ht hT) (jT ht hT') hb0.1 hb0.2 Y (ha _ _ hx) hey (Kz hsrc q1) Y (aw9 hb.1) hN k
      ·simp at h
     ·simp at h
    ·simp at h
   ·simp at h
  ·simp at h
 ·simp at h
end
section
variable{K:cS}{Q:bX}{S S':St}{ops:Array Oper}{rest:List Oper}{t:TT}
def OE(cb:Nat->List V->Option V)(cb2:Nat->List V->aD->Nat->Option (V×aD×Nat))(t:TT)(mt:List MT)(N fr:Nat)(ops:Array Oper)(o:Oper)(e:bY)(hp:aD)(nx:Nat):Option (OD×Nat):=
 match KH ops o e with
 |none=>none
 |some re=>(match wt ops re o.guard with
  |none=>none
  |some b=>(match b with
   |false=>(match o.dst with|some d=>(match Nat.blt d N with|true=>some (⟨re,[],[(d,.con undef)],[]⟩,fr)|false=>none)|none=>none)
   |true=>(match MU re hp (hrO o.op) [] with
    |none=>none
    |some rh=>(match o.dst with
     |some d=>(match Nat.blt d N with
      |false=>none
      |true=>(match val t re rh o.op with
       |some v=>some (⟨re,rh,[(d,v)],[]⟩,fr)
       |none=>(match JL t re fr o.op with
        |some (v,ob)=>(match Nat.blt fr nx,pk hp fr with
         |true,some .res=>some (⟨re,(fr,.res)::rh,[(d,v)],[(fr,ob)]⟩,fr+1)
         |_,_=>none)
        |none=>(match Nb t re o.op with
         |some (f,avs)=>(match oS FH avs,cb f avs with
          |true,some v=>some (⟨re,rh,[(d,v)],[]⟩,fr)
          |_,_=>(match OT cb2 f avs hp fr nx with
           |some (dv,rh2,u,fr')=>some (⟨re,rh2,[(d,dv)],u⟩,fr')
           |none=>none))
         |none=>(match mT t mt re rh nx o.op with
          |some (v,[],0)=>some (⟨re,rh,[(d,v)],[]⟩,fr)
          |_=>(match o.guard,OX t d re rh fr o.op with
           |none,some (ue,uh,q)=>(match Nat.ble (fr+q) nx&&Ey (lp fr q) hp with
            |true=>some (⟨re,HE (lp fr q)++rh,ue,uh⟩,fr+q)
            |false=>none)
           |_,_=>none))))))
     |none=>(match NZ t mt re rh o.op with|some (id,ob)=>some (⟨re,rh,[],[(id,ob)]⟩,fr)|none=>none)))))
theorem KM{cb:Nat->List V->Option V}{cb2:Nat->List V->aD->Nat->Option (V×aD×Nat)}(hcb2:∀f avs hp k v hp' k',cb2 f avs hp k=some (v,hp',k')->cM K.P f=true/\g9 K.gl K.P f avs k hp v k' hp')(hcb:∀f avs v,cb f avs=some v->cM K.P f=true/\dX K.gl K.P f avs v)(ht:cK K.P t){mt:List MT}(hmt:s9 K.P mt){o:Oper}{D:OD}{e:bY}{hp:aD}{fr fr' nx:Nat}(hpin:K.pins<=fr)
  (h:OE cb cb2 t mt K.N fr ops o e hp nx=some (D,fr')):yN K nx ops o D/\sY e D.re/\kY hp D.rh/\fr<=fr':=by
 unfold OE at h;split at h
 ·simp at h
 ·rename_i re hre;have hre':=HF hre;split at h
  ·simp at h
  ·rename_i b hw;split at h
   ·split at h
    ·rename_i d hd;split at h
     ·rename_i hN;simp at h;obtain⟨rfl,rfl⟩:=h;exact⟨fun S2 hn h1 h2=>pw (i4 (da h1) hw) hd hN (aS ⟨Y,Y⟩),hre',trivial,ae9 _⟩
     grind
    grind
   ·split at h
    ·simp at h
    ·rename_i rh hrh;have hrh':=FK (l:=[]) trivial hrh;obtain⟨dst,op,ty,pos,after,g⟩:=o;cases dst with
     |some d=>
      simp only at h;split at h
      ·simp at h
      ·rename_i hN;split at h
       ·rename_i v hv;simp at h;obtain⟨rfl,rfl⟩:=h;exact⟨fun S2 hn h1 h2=>zo ht (da h1) (nK h2) hv (i4 (da h1) hw) hN (aS ⟨Y,Y⟩),hre',hrh',ae9 _⟩
       ·split at h
        ·rename_i v ob hv;split at h
         ·rename_i hb hres;simp at h;obtain⟨rfl,rfl⟩:=h;exact⟨fun S2 hn h1 h2=>Lr ht (da h1) hv (by simp_all) hn h2.1 (i4 (da h1) hw) hN (aS ⟨Y,Y⟩),hre',⟨fI hres,hrh'⟩,ak8 _⟩
         grind
        ·split at h
         ·rename_i f avs hc;split at h
          ·rename_i v hai hcv;simp at h;obtain⟨rfl,rfl⟩:=h;obtain⟨q1,q2⟩:=hcb _ _ _ hcv;refine⟨fun S2 hn h1 h2=>?_,hre',hrh',ae9 _⟩;refine iN (o:=⟨some d,op,ty,pos,after,g⟩) (i4 (da h1) hw) Y hN (fun m β w a r=>?_) q2 (aS ⟨Y,Y⟩);obtain⟨vs,e1,e2⟩:=oG ht (o:=⟨some d,op,ty,pos,after,g⟩) (da h1) hc q1 m β w a r;exact⟨vs,e1,⟨e2.len,fun i c v a b=>kg (ku hai c (aw8 a)) (e2.at' i c v a b)⟩⟩
          ·split at h
           ·rename_i dv rh2 u fr2 hB;simp only[av8,Prod.mk.injEq] at h;obtain⟨rfl,rfl⟩:=h;have p:=fun(Q:bX)=>Lj (Q:=Q) (ops:=ops) (rest:=[]) hcb2 hB hpin ht (o:=⟨some d,op,ty,pos,after,g⟩) hc rfl hN;exact⟨fun S2 hn h1 h2=>(p _).2.2 S2 hn (da h1) h2 (i4 (da h1) hw) (aS ⟨Y,Y⟩),hre',(p (fun _ _=>True)).1,(p (fun _ _=>True)).2.1⟩
           grind
         ·split at h
          ·rename_i v hv;simp at h;obtain⟨rfl,rfl⟩:=h;exact⟨fun S2 hn h1 h2=>Bi ht hmt (da h1) (nK h2) hn hv (i4 (da h1) hw) hN (aS ⟨Y,Y⟩),hre',hrh',ae9 _⟩
          ·split at h
           ·rename_i ue uh q hap;split at h
            ·rename_i hb;simp only[ap9] at hb;simp only[av8,Prod.mk.injEq] at h;obtain⟨rfl,rfl⟩:=h;refine⟨fun S2 hn h1 h2=>?_,hre',oi.2 ⟨vD hb.2,hrh'⟩,Nat.le_add_right _ _⟩;obtain⟨y1,y2⟩:=oi.1 h2;exact Lp ht (da h1) (nK y2) hn hap (fun i h1 h2=>⟨vE y1 i (rD.2 ⟨h1,h2⟩),ci8 h2 (aw9 hb.1)⟩) hpin hN (aS ⟨Y,Y⟩)
            grind
           grind
     |none=>
      simp only at h;split at h
      ·rename_i id ob hv;simp at h;obtain⟨rfl,rfl⟩:=h;exact⟨fun S2 hn h1 h2=>Dp ht hmt (da h1) (nK h2) hv (i4 (da h1) hw) (aS ⟨Y,Y⟩),hre',hrh',ae9 _⟩
      grind
theorem yl{e e':bY}(h:∀t,get e t=get e' t):∀(u:bY) (t:Nat),get (u++e) t=get (u++e') t
 |[],t=>h t
 |(i,o)::u,t=>by
  show get ((i,o)::(u++e)) t=get ((i,o)::(u++e')) t
  rw[ci,ci,yl h u]
theorem uP{e e':aD}(h:∀t,ao e t=ao e' t):∀(u:aD) (t:Nat),ao (u++e) t=ao (u++e') t
 |[],t=>h t
 |(i,o)::u,t=>by
  show ao ((i,o)::(u++e)) t=ao ((i,o)::(u++e')) t
  rw[av,av,uP h u]
def Ml(cb:Nat->List V->Option V)(cb2:Nat->List V->aD->Nat->Option (V×aD×Nat))(t:TT)(mt:List MT)(N:Nat)(ops:Array Oper):List Oper->Nat->bY->aD->Nat->Option (List OD×bY×aD)
 |[],_,e,hp,_=>some ([],e,hp)
 |o::l,fr,e,hp,nx=>(match OE cb cb2 t mt N fr ops o e hp nx with
  |some (D,fr')=>(match Ml cb cb2 t mt N ops l fr' (ug D.ue e) (pQ D.uh hp) nx with|some (ds,e',hp')=>some (D::ds,e',hp')|none=>none)
  |none=>none)
theorem F4{cb:Nat->List V->Option V}{cb2:Nat->List V->aD->Nat->Option (V×aD×Nat)}(hcb2:∀f avs hp k v hp' k',cb2 f avs hp k=some (v,hp',k')->cM K.P f=true/\g9 K.gl K.P f avs k hp v k' hp')(hcb:∀f avs v,cb f avs=some v->cM K.P f=true/\dX K.gl K.P f avs v)(ht:cK K.P t){mt:List MT}(hmt:s9 K.P mt){nx:Nat} :
  ∀{l:List Oper} {fr:Nat} {e e':bY} {hp hp':aD} {ds:List OD} {S:St},K.pins<=fr->Ml cb cb2 t mt K.N ops l fr e hp nx=some (ds,e',hp')->S.nx=nx->(∀t,get S.env t=get e t)->(∀t,ao S.hp t=ao hp t)->
  np S ds/\nL K nx ops l ds/\(∀t,get (ed S ds).env t=get e' t)/\(∀t,ao (ed S ds).hp t=ao hp' t)/\(ed S ds).nx=nx
 |[],fr,e,e',hp,hp',ds,S,hpin,h,hn,h1,h2=>by
  simp[Ml] at h;obtain⟨rfl,rfl,rfl⟩:=h;exact⟨trivial,.nil,h1,h2,hn⟩
 |o::l,fr,e,e',hp,hp',ds,S,hpin,h,hn,h1,h2=>by
  simp only[Ml] at h;split at h
  ·rename_i D fr' hD;obtain⟨a1,a2,a3,a4⟩:=KM hcb2 hcb ht hmt hpin hD;split at h
   ·rename_i ds' e2 hp2 hR;simp at h;obtain⟨rfl,rfl,rfl⟩:=h;have:=F4 hcb2 hcb ht hmt (S:=S.upd D) (bt8 hpin a4) hR hn (fun t=>(yl h1 _ t).trans (pn _ _ t).symm) (fun t=>(uP h2 _ t).trans (kh _ _ t).symm);exact⟨⟨sY.congr (fun t _=>(h1 t).symm) a2,kY.congr (fun t _=>(h2 t).symm) a3,this.1⟩,.cons a1 this.2.1,this.2.2⟩
   ·simp at h
  ·simp at h
def Ez(nx:Nat):Nat->aD->aD
 |0,hp=>hp
 |n+1,hp=>(nx+n,.res)::Ez nx n hp
theorem BP{c:Code}{e:bY}{hp:aD}{nx:Nat}:∀(n:Nat),ir K c Q ⟨e,Ez nx n hp,nx+n⟩->ir K c Q ⟨e,hp,nx⟩
 |0,h=>h
 |n+1,h=>BP n (aY cA h)
theorem Gn{c:Code}(h:K.pins<=S.nx->ir K c Q S):ir K c Q S:=by
 intro m β w a r;refine h ?_ m β w a r;cases hp:K.pins with
 |zero=>grind
 |succ q=>have:=(r.pin q (by omega)).1;omega
theorem Ll{cb:Nat->List V->Option V}{cb2:Nat->List V->aD->Nat->Option (V×aD×Nat)}(hcb2:∀f avs hp k v hp' k',cb2 f avs hp k=some (v,hp',k')->cM K.P f=true/\g9 K.gl K.P f avs k hp v k' hp')(hcb:∀f avs v,cb f avs=some v->cM K.P f=true/\dX K.gl K.P f avs v)(ht:cK K.P t){mt:List MT}(hmt:s9 K.P mt)(hm:K.P.follows .mixedOrders=true){rid n nx:Nat}{e e':bY}{hp hp':aD}{ds:List OD}
  (h:Ml cb cb2 t mt K.N ops ops.toList nx e (Ez nx n hp) (nx+n)=some (ds,e',hp')) (hok:qc ops.toList ds=true) (k:∀S1,aV K S1 ⟨e',hp',nx+n⟩->Q .normal S1):ir K (.region rid ops true) Q ⟨e,hp,nx⟩:=by
 refine Gn (fun hpin=>BP n ?_);obtain⟨l⟩:=ops;obtain⟨a1,a2,a3,a4,a5⟩:=F4 hcb2 hcb ht hmt (S:=⟨e,Ez nx n hp,nx+n⟩) hpin h rfl (fun _=>rfl) (fun _=>rfl);exact Is ds hm a1 hok a2 (k _ (fun m β _ _ r=>⟨m,β,r.congr (fun t=>(a3 t).symm) (fun t=>(a4 t).symm) a5.symm⟩))
end
section
variable{K:cS}{Q:bX}{S S':St}{t:TT}
def rvT:ResultVar->Nat
 | .tmp x=>x
 | .cell x _=>x
def Mx(e:bY):List ResultVar->Option (List (Nat×V))
 |[]=>some []
 |r::l=>(match oY e (rvT r) with|some v=>(match Mx e l with|some q=>some ((rvT r,v)::q)|none=>none)|none=>none)
def MI(f:Nat->Option Nat):List (Nat×V)->Option bY
 |[]=>some []
 |(x,v)::l=>(match oX f 12 v with|some y=>(match MI f l with|some q=>some ((x,y)::q)|none=>none)|none=>none)
def FJ(hp:aD):Nat->List Nat
 |0=>[]
 |q+1=>MQ (ao hp q)++FJ hp q
def MS:List (Nat×V)->List Nat
 |[]=>[]
 |p::l=>yb 12 p.2++MS l
def OR(k:Nat)(rs:List ResultVar):St->Option St
 |⟨e,hp,nx⟩=>(match Mx e rs with
  |some l=>(match vG hp 4000 (FJ hp k++MS l) (lp 0 k) with
   |some R=>(match MI (tL R 0) l with
    |some e2=>(match HY (tL R 0) hp 0 R with
     |some (h2,_)=>(match nodup R&&uq R k with|true=>some ⟨e2,h2,R.length⟩|false=>none)
     |none=>none)
    |none=>none)
   |none=>none)
  |none=>none)
theorem Dw{R:List Nat}:tU (Ren R.length (sg R)) (tL R 0):=by
 rintro m β m' β' ⟨rfl,h⟩
 refine⟨Y,fun i j hij=>?_⟩;obtain⟨q,rfl,hq⟩:=we hij<;>simp_all[zS]
theorem Br{Yo:Hy}{f:Nat->Option Nat}(hY:tU Yo f){e:bY}{rs:List ResultVar}:∀{l:List (Nat×V)} {e2:bY},(∀p,p∈l->get e p.1=p.2)->MI f l=some e2->bP Yo e e2
 |[],e2,_,h=>by simp[MI] at h;subst h;exact .nil
 |(x,v)::l,e2,hl,h=>by
  simp only[MI] at h;split at h
  ·rename_i y hy;split at h
   ·rename_i q hq;simp at h;subst h;exact .cons (by grind [List.mem_cons_self,qP]) (Br (rs:=rs) hY (fun p hp=>hl p (bv8 _ hp)) hq)
   grind
  grind
theorem Ev{e:bY}:∀{rs:List ResultVar} {l:List (Nat×V)},Mx e rs=some l->∀p,p∈l->get e p.1=p.2
 |[],l,h,p,hp=>by simp_all[Mx]
 |r::rs,l,h,p,hp=>by
  simp only[Mx] at h;split at h
  ·rename_i v hv;split at h
   ·rename_i q hq;simp at h;subst h;rcases aq8.1 hp with rfl|hp
    ·exact dN hv
    ·exact Ev hq p hp
   ·simp at h
  ·simp at h
theorem Lh{k:Nat}{rs:List ResultVar}{S S2:St}(h:OR k rs S=some S2)(hk:K.pins=k):aV K S S2:=by
 obtain⟨e,hp,nx⟩:=S;simp only[OR] at h;split at h
 ·rename_i l hl;split at h
  ·rename_i R hR;split at h
   ·rename_i e2 he;split at h
    ·rename_i h2 r hin;split at h
     ·rename_i hb;simp only[ap9] at hb;simp only[av8] at h;subst h;exact bc (S:=⟨e,hp,nx⟩) R.length (sg R) e2 h2 (rS hb.1) (Br (rs:=rs) Dw (Ev hl) he).get (bR.get (z6 (R0:=R) Dw (fun q i h=>by grind) hin (zZ hin))) (by simp_all[rM])
     grind
    grind
   grind
  grind
 grind
def fin(k:Nat)(rs:List ResultVar)(S:St):St:=match OR k rs S with|some S2=>S2|none=>S
theorem K5{k:Nat}{rs:List ResultVar}{S:St}(hk:K.pins=k):aV K S (fin k rs S):=by
 unfold fin;split
 ·grind [Lh]
 ·exact fun m β _ _ r=>⟨m,β,r⟩
def CO(k:Nat)(rs:List ResultVar)(o:Option St):Option St:=match o with|some S=>some (fin k rs S)|none=>none
theorem CN{k:Nat}{rs:List ResultVar}{o:Option St}{S2:St}(h:CO k rs o=some S2):∃S,o=some S/\fin k rs S=S2:=by
 unfold CO at h
 grind
end
section
variable{K:cS}{Q:bX}{S S':St}{ops:Array Oper}{rest:List Oper}{t:TT}
theorem yF{o:Oper}{d:Nat}{f:FuncId}{avs:List V}{k':Nat}{hp':aD}{dv:V}(hw:aT ops S o true)(hd:o.dst=some d)(hN:Nat.blt d K.N=true)
  (hrun:∀m β w a,bQ K m β w a S->∃vs:Array Value,(execOp a.eval o).run K.P w=.ok (.enter f vs) w/\kR m β avs vs)
  (hc:g9 K.gl K.P f avs S.nx S.hp dv k' hp') (kk:ax K ops rest Q ⟨(d,dv)::S.env,hp',k'⟩):ax K ops (o::rest) Q S:=by
 intro m β w a r;unfold wpListIn;rw[if_pos (hw.at r)];obtain⟨vs,h1,h2⟩:=hrun m β w a r;refine fS (.inr (kb h1 (fun d e=>by cases e))) ?_;unfold Oper.wp;rw[h1];refine(hc m β w vs r.imm (K.glok.mono r.ext) h2 r.own (fun id b cap hl hb=>(r.priv id b cap hl hb).1) r.inj (fun id x hl hx=>let q:=r.hid id x hl hx;⟨q.lt,q.m,q.ne,q.un⟩) r.nx).mono ?_
 rintro e w' ⟨v,m',β',rfl,hv,g⟩
 simp only[hd]
 have hle:S.nx<=k':=by
  cases hn:S.nx with
  |zero=>grind
  |succ q=>have:=(g.pin q (by omega)).1;omega
 have hβle:β.le β':=by
  intro id l hl;by_cases h:id<S.nx
  ·rw[(g.pin id h).2];exact hl
  ·rw[r.nx id (by omega)] at hl;simp at hl
 have hold:∀b,b<K.w0.heap.size->K.old b->b<w.heap.size/\di S.hp β b:=fun b hb ho=>
  ⟨ci8 hb r.size,fun i hl=>⟨fun c hb'=>(r.priv _ _ _ hl hb').2 hb ho,fun hx=>(r.hid _ _ hl hx).old hb ho⟩⟩
 have r2:bQ K m' β' w' a ⟨S.env,hp',k'⟩:=by
  constructor
  ·exact g.imm
  ·exact bA.le_trans r.ext g.le
  ·intro b hb ho;obtain⟨q1,q2⟩:=hold b hb ho;rw[(g.old b q1 q2).1];exact r.mold b hb ho
  ·intro b hb ho;obtain⟨q1,q2⟩:=hold b hb ho;rw[(g.old b q1 q2).2];exact r.frame b hb ho
  ·exact bt8 r.size g.size
  ·exact r.same.trans g.same
  ·exact r.tn
  ·exact r.df.mono g.le
  ·exact fun t=>(r.env t).mono g.le hβle
  ·exact g.own
  ·intro id b cap hl hb;obtain⟨q1,q2⟩:=g.priv id b cap hl hb<;>grind
  ·exact g.inj
  ·intro id x hl hx;obtain⟨q1,q2,q3,q4,q5⟩:=g.hid id x hl hx;exact⟨q1,q2,fun hb0 ho=>q3 (hold x hb0 ho).1 (hold x hb0 ho).2,q4,q5⟩
  ·exact g.nx
  ·intro q hq;obtain⟨p1,p2⟩:=r.pin q hq;have:=g.pin q p1
   grind
 exact kk m' β' w' _ (r2.put hN hv)
def KE(t:TT)(e:bY)(hp:aD):ResultVar->Option V
 | .tmp x=>oY e x
 | .cell x T=>(match oY e x with
  |some (.ptr id k i o)=>(match pk hp id with
   |some (.arr _ k2 rows)=>(match Nat.beq k k2 with|true=>(match lA rows i with|some row=>CC t T row o|none=>none)|false=>none)
   |_=>none)
  |_=>none)
theorem HC(ht:cK K.P t){rv:ResultVar}{v:V}(h:KE t S.env S.hp rv=some v):kx K.P S rv v:=by
 cases rv with
 |tmp x=>exact .tmp (dN h)
 |cell x T=>
  simp only[KE] at h;split at h
  ·rename_i id k i o hx;split at h
   ·rename_i k2 rows ho;split at h
    ·rename_i hk;have hk:=cg9 hk;subst hk;split at h
     ·rename_i row hr;cases hn:dq t T TF.qA with
      |some n=>
       obtain⟨cs,rfl,hc,hd⟩:=qT hn h;exact .agg (Iv ht hn) (dN hx) (fI ho) (eL hr) (lM hc).1 (lM hc).2 hd
      |none=>
       obtain⟨hq,hc,hd⟩:=oq hn h;exact .cell (Iu ht hq) (dN hx) (fI ho) (eL hr) (eL hc) hd
     grind
    grind
   grind
  grind
def HD(t:TT)(e:bY)(hp:aD):List ResultVar->Option (List V)
 |[]=>some []
 |r::l=>(match KE t e hp r with|some v=>(match HD t e hp l with|some q=>some (v::q)|none=>none)|none=>none)
theorem zz(ht:cK K.P t):∀{l:List ResultVar} {ds:List V},HD t S.env S.hp l=some ds->wV K.P S l ds
 |[],ds,h=>by simp[HD] at h;subst h;exact .nil
 |r::l,ds,h=>by
  simp only[HD] at h;split at h
  ·rename_i v hv;split at h
   ·rename_i q hq;simp at h;subst h;exact .cons (HC ht hv) (zz ht hq)
   ·simp at h
  ·simp at h
abbrev FT:=List (Nat×Func)
def Jm(P:Program)(ft:FT):Prop:=∀p,p∈ft->P.funcs[p.1]? = some p.2/\cM P p.1=true
def OF(P:Program)(l:List Nat):FT:=l.filterMap fun f=>match P.funcs[f]? with|some g=>some (f,g)|none=>none
theorem MX{P:Program}{ft:FT}(l:List Nat)(h:ft=OF P l)(hB:l.all (cM P)=true):Jm P ft:=fun p hp=>by
 rw[h] at hp;obtain⟨f,hf,e⟩:=List.mem_filterMap.1 hp<;>grind
abbrev XT:=List (Nat×(List V->Option V))
def Ls(gl:Gl)(P:Program)(xt:XT):Prop:=∀p,p∈xt->cM P p.1=true/\∀avs v,p.2 avs=some v->dX gl P p.1 avs v
def MC(t:TT)(N:Nat)(ops:Array Oper)(e:bY)(o:Oper):Option (Nat×Nat×List V):=
 match pX N ops e o with
 |some d=>(match Nb t e o.op with|some (f,avs)=>some (d,f,avs)|none=>none)
 |none=>none
def zj(t:TT):List Oper->Nat
 |[]=>0
 |o::l=>(match o.op with | .alloc _=>zj t l+1 | .box _ _=>zj t l+1 | .makeMap _ _=>zj t l+1 | .buildSlice _ _ _=>zj t l+1 | .makeSlice _ _ _=>zj t l+1 | .call c=>(match c.callee with | .value x=>(match x with | .func f=>(match dq t f TF.qR with|some n=>zj t l+n|none=>zj t l+12)|_=>zj t l+12) | .invoke _ _=>zj t l+12 | .builtin .append=>zj t l+2|_=>zj t l)|_=>zj t l)
def xk(ft:FT)(xt:XT)(t:TT)(mt:List MT):Nat->Nat->List It->St->Option St
 |0,_,_,_=>none
 |_+1,_,[],S=>some S
 |n+1,N,x::s,⟨e,hp,nx⟩=>
  match x with
  | .c .ret=>some ⟨e,hp,nx⟩
  | .c (.loop c)=>xk ft xt t mt n N (.c c::.c (.loop c)::s) ⟨e,hp,nx⟩
  | .c (.region _ ops true)=>
   (match Ml (fun f avs=>match lk xt f with
     |some g=>g avs
     |none=>(match lk ft f with
      |some fn=>(match fn.body with
       |some c=>(match Nat.ble avs.length fn.ntmps,CO 0 fn.results.toList (xk ft xt t mt n fn.ntmps [.c c] ⟨fZ 0 avs,[],0⟩) with
        |true,some ⟨e1,hp1,_⟩=>(match HD t e1 hp1 fn.results.toList with
         |some ds=>(match FH (eK ds) with|true=>some (eK ds)|false=>none)
         |none=>none)
        |_,_=>none)
       |none=>none)
      |none=>none)) (fun f avs hp k=>match lk ft f with
      |some fn=>(match fn.body with
       |some c=>(match Nat.ble avs.length fn.ntmps,CO k fn.results.toList (xk ft xt t mt n fn.ntmps [.c c] ⟨fZ 0 avs,hp,k⟩) with
        |true,some ⟨e1,hp1,k1⟩=>(match HD t e1 hp1 fn.results.toList with
         |some ds=>some (eK ds,hp1,k1)
         |none=>none)
        |_,_=>none)
       |none=>none)
      |none=>none) t mt N ops ops.toList nx e (Ez nx (zj t ops.toList) hp) (nx+zj t ops.toList) with
   |some (ds,e',hp')=>(match qc ops.toList ds with|true=>xk ft xt t mt n N s ⟨e',BH nx (zj t ops.toList) hp',nx+zj t ops.toList⟩|false=>none)
   |none=>none)
  | .o ops (o::l)=>
   (match one t N ops o ⟨e,hp,nx⟩ with
   |some ⟨e',hp',nx'⟩=>xk ft xt t mt n N (.o ops l::s) ⟨DL e',DJ hp',nx'⟩
   |none=>(match MC t N ops e o with
    |some (d,f,avs)=>(match lk xt f with
     |some g=>(match g avs with|some v=>(match oS FH avs with|true=>xk ft xt t mt n N (.o ops l::s) ⟨rI d v e,hp,nx⟩|false=>none)|none=>none)
     |none=>(match lk ft f with
      |some fn=>(match fn.body with
       |some c=>(match Nat.ble avs.length fn.ntmps,CO nx fn.results.toList (xk ft xt t mt n fn.ntmps [.c c] ⟨fZ 0 avs,hp,nx⟩) with
        |true,some ⟨e1,hp1,nx1⟩=>(match HD t e1 hp1 fn.results.toList with
         |some ds=>xk ft xt t mt n N (.o ops l::s) ⟨rI d (eK ds) e,hp1,nx1⟩
         |none=>none)
        |_,_=>none)
       |none=>none)
      |none=>none))
    |none=>(match pX N ops e o with
     |some d=>(match mT t mt e hp nx o.op with|some (v,u,q)=>xk ft xt t mt n N (.o ops l::s) ⟨rI d v e,pQ u hp,nx+q⟩|none=>(match o.guard,OZ t d e hp nx o.op with|none,some (ue,uh)=>xk ft xt t mt n N (.o ops l::s) ⟨ug ue e,pQ uh hp,nx+2⟩|_,_=>none))
     |none=>(match o.dst,wt ops e o.guard with
      |none,some true=>(match NZ t mt e hp o.op with|some (id,ob)=>xk ft xt t mt n N (.o ops l::s) ⟨e,qj id ob hp,nx⟩|none=>none)
      |_,_=>none))))
  |x=>(match Ep t N (x::s) ⟨e,hp,nx⟩ with|some (s',S')=>xk ft xt t mt n N s' S'|none=>none)
theorem sj{d:Nat}{v:V}{e:bY}{hp:aD}{nx:Nat}:aV K ⟨(d,v)::e,hp,nx⟩ ⟨rI d v e,hp,nx⟩:=fun m β _ _ r=>⟨m,β,r.congr (lI d v e) (fun _=>rfl) rfl⟩
theorem Ae{id:Nat}{ob:Ob}{e:bY}{hp:aD}{nx:Nat}:aV K ⟨e,(id,ob)::hp,nx⟩ ⟨e,qj id ob hp,nx⟩:=fun m β _ _ r=>⟨m,β,r.congr (fun _=>rfl) (mF id ob hp) rfl⟩
theorem Ac{d:Nat}{v:V}{e:bY}{u hp:aD}{nx:Nat}:aV K ⟨(d,v)::e,u++hp,nx⟩ ⟨rI d v e,pQ u hp,nx⟩:=fun m β _ _ r=>⟨m,β,r.congr (lI d v e) (kh u hp) rfl⟩
theorem yh{ue e:bY}{u hp:aD}{nx:Nat}:aV K ⟨ue++e,u++hp,nx⟩ ⟨ug ue e,pQ u hp,nx⟩:=fun m β _ _ r=>⟨m,β,r.congr (pn ue e) (kh u hp) rfl⟩
theorem ye{S1 S2 S3:St}(h:aV K S1 S2)(h':aV K S2 S3):aV K S1 S3:=aV.trans h h'
theorem kj:aV K S S:=fun m β _ _ r=>⟨m,β,r⟩
theorem On{i:Nat}{s:List It}(h:WG K Q s S):WG K Q (.b i::s) S:=h
theorem Ld{gl:Gl}{P:Program}{ft:FT}{xt:XT}{mt:List MT}(hft:Jm P ft)(hxt:Ls gl P xt)(ht:cK P t)(hmt:s9 P mt)(hm:P.follows .mixedOrders=true):
  ∀(n:Nat) (K:cS),K.P=P->K.gl=gl->∀(s:List It) (S S':St) (Q:bX),xk ft xt t mt n K.N s S=some S'->(∀S0,aV K S0 S'->∀e,(e=.ret\/e=.normal)->Q e S0)->∀S0,aV K S0 S->WG K Q s S0:=by
 intro n
 induction n with
 |zero=>simp_all[xk]
 |succ n ih=>
  -- a call by its text
  have call:∀(f:Nat) (fn:Func) (c:Code) (avs:List V) (hp hp1:aD) (nx nx1:Nat) (e1:bY) (ds:List V),P.funcs[f]? = some fn->fn.body=some c->Nat.ble avs.length fn.ntmps=true->
    CO nx fn.results.toList (xk ft xt t mt n fn.ntmps [.c c] ⟨fZ 0 avs,hp,nx⟩)=some ⟨e1,hp1,nx1⟩->HD t e1 hp1 fn.results.toList=some ds->g9 gl P f avs nx hp (eK ds) nx1 hp1:=by
   intro f fn c avs hp hp1 nx nx1 e1 ds q1 hb hle hrun hds;refine dm (l:=fn.results.toList) q1 hb Y (by simp) hle _ Y (fun w0 m0 β0 hg=>?_);obtain⟨S9,hr9,hf9⟩:=CN hrun;refine ih (pj gl P fn.ntmps nx hp w0 m0 β0 hg) Y Y [.c c] _ _ _ hr9 ?_ _ kj;exact fun S0 hg e he=>⟨he,e1,aV.trans hg (by grind [K5]),zz (S:=⟨e1,hp1,nx1⟩) ht hds⟩
  intro K hP hgl s S S' Q h hQ S0 hg0;cases s with
  |nil=>simp only[xk,av8] at h;subst h;exact hQ _ hg0 _ (.inr Y)
  |cons x s=>
   obtain⟨e,hp,nx⟩:=S;have ha:Ag e ⟨e,hp,nx⟩:=wS (S:=⟨e,hp,nx⟩);have htK:cK K.P t:=by rw[hP];exact ht
   have hmK:s9 K.P mt:=by rw[hP];exact hmt
   simp only[xk] at h;split at h
   ·simp only[av8] at h;subst h;exact wz (iy (hQ _ hg0 _ (.inl Y)))
   ·exact aY hg0 (yA (ih K hP hgl _ _ _ _ h hQ _ kj))
   ·split at h
    ·rename_i ds e' hp' hdr;split at h
     ·rename_i hok;refine aY hg0 (Ll ?_ ?_ htK hmK (by grind) hdr hok (fun S1 hg1=>ih K hP hgl _ _ _ _ h hQ _ (ye hg1 (Af (F3 _ _ _)))))
      ·intro f avs hp k v hp' k' hv;split at hv
       ·rename_i fn hfn;obtain⟨q1,q2⟩:=hft _ (lz hfn)<;>grind
       grind
      intro f avs v hv;split at hv
      ·rename_i g hg;obtain⟨q1,q2⟩:=hxt _ (lz hg)<;>simp_all
      ·split at hv
       ·rename_i fn hfn;obtain⟨q1,q2⟩:=hft _ (lz hfn)<;>grind [xR]
       grind
     grind
    grind
   ·rename_i ops o l;refine bz hg0 ?_;split at h
    ·rename_i e' hp' nx' h1;exact EQ htK h1 (ih K hP hgl _ _ _ _ h hQ _ Ab)
    ·split at h
     ·rename_i d f avs hop;unfold MC at hop;split at hop
      ·rename_i d' hd;split at hop
       ·rename_i hc;simp only[av8,Prod.mk.injEq] at hop;obtain⟨rfl,rfl,rfl⟩:=hop;obtain⟨w1,w2,w3⟩:=ko ha hd;split at h
        ·rename_i g hg;split at h
         ·rename_i v hv;obtain⟨q1,q2⟩:=hxt _ (lz hg);split at h
          ·rename_i him
           exact iN w1 w2 w3 (fun m β w a r=>by
            obtain⟨vs,e1,e2⟩:=oG htK ha hc (by grind) m β w a r;exact⟨vs,e1,⟨e2.len,fun i c v a b=>kg (ku him c (aw8 a)) (e2.at' i c v a b)⟩⟩) (by grind) (ih K hP hgl _ _ _ _ h hQ _ sj)
          grind
         grind
        ·split at h
         ·rename_i fn hfn;obtain⟨q1,q2⟩:=hft _ (lz hfn);split at h
          ·rename_i c hb;split at h
           ·rename_i e1 hp1 nx1 hle hrun;split at h
            ·rename_i ds hds;exact yF w1 w2 w3 (oG htK ha hc (by grind)) (by grind) (ih K hP hgl _ _ _ _ h hQ _ sj)
            grind
           grind
          grind
         grind
       grind
      grind
     ·split at h
      ·rename_i d hd;obtain⟨w1,w2,w3⟩:=ko ha hd;split at h
       ·rename_i v u q h1;obtain⟨dst,op,ty,pos,after,g⟩:=o;simp only at w2;subst w2;exact Bi htK hmK ha (O0 (S:=⟨e,hp,nx⟩)) Y h1 w1 w3 (ih K hP hgl _ _ _ _ h hQ _ Ac)
       ·split at h
        ·rename_i hgd h1;obtain⟨dst,op,ty,pos,after,g⟩:=o;simp only at w2;subst w2;exact Lq htK h1 hgd w3 (ih K hP hgl _ _ _ _ h hQ _ yh)
        grind
      ·split at h
       ·rename_i hdst hwt;have hw:=i4 ha hwt;split at h
        ·rename_i id ob h1;obtain⟨dst,op,ty,pos,after,g⟩:=o;simp only at hdst;subst hdst;exact Dp htK hmK ha (O0 (S:=⟨e,hp,nx⟩)) h1 hw (ih K hP hgl _ _ _ _ h hQ _ Ae)
        grind
       grind
   ·rename_i x4 n1 n2 n3 n4;split at h
    ·rename_i s' S2 h1;have k:=Eo (Q:=Q) htK h1 (ih K hP hgl _ _ _ _ h hQ _ kj);cases x with
     |c x=>exact aY hg0 k
     |o ops l=>exact bz hg0 k
     |b i=>grind [Ep,On]
     |j J=>simp[Ep] at h1
    grind
def OM(ft:FT)(xt:XT)(t:TT)(mt:List MT)(n f:Nat)(avs:List V):Option V:=
 match lk ft f with
 |some fn=>(match fn.body with
  |some c=>(match Nat.ble avs.length fn.ntmps,xk ft xt t mt n fn.ntmps [.c c] ⟨fZ 0 avs,[],0⟩ with
   |true,some ⟨e1,hp1,_⟩=>(match HD t e1 hp1 fn.results.toList with
    |some ds=>(match FH (eK ds) with|true=>some (eK ds)|false=>none)
    |none=>none)
   |_,_=>none)
  |none=>none)
 |none=>none
theorem Le{gl:Gl}{P:Program}{ft:FT}{xt:XT}{mt:List MT}(hft:Jm P ft)(hxt:Ls gl P xt)(ht:cK P t)(hmt:s9 P mt)(hm:P.follows .mixedOrders=true){n f:Nat}{avs:List V}{v:V}
  (h:OM ft xt t mt n f avs=some v):dX gl P f avs v:=by
 unfold OM at h;split at h
 ·rename_i fn hfn;obtain⟨q1,q2⟩:=hft _ (lz hfn);split at h
  ·rename_i c hb;split at h
   ·rename_i e1 hp1 nx1 hle hrun;split at h
    ·rename_i ds hds;split at h
     ·rename_i him;simp only[av8] at h;subst h;refine xR (k':=nx1) (hp':=hp1) ?_ him;refine dm (l:=fn.results.toList) q1 hb Y (by simp) hle _ Y (fun w0 m0 β0 hg=>?_);refine Ld hft hxt ht hmt hm n (pj gl P fn.ntmps 0 [] w0 m0 β0 hg) Y Y [.c c] _ _ _ hrun ?_ _ kj;exact fun S0 hg e he=>⟨he,e1,hg,zz (S:=⟨e1,hp1,nx1⟩) ht hds⟩
     grind
    grind
   grind
  grind
 grind
end
end Go.Pv
