/- Part of the proof: L, M. -/
import Derived.Test.YtelmfadihfcgnaaGreatDoorDPvJ
namespace Go.Pv
open Go
set_option linter.unusedVariables false
section
variable{K:Ctx}{Q:Post}{S S':St}{ops:Array Oper}{rest:List Oper}{op:Op}{ty:TypeId}{pos:String}{after:Array Edge}{g:Option (Nat×Bool)}
variable{m:Mem}{β:Locs}{w:World}{a:Act}
theorem fold_set(off:Nat):∀(l:List Value) (s:Nat) (cells:Array Value),off+s+l.length<=cells.size->
  ((l.zipIdx s).foldl (fun(cs:Array Value) (x:Value×Nat)=>cs.setIfInBounds (off+x.2) x.1) cells).size=cells.size/\
  ∀p,((l.zipIdx s).foldl (fun(cs:Array Value) (x:Value×Nat)=>cs.setIfInBounds (off+x.2) x.1) cells)[p]? = if off+s<=p/\p<off+s+l.length then l[p - (off+s)]? else cells[p]?
 |[],s,cells,_=>by
  refine⟨rfl,fun p=>?_⟩
  rw[if_neg]
  ·simp
  ·simp only[List.length_nil];omega
 |v::l,s,cells,h=>by
  simp only[List.length_cons] at h
  obtain⟨h1,h2⟩:=fold_set off l (s+1) (cells.setIfInBounds (off+s) v) (by simp;omega)
  simp only[List.zipIdx_cons,List.foldl_cons]
  refine⟨by rw[h1];simp,fun p=>?_⟩
  rw[h2]
  simp only[List.length_cons,Array.getElem?_setIfInBounds]
  by_cases hp:p=off+s
  ·subst hp
   rw[if_neg (by omega),if_pos rfl,if_pos (by omega),if_pos (by omega)]
   simp
  ·by_cases hp2:off+s<=p/\p<off+s+(l.length+1)
   ·rw[if_pos (by omega),if_pos hp2]
    have:p - (off+s)=(p - (off+(s+1)))+1:=by omega
    rw[this,List.getElem?_cons_succ]
   ·rw[if_neg (by omega),if_neg (Ne.symm hp),if_neg hp2]
def fillV(pl:Nat->Option (Nat×Nat)):List V->List (Nat×V)->Option (List V)
 |cs,[]=>some cs
 |cs,(i,v)::rest=>
  match pl i with
  |none=>none
  |some (off,size)=>bif Nat.beq (vcells v).length size&&Nat.ble (off+(vcells v).length) cs.length&&(vcells v).all oneV then fillV pl (cs.take off++vcells v++cs.drop (off+(vcells v).length)) rest else none
def Cells(m:Mem)(β:Locs)(cs:List V)(vs:Array Value):Prop:=
 cs.length=vs.size/\∀(i:Nat) (c:V) (u:Value),cs[i]? = some c->vs[i]? = some u->VRel m β c u/\u.oneCell'=true
theorem fill_rel{pl:Nat->Option (Nat×Nat)}:∀(parts:List (Nat×V)) (vals:List (Nat×Value)) (cs cs':List V) (cells:Array Value),fillV pl cs parts=some cs'->Cells m β cs cells->
  parts.length=vals.length->(∀(i:Nat) (p:Nat×V) (q:Nat×Value),parts[i]? = some p->vals[i]? = some q->p.1=q.1/\VRel m β p.2 q.2)->
  ∃cells',Instr.fill pl cells vals=some cells'/\Cells m β cs' cells'
 |[],[],cs,cs',cells,h,hc,_,_=>by
  simp only[fillV,Option.some.injEq] at h
  subst h
  exact⟨cells,rfl,hc⟩
 |(i,v)::parts,(i',u)::vals,cs,cs',cells,h,hc,hl,hr=>by
  obtain⟨e1,e2⟩:=hr 0 _ _ rfl rfl
  simp only at e1 e2
  subst e1
  simp only[fillV] at h
  cases hp:pl i with
  |none=>simp[hp] at h
  |some p=>
   obtain⟨off,size⟩:=p
   simp only[hp,cond_eq_ite,Bool.and_eq_true] at h
   split at h
   ·rename_i hcond
    obtain⟨⟨q1,q2⟩,q3⟩:=hcond
    have q1:=Nat.eq_of_beq_eq_true q1
    have q2:=Nat.le_of_ble_eq_true q2
    obtain⟨c1,c2,c3⟩:=e2.cells q3
    obtain⟨f1,f2⟩:=fold_set off u.cells.toList 0 cells (by simp only[Nat.add_zero,Array.length_toList,<-c1,<-hc.1];exact q2)
    simp only[Nat.add_zero,Array.length_toList] at f2
    obtain⟨cells',g1,g2⟩:=fill_rel parts vals _ cs' ((u.cells.toList.zipIdx 0).foldl (fun(cs:Array Value) (x:Value×Nat)=>cs.setIfInBounds (off+x.2) x.1) cells) h (by
     refine⟨by rw[f1];simp only[List.length_append,List.length_take,List.length_drop,<-hc.1];omega,fun j c x hj hx=>?_⟩
     rw[splice_get _ _ _ q2] at hj
     rw[f2] at hx
     by_cases hjj:off<=j/\j<off+(vcells v).length
     ·rw[if_pos hjj] at hj
      rw[if_pos (by rw[<-c1];exact hjj)] at hx
      have hx':u.cells[j - off]? = some x:=by simpa using hx
      exact⟨c2 _ _ _ hj hx',c3 x (by have:=Array.mem_of_getElem? hx';simpa using this)⟩
     ·rw[if_neg hjj] at hj
      rw[if_neg (by rw[<-c1];exact hjj)] at hx
      exact hc.2 j c x hj hx) (by simpa using hl) (fun i p q h1 h2=>hr (i+1) p q (by simpa using h1) (by simpa using h2))
    refine⟨cells',?_,g2⟩
    unfold Instr.fill
    simp only[hp]
    rw[if_neg]
    ·rw[<-g1]
     congr 1
     rw[<-Array.foldl_toList,Array.toList_zipIdx]
    ·simp only[ne_eq,Bool.or_eq_true,decide_eq_true_eq,not_or,Decidable.not_not,Nat.not_lt]
     exact⟨by rw[<-c1];exact q1,by rw[<-c1,<-hc.1];exact q2⟩
   ·simp at h
 |[],q::vals,_,_,_,_,_,hl,_=>by simp at hl
 |p::parts,[],_,_,_,_,_,hl,_=>by simp at hl
def tyPlaces(P:Program)(T:TypeId):Option (List (Nat×Nat)):=
 match P.underlying T with
 |some (.struct fs)=>fs.toList.mapM fun f=>(P.info? f.type).map fun i=>(f.offset,i.size)
 |_=>none
theorem parts_rel(r:Rel K m β w a S)(parts:Array (Nat×Operand))(ps:List (Nat×V))(h:parts.toList.map (fun p=>(p.1,evl K S p.2))=ps):
  ps.length=(parts.map fun(i,x)=>(i,a.eval x)).toList.length/\
  ∀(i:Nat) (p:Nat×V) (q:Nat×Value),ps[i]? = some p->(parts.map fun(i,x)=>(i,a.eval x)).toList[i]? = some q->p.1=q.1/\VRel m β p.2 q.2:=by
 subst h
 refine⟨by simp,fun i p q h1 h2=>?_⟩
 simp only[Array.toList_map,List.getElem?_map] at h1 h2
 cases hx:parts.toList[i]? with
 |none=>simp[hx] at h1
 |some x=>
  simp[hx] at h1 h2
  subst h1;subst h2
  exact⟨rfl,r.reads x.2⟩
theorem zero_cells{zs:List Value}(h1:zs.all (·.oneCell')=true)(m:Mem)(β:Locs):Cells m β (zs.map .con) zs.toArray:=by
 refine⟨by simp,fun i c u hc hu=>?_⟩
 simp only[List.getElem?_map,List.getElem?_toArray] at hc hu
 rw[hu] at hc
 simp at hc;subst hc
 exact⟨.imm (.con u),List.all_eq_true.1 h1 u (List.mem_of_getElem? hu)⟩
theorem aops_build{d:Nat}{T:TypeId}{parts:Array (Nat×Operand)}{zs:List Value}{pls:List (Nat×Nat)}(ps:List (Nat×V))(cs:List V)(hz:zeroCells K.P T=some zs)(hp:tyPlaces K.P T=some pls)
  (h1:zs.all (·.oneCell')=true) (hw:Wants ops S ⟨some d,.build T parts,ty,pos,after,g⟩ true)
  (hps:parts.toList.map (fun p=>(p.1,evl K S p.2))=ps) (hf:fillV (fun i=>pls[i]?) (zs.map .con) ps=some cs) (hN:Nat.blt d K.N=true)
  (kk:AOps K ops rest Q (S.put d (.agg cs))):AOps K ops (⟨some d,.build T parts,ty,pos,after,g⟩::rest) Q S:=
 aops_val _ hw hN (fun m β w a r=>by
  obtain⟨hl,hr⟩:=parts_rel r parts ps hps
  obtain⟨cells',f1,f2⟩:=fill_rel ps _ _ cs zs.toArray hf (zero_cells h1 m β) hl hr
  have hb:K.P.built T (parts.map fun(i,x)=>(i,a.eval x)).toList=some cells':=by
   unfold zeroCells at hz
   unfold tyPlaces at hp
   cases hi:K.P.info? T with
   |none=>simp[hi] at hz
   |some i=>
    cases hzz:i.zero with
    |none=>simp[hi,hzz] at hz
    |some z=>
     simp[hi,hzz] at hz
     cases hu:K.P.underlying T with
     |none=>simp[hu] at hp
     |some dd=>
      cases dd<;>simp only[hu,reduceCtorEq] at hp
      rename_i fs
      simp only[Program.built,hi,hu,hzz,hp]
      rw[<-f1,<-hz]
      simp
  refine⟨.agg cells',by simp only[execOp];exact run_value (run_build w T _ cells' hb),.agg f2.1 fun i c v hc hv=>(f2.2 i c v hc hv).1⟩) kk
def flat:List (List V)->List V
 |[]=>[]
 |r::rs=>r++flat rs
theorem flat_length{k:Nat}:∀(rows:List (List V)),(∀row,row∈rows->row.length=k)->(flat rows).length=rows.length*k
 |[],_=>by simp[flat]
 |r::rs,h=>by
  simp only[flat,List.length_append,List.length_cons,Nat.add_mul,Nat.one_mul,h r (by simp),flat_length rs (fun row hr=>h row (by simp[hr]))]
  omega
theorem flat_get{k:Nat}:∀(rows:List (List V)),(∀row,row∈rows->row.length=k)->∀(i j:Nat) row c,rows[i]? = some row->row[j]? = some c->(flat rows)[i*k+j]? = some c
 |[],_,i,j,row,c,hi,_=>by simp at hi
 |r::rs,h,i,j,row,c,hi,hj=>by
  simp only[flat]
  have hrk:=h r (by simp)
  have hj1:=(List.getElem?_eq_some_iff.1 hj).1
  cases i with
  |zero=>
   simp at hi;subst hi
   rw[List.getElem?_append_left (by omega)]
   simpa using hj
  |succ i=>
   simp at hi
   rw[List.getElem?_append_right (by rw[hrk,Nat.add_mul,Nat.one_mul];omega)]
   have:(i+1)*k+j - r.length=i*k+j:=by rw[hrk,Nat.add_mul,Nat.one_mul];omega
   rw[this]
   exact flat_get rs (fun row hr=>h row (by simp[hr])) i j row c hi hj
theorem aops_buildSlice{d T e k bytes n:Nat}{parts:Array (Nat×Operand)}{zs:List Value}(ps:List (Nat×V))(rows:List (List V))(hT:tyEl K.P T e k bytes=true)(hz:zeroCells K.P e=some zs)
  (h1:zs.all (·.oneCell')=true) (hk:Nat.blt 0 k=true) (hnn:Nat.blt 0 n=true) (hbig:Nat.ble (n*k) 16777216=true) (hw:Wants ops S ⟨some d,.buildSlice T n parts,ty,pos,after,g⟩ true)
  (hps:parts.toList.map (fun p=>(p.1,evl K S p.2))=ps) (hf:fillV (fun i=>some (i*k,k)) (((List.range (n*k)).map fun i=>zs.getD (i % k) undef).map .con) ps=some (flat rows))
  (hrl:rows.length=n) (hrk:∀row,row∈rows->row.length=k) (hN:Nat.blt d K.N=true)
  (kk:AOps K ops rest Q ⟨(d,.own S.nx n)::S.env,(S.nx,.arr e k rows)::S.hp,S.nx+1⟩):
  AOps K ops (⟨some d,.buildSlice T n parts,ty,pos,after,g⟩::rest) Q S:=by
 refine aops_runs hw (fun m β w a r=>?_) kk
 have hk:=Nat.le_of_ble_eq_true hk
 have hnn:=Nat.le_of_ble_eq_true hnn
 have hbig:=Nat.le_of_ble_eq_true hbig
 obtain⟨hl,hr⟩:=parts_rel r parts ps hps
 obtain⟨i,z,hu,hi,hs,hby,hzz,hzk⟩:=tyEl_inv hT
 obtain⟨z',hz1,hz2⟩:=zero_run hz w
 have hzl:zs.length=k:=by
  have:zeroCells K.P e=some z.cells.toList:=by simp[zeroCells,hi,hzz]
  rw[hz] at this;simp only[Option.some.injEq] at this;rw[this];simp[hzk]
 have hkk:K.P.cellsOf e=k:=by simp[Program.cellsOf,hi,hs]
 have hrows:0<n*k:=Nat.mul_pos hnn hk
 have hall:∀v,v∈zs->v.oneCell'=true:=fun v hv=>List.all_eq_true.1 h1 v hv
 have hzc:(Array.range (n*k)).map (fun x=>(z'.cells)[x % z'.cells.size]!)=(((List.range (n*k)).map fun i=>zs.getD (i % k) undef)).toArray:=by
  apply Array.ext'
  simp only[Array.toList_map,Array.toList_range,hz2,List.size_toArray,hzl]
  apply List.map_congr_left
  intro x _
  have:x % k<zs.length:=by rw[hzl];exact Nat.mod_lt _ hk
  simp[this]
 obtain⟨cells',f1,f2⟩:=fill_rel ps _ _ (flat rows) (((List.range (n*k)).map fun i=>zs.getD (i % k) undef)).toArray hf (zero_cells (by
  rw[List.all_eq_true]
  intro v hv
  simp only[List.mem_map,List.mem_range] at hv
  obtain⟨p,_,rfl⟩:=hv
  have:p % k<zs.length:=by rw[hzl];exact Nat.mod_lt _ hk
  simp only[List.getD_eq_getElem?_getD,List.getElem?_eq_getElem this,Option.getD_some]
  exact hall _ (List.getElem_mem _)) m β) hl hr
 have hsize:cells'.size=n*k:=by rw[<-f2.1,flat_length rows hrk,hrl]
 obtain⟨β',hle,hnx,r2⟩:=r.alloc (.cells cells' e (0,0)) (.arr e k rows) ⟨n,0⟩ _ rfl (fun β' hle=>by
  refine obok_new0 (vs:=cells') (by simp) hsize (by omega) (by unfold maxLen;have:=Nat.le_mul_of_pos_right n hk;omega) hrk ?_
  intro i j row c hi hj
  have hg:=flat_get rows hrk i j row c hi hj
  have hlt:i*k+j<cells'.size:=by rw[<-f2.1];exact(List.getElem?_eq_some_iff.1 hg).1
  obtain⟨a1,a2⟩:=f2.2 _ c cells'[i*k+j] hg (by simp[hlt])
  exact⟨cells'[i*k+j],by simp[hlt],a1.mono (Mem.le_refl _) hle,a2⟩)
 refine⟨.slice (some ⟨w.heap.size,0,none⟩) n n,{ w with heap:=w.heap.push (.cells cells' e (0,0)) },m,β',.inl ?_,Rel.put r2 hN (.own hnx)⟩
 simp only[execOp]
 rw[Sem.run_bind]
 have:(Instr.buildSlice T n (parts.map fun(i,x)=>(i,a.eval x))).run K.P w=.ok (.slice (some ⟨w.heap.size,0,none⟩) n n) { w with heap:=w.heap.push (.cells cells' e (0,0)) }:=by
  simp only[Instr.buildSlice,Sem.run_bind,run_underlying hu,Result.andThen_ok,run_sizeOf w hi,hkk]
  rw[if_neg (by omega),if_neg (by omega)]
  simp only[Sem.run_bind,hz1,Result.andThen_ok,pure,Sem.run,hzc,f1,newRow,newObj]
 rw[this]
 rfl
theorem aops_makeFunc{d f:Nat}{captured:Array Operand}(cs:List V)(hw:Wants ops S ⟨some d,.makeFunc (.func f) #[] captured,ty,pos,after,g⟩ true)
  (hc:captured.toList.map (evl K S)=cs) (hN:Nat.blt d K.N=true) (kk:AOps K ops rest Q (S.put d (.fn (.func f) [] cs))):
  AOps K ops (⟨some d,.makeFunc (.func f) #[] captured,ty,pos,after,g⟩::rest) Q S:=
 aops_val _ hw hN (fun m β w a r=>by
  refine⟨.func (.func f) #[] (captured.map a.eval),by simp only[execOp];exact run_value (by simp[Instr.makeFunc,pure]),.fn rfl (by simp[<-hc]) (by simp) fun i c v h1 h2=>?_⟩
  rw[<-hc,List.getElem?_map] at h1
  rw[Array.getElem?_map] at h2
  cases hx:captured[i]? with
  |none=>simp[hx] at h2
  |some x=>
   simp[hx] at h1 h2
   subst h1;subst h2
   exact r.reads x) kk
inductive Flat:V->Prop
 |con (v:Value):Flat (.con v)
 |any:Flat .any
 |tup {ds:List V} (h:∀d,d∈ds->∃v,d=.con v):Flat (.tup ds)
theorem Flat.free{d:V}(h:Flat d){m m':Mem}{v:Value}(hv:IRel m d v):IRel m' d v:=by
 cases h with
 |con=>cases hv;exact .con _
 |any=>exact .any _
 |tup h=>
  cases hv with
  |tup hl hh=>
   refine .tup hl fun i c v hi hv=>?_
   obtain⟨u,rfl⟩:=h c (List.mem_of_getElem? hi)
   have:=hh i _ v hi hv
   cases this;exact .con _
theorem aops_lend{o:Oper}{d:Nat}{f:FuncId}{dv:V}{avs:List V}(hw:Wants ops S o true)(hd:o.dst=some d)(hN:Nat.blt d K.N=true)(hg:Ghost K S S')(hfl:Flat dv)
  (hrun:∀m β w a,Rel K m β w a S'->∃vs:Array Value,(execOp a.eval o).run K.P w=.ok (.enter f vs) w/\IRels m avs vs)
  (hc:PureG K.gl K.P f avs dv) (kk:AOps K ops rest Q (S.put d dv)):AOps K ops (o::rest) Q S:=by
 intro m β w a r
 unfold wpListIn
 rw[if_pos (hw.at r)]
 obtain⟨m1,β1,r1⟩:=hg m β w a r
 obtain⟨vs,h1,h2⟩:=hrun m1 β1 w a r1
 refine op_in (.inr (nd_run h1 (fun d e=>by cases e))) ?_
 unfold Oper.wp
 rw[h1]
 refine(hc m1 w vs r1.imm (K.glok.mono r1.ext) h2).mono ?_
 rintro e w' ⟨v,m',rfl,h3,h4⟩
 simp only[hd]
 have hg:Grew m m w w':=⟨Mem.le_refl _,fun b o h=>by have:=r.imm b o h;rw[h4.heap b (lt_of_some this)];exact this,fun _ _=>rfl,h4.heap,h4.size,h4.same⟩
 exact kk m β w' _ ((r.grow hg).put hN (.imm (hfl.free h3)))
theorem aops_lend_call{d:Nat}{f:FuncId}{args:Array Operand}{at':Array TypeId}(dv:V)(avs:List V)(hf:fnOk K.P f=true)(hg:Ghost K S S')(hfl:Flat dv)
  (hw:Wants ops S ⟨some d,.call ⟨.value (.func f),args,at'⟩,ty,pos,after,g⟩ true)
  (ha:args.toList.map (evl K S')=avs) (hi:Imms avs) (hc:PureG K.gl K.P f avs dv) (hN:Nat.blt d K.N=true) (kk:AOps K ops rest Q (S.put d dv)):
  AOps K ops (⟨some d,.call ⟨.value (.func f),args,at'⟩,ty,pos,after,g⟩::rest) Q S:=
 aops_lend hw rfl hN hg hfl (call_run hf ha hi) hc kk
theorem aops_lend_callv{d:Nat}{f:FuncId}{fx:Operand}{first captured:List V}{args:Array Operand}{at':Array TypeId}(dv:V)(avs:List V)(hf:fnOk K.P f=true)(hg:Ghost K S S')(hfl:Flat dv)
  (hw:Wants ops S ⟨some d,.call ⟨.value fx,args,at'⟩,ty,pos,after,g⟩ true) (hfx:evl K S' fx=.fn (.func f) first captured)
  (ha:first++args.toList.map (evl K S')++captured=avs) (hi:Imms avs) (hc:PureG K.gl K.P f avs dv) (hN:Nat.blt d K.N=true) (kk:AOps K ops rest Q (S.put d dv)):
  AOps K ops (⟨some d,.call ⟨.value fx,args,at'⟩,ty,pos,after,g⟩::rest) Q S:=
 aops_lend hw rfl hN hg hfl (callv_run hf hfx ha hi) hc kk
end
section
variable{K:Ctx}{Q:Post}{S S':St}{ops:Array Oper}{rest:List Oper}{op:Op}{ty:TypeId}{pos:String}{after:Array Edge}{g:Option (Nat×Bool)}
variable{m:Mem}{β:Locs}{w:World}{a:Act}
structure KeyT(P:Program)(T:TypeId)(good:Value->Prop):Prop where
 check:∀(b:Bool) (w:World) (v:Value),good v->(Instr.checkKey b 10000 T v).run P w=.ok () w
 find:∀(w:World) (x:Value),good x->∀es:List MapEntry,(∀e,e∈es->good e.key)->
  ((Instr.findKey T x es).run P w=.ok none w/\∀e,e∈es->e.key≠x) ∨
  ∃j e,(Instr.findKey T x es).run P w=.ok (some (j,e.val)) w/\es[j]? = some e/\e.key=x/\∀i e',i<j->es[i]? = some e'->e'.key≠x
 stays:∀(w:World) (v:Value),good v->(Instr.keyThatStays v v).run P w=.ok v w
theorem find_now{kind:TypeDesc}{good:Value->Prop}{x:Value}(h:∀v,good v->(v=x/\Instr.sameNow kind x v=some true)\/(v≠x/\Instr.sameNow kind x v=some false)):
  ∀(es:List MapEntry) (n:Nat),(∀e,e∈es->good e.key)->
  (Instr.findNow kind x es n=some none/\∀e,e∈es->e.key≠x) ∨
  ∃j e,Instr.findNow kind x es n=some (some (n+j,e.val))/\es[j]? = some e/\e.key=x/\∀i e',i<j->es[i]? = some e'->e'.key≠x
 |[],n,_=>.inl ⟨rfl,by simp⟩
 |e::es,n,hg=>by
  rcases h e.key (hg e (by simp)) with ⟨h1,h2⟩|⟨h1,h2⟩
  ·exact .inr ⟨0,e,by simp[Instr.findNow,h2],rfl,h1,by simp⟩
  ·rcases find_now h es (n+1) (fun e' he'=>hg e' (by simp[he'])) with ⟨a1,a2⟩|⟨j,e',a1,a2,a3,a4⟩
   ·refine .inl ⟨by simp[Instr.findNow,h2,a1],fun e' he'=>?_⟩
    rcases List.mem_cons.1 he' with rfl|he'
    ·exact h1
    ·exact a2 e' he'
   ·refine .inr ⟨j+1,e',by simp[Instr.findNow,h2,a1];omega,by simpa using a2,a3,fun i e'' hi he''=>?_⟩
    cases i with
    |zero=>simp at he'';subst he'';exact h1
    |succ i=>exact a4 i e'' (by omega) (by simpa using he'')
theorem keyT_of_now{P:Program}{T:TypeId}{kind:TypeDesc}{good:Value->Prop}(hu:P.underlying T=some kind)
  (hc:∀(b:Bool) (w:World) (v:Value),good v->(Instr.checkKey b 10000 T v).run P w=.ok () w)
  (h:∀x,good x->∀v,good v->(v=x/\Instr.sameNow kind x v=some true)\/(v≠x/\Instr.sameNow kind x v=some false))
  (hs:∀v,good v->Instr.sameBits 10000 v v=true):KeyT P T good where
 check:=hc
 find:=by
  intro w x hx es hes
  rcases find_now (h x hx) es 0 hes with ⟨a1,a2⟩|⟨j,e,a1,a2,a3,a4⟩
  ·exact .inl ⟨by simp only[Instr.findKey,Sem.run_bind,run_underlying hu,Result.andThen_ok,a1];rfl,a2⟩
  ·exact .inr ⟨j,e,by simp only[Instr.findKey,Sem.run_bind,run_underlying hu,Result.andThen_ok,a1,Nat.zero_add];rfl,a2,a3,a4⟩
 stays:=by
  intro w v hv
  simp only[Instr.keyThatStays,hs v hv,if_true];rfl
def isInt(k:IntKind)(v:Value):Prop:=∃n,v=.int k n
def isStr(v:Value):Prop:=∃s,v=.string s
theorem bytes_beq(a b:ByteArray):(a==b)=decide (a=b):=by
 obtain⟨a⟩:=a
 obtain⟨b⟩:=b
 show(a==b)=_
 by_cases h:a=b
 ·subst h;simp
 ·simp[h]
theorem keyT_str{P:Program}{T:TypeId}(hu:P.underlying T=some .string):KeyT P T isStr:=by
 refine keyT_of_now hu ?_ ?_ ?_
 ·rintro b w v ⟨n,rfl⟩
  have:(10000:Nat)=9999+1:=rfl
  rw[this,Instr.checkKey]
  simp only[Sem.run_bind,run_underlying hu,Result.andThen_ok];rfl
 ·rintro x ⟨n,rfl⟩ v ⟨n',rfl⟩
  by_cases h:n=n'
  ·subst h;exact .inl ⟨rfl,by simp[Instr.sameNow,bytes_beq]⟩
  ·exact .inr ⟨by intro e;cases e;exact h rfl,by simp[Instr.sameNow,bytes_beq,h]⟩
 ·rintro v ⟨n,rfl⟩;simp[Instr.sameBits,bytes_beq]
inductive Look(x:Value):List (Value×V)->Option V->Prop
 |nil:Look x [] none
 |here {v:V} {es:List (Value×V)}:Look x ((x,v)::es) (some v)
 |there {k:Value} {v:V} {es:List (Value×V)} {r:Option V} (h:k≠x) (h':Look x es r):Look x ((k,v)::es) r
theorem Look.none_of{x:Value}{es:List (Value×V)}{r:Option V}(h:Look x es r)(hn:∀p,p∈es->p.1≠x):r=none:=by
 induction h with
 |nil=>rfl
 |here=>exact absurd rfl (hn _ List.mem_cons_self)
 |there _ _ ih=>exact ih fun p hp=>hn p (by simp[hp])
theorem Look.some_of{x:Value}{es:List (Value×V)}{r:Option V}(h:Look x es r):∀(j:Nat) (v:V),es[j]? = some (x,v)->(∀i p,i<j->es[i]? = some p->p.1≠x)->r=some v:=by
 induction h with
 |nil=>intro j v h;simp at h
 |here=>
  intro j v hj hi
  cases j with
  |zero=>simp at hj;rw[hj]
  |succ j=>exact absurd rfl (hi 0 _ (by omega) rfl)
 |there h _ ih=>
  intro j v hj hi
  cases j with
  |zero=>simp at hj;exact absurd hj.1 h
  |succ j=>exact ih j v (by simpa using hj) fun i p hi' hp=>hi (i+1) p (by omega) (by simpa using hp)
inductive Puts(x:Value)(v:V):List (Value×V)->List (Value×V)->Prop
 |nil:Puts x v [] [(x,v)]
 |here {v':V} {es:List (Value×V)}:Puts x v ((x,v')::es) ((x,v)::es)
 |there {k:Value} {v':V} {es es':List (Value×V)} (h:k≠x) (h':Puts x v es es'):Puts x v ((k,v')::es) ((k,v')::es')
theorem Puts.none_of{x:Value}{v:V}{es es':List (Value×V)}(h:Puts x v es es')(hn:∀p,p∈es->p.1≠x):es'=es++[(x,v)]:=by
 induction h with
 |nil=>rfl
 |here=>exact absurd rfl (hn _ List.mem_cons_self)
 |there _ _ ih=>rw[ih fun p hp=>hn p (by simp[hp])];rfl
theorem Puts.some_of{x:Value}{v:V}{es es':List (Value×V)}(h:Puts x v es es'):∀(j:Nat) (v':V),es[j]? = some (x,v')->(∀i p,i<j->es[i]? = some p->p.1≠x)->es'=es.set j (x,v):=by
 induction h with
 |nil=>intro j v h;simp at h
 |here=>
  intro j v' hj hi
  cases j with
  |zero=>rfl
  |succ j=>exact absurd rfl (hi 0 _ (by omega) rfl)
 |there h _ ih=>
  intro j v' hj hi
  cases j with
  |zero=>simp at hj;exact absurd hj.1 h
  |succ j=>rw[ih j v' (by simpa using hj) fun i p hi' hp=>hi (i+1) p (by omega) (by simpa using hp)];rfl
def tyMap(P:Program)(T k e:TypeId):Bool:=match P.underlying T with|some (.map k' e')=>k'==k&&e'==e|_=>false
theorem tyMap_inv{P:Program}{T k e:TypeId}(h:tyMap P T k e=true):P.underlying T=some (.map k e):=by
 unfold tyMap at h
 cases hu:P.underlying T with
 |none=>simp[hu] at h
 |some d=>
  rw[hu] at h
  cases d<;>simp only[Bool.false_eq_true] at h
  simp only[Bool.and_eq_true,beq_iff_eq] at h
  obtain⟨rfl,rfl⟩:=h
  rfl
theorem modify_cons{α:Type}(f:α->α)(e:α):∀(l:List α) (j:Nat),l[j]? = some e->(l.modify j f).Perm (f e::l.eraseIdx j)
 |[],j,h=>by simp at h
 |x::l,0,h=>by simp at h;subst h;simp
 |x::l,j+1,h=>by
  simp only[List.modify_succ_cons,List.eraseIdx_cons_succ]
  exact((modify_cons f e l j (by simpa using h)).cons x).trans (List.Perm.swap _ _ _)
theorem cons_erase{α:Type}(e:α):∀(l:List α) (j:Nat),l[j]? = some e->l.Perm (e::l.eraseIdx j)
 |[],j,h=>by simp at h
 |x::l,0,h=>by simp at h;subst h;simp
 |x::l,j+1,h=>by
  simp only[List.eraseIdx_cons_succ]
  exact((cons_erase e l j (by simpa using h)).cons x).trans (List.Perm.swap _ _ _)
theorem modify_perm{α:Type}(f:α->α){e:α}{l L:List α}{j k:Nat}(h:l.Perm L)(h1:l[j]? = some e)(h2:L[k]? = some e):(l.modify j f).Perm (L.modify k f):=
 (modify_cons f e l j h1).trans ((((((cons_erase e l j h1).symm.trans h).trans (cons_erase e L k h2)).cons_inv).cons (f e)).trans (modify_cons f e L k h2).symm)
theorem map_modify{α β:Type}(f:α->α)(g:α->β):∀(l:List α) (k:Nat),(∀e,l[k]? = some e->g (f e)=g e)->(l.modify k f).map g=l.map g
 |[],k,_=>by simp
 |x::l,0,h=>by simp[h x rfl]
 |x::l,k+1,h=>by simp[map_modify f g l k (fun e he=>h e (by simpa using he))]
theorem MWf.push{E:Array MapEntry}{clock:Nat}(q:MWf E clock)(k v:Value)(hk:∀e,e∈E.toList->e.key≠k):MWf (E.push { key:=k,val:=v,born:=clock }) (clock+1) where
 born:=by
  rw[Array.toList_push,List.map_append,List.nodup_append]
  refine⟨q.born,by simp,fun a ha b hb=>?_⟩
  obtain⟨e,he,rfl⟩:=List.mem_map.1 ha
  simp at hb;subst hb
  have:=q.lt e he;omega
 lt:=fun e he=>by
  rw[Array.toList_push,List.mem_append] at he
  rcases he with he|he
  ·have:=q.lt e he;omega
  ·simp at he;subst he;exact Nat.lt_succ_self _
 key:=by
  rw[Array.toList_push,List.map_append,List.nodup_append]
  refine⟨q.key,by simp,fun a ha b hb=>?_⟩
  obtain⟨e,he,rfl⟩:=List.mem_map.1 ha
  simp at hb;subst hb
  exact hk e he
theorem MWf.modify{E:Array MapEntry}{clock j:Nat}(q:MWf E clock)(f:MapEntry->MapEntry)(hb:∀e,(f e).born=e.born)(hk:∀e,E[j]? = some e->(f e).key=e.key):MWf (E.modify j f) clock:=by
 have e1:(E.modify j f).toList.map (·.born)=E.toList.map (·.born):=by rw[Array.toList_modify];exact map_modify f _ _ _ (fun e _=>hb e)
 have e2:(E.modify j f).toList.map (·.key)=E.toList.map (·.key):=by rw[Array.toList_modify];exact map_modify f _ _ _ (fun e he=>hk e (by simpa using he))
 refine⟨by rw[e1];exact q.born,fun e he=>?_,by rw[e2];exact q.key⟩
 have:e.born∈(E.modify j f).toList.map (·.born):=List.mem_map.2 ⟨e,he,rfl⟩
 rw[e1] at this
 obtain⟨e',h1,h2⟩:=List.mem_map.1 this
 rw[<-h2];exact q.lt e' h1
theorem MWf.nil:MWf #[] 0:=⟨by simp,by simp,by simp⟩
theorem mapAt_nil{o:Option Obj}(h:o=some (.map #[] 0)):MapAt o #[] 0:=⟨#[],h,.refl _,.nil⟩
theorem aops_makeMap{d:Nat}{T:TypeId}(hw:Wants ops S ⟨some d,.makeMap T none,ty,pos,after,g⟩ true)(hN:Nat.blt d K.N=true)
  (kk:AOps K ops rest Q ⟨(d,.map S.nx)::S.env,(S.nx,.map [])::S.hp,S.nx+1⟩):AOps K ops (⟨some d,.makeMap T none,ty,pos,after,g⟩::rest) Q S:=by
 refine aops_runs hw (fun m β w a r=>?_) kk
 obtain⟨β',hle,hnx,r2⟩:=r.alloc (.map #[] 0) (.map []) ⟨0,0⟩ _ rfl (fun β' hle=>⟨#[],0,fun _ _=>False,mapAt_nil (by simp),rfl,bls_none,by simp⟩)
 refine⟨.map (some w.heap.size),{ w with heap:=w.heap.push (.map #[] 0) },m,β',.inl ?_,Rel.put r2 hN (.map hnx)⟩
 simp only[execOp,Option.map_none]
 rw[Sem.run_bind]
 rfl
theorem VRel.conAgg{vs:List Value}{x:Value}(h:VRel m β (.agg (vs.map .con)) x):x=.agg vs.toArray:=by
 have key:∀us:Array Value,(vs.map V.con).length=us.size->(∀(i:Nat) (c:V) (v:Value),(vs.map V.con)[i]? = some c->us[i]? = some v->VRel m β c v)->us=vs.toArray:=by
  intro us hl hh
  apply Array.ext'
  apply List.ext_getElem?
  intro i
  simp only[List.length_map] at hl
  cases hv:vs[i]? with
  |none=>
   have:vs.length<=i:=List.getElem?_eq_none_iff.1 hv
   rw[List.getElem?_eq_none (by simp;omega)]
  |some v=>
   have hi:=(List.getElem?_eq_some_iff.1 hv).1
   have hu:us[i]? = some (us[i]'(by omega)):=Array.getElem?_eq_getElem (by omega)
   have:=(hh i (.con v) _ (by simp[hv]) hu).of_con
   rw[Array.getElem?_toList,hu,this]
 cases h with
 |imm h=>cases h with|agg hl hh=>rw[key _ hl fun i c v a b=>.imm (hh i c v a b)]
 |agg hl hh=>rw[key _ hl hh]
theorem irel_con(v:Value):∀m:Mem,IRel m (.con v) v:=fun _=>.con v
theorem irel_conAgg(xs:List Value):∀m:Mem,IRel m (.agg (xs.map .con)) (.agg xs.toArray):=fun m=>
 .agg (by simp) fun i c v hc hv=>by
  rw[List.getElem?_map,Option.map_eq_some_iff] at hc
  obtain⟨u,hu,rfl⟩:=hc
  have:xs[i]? = some v:=by simpa using hv
  rw[hu] at this
  cases this
  exact .con _
inductive KeyIs(K:Ctx)(S:St)(y:Operand):Value->Prop
 |con {kv:Value} (h:evl K S y=.con kv):KeyIs K S y kv
 |agg (xs:List Value) (h:evl K S y=.agg (xs.map .con)):KeyIs K S y (.agg xs.toArray)
theorem KeyIs.read{y:Operand}{kv:Value}(h:KeyIs K S y kv)(r:Rel K m β w a S):a.eval y=kv:=by
 cases h with
 |con h=>exact r.con h
 |agg xs h=>
  have:=r.reads y
  rw[h] at this
  exact this.conAgg
inductive MapIs(S:St):V->List (Value×V)->Prop
 |own {id:Nat} {es:List (Value×V)} (h:hget S.hp id=.map es):MapIs S (.map id) es
 |imm {es:List (Value×V)}:MapIs S (.imap es) es
theorem MapIs.read{x:V}{es:List (Value×V)}(h:MapIs S x es)(r:Rel K m β w a S){v:Value}(hv:VRel m β x v):
  ∃b ents clock,v=.map (some b)/\MapAt (w.heap[b]?) ents clock/\es.length=ents.size/\∀(i:Nat) (p:Value×V) (e:MapEntry),es[i]? = some p->ents[i]? = some e->e.key=p.1/\(p.2.deep=false->VRel m β p.2 e.val):=by
 cases h with
 | @own id _ ho=>
  cases hv with
  |imm h=>cases h
  | @map _ b cap hb=>
   have:=r.own id
   rw[hb,ho] at this
   obtain⟨ents,clock,bl,h1,h2,_,h3⟩:=this
   exact⟨b,ents,clock,rfl,h1,h2,fun i p e a b=>⟨(h3 i p e a b).1,fun hd=>(h3 i p e a b).2.v hd⟩⟩
 |imm=>
  cases hv with
  |imm h=>cases h with
   |imap hm hl hk h=>exact⟨_,_,_,rfl,hm.mono (r.imm _),hl,fun i p e a b=>⟨hk i p e a b,fun _=>.imm (h i p e a b)⟩⟩
theorem found{P:Program}{T:TypeId}{good:Value->Prop}(hK:KeyT P T good){w:World}{x:Value}(hx:good x){es:List (Value×V)}{ents E:Array MapEntry}{clock:Nat}(hl:es.length=ents.size)
  (hr:∀(i:Nat) (p:Value×V) (e:MapEntry),es[i]? = some p->ents[i]? = some e->e.key=p.1) (hg:∀p,p∈es->good p.1) (hp:ents.toList.Perm E.toList) (hwf:MWf E clock):
  ((Instr.findKey T x E.toList).run P w=.ok none w/\(∀p,p∈es->p.1≠x)/\∀e,e∈E.toList->e.key≠x) ∨
  ∃(j:Nat) (p:Value×V) (e:MapEntry) (jE:Nat),(Instr.findKey T x E.toList).run P w=.ok (some (jE,e.val)) w/\ents[j]? = some e/\es[j]? = some p/\p.1=x/\(∀i p',i<j->es[i]? = some p'->p'.1≠x)/\E[jE]? = some e:=by
 have corr:∀(i:Nat) (e:MapEntry),ents[i]? = some e->∃p,es[i]? = some p/\e.key=p.1:=by
  intro i e he
  have:i<es.length:=by rw[hl];exact(Array.getElem?_eq_some_iff.1 he).1
  exact⟨es[i],List.getElem?_eq_getElem this,hr i _ e (List.getElem?_eq_getElem this) he⟩
 have corr':∀(i:Nat) p,es[i]? = some p->∃e,ents[i]? = some e/\e.key=p.1:=by
  intro i p hp
  have:i<ents.size:=by rw[<-hl];exact(List.getElem?_eq_some_iff.1 hp).1
  exact⟨ents[i],Array.getElem?_eq_getElem this,hr i p _ hp (Array.getElem?_eq_getElem this)⟩
 have hge:∀e,e∈E.toList->good e.key:=by
  intro e he
  obtain⟨i,hi⟩:=List.getElem?_of_mem (hp.mem_iff.2 he)
  obtain⟨p,h1,h2⟩:=corr i e (by simpa using hi)
  rw[h2];exact hg p (List.mem_of_getElem? h1)
 rcases hK.find w x hx E.toList hge with ⟨a1,a2⟩|⟨jE,e,a1,a2,a3,a4⟩
 ·refine .inl ⟨a1,fun p hq=>?_,a2⟩
  obtain⟨i,hi⟩:=List.getElem?_of_mem hq
  obtain⟨e,h1,h2⟩:=corr' i p hi
  rw[<-h2];exact a2 e (hp.mem_iff.1 (List.mem_of_getElem? (by simpa using h1)))
 ·obtain⟨j,hj⟩:=List.getElem?_of_mem (hp.mem_iff.2 (List.mem_of_getElem? a2))
  have hj:ents[j]? = some e:=by simpa using hj
  obtain⟨p,h1,h2⟩:=corr j e hj
  refine .inr ⟨j,p,e,jE,a1,hj,h1,by rw[<-h2];exact a3,fun i p' hi hp' hpx=>?_,by simpa using a2⟩
  obtain⟨e',h3,h4⟩:=corr' i p' hp'
  have hn:(ents.toList.map (·.key)).Nodup:=(hp.map _).nodup_iff.2 hwf.key
  have e1:(ents.toList.map (·.key))[i]? = some x:=by simp[h3,h4,hpx]
  have e2:(ents.toList.map (·.key))[j]? = some x:=by simp[hj,a3]
  have:=(List.getElem?_inj (List.getElem?_eq_some_iff.1 e1).1 hn).1 (e1.trans e2.symm)
  omega
theorem aops_lookup{d:Nat}{T k e:TypeId}{x y:Operand}{good:Value->Prop}{kv zv:Value}{mv:V}{es:List (Value×V)}(res:Option V)(zd dv:V)(hT:tyMap K.P T k e=true)(hK:KeyT K.P k good)
  (hz:(K.P.info? e).bind (·.zero)=some zv) (hzd:∀m,IRel m zd zv)
  (hw:Wants ops S ⟨some d,.lookup T x y false,ty,pos,after,g⟩ true) (hx:evl K S x=mv) (hm:MapIs S mv es) (hy:KeyIs K S y kv) (hg:good kv) (hges:∀p,p∈es->good p.1)
  (hl:Look kv es res) (hd:res.getD zd=dv) (hN:Nat.blt d K.N=true)
  (kk:AOps K ops rest Q (S.put d dv)) (hdd:dv.deep=false:=by rfl):AOps K ops (⟨some d,.lookup T x y false,ty,pos,after,g⟩::rest) Q S:=
 aops_val _ hw hN (fun m β w a r=>by
  have h:=r.reads x
  rw[hx] at h
  obtain⟨b,ents,clock,e1,⟨E,e2,eP,eW⟩,e3,e4⟩:=hm.read r h
  have hobj:(getObj b).run K.P w=.ok (.map E clock) w:=by simp[getObj,Sem.run,e2]
  have hzr:(zeroValue e).run K.P w=.ok zv w:=by
   cases hi:K.P.info? e with
   |none=>simp[hi] at hz
   |some i=>
    simp[hi] at hz
    simp only[zeroValue,Sem.run_bind,run_typeInfo w hi,Result.andThen_ok,hz];rfl
  rcases found hK hg e3 (fun i p e a b=>(e4 i p e a b).1) hges eP eW (w:=w) with ⟨a1,a2,_⟩|⟨j,p,en,jE,a1,a2,a3,a4,a5,aE⟩
  ·refine⟨zv,?_,?_⟩
   ·simp only[execOp,e1,hy.read r]
    refine run_value ?_
    simp only[Instr.lookup,Sem.run_bind,run_underlying (tyMap_inv hT),Result.andThen_ok,hobj,pure,Sem.run,hK.check _ w kv hg,a1,hzr]
    rfl
   ·rw[<-hd,hl.none_of a2];exact .imm (hzd m)
  ·refine⟨en.val,?_,?_⟩
   ·simp only[execOp,e1,hy.read r]
    refine run_value ?_
    simp only[Instr.lookup,Sem.run_bind,run_underlying (tyMap_inv hT),Result.andThen_ok,hobj,pure,Sem.run,hK.check _ w kv hg,a1]
    rfl
   ·have:p=(kv,p.2):=by rw[<-a4]
    rw[this] at a3
    have hr:=hl.some_of j p.2 a3 a5
    rw[hr] at hd
    have hd:p.2=dv:=hd
    rw[<-hd]
    exact(e4 j _ en a3 a2).2 (by rw[<-hd] at hdd;exact hdd)) kk
theorem aops_lookup_ok{d:Nat}{T k e:TypeId}{x y:Operand}{good:Value->Prop}{kv zv:Value}{mv:V}{es:List (Value×V)}(res:Option V)(zd dv:V)(hT:tyMap K.P T k e=true)(hK:KeyT K.P k good)
  (hz:(K.P.info? e).bind (·.zero)=some zv) (hzd:∀m,IRel m zd zv)
  (hw:Wants ops S ⟨some d,.lookup T x y true,ty,pos,after,g⟩ true) (hx:evl K S x=mv) (hm:MapIs S mv es) (hy:KeyIs K S y kv) (hg:good kv) (hges:∀p,p∈es->good p.1)
  (hl:Look kv es res) (hd:res.getD zd=dv) (hN:Nat.blt d K.N=true)
  (kk:AOps K ops rest Q (S.put d (.tup [dv,.con (.bool res.isSome)]))) (hdd:dv.deep=false:=by rfl):AOps K ops (⟨some d,.lookup T x y true,ty,pos,after,g⟩::rest) Q S:=
 aops_val _ hw hN (fun m β w a r=>by
  have h:=r.reads x
  rw[hx] at h
  obtain⟨b,ents,clock,e1,⟨E,e2,eP,eW⟩,e3,e4⟩:=hm.read r h
  have hobj:(getObj b).run K.P w=.ok (.map E clock) w:=by simp[getObj,Sem.run,e2]
  have hzr:(zeroValue e).run K.P w=.ok zv w:=by
   cases hi:K.P.info? e with
   |none=>simp[hi] at hz
   |some i=>
    simp[hi] at hz
    simp only[zeroValue,Sem.run_bind,run_typeInfo w hi,Result.andThen_ok,hz];rfl
  have tup:∀v b,VRel m β dv v->res.isSome=b->VRel m β (.tup [dv,.con (.bool res.isSome)]) (.tuple #[v,.bool b]):=by
   rintro v b hv rfl
   refine .tup rfl fun i c u hi hu=>?_
   match i with
   |0=>simp at hi hu;subst hi;subst hu;exact hv
   |1=>simp at hi hu;subst hi;subst hu;exact .imm (.con _)
   |i+2=>simp at hi
  rcases found hK hg e3 (fun i p e a b=>(e4 i p e a b).1) hges eP eW (w:=w) with ⟨a1,a2,_⟩|⟨j,p,en,jE,a1,a2,a3,a4,a5,aE⟩
  ·have hres:=hl.none_of a2
   refine⟨.tuple #[zv,.bool false],?_,tup _ _ (by rw[<-hd,hres];exact .imm (hzd m)) (by rw[hres];rfl)⟩
   simp only[execOp,e1,hy.read r]
   refine run_value ?_
   simp only[Instr.lookup,Sem.run_bind,run_underlying (tyMap_inv hT),Result.andThen_ok,hobj,pure,Sem.run,hK.check _ w kv hg,a1,hzr]
   rfl
  ·have:p=(kv,p.2):=by rw[<-a4]
   rw[this] at a3
   have hres:=hl.some_of j p.2 a3 a5
   refine⟨.tuple #[en.val,.bool true],?_,tup _ _ (by rw[hres] at hd;have hd:p.2=dv:=hd;rw[<-hd];exact(e4 j _ en a3 a2).2 (by rw[<-hd] at hdd;exact hdd)) (by rw[hres];rfl)⟩
   simp only[execOp,e1,hy.read r]
   refine run_value ?_
   simp only[Instr.lookup,Sem.run_bind,run_underlying (tyMap_inv hT),Result.andThen_ok,hobj,pure,Sem.run,hK.check _ w kv hg,a1]
   rfl) kk
theorem aops_mapPut{T k e:TypeId}{x y z:Operand}{good:Value->Prop}{kv:Value}{id:Nat}{dv:V}{es:List (Value×V)}{op:Op}(hop:op=.mapUpdate T x y z\/op=.insert T x y z)(es':List (Value×V))(hT:tyMap K.P T k e=true)(hK:KeyT K.P k good)
  (hw:Wants ops S ⟨none,op,ty,pos,after,g⟩ true) (hx:evl K S x=.map id) (ho:hget S.hp id=.map es) (hy:KeyIs K S y kv) (hg:good kv) (hges:∀p,p∈es->good p.1) (hz:evl K S z=dv)
  (hp:Puts kv dv es es') (kk:AOps K ops rest Q ⟨S.env,(id,.map es')::S.hp,S.nx⟩):AOps K ops (⟨none,op,ty,pos,after,g⟩::rest) Q S:=by
 refine aops_runs hw (fun m β w a r=>?_) kk
 have h:=r.reads x
 rw[hx] at h
 have hzv:=r.reads z
 rw[hz] at hzv
 generalize hv:a.eval x=v at h
 cases h with
 |imm h=>cases h
 | @map _ b cap hb=>
 have h0:=r.own id
 rw[hb,ho] at h0
 obtain⟨ents,clock,bl,⟨E,e2,eP,eW⟩,e3,eB,e4⟩:=h0
 have hobj:(getObj b).run K.P w=.ok (.map E clock) w:=by simp[getObj,Sem.run,e2]
 have hset:∀o,(setObj b o).run K.P w=.ok () { w with heap:=w.heap.setIfInBounds b o }:=by intro o;simp[setObj,Sem.run,e2]
 have hbl:=lt_of_some e2
 have heap':∀o b',b'≠b->({ w with heap:=w.heap.setIfInBounds b o }:World).heap[b']? = w.heap[b']?:=by
  intro o b' hne;simp only[Array.getElem?_setIfInBounds];rw[if_neg (Ne.symm hne)]
 have self':∀o,({ w with heap:=w.heap.setIfInBounds b o }:World).heap[b]? = some o:=by
  intro o;simp[hbl]
 rcases found hK hg e3 (fun i p e a b=>(e4 i p e a b).1) hges eP eW (w:=w) with ⟨a1,a2,aK⟩|⟨j,p,en,jE,a1,a2,a3,a4,a5,aE⟩
 ·have hes:=hp.none_of a2
  refine⟨undef,{ w with heap:=w.heap.setIfInBounds b (.map (E.push { key:=kv,val:=a.eval z,born:=clock }) (clock+1)) },m,β,.inr ⟨rfl,?_⟩,
   r.update (by rw[ho];simp) hb _ (.map es') (heap' _) (by simp) ⟨rfl,rfl,rfl,trivial⟩ (fun hkeep=>⟨ents.push { key:=kv,val:=a.eval z,born:=clock },_,bl,⟨_,self' _,by rw[Array.toList_push,Array.toList_push];exact eP.append_right _,eW.push _ _ aK⟩,by rw[hes];simp[e3],eB,fun i p e hi he=>?_⟩)⟩
  ·rcases hop with rfl|rfl<;>simp only[execOp,hy.read r]<;>rw[Sem.run_bind]
   all_goals
    have:(Instr.mapUpdate T (a.eval x) kv (a.eval z)).run K.P w=.ok () { w with heap:=w.heap.setIfInBounds b (.map (E.push { key:=kv,val:=a.eval z,born:=clock }) (clock+1)) }:=by
     rw[hv]
     simp only[Instr.mapUpdate,Sem.run_bind,run_underlying (tyMap_inv hT),Result.andThen_ok,hobj,hK.check _ w kv hg,a1,hset]
    rw[this];rfl
  ·rw[hes] at hi
   rw[Array.getElem?_push] at he
   by_cases hlast:i=ents.size
   ·rw[if_pos hlast] at he
    rw[List.getElem?_append_right (by omega),hlast,e3] at hi
    simp at hi he
    subst hi;subst he
    exact⟨rfl,.inl hzv⟩
   ·rw[if_neg hlast] at he
    have:i<es.length:=by rw[e3];exact(Array.getElem?_eq_some_iff.1 he).1
    rw[List.getElem?_append_left this] at hi
    exact⟨(e4 i p e hi he).1,(e4 i p e hi he).2.mono (Mem.le_refl _) (Locs.le_refl _) (fun _ h=>h) (fun x hx=>hkeep x (eB.1 _ x hx))⟩
 ·have hpp:p=(kv,p.2):=by rw[<-a4]
  rw[hpp] at a3
  have hes:=hp.some_of j p.2 a3 a5
  have hek:en.key=kv:=by rw[(e4 j _ en a3 a2).1]
  refine⟨undef,{ w with heap:=w.heap.setIfInBounds b (.map (E.modify jE fun e=>{ e with key:=kv,val:=a.eval z }) clock) },m,β,.inr ⟨rfl,?_⟩,
   r.update (by rw[ho];simp) hb _ (.map es') (heap' _) (by simp) ⟨rfl,rfl,rfl,trivial⟩ (fun hkeep=>⟨ents.modify j fun e=>{ e with key:=kv,val:=a.eval z },_,bl,⟨_,self' _,by rw[Array.toList_modify,Array.toList_modify];exact modify_perm _ eP (by simpa using a2) (by simpa using aE),eW.modify _ (fun _=>rfl) (fun e he=>by rw[aE] at he;simp only[Option.some.injEq] at he;subst he;exact hek.symm)⟩,by rw[hes];simp[e3],eB,fun i p e hi he=>?_⟩)⟩
  ·rcases hop with rfl|rfl<;>simp only[execOp,hy.read r]<;>rw[Sem.run_bind]
   all_goals
    have:(Instr.mapUpdate T (a.eval x) kv (a.eval z)).run K.P w=.ok () { w with heap:=w.heap.setIfInBounds b (.map (E.modify jE fun e=>{ e with key:=kv,val:=a.eval z }) clock) }:=by
     rw[hv]
     simp only[Instr.mapUpdate,Sem.run_bind,run_underlying (tyMap_inv hT),Result.andThen_ok,hobj,hK.check _ w kv hg,a1,aE,Option.map_some,Option.getD_some,hek,hK.stays w kv hg,hset]
    rw[this];rfl
  ·rw[hes,List.getElem?_set] at hi
   rw[Array.getElem?_modify] at he
   by_cases hji:j=i
   ·subst hji
    rw[if_pos rfl] at he
    rw[if_pos rfl,if_pos (by rw[e3];exact(Array.getElem?_eq_some_iff.1 a2).1)] at hi
    rw[a2] at he
    simp at hi he
    subst hi;subst he
    exact⟨rfl,.inl hzv⟩
   ·rw[if_neg hji] at hi he
    exact⟨(e4 i p e hi he).1,(e4 i p e hi he).2.mono (Mem.le_refl _) (Locs.le_refl _) (fun _ h=>h) (fun x hx=>hkeep x (eB.1 _ x hx))⟩
theorem aops_mapUpdate{T k e:TypeId}{x y z:Operand}{good:Value->Prop}{kv:Value}{id:Nat}{dv:V}{es:List (Value×V)}(es':List (Value×V))(hT:tyMap K.P T k e=true)(hK:KeyT K.P k good)
  (hw:Wants ops S ⟨none,.mapUpdate T x y z,ty,pos,after,g⟩ true) (hx:evl K S x=.map id) (ho:hget S.hp id=.map es) (hy:KeyIs K S y kv) (hg:good kv) (hges:∀p,p∈es->good p.1) (hz:evl K S z=dv)
  (hp:Puts kv dv es es') (kk:AOps K ops rest Q ⟨S.env,(id,.map es')::S.hp,S.nx⟩):AOps K ops (⟨none,.mapUpdate T x y z,ty,pos,after,g⟩::rest) Q S:=aops_mapPut (.inl rfl) es' hT hK hw hx ho hy hg hges hz hp kk
end
end Go.Pv
