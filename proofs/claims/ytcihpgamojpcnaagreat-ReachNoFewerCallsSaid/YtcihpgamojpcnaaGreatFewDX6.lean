/- Part of the proof: DX, DX2, DX3, DX4, EI, DX5, DX6. -/
import Derived.Test.YtcihpgamojpcnaaGreatFewDT
import Derived.Test.YtcihpgamojpcnaaGreatFewDN
import Derived.Test.YtcihpgamojpcnaaGreatFewWA
namespace Go.Pv
open Go
set_option linter.unusedVariables false
set_option linter.unusedSimpArgs false
section
variable{K:Ctx}{Q:Post}{S:St}
variable{m:Mem}{β:Locs}{w:World}{a:Act}
variable{ops:Array Oper}{rest:List Oper}{ty:TypeId}{pos:String}{after:Array Edge}{g:Option (Nat×Bool)}
def cellX(v:Option Value)(e k:Nat)(r:List (List V)):V:=match v with|none=>.dsl e k r|some v=>.dsx v e k r
def rowsX{α:Type}(ls:Nat->Option Value)(e k:Nat)(enc:α->List V)(xs:List (List α)):List (List V):=xs.mapIdx fun i x=>[cellX (ls i) e k (x.map enc)]
theorem rowsX_len{α:Type}{ls:Nat->Option Value}{e k:Nat}{enc:α->List V}{xs:List (List α)}:(rowsX ls e k enc xs).length=xs.length:=by simp[rowsX]
theorem rowsX_get{α:Type}{ls:Nat->Option Value}{e k:Nat}{enc:α->List V}{xs:List (List α)}{i:Nat}{x:List α}(h:xs[i]? = some x):(rowsX ls e k enc xs)[i]? = some [cellX (ls i) e k (x.map enc)]:=by
 simp[rowsX,List.getElem?_mapIdx,h]
theorem rowsX_none{α:Type}{e k:Nat}{enc:α->List V}{xs:List (List α)}:rowsX (fun _=>none) e k enc xs=xs.map (encR e k enc):=by
 apply List.ext_getElem?
 intro i
 simp only[rowsX,List.getElem?_mapIdx,List.getElem?_map]
 cases xs[i]?<;>rfl
theorem rowsX_ext{α:Type}{ls ls':Nat->Option Value}{e k:Nat}{enc:α->List V}{xs xs':List (List α)}{i:Nat}{x:List α}{c:V}(hl:∀j,j≠i->ls' j=ls j)(hi:i<xs.length)(hc:cellX (ls' i) e k (x.map enc)=c)(hx:xs'=xs.set i x):
  (rowsX ls e k enc xs).set i [c]=rowsX ls' e k enc xs':=by
 subst hx
 apply List.ext_getElem?
 intro j
 rw[List.getElem?_set]
 by_cases e1:i=j
 ·subst e1
  rw[if_pos rfl,if_pos (by rw[rowsX_len];exact hi),rowsX_get (List.getElem?_set_self hi),hc]
 ·rw[if_neg e1]
  simp only[rowsX,List.getElem?_mapIdx,List.getElem?_set,if_neg e1,hl j (Ne.symm e1)]
def ptrX(v:Value)(o:Nat):Value:=match v with | .slice (some a) _ _=>.pointer (some ⟨a.block,a.off+o,a.spot⟩)|_=>.pointer none
theorem Rel.blk(r:Rel K m β w a S){id e k i:Nat}{rows:List (List V)}{row:List V}(ho:hget S.hp id=.arr e k rows)(hi:rows[i]? = some row):∃b cap,β id=some (some (b,cap)):=by
 have hown:=r.own id
 rw[ho] at hown
 match hh:β id,hown with
 |none,hown=>simp[ObOk] at hown
 |some none,hown=>have hown:rows=[]:=hown;subst hown;simp at hi
 |some (some (b,cap)),_=>exact⟨b,cap,rfl⟩
theorem Rel.rowX{α:Type}(r:Rel K m β w a S){id E i e k:Nat}{ls:Nat->Option Value}{enc:α->List V}{xs:List (List α)}{x:List α}{v:Value}(ho:hget S.hp id=.arr E 1 (rowsX ls e k enc xs))(hi:xs[i]? = some x)(hv:ls i=some v):
  ∃b cap arr bl,β id=some (some (b,cap))/\w.heap[b]? = some (.cells arr E (0,0))/\Bls (β.hid id) bl/\arr[cap.off+i]? = some v/\DRel m w (bl i) (.dsl e k (x.map enc)) v/\v.oneCell'=true:=by
 have hr:=rowsX_get (ls:=ls) (e:=e) (k:=k) (enc:=enc) hi
 obtain⟨b,cap,hb⟩:=r.blk ho hr
 obtain⟨arr,bl,h1,h2,h3,h4,h5,h6,h7⟩:=r.obj hb ho
 obtain⟨u,u1,u2,u3⟩:=h7 i 0 _ _ hr rfl
 rw[hv] at u2
 simp only[Nat.mul_one,Nat.add_zero] at u1 u2
 have hd:=deepG_inv rfl u2
 unfold cellX at hd
 cases hd with
 |imm h=>cases h
 |dx hd=>exact⟨b,cap,arr,bl,hb,h1,h6,u1,hd,u3⟩
theorem dsl_slice{B:Nat->Prop}{e k:Nat}{rows:List (List V)}{v:Value}(h:DRel m w B (.dsl e k rows) v):∃ad cap,v=.slice ad rows.length cap:=by
 cases h with
 |imm h=>cases h
 |nil=>exact⟨_,_,rfl⟩
 |sl=>exact⟨_,_,rfl⟩
theorem dsl_row{B:Nat->Prop}{e k j:Nat}{rows:List (List V)}{row:List V}{v:Value}(h:DRel m w B (.dsl e k rows) v)(hj:rows[j]? = some row):
  ∃b off cap arr bl,v=.slice (some ⟨b,off,none⟩) rows.length cap/\B b/\(∀p,¬bl p b)/\Bls B bl/\w.heap[b]? = some (.cells arr e (0,0))/\arr.size=off+cap*k/\rows.length<=cap/\cap<=maxLen/\(∀row,row∈rows->row.length=k)/\
   ∀(i o:Nat) (row:List V) (c:V),rows[i]? = some row->row[o]? = some c->∃u,arr[off+(i*k+o)]? = some u/\DRel m w (bl (i*k+o)) c u/\u.oneCell'=true:=by
 cases h with
 |imm h=>cases h
 |nil=>simp at hj
 | @sl _ _ b cap off _ _ arr bl f hb hbb hB hw hs hr hcap hk hf h=>
  exact⟨b,off,cap,arr,bl,rfl,hb,hbb,hB,hw,hs,hr,hcap,hk,fun i o row c h1 h2=>⟨_,(hf i o row c h1 h2).1,h i o row c h1 h2,(hf i o row c h1 h2).2⟩⟩
theorem aops_loadX{α:Type}{d id E i e k:Nat}{x:Operand}{T:TypeId}{ls:Nat->Option Value}{enc:α->List V}{xs:List (List α)}{y:List α}{v:Value}(hT:tyC K.P T=true)
  (hw:Wants ops S ⟨some d,.load T x,ty,pos,after,g⟩ true) (hx:evl K S x=.ptr id 1 i 0) (ho:hget S.hp id=.arr E 1 (rowsX ls e k enc xs)) (hi:xs[i]? = some y) (hv:ls i=some v) (hN:Nat.blt d K.N=true)
  (kk:AOps K ops rest Q (S.put d (.con v))):AOps K ops (⟨some d,.load T x,ty,pos,after,g⟩::rest) Q S:=
 aops_val _ hw hN (fun m β w a r=>by
  have h:=r.reads x
  rw[hx] at h
  obtain⟨b,cap,hb,hv'⟩:=h.ptr_inv
  obtain⟨b2,cap2,arr,bl,q1,q2,q3,q4,q5,q6⟩:=r.rowX ho hi hv
  rw[hb] at q1
  simp only[Option.some.injEq,Prod.mk.injEq] at q1
  obtain⟨rfl,rfl⟩:=q1
  exact⟨v,by simp only[execOp,hv'];exact run_value (run_load_cell hT (by rw[cell_of_heap q2];simpa using q4)),.imm (.con _)⟩) kk
theorem aops_lenX{α:Type}{d id E i e k:Nat}{x:Operand}{T:TypeId}{ls:Nat->Option Value}{enc:α->List V}{xs:List (List α)}{y:List α}{v:Value}(hT:tySlice K.P T=true)
  (hw:Wants ops S ⟨some d,.call ⟨.builtin .len,#[x],#[T]⟩,ty,pos,after,g⟩ true) (hx:evl K S x=.con v) (ho:hget S.hp id=.arr E 1 (rowsX ls e k enc xs)) (hi:xs[i]? = some y) (hv:ls i=some v) (hN:Nat.blt d K.N=true)
  (kk:AOps K ops rest Q (S.put d (.con (.int .i64 y.length)))):AOps K ops (⟨some d,.call ⟨.builtin .len,#[x],#[T]⟩,ty,pos,after,g⟩::rest) Q S:=
 aops_val _ hw hN (fun m β w a r=>by
  obtain⟨e',hu⟩:=tySlice_inv hT
  obtain⟨b,cap,arr,bl,q1,q2,q3,q4,q5,q6⟩:=r.rowX ho hi hv
  obtain⟨ad,c,he⟩:=dsl_slice q5
  rw[List.length_map] at he
  refine⟨.int .i64 y.length,run_builtin rfl ?_,.imm (.con _)⟩
  simp only[builtin]
  refine run_value ?_
  simp only[Builtin.len_,List.map_toArray,List.map_cons,List.map_nil,r.con hx,he]
  simp[run_underlying hu,goInt,pure,Sem.run]) kk
theorem aops_indexX{α:Type}{d id E i e k:Nat}{x y:Operand}{T:TypeId}{ik:IntKind}{n:Int}{ls:Nat->Option Value}{enc:α->List V}{xs:List (List α)}{l:List α}{z:α}{v:Value}(hT:tySl K.P T k=true)
  (hw:Wants ops S ⟨some d,.indexAddr T x y,ty,pos,after,g⟩ true) (hx:evl K S x=.con v) (hy:evl K S y=.con (.int ik n)) (ho:hget S.hp id=.arr E 1 (rowsX ls e k enc xs)) (hi:xs[i]? = some l) (hv:ls i=some v)
  (h0:0<=n) (hj:l[n.toNat]? = some z) (hN:Nat.blt d K.N=true) (kk:AOps K ops rest Q (S.put d (.con (ptrX v (n.toNat*k))))):
  AOps K ops (⟨some d,.indexAddr T x y,ty,pos,after,g⟩::rest) Q S:=
 aops_val _ hw hN (fun m β w a r=>by
  obtain⟨b,cap,arr,bl,q1,q2,q3,q4,q5,q6⟩:=r.rowX ho hi hv
  have hj':(l.map enc)[n.toNat]? = some (enc z):=by rw[List.getElem?_map,hj];rfl
  obtain⟨b2,off,c2,arr2,bl2,rfl,_⟩:=dsl_row q5 hj'
  have hlt:n.toNat<(l.map enc).length:=(List.getElem?_eq_some_iff.1 hj').1
  refine⟨_,by simp only[execOp,r.con hx,r.con hy];exact run_value (run_index_slice hT h0 hlt),?_⟩
  rw[add_spot]
  exact .imm (.con _)) kk
theorem ptrX_some{α:Type}{e k j:Nat}{B:Nat->Prop}{enc:α->List V}{l:List α}{z:α}{v:Value}(h:DRel m w B (.dsl e k (l.map enc)) v)(hj:l[j]? = some z)(o:Nat):∃b off,ptrX v o=.pointer (some ⟨b,off+o,none⟩):=by
 have hj':(l.map enc)[j]? = some (enc z):=by rw[List.getElem?_map,hj];rfl
 obtain⟨b2,off,c2,arr2,bl2,rfl,_⟩:=dsl_row h hj'
 exact⟨b2,off,rfl⟩
theorem aops_nilCheckX{α:Type}{d id E i e k j o:Nat}{x:Operand}{ls:Nat->Option Value}{enc:α->List V}{xs:List (List α)}{l:List α}{z:α}{v:Value}(hw:Wants ops S ⟨some d,.nilCheck x,ty,pos,after,g⟩ true)(hx:evl K S x=.con (ptrX v o))
  (ho:hget S.hp id=.arr E 1 (rowsX ls e k enc xs)) (hi:xs[i]? = some l) (hv:ls i=some v) (hj:l[j]? = some z) (hN:Nat.blt d K.N=true) (kk:AOps K ops rest Q (S.put d (.con (ptrX v o)))):
  AOps K ops (⟨some d,.nilCheck x,ty,pos,after,g⟩::rest) Q S:=
 aops_val _ hw hN (fun m β w a r=>by
  obtain⟨b,cap,arr,bl,q1,q2,q3,q4,q5,q6⟩:=r.rowX ho hi hv
  obtain⟨b2,off,he⟩:=ptrX_some q5 hj o
  exact⟨ptrX v o,by simp only[execOp,r.con hx,he];rfl,.imm (.con _)⟩) kk
theorem aops_fieldX{α:Type}{d id E i e k j o f off:Nat}{x:Operand}{T:TypeId}{ls:Nat->Option Value}{enc:α->List V}{xs:List (List α)}{l:List α}{z:α}{v:Value}(hF:tyF K.P T f off=true)(hw:Wants ops S ⟨some d,.fieldAddr T x f,ty,pos,after,g⟩ true)(hx:evl K S x=.con (ptrX v o))
  (ho:hget S.hp id=.arr E 1 (rowsX ls e k enc xs)) (hi:xs[i]? = some l) (hv:ls i=some v) (hj:l[j]? = some z) (hN:Nat.blt d K.N=true) (kk:AOps K ops rest Q (S.put d (.con (ptrX v (o+off))))):
  AOps K ops (⟨some d,.fieldAddr T x f,ty,pos,after,g⟩::rest) Q S:=
 aops_val _ hw hN (fun m β w a r=>by
  obtain⟨b,cap,arr,bl,q1,q2,q3,q4,q5,q6⟩:=r.rowX ho hi hv
  have hj':(l.map enc)[j]? = some (enc z):=by rw[List.getElem?_map,hj];rfl
  obtain⟨b2,off2,c2,arr2,bl2,rfl,_⟩:=dsl_row q5 hj'
  refine⟨.pointer (some ⟨b2,(off2+o)+off,none⟩),by simp only[execOp,r.con hx];exact run_value (tyF_run hF w b2 (off2+o)),?_⟩
  rw[Nat.add_assoc]
  exact .imm (.con _)) kk
theorem aops_loadEl{α:Type}{d id E i e k j o f:Nat}{x:Operand}{T:TypeId}{ls:Nat->Option Value}{enc:α->List V}{xs:List (List α)}{l:List α}{z:α}{v:Value}(c:V)(hT:tyC K.P T=true)(hw:Wants ops S ⟨some d,.load T x,ty,pos,after,g⟩ true)(hx:evl K S x=.con (ptrX v o))
  (ho:hget S.hp id=.arr E 1 (rowsX ls e k enc xs)) (hi:xs[i]? = some l) (hv:ls i=some v) (hj:l[j]? = some z) (ho':o=j*k+f) (hc:(enc z)[f]? = some c) (hd:c.deep=false) (hN:Nat.blt d K.N=true) (kk:AOps K ops rest Q (S.put d c)):
  AOps K ops (⟨some d,.load T x,ty,pos,after,g⟩::rest) Q S:=
 aops_val _ hw hN (fun m β w a r=>by
  obtain⟨b,cap,arr,bl,q1,q2,q3,q4,q5,q6⟩:=r.rowX ho hi hv
  have hj':(l.map enc)[j]? = some (enc z):=by rw[List.getElem?_map,hj];rfl
  obtain⟨b2,off2,c2,arr2,bl2,rfl,p1,p2,p3,p4,p5,p6,p7,p8,p9⟩:=dsl_row q5 hj'
  obtain⟨u,u1,u2,u3⟩:=p9 j f _ c hj' hc
  subst ho'
  exact⟨u,by simp only[execOp,r.con hx];exact run_value (run_load_cell hT (by rw[cell_of_heap p4];exact u1)),CRel.v (.inr u2) hd⟩) kk
theorem aops_loadElA{α:Type}{d id E i e k j n:Nat}{x:Operand}{T:TypeId}{ls:Nat->Option Value}{enc:α->List V}{xs:List (List α)}{l:List α}{z:α}{v:Value}{cs:List V}(hT:tyA K.P T n=true)(hw:Wants ops S ⟨some d,.load T x,ty,pos,after,g⟩ true)(hx:evl K S x=.con (ptrX v (j*k)))
  (ho:hget S.hp id=.arr E 1 (rowsX ls e k enc xs)) (hi:xs[i]? = some l) (hv:ls i=some v) (hj:l[j]? = some z) (hc:enc z=cs) (hn:cs.length=n) (hnd:ndB cs=true) (hN:Nat.blt d K.N=true) (kk:AOps K ops rest Q (S.put d (.agg cs))):
  AOps K ops (⟨some d,.load T x,ty,pos,after,g⟩::rest) Q S:=
 aops_val _ hw hN (fun m β w a r=>by
  subst hc
  obtain⟨b,cap,arr,bl,q1,q2,q3,q4,q5,q6⟩:=r.rowX ho hi hv
  have hj':(l.map enc)[j]? = some (enc z):=by rw[List.getElem?_map,hj];rfl
  obtain⟨b2,off2,c2,arr2,bl2,rfl,p1,p2,p3,p4,p5,p6,p7,p8,p9⟩:=dsl_row q5 hj'
  have hcell:∀o c,(enc z)[o]? = some c->∃u,arr2[off2+j*k+o]? = some u/\VRel m β c u:=fun o c hc=>by
   obtain⟨u,u1,u2,_⟩:=p9 j o _ c hj' hc
   exact⟨u,by rw[Nat.add_assoc];exact u1,CRel.v (.inr u2) (ndB_at hnd hc)⟩
  have hrun:=run_load_agg (P:=K.P) (w:=w) (b:=b2) (o:=off2+j*k) (fun o=>arr2.getD (off2+j*k+o) undef) hT (fun o ho=>by
   rw[cell_of_heap p4]
   obtain⟨u,a1,_⟩:=hcell o (enc z)[o] (by simp[hn,ho])
   rw[a1];simp[Array.getD_eq_getD_getElem?,a1])
  refine⟨_,by simp only[execOp,r.con hx];exact run_value hrun,?_⟩
  refine .agg (by simp[hn]) (fun o c u ho hu=>?_)
  obtain⟨u',a1,a2⟩:=hcell o c ho
  simp only[List.getElem?_toArray,List.getElem?_map] at hu
  have ho':o<n:=by rw[<-hn];exact(List.getElem?_eq_some_iff.1 ho).1
  rw[List.getElem?_range ho'] at hu
  simp only[Option.map_some,Option.some.injEq] at hu
  rw[<-hu]
  simp[Array.getD_eq_getD_getElem?,a1];exact a2) kk
theorem Rel.updateH(r:Rel K m β w a S){id x:Nat}(hl:hget S.hp id≠.dead)(hx:β.hid id x)(w':World)(ob:Ob)
  (hw:∀b',b'≠x->w'.heap[b']? = w.heap[b']?) (hs:w'.heap.size=w.heap.size) (hsame:Same w w') (hok:ObOk m β w' (β.hid id) (β id) ob):Rel K m β w' a ⟨S.env,(id,ob)::S.hp,S.nx⟩:=by
 have hp:=r.hid id x hl hx
 have live:∀i,hget ((id,ob)::S.hp) i≠.dead->hget S.hp i≠.dead:=by
  intro i hi
  rw[hget_put] at hi
  by_cases h:id=i
  ·subst h;exact hl
  ·rw[if_neg h] at hi;exact hi
 constructor
 ·intro b' o' h
  have:b'≠x:=by intro e;subst e;rw[hp.m] at h;simp at h
  rw[hw _ this];exact r.imm b' o' h
 ·exact r.ext
 ·exact r.mold
 ·intro b' hb' ho
  have:b'≠x:=by intro e;subst e;exact hp.old hb' ho
  rw[hw _ this];exact r.frame b' hb' ho
 ·rw[hs];exact r.size
 ·exact r.same.trans hsame
 ·exact r.tn
 ·exact r.df
 ·exact r.env
 ·intro id'
  simp only[hget_put]
  by_cases h:id=id'
  ·subst h;rw[if_pos rfl];exact hok
  ·rw[if_neg h]
   by_cases hd:hget S.hp id'=.dead
   ·rw[hd];exact ObOk.dead' _
   ·refine ObOk.congr (fun b' cap' hbi=>hw b' fun e=>?_) (fun y hy=>hw y fun e=>?_) (r.own id')
    ·subst e;exact hp.ne id' b' cap' hd hbi rfl
    ·subst e;exact h (hp.un id' hd hy).symm
 ·intro id' b' c' hl' hb'
  exact r.priv _ _ _ (live _ hl') hb'
 ·exact fun i i' b' c c' h1 h2=>r.inj i i' b' c c' (live i h1) (live i' h2)
 ·intro i y hi hy
  have h:=r.hid i y (live i hi) hy
  exact⟨by rw[hs];exact h.lt,h.m,h.old,fun i' b' c' hi'=>h.ne i' b' c' (live i' hi'),fun i' hi'=>h.un i' (live i' hi')⟩
 ·exact r.nx
 ·exact r.pin
end
section
variable{K:Ctx}{Q:Post}{S:St}
variable{m:Mem}{β:Locs}{w:World}{a:Act}
variable{ops:Array Oper}{rest:List Oper}{ty:TypeId}{pos:String}{after:Array Edge}{g:Option (Nat×Bool)}
theorem Keep.cellX{v:Option Value}{e k:Nat}{r:List (List V)}:Keep (cellX v e k r):=by
 cases v with
 |none=>exact Keep.dsl _ _ _
 |some v=>exact Keep.plc _ _
instance {α:Type} {ls:Nat->Option Value} {e k:Nat} {enc:α->List V} {xs:List (List α)}:RK (rowsX ls e k enc xs):=⟨fun row hr c hc=>by
 simp only[rowsX,List.mem_mapIdx] at hr
 obtain⟨i,_,rfl⟩:=hr
 simp only[List.mem_singleton] at hc
 subst hc
 exact Keep.cellX⟩
theorem aops_storeEl{α:Type}{id E i e k j o f:Nat}{x y:Operand}{T:TypeId}{ls:Nat->Option Value}{enc:α->List V}{xs:List (List α)}{l:List α}{z:α}{v:Value}{c:V}(z':α)(xs':List (List α))(hT:tyS K.P T 1=true)(hw:Wants ops S ⟨none,.store T x y,ty,pos,after,g⟩ true)
  (hx:evl K S x=.con (ptrX v o)) (hy:evl K S y=c) (hcs:vcells c=[c]) (h1:oneV c=true) (hkc:Keep c)
  (ho:hget S.hp id=.arr E 1 (rowsX ls e k enc xs)) (hi:xs[i]? = some l) (hv:ls i=some v) (hj:l[j]? = some z) (ho':o=j*k+f) (hz:enc z'=(enc z).set f c) (hf:f<(enc z).length) (hxs:xs.set i (l.set j z')=xs')
  (kk:AOps K ops rest Q ⟨S.env,(id,.arr E 1 (rowsX ls e k enc xs'))::S.hp,S.nx⟩):
  AOps K ops (⟨none,.store T x y,ty,pos,after,g⟩::rest) Q S:=by
 subst hxs ho'
 refine aops_runs hw (fun m β w a r=>?_) kk
 have hl0:hget S.hp id≠.dead:=by rw[ho];simp
 have hyv:=r.reads y
 rw[hy] at hyv
 obtain⟨c1,c2,c3⟩:=hyv.cells (by rw[hcs];simpa using h1)
 rw[hcs] at c1 c2
 have hr:=rowsX_get (ls:=ls) (e:=e) (k:=k) (enc:=enc) hi
 obtain⟨b,cap,hb⟩:=r.blk ho hr
 obtain⟨arr,bl,a1,a2,a3,a4,a5,aB,a6⟩:=r.obj hb ho
 obtain⟨u,u1,u2,u3⟩:=a6 i 0 _ _ hr rfl
 rw[hv] at u2
 simp only[Nat.mul_one,Nat.add_zero] at u1 u2
 have hd:=deepG_inv rfl u2
 unfold cellX at hd
 have hd:u=v/\DRel m w (bl i) (.dsl e k (l.map enc)) v:=by
  cases hd with
  |imm h=>cases h
  |dx hd=>exact⟨rfl,hd⟩
 obtain⟨rfl,hd⟩:=hd
 have hj':(l.map enc)[j]? = some (enc z):=by rw[List.getElem?_map,hj];rfl
 obtain⟨b2,off,c0,arr2,bl2,rfl,p1,p2,p3,p4,p5,p6,p7,p8,p9⟩:=dsl_row hd hj'
 have hjl:j<(l.map enc).length:=(List.getElem?_eq_some_iff.1 hj').1
 have hik:off+(j*k+k)<=arr2.size:=by
  have:j*k+k<=c0*k:=by
   calc j*k+k=(j+1)*k:=by rw[Nat.add_mul,Nat.one_mul]
    _<=c0*k:=Nat.mul_le_mul_right _ (by omega)
  rw[p5];omega
 have hfk:f<k:=by rw[<-p8 _ (List.mem_of_getElem? hj')];exact hf
 have c1':(a.eval y).cells.size=1:=by simpa using c1.symm
 have hlen:(a.eval y).cells.toList.length=1:=by simpa using c1'
 have hrun:=run_storeCells_at (P:=K.P) b2 (off+(j*k+f)) e (a.eval y).cells.toList 0 arr2 w p4 (by rw[hlen];omega) c3
 simp only[Nat.add_zero] at hrun
 have hbb:β.hid id b2:=aB.1 i b2 p1
 have hne:b≠b2:=fun h=>(r.hid id b2 hl0 hbb).ne id b cap hl0 hb h.symm
 refine⟨undef,w.setRow b2 (arr2.toList.take (off+(j*k+f))++(a.eval y).cells.toList++arr2.toList.drop (off+(j*k+f)+(a.eval y).cells.toList.length)).toArray,m,β,.inr ⟨rfl,?_⟩,?_⟩
 rotate_left
 ·have hoth:∀x,x≠b2->(w.setRow b2 (arr2.toList.take (off+(j*k+f))++(a.eval y).cells.toList++arr2.toList.drop (off+(j*k+f)+(a.eval y).cells.toList.length)).toArray).heap[x]? = w.heap[x]?:=fun x hx=>heap_setRow hx
  refine r.updateH hl0 hbb _ (.arr E 1 (rowsX ls e k enc (xs.set i (l.set j z')))) hoth (by simp[World.setRow]) ⟨rfl,rfl,rfl,Nat.le_refl _⟩ ?_
  rw[hb]
  have hnew:∀p,(arr2.toList.take (off+(j*k+f))++(a.eval y).cells.toList++arr2.toList.drop (off+(j*k+f)+(a.eval y).cells.toList.length)).toArray[p]? = if off+(j*k+f)<=p/\p<off+(j*k+f)+1 then (a.eval y).cells[p - (off+(j*k+f))]? else arr2[p]?:=by
   intro p
   rw[List.getElem?_toArray,splice_get _ _ _ (by rw[hlen];simp;omega),hlen]
   split<;>simp
  have hsz:(arr2.toList.take (off+(j*k+f))++(a.eval y).cells.toList++arr2.toList.drop (off+(j*k+f)+(a.eval y).cells.toList.length)).toArray.size=arr2.size:=by
   rw[List.size_toArray]
   simp only[List.length_append,List.length_take,List.length_drop,Array.length_toList,hlen];omega
  generalize hnn:(arr2.toList.take (off+(j*k+f))++(a.eval y).cells.toList++arr2.toList.drop (off+(j*k+f)+(a.eval y).cells.toList.length)).toArray=arr3 at hoth hnew hsz
  refine⟨arr,bl,by rw[hoth b hne];exact a1,a2,by rw[rowsX_len,List.length_set,<-rowsX_len (ls:=ls) (e:=e) (k:=k) (enc:=enc)];exact a3,a4,?_,aB,?_⟩
  ·intro row hrow
   simp only[rowsX,List.mem_mapIdx] at hrow
   obtain⟨i2,_,rfl⟩:=hrow
   rfl
  ·intro i2 j2 row2 c' hi2 hj2
   by_cases hii:i=i2
   ·subst hii
    rw[rowsX_get (List.getElem?_set_self (List.getElem?_eq_some_iff.1 hi).1),Option.some.injEq] at hi2
    subst hi2
    match j2,hj2 with
    |j2+1,hj2=>simp at hj2
    |0,hj2=>
     simp only[List.getElem?_cons_zero,Option.some.injEq] at hj2
     subst hj2
     refine⟨_,by simpa using u1,.inr ?_,u3⟩
     rw[hv]
     simp only[Nat.mul_one,Nat.add_zero]
     show DRel _ _ _ (.dsx _ e k _) _
     refine .dx ?_
     have hlm:(l.map enc).length=((l.set j z').map enc).length:=by simp
     rw[hlm]
     have hlz:(enc z').length=k:=by rw[hz,List.length_set];exact p8 _ (List.mem_of_getElem? hj')
     have hcell:∀(i' o':Nat) (row:List V) (c'':V),((l.set j z').map enc)[i']? = some row->row[o']? = some c''->∃q,arr3[off+(i'*k+o')]? = some q/\q.oneCell'=true/\DRel m (w.setRow b2 arr3) (bl2 (i'*k+o')) c'' q:=by
      intro i' o' row c'' hi' ho'
      rw[List.getElem?_map,List.getElem?_set] at hi'
      by_cases e1:j=i'
      ·subst e1
       rw[if_pos rfl,if_pos (by simpa using hjl)] at hi'
       simp only[Option.map_some,Option.some.injEq] at hi'
       subst hi'
       rw[hz,List.getElem?_set] at ho'
       by_cases e2:f=o'
       ·subst e2
        rw[if_pos rfl,if_pos hf,Option.some.injEq] at ho'
        subst ho'
        have h0:0<(a.eval y).cells.size:=by rw[<-c1];exact Nat.one_pos
        refine⟨(a.eval y).cells[0],?_,c3 _ (by simp),.imm (hkc _ _ _ (c2 0 _ _ rfl (by simp[h0])))⟩
        rw[hnew,if_pos (by omega),Nat.sub_self];simp[h0]
       ·rw[if_neg e2] at ho'
        obtain⟨q,q1,q2,q3⟩:=p9 j o' _ c'' hj' ho'
        refine⟨q,?_,q3,q2.mono (Mem.le_refl _) (fun _ h=>h) (fun x hx=>hoth x (fun e=>p2 _ (e ▸ hx)))⟩
        rw[hnew,if_neg (by omega)];exact q1
      ·rw[if_neg e1] at hi'
       have hi'':(l.map enc)[i']? = some row:=by rw[List.getElem?_map];exact hi'
       obtain⟨q,q1,q2,q3⟩:=p9 i' o' _ c'' hi'' ho'
       have hk':o'<k:=by rw[<-p8 row (List.mem_of_getElem? hi'')];exact(List.getElem?_eq_some_iff.1 ho').1
       refine⟨q,?_,q3,q2.mono (Mem.le_refl _) (fun _ h=>h) (fun x hx=>hoth x (fun e=>p2 _ (e ▸ hx)))⟩
       rw[hnew,if_neg]
       ·exact q1
       ·intro hc
        rcases Nat.lt_or_gt_of_ne e1 with h|h
        ·have:(j+1)*k<=i'*k:=Nat.mul_le_mul_right _ h
         rw[Nat.add_mul,Nat.one_mul] at this;omega
        ·have:(i'+1)*k<=j*k:=Nat.mul_le_mul_right _ h
         rw[Nat.add_mul,Nat.one_mul] at this;omega
     refine .sl bl2 (fun p=>arr3.getD (off+p) undef) p1 p2 p3 (heap_setRow_self p4) (by rw[hsz];exact p5) (by rw[<-hlm];exact p6) p7 ?_ (fun i' o' row c'' h1 h2=>?_) (fun i' o' row c'' h1 h2=>?_)
     ·intro row hrow
      obtain⟨q,hq,rfl⟩:=List.mem_map.1 hrow
      rcases List.mem_or_eq_of_mem_set hq with h|h
      ·exact p8 _ (List.mem_map_of_mem h)
      ·rw[h];exact hlz
     ·obtain⟨q,q1,q2,_⟩:=hcell i' o' row c'' h1 h2
      have:arr3.getD (off+(i'*k+o')) undef=q:=by simp[Array.getD_eq_getD_getElem?,q1]
      simp only[this];exact⟨q1,q2⟩
     ·obtain⟨q,q1,_,q3⟩:=hcell i' o' row c'' h1 h2
      have:arr3.getD (off+(i'*k+o')) undef=q:=by simp[Array.getD_eq_getD_getElem?,q1]
      simp only[this];exact q3
   ·have hi3:(rowsX ls e k enc xs)[i2]? = some row2:=by
     simp only[rowsX,List.getElem?_mapIdx,List.getElem?_set,if_neg hii] at hi2 ⊢
     exact hi2
    obtain⟨q,q1,q2,q3⟩:=a6 i2 j2 row2 c' hi3 hj2
    refine⟨q,q1,q2.mono (Mem.le_refl _) (Locs.le_refl _) (fun _ h=>h) (fun x hx=>hoth x (fun e=>?_)),q3⟩
    subst e
    have h0:j2=0:=by
     have:=(List.getElem?_eq_some_iff.1 hj2).1
     rw[a5 row2 (List.mem_of_getElem? hi3)] at this;omega
    subst h0
    have:=aB.2 _ _ x p1 hx
    omega
 ·simp only[execOp,r.con hx,ptrX,Instr.storeAt,Instr.sureAddr,storeVar]
  simp only[Sem.run_bind,pure,Sem.run,Result.andThen_ok,tyS_run hT w]
  rw[if_neg (by simp[c1']),hrun]
  rfl
theorem Rel.pinX{α:Type}(r:Rel K m β w a S){id E e k:Nat}{ls:Nat->Option Value}{enc:α->List V}{xs:List (List α)}(ho:hget S.hp id=.arr E 1 (rowsX ls e k enc xs)):
  ∃l:Nat->Value,Rel K m β w a ⟨S.env,(id,.arr E 1 (rowsX (fun i=>some (l i)) e k enc xs))::S.hp,S.nx⟩:=by
 have hown:=r.own id
 rw[ho] at hown
 have hlive:∀(ob:Ob) i,hget ((id,ob)::S.hp) i≠.dead->hget S.hp i≠.dead:=by
  intro ob i hi
  rw[hget_put] at hi
  by_cases h:id=i
  ·subst h;rw[ho];simp
  ·rw[if_neg h] at hi;exact hi
 have key:∀(l:Nat->Value),ObOk m β w (β.hid id) (β id) (.arr E 1 (rowsX (fun i=>some (l i)) e k enc xs))->Rel K m β w a ⟨S.env,(id,.arr E 1 (rowsX (fun i=>some (l i)) e k enc xs))::S.hp,S.nx⟩:=fun l hok=>
  ⟨r.imm,r.ext,r.mold,r.frame,r.size,r.same,r.tn,r.df,r.env,fun i=>by
   rw[hget_put]
   split
   ·rename_i h;subst h;exact hok
   ·exact r.own i,fun i b c h=>r.priv i b c (hlive _ i h),fun i i' b c c' h h'=>r.inj i i' b c c' (hlive _ i h) (hlive _ i' h'),fun i x h hx=>(r.hid i x (hlive _ i h) hx).weak (hlive _),r.nx,r.pin⟩
 match hh:β id,hown with
 |none,hown=>simp[ObOk] at hown
 |some none,hown=>
  have hown:rowsX ls e k enc xs=[]:=hown
  have hx:xs=[]:=by
   have:=congrArg List.length hown
   rw[rowsX_len] at this
   exact List.length_eq_zero_iff.1 this
  refine⟨fun _=>undef,key _ ?_⟩
  rw[hh]
  subst hx
  rfl
 |some (some (b,cap)),hown=>
  obtain⟨arr,bl,a1,a2,a3,a4,a5,aB,a6⟩:=hown
  refine⟨fun i=>arr.getD (cap.off+i) undef,key _ ?_⟩
  rw[hh]
  refine⟨arr,bl,a1,a2,by rw[rowsX_len] at a3 ⊢;exact a3,a4,fun row hrow=>?_,aB,fun i j row c hi hj=>?_⟩
  ·simp only[rowsX,List.mem_mapIdx] at hrow
   obtain⟨i2,_,rfl⟩:=hrow
   rfl
  ·have hil:i<xs.length:=by
    have:=(List.getElem?_eq_some_iff.1 hi).1
    rwa [rowsX_len] at this
   rw[rowsX_get (List.getElem?_eq_getElem hil),Option.some.injEq] at hi
   subst hi
   match j,hj with
   |j+1,hj=>simp at hj
   |0,hj=>
    simp only[List.getElem?_cons_zero,Option.some.injEq] at hj
    subst hj
    obtain⟨u,u1,u2,u3⟩:=a6 i 0 _ _ (rowsX_get (List.getElem?_eq_getElem hil)) rfl
    refine⟨u,u1,.inr ?_,u3⟩
    have hd:=deepG_inv (by cases ls i<;>rfl) u2
    have hu:arr.getD (cap.off+i) undef=u:=by
     simp only[Nat.mul_one,Nat.add_zero] at u1
     simp[Array.getD_eq_getD_getElem?,u1]
    show DRel _ _ _ (.dsx _ e k _) _
    rw[hu]
    refine .dx ?_
    unfold cellX at hd
    cases hl:ls i with
    |none=>rw[hl] at hd;exact hd
    |some v0=>
     rw[hl] at hd
     cases hd with
     |imm h=>cases h
     |dx hd=>exact hd
theorem awp_pinX{α:Type}{c:Code}(id:Nat){E e k:Nat}{ls:Nat->Option Value}{enc:α->List V}{xs:List (List α)}(ho:hget S.hp id=.arr E 1 (rowsX ls e k enc xs))
  (h:∀l:Nat->Value,AWP K c Q ⟨S.env,(id,.arr E 1 (rowsX (fun i=>some (l i)) e k enc xs))::S.hp,S.nx⟩):AWP K c Q S:=fun m β w a r=>
 let ⟨l,r'⟩:=r.pinX ho
 h l m β w a r'
theorem ghost_unpin{α:Type}(id:Nat){E e k:Nat}{ls:Nat->Option Value}{enc:α->List V}{xs:List (List α)}(ho:hget S.hp id=.arr E 1 (rowsX ls e k enc xs)):
  Ghost K S ⟨S.env,(id,.arr E 1 (xs.map (encR e k enc)))::S.hp,S.nx⟩:=
 ghost_tellC id _ ho ⟨rfl,rfl,by rw[rowsX_len,List.length_map],fun i r1 r2 h1 h2=>by
  rw[List.getElem?_map] at h1
  cases hx:xs[i]? with
  |none=>rw[hx] at h1;simp at h1
  |some x=>
   rw[hx] at h1
   rw[rowsX_get hx,Option.some.injEq] at h2
   simp only[Option.map_some,Option.some.injEq] at h1
   subst h1 h2
   refine⟨rfl,fun j c c' hc hc'=>?_⟩
   match j,hc,hc' with
   |j+1,hc,_=>simp[encR] at hc
   |0,hc,hc'=>
    simp only[encR,List.getElem?_cons_zero,Option.some.injEq] at hc hc'
    subst hc hc'
    intro m β m' β' w B u hy hu
    obtain⟨rfl,rfl⟩:=hy
    refine .inr ?_
    have hd:=deepG_inv (by cases ls i<;>rfl) hu
    unfold cellX at hd
    cases hl:ls i with
    |none=>rw[hl] at hd;exact hd
    |some v0=>
     rw[hl] at hd
     cases hd with
     |imm h=>cases h
     |dx hd=>exact hd⟩
end
end Go.Pv
namespace Go.Pv
open Go
set_option linter.unusedVariables false
set_option linter.unusedSimpArgs false
section
variable{K:Ctx}{Q:Post}{S:St}
variable{m:Mem}{β:Locs}{w:World}{a:Act}
variable{ops:Array Oper}{rest:List Oper}{ty:TypeId}{pos:String}{after:Array Edge}
def updN(ls:Nat->Option Value)(i:Nat):Nat->Option Value:=fun j=>if j=i then none else ls j
theorem Rel.tellT(r:Rel K m β w a S){t:Nat}{dv:V}(h:VRel m β dv (a.tmps.getD t undef)):Rel K m β w a ⟨(t,dv)::S.env,S.hp,S.nx⟩:=
 ⟨r.imm,r.ext,r.mold,r.frame,r.size,r.same,r.tn,r.df,fun t'=>by
  rw[get_put]
  split
  ·rename_i e;subst e;exact h
  ·exact r.env t',r.own,r.priv,r.inj,r.hid,r.nx,r.pin⟩
theorem Rel.takeX{α:Type}(r:Rel K m β w a S){id E i e k nid:Nat}{ls:Nat->Option Value}{enc:α->List V}{xs:List (List α)}{x:List α}{v:Value}(hfree:β nid=none)(hpid:∀q,q<K.pins->q≠nid)(hidn:nid<S.nx)
  (ho:hget S.hp id=.arr E 1 (rowsX ls e k enc xs)) (hi:xs[i]? = some x) (hv:ls i=some v):
  ∃β':Locs,Rel K m β' w a ⟨S.env,(id,.arr E 1 ((rowsX ls e k enc xs).set i [.own nid x.length]))::(nid,.arr e k (x.map enc))::S.hp,S.nx⟩/\VRel m β' (.own nid x.length) v:=by
 have hl0:hget S.hp id≠.dead:=by rw[ho];simp
 have hr:=rowsX_get (ls:=ls) (e:=e) (k:=k) (enc:=enc) hi
 obtain⟨b,cap,hb⟩:=r.blk ho hr
 obtain⟨arr,bl,q1,q2,q3,q4,q5,q6,q7⟩:=r.obj hb ho
 obtain⟨u,u1,u2,u3⟩:=q7 i 0 _ _ hr rfl
 have hd:=deepG_inv (by rw[hv];rfl) u2
 rw[hv] at hd
 have hd:u=v/\DRel m w (bl (i*1+0)) (.dsl e k (x.map enc)) v:=by
  cases hd with
  |imm h=>cases h
  |dx hd=>exact⟨rfl,hd⟩
 obtain⟨rfl,hd⟩:=hd
 have hnid:id≠nid:=fun h=>by rw[h,hfree] at hb;simp at hb
 obtain⟨loc,Bn,hvv,hBn,hloc,hobj⟩:=deep_take (id0:=nid) hd rfl
 obtain⟨β',rr,hle,en⟩:=r.takeGx nid S.nx hfree hpid hidn (Nat.le_refl _) hl0 hnid (bl (i*1+0)) Bn loc (.arr E 1 ((rowsX ls e k enc xs).set i [.own nid x.length])) (.arr e k (x.map enc)) (fun x hx=>q6.1 _ x hx) hBn hloc hobj (fun β' hle en=>by
  rw[hb]
  refine⟨arr,fun p=>if p=i*1+0 then (fun _=>False) else bl p,q1,q2,by rw[List.length_set];exact q3,q4,fun row hrow=>?_,⟨fun p x hx=>?_,fun p p' x hx hx'=>?_⟩,fun i2 j2 row2 c2 h1 h2=>?_⟩
  ·rcases List.mem_or_eq_of_mem_set hrow with h|h
   ·exact q5 _ h
   ·subst h;rfl
  ·dsimp only at hx
   split at hx
   ·exact hx.elim
   ·rename_i hne;exact q6.1 p x hx |> fun h=>⟨h,fun h'=>hne (q6.2 _ _ x hx h')⟩
  ·dsimp only at hx hx'
   split at hx
   ·exact hx.elim
   ·split at hx'
    ·exact hx'.elim
    ·exact q6.2 _ _ x hx hx'
  ·rw[List.getElem?_set] at h1
   by_cases e1:i=i2
   ·subst e1
    rw[if_pos rfl,if_pos (List.getElem?_eq_some_iff.1 hr).1,Option.some.injEq] at h1
    subst h1
    match j2,h2 with
    |j2+1,h2=>simp at h2
    |0,h2=>
     simp only[List.getElem?_cons_zero,Option.some.injEq] at h2
     subst h2
     have:=hvv β' en
     rw[List.length_map] at this
     exact⟨_,u1,.inl this,u3⟩
   ·rw[if_neg e1] at h1
    obtain⟨y,y1,y2,y3⟩:=q7 i2 j2 row2 c2 h1 h2
    refine⟨y,y1,?_,y3⟩
    have hj0:j2=0:=by
     have:=(List.getElem?_eq_some_iff.1 h2).1
     rw[q5 row2 (List.mem_of_getElem? h1)] at this;omega
    show CRel _ _ _ (if _ then _ else _) _ _
    rw[if_neg (by omega)]
    exact y2.mono (Mem.le_refl _) hle (fun _ h=>h) (fun _ _=>rfl))
 refine⟨β',rr,?_⟩
 have:=hvv β' en
 rwa [List.length_map] at this
theorem aops_appendX_at{α:Type}{d t t2 id E i e k nx nid idn e2 id2 T T' bytes n':Nat}{ls:Nat->Option Value}{enc:α->List V}{xs:List (List α)}{x:List α}{z:α}{v:Value}(hT:tyEl K.P T e k bytes=true)(hT':tySlice K.P T'=true)(hpos:Nat.blt 0 bytes=true)(hkp:Nat.blt 0 k=true)
    (hid:(Nat.blt nid nx&&Nat.ble K.pins nid&&(Nat.blt idn nx&&Nat.ble K.pins idn))=true) (hnxx:S.nx=nx) (hn1:hget S.hp nid=.res) (hn2:hget S.hp idn=.res) (hne:(!Nat.beq t t2&&!Nat.beq d t&&!Nat.beq id id2&&!Nat.beq nid idn)=true)
    (hs:get S.env t=.con v) (hx:get S.env t2=.own id2 1) (ho2:hget S.hp id2=.arr e2 k [enc z]) (hnd:ndB (enc z)=true)
    (ho:hget S.hp id=.arr E 1 (rowsX ls e k enc xs)) (hi:xs[i]? = some x) (hv:ls i=some v) (hn':(x++[z]).length=n') (hb:n'*bytes<=140737488355328) (hN:Nat.blt d K.N=true)
    (kk:AOps K ops rest Q ⟨(d,.own idn n')::(t,.any)::S.env,(idn,.arr e k ((x++[z]).map enc))::(nid,.dead)::(id,.arr E 1 ((rowsX ls e k enc xs).set i [.any]))::S.hp,S.nx⟩):
    AOps K ops (⟨some d,.call ⟨.builtin .append,#[.tmp t,.tmp t2],#[T,T']⟩,ty,pos,after,none⟩::rest) Q S:=by
  intro m β w a r
  simp only[Bool.and_eq_true,Bool.not_eq_true'] at hid hne
  obtain⟨⟨hA,hB⟩,hC,hD⟩:=hid
  obtain⟨⟨⟨hE,hF⟩,hG⟩,hH⟩:=hne
  have e1:t≠t2:=Nat.ne_of_beq_eq_false hE
  have e2':d≠t:=Nat.ne_of_beq_eq_false hF
  have e3:id≠id2:=Nat.ne_of_beq_eq_false hG
  have e4:nid≠idn:=Nat.ne_of_beq_eq_false hH
  have e5:id≠idn:=fun h=>by rw[h,hn2] at ho;simp at ho
  have e6:id≠nid:=fun h=>by rw[h,hn1] at ho;simp at ho
  have e7:nid≠id2:=fun h=>by rw[<-h,hn1] at ho2;simp at ho2
  obtain⟨β1,r1,hv1⟩:=r.takeX (r.free hn1) (fun q hq=>by have:=Nat.le_of_ble_eq_true hB;omega) (by rw[hnxx];exact Nat.le_of_ble_eq_true hA) ho hi hv
  have hev:a.tmps.getD t undef=v:=by
    have:=r.env t
    rw[hs] at this
    exact this.of_con
  have r2:=r1.tellT (t:=t) (dv:=.own nid x.length) (by rw[hev];exact hv1)
  have key:AOps K ops (⟨some d,.call ⟨.builtin .append,#[.tmp t,.tmp t2],#[T,T']⟩,ty,pos,after,none⟩::rest) Q ⟨(t,.own nid x.length)::S.env,(id,.arr E 1 ((rowsX ls e k enc xs).set i [.own nid x.length]))::(nid,.arr e k (x.map enc))::S.hp,S.nx⟩:=by
   refine aops_append_at (nx:=nx) idn (by rw[hC,hD];rfl) hnxx (by simp only[hget_put];rw[if_neg e5,if_neg e4];exact hn2) [enc z] ((x++[z]).map enc) hT hT' hpos hkp rfl (id:=nid) (n:=x.length) (rows:=x.map enc) (by simp[evl,get_put]) (by simp only[hget_put];rw[if_neg e6];simp) (by simp)
    (sv:=.own id2 1) (by simp only[evl,get_put];rw[if_neg e1];exact hx) (.own (by simp only[hget_put];rw[if_neg e3,if_neg e7];exact ho2) rfl (fun row hr c hc=>by
      simp only[List.mem_singleton] at hr
      subst hr
      obtain⟨j,hj⟩:=List.getElem?_of_mem hc
      exact ndB_at hnd hj)) (by simp) (by rw[List.length_map];exact hn') hb hN ?_
   refine aops_ghost (ghost_tell t .any rfl Sub.any) (aops_ghost (ghost_tellC id (.arr E 1 ((rowsX ls e k enc xs).set i [.any])) (ob0:=.arr E 1 ((rowsX ls e k enc xs).set i [.own nid x.length])) (by simp only[hget_put];rw[if_neg (Ne.symm e5),if_neg (Ne.symm e6)];simp) ?_) (aops_ghost (fun m β w a r=>⟨m,β,r.congr (S':=⟨(d,.own idn n')::(t,.any)::S.env,(idn,.arr e k ((x++[z]).map enc))::(nid,.dead)::(id,.arr E 1 ((rowsX ls e k enc xs).set i [.any]))::S.hp,S.nx⟩) (fun q=>?_) (fun q=>?_) rfl⟩) kk))
   · refine⟨rfl,rfl,by simp,fun i2 ra rb h1 h2=>?_⟩
     rw[List.getElem?_set] at h1 h2
     by_cases e1:i=i2
     · rw[if_pos e1] at h1 h2
       split at h1
       · rename_i hlt
         rw[if_pos hlt] at h2
         simp only[Option.some.injEq] at h1 h2
         subst h1 h2
         refine⟨rfl,fun j c c' hc hc'=>?_⟩
         match j,hc,hc' with
         |j+1,hc,_=>simp at hc
         |0,hc,hc'=>
           simp only[List.getElem?_cons_zero,Option.some.injEq] at hc hc'
           subst hc
           exact CSub.any
       · simp at h1
     · rw[if_neg e1] at h1 h2
       rw[h1,Option.some.injEq] at h2
       subst h2
       exact⟨rfl,fun j c c' hc hc'=>by rw[hc,Option.some.injEq] at hc';subst hc';exact csub_keep c⟩
   · simp only[get_put]
     repeat' split
     all_goals first|rfl|omega
   · simp only[hget_put]
     repeat' split
     all_goals first|rfl|omega
  exact key m β1 w a r2
theorem aops_store_holeX{α:Type}{id E i e k id2 n2:Nat}{x y:Operand}{T:TypeId}{g:Option (Nat×Bool)}{ls:Nat->Option Value}{enc:α->List V}{xs xs':List (List α)}{ys:List α}(hkp:∀z,Keeps (enc z))(hT:tyS K.P T 1=true)
  (hw:Wants ops S ⟨none,.store T x y,ty,pos,after,g⟩ true) (hx:evl K S x=.ptr id 1 i 0) (hy:evl K S y=.own id2 n2) (ho:hget S.hp id=.arr E 1 ((rowsX ls e k enc xs).set i [.any])) (hi:i<xs.length)
  (ho2:hget S.hp id2=.arr e k (ys.map enc)) (hn:n2=ys.length) (hne:Nat.beq id id2=false) (hxs:xs.set i ys=xs')
  (kk:AOps K ops rest Q ⟨S.env,(id,.arr E 1 (rowsX (updN ls i) e k enc xs'))::(id2,.dead)::S.hp,S.nx⟩):
  AOps K ops (⟨none,.store T x y,ty,pos,after,g⟩::rest) Q S:=by
 subst hxs
 have hid:id≠id2:=Nat.ne_of_beq_eq_false hne
 have hlr:i<(rowsX ls e k enc xs).length:=by rw[rowsX_len];exact hi
 have hr1:((rowsX ls e k enc xs).set i [.any])[i]? = some [.any]:=List.getElem?_set_self hlr
 refine aops_store [.own id2 n2] ((rowsX ls e k enc xs).set i [.own id2 n2]) hT hw hx hy rfl rfl ho hr1 (by simp) (by rw[set_set];rfl) ?_
 have h1:hget ((id,Ob.arr E 1 ((rowsX ls e k enc xs).set i [.own id2 n2]))::S.hp) id2=.arr e k (ys.map enc):=by rw[hget_put,if_neg hid];exact ho2
 have hg:=ghost_untake (K:=K) (S:=⟨S.env,(id,.arr E 1 ((rowsX ls e k enc xs).set i [.own id2 n2]))::S.hp,S.nx⟩) id i 0 id2 hget_self (List.getElem?_set_self hlr) (show([.own id2 n2]:List V)[0]? = some (.own id2 n2) from rfl)
  h1 (by rw[hn,List.length_map]) hne (fun r hr=>by obtain⟨z,_,rfl⟩:=List.mem_map.1 hr;exact hkp z)
 have he:setC ((rowsX ls e k enc xs).set i [.own id2 n2]) i [.own id2 n2] 0 (.dsl e k (ys.map enc))=rowsX (updN ls i) e k enc (xs.set i ys):=by
  unfold setC
  rw[set_set]
  exact rowsX_ext (fun j hj=>by simp[updN,hj]) hi (by simp[updN,cellX]) rfl
 rw[he] at hg
 refine aops_ghost hg (aops_ghost (ghost_eqH ((id,.arr E 1 (rowsX (updN ls i) e k enc (xs.set i ys)))::(id2,.dead)::S.hp) fun q=>?_) kk)
 simp only[hget_put]
 repeat' split
 all_goals rfl
end
end Go.Pv
namespace Go.Pv
open Go
theorem awp_pinD{K:Ctx}{Q:Post}{S:St}{α:Type}{c:Code}(id:Nat){E e k:Nat}{enc:α->List V}{xs:List (List α)}(ho:hget S.hp id=.arr E 1 (xs.map (encR e k enc)))
  (h:∀l:Nat->Value,AWP K c Q ⟨S.env,(id,.arr E 1 (rowsX (fun i=>some (l i)) e k enc xs))::S.hp,S.nx⟩):AWP K c Q S:=
 awp_pinX id (by rw[ho,<-rowsX_none]) h
end Go.Pv
namespace Go.Pv
open Go
set_option linter.unusedVariables false
section
variable{K:Ctx}{Q:Post}{S S':St}
variable{ops:Array Oper}{rest:List Oper}{ty:TypeId}{pos:String}{after:Array Edge}{g:Option (Nat×Bool)}
def allCon:List V->Bool
 |[]=>true
 | .con _::l=>allCon l
 |_::_=>false
theorem allCon_at:∀{l:List V} {i:Nat} {c:V},allCon l=true->l[i]? = some c->∃v,c=.con v
 | .con v::l,0,c,_,hc=>by simp at hc;exact⟨v,hc.symm⟩
 | .con v::l,i+1,c,h,hc=>allCon_at (l:=l) (i:=i) h (by simpa using hc)
 |[],_,c,_,hc=>by simp at hc
inductive FlatI:V->Prop
 |con (v:Value):FlatI (.con v)
 |agg {cs:List V} (h:allCon cs=true):FlatI (.agg cs)
theorem FlatI.free{d:V}(h:FlatI d){m m':Mem}{β:Locs}{w:World}{B:Nat->Prop}{v:Value}(hv:CRel m β w B d v):IRel m' d v:=by
 cases h with
 |con x=>rw[(hv.v rfl).of_con];exact .con _
 | @agg cs h=>
  have hv:=hv.v rfl
  have key:∀(i:Nat) (c:V) (u:Value),cs[i]? = some c->VRel m β c u->IRel m' c u:=fun i c u hc hu=>by
   obtain⟨x,rfl⟩:=allCon_at h hc
   rw[hu.of_con];exact .con _
  cases hv with
  |imm hi=>
   cases hi with
   |agg hl hi=>exact .agg hl (fun i c u hc hu=>key i c u hc (.imm (hi i c u hc hu)))
  |agg hl hi=>exact .agg hl (fun i c u hc hu=>key i c u hc (hi i c u hc hu))
end
section
variable{K:Ctx}{Q:Post}{env:Env}{hpS:Heap}{S':St}
variable{ops:Array Oper}{rest:List Oper}{ty:TypeId}{pos:String}{after:Array Edge}{g:Option (Nat×Bool)}
end
end Go.Pv
