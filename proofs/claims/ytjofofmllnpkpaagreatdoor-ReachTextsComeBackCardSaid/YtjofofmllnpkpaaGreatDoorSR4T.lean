/- Part of the proof: BM, BG, BG2, BG3, R4T. -/
import Derived.Test.YtjofofmllnpkpaaGreatDoorSBL
import Derived.Test.YtjofofmllnpkpaaGreatDoorSWA
import Derived.Shelf.Strings.Builder2
import Derived.Test.YtjofofmllnpkpaaGreatDoorSZA
import Derived.Lib.Repeat
import Derived.Lib.ItoaLen
import Derived.Test.YtjofofmllnpkpaaGreatDoorSDM
import Derived.Test.YtjofofmllnpkpaaGreatDoorSDC
import Derived.Test.YtjofofmllnpkpaaGreatDoorProg
import Derived.KernelRfl
namespace Go.Pv
open Go Go.RowKit Go.Lib Go.Shelf Go.Proofs
set_option linter.unusedVariables false
theorem ObSub.bld{Y:Hy}{T e:Nat}{l:List UInt8}{fr:Bool}:ObSub Y (.bld T e l fr) (.bld T e l fr):=⟨rfl,rfl,rfl,rfl⟩
section
variable{P:Program}{ρ:Go.Shelf.Ren}
theorem one_of{vs:Array Value}(h:vs.size=1):∃a,vs=#[a]:=by
 obtain⟨l⟩:=vs
 match l,h with
 |[a],_=>exact⟨a,rfl⟩
theorem two_of'{vs:Array Value}(h:vs.size=2):∃a b,vs=#[a,b]:=by
 obtain⟨l⟩:=vs
 match l,h with
 |[a,b],_=>exact⟨a,b,rfl⟩
theorem mut_bld{gl:Gl}{f id k:Nat}{hp:Heap}{T e:Nat}{bs bs':List UInt8}{args:List V}{rv:Value}{fr:Bool}(dead:Bool)(hTe:T≠e)(ho:hget hp id=.bld T e bs fr)(hargs0:args[0]? = some (.ptr id 2 0 0))
  (hC:∀(b:Nat) (p v:Value) (w:World) (vs:Array Value),vs.size=args.length->vs[0]? = some (.pointer (some ⟨b,0,none⟩))->(∀(i:Nat) c u,args[i+1]? = some (.con c)->vs[i+1]? = some u->u=c)->w.heap[b]? = some (.cells #[p,v] T (0,0))->
   (p=.pointer none\/p=.pointer (some ⟨b,0,none⟩))->BufAt e b v bs w->(fr=true->p=.pointer none/\v=.slice none 0 0)->
   Calls P f vs w fun x w'=>x=.returned rv/\∃p' v',(dead=false->w'.heap[b]? = some (.cells #[p',v'] T (0,0))/\(p'=.pointer none\/p'=.pointer (some ⟨b,0,none⟩))/\BufAt e b v' bs' w')/\
    (∀k,k<w.heap.size->k≠b->v.ownBlock≠some k->w'.heap[k]? = w.heap[k]?)/\w.heap.size<=w'.heap.size/\Same w w'/\∀g,v'.ownBlock=some g->v.ownBlock=some g\/w.heap.size<=g)
  {d:V} (hd:∀m β,VRel m β d rv) (hcon:∀(i:Nat) x,args[i+1]? = some x->∃c,x=.con c):
  MutG gl P f args k hp d k ((id,bif dead then .dead else .bld T e bs')::hp):=by
 intro m β w vs himm _ hargs hown hpriv hinj hhid hnx
 have hlid:hget hp id≠.dead:=by rw[ho];simp
 have hv0:0<vs.size:=by rw[<-hargs.len];exact(List.getElem?_eq_some_iff.1 hargs0).1
 have hp0:=hargs.at' 0 _ _ hargs0 (Array.getElem?_eq_getElem hv0)
 generalize hu0:vs[0]=u0 at hp0
 cases hp0 with
 |imm h=>cases h
 | @ptr _ _ _ _ b cap hb=>
  have hob:=hown id
  rw[hb,ho] at hob
  obtain⟨hoff,_,p,v,hfr,hbk,hpp,hbuf⟩:=hob
  rw[hoff] at hu0
  have hbw:BufAt e b v bs w:=hbuf.imp (fun x=>x) fun⟨g,c,cur,a1,a2,a3,a4⟩=>⟨g,c,cur,a1,a3,a4⟩
  have hgB:∀g,v.ownBlock=some g->β.hid id g:=by
   intro g hg
   rcases hbuf with ⟨rfl,_⟩|⟨g',c,cur,rfl,a2,_⟩
   ·simp[Value.ownBlock] at hg
   ·simp[Value.ownBlock] at hg;subst hg;exact a2
  have hblt:b<w.heap.size:=lt_of_some hbk
  refine(hC b p v w vs hargs.len.symm (by rw[Array.getElem?_eq_getElem hv0,hu0]) (fun i c u h1 h2=>(hargs.at' _ _ _ h1 h2).of_con) hbk hpp hbw hfr).mono ?_
  rintro ex w' ⟨rfl,p',v',hnew,hkeep,hsz,hsame,hgs⟩
  generalize hob2:(bif dead then Ob.dead else Ob.bld T e bs')=ob2
  have hg:∀q,hget ((id,ob2)::hp) q=if id=q then ob2 else hget hp q:=fun q=>hget_put _ _ _ _
  have hlive:∀q,hget ((id,ob2)::hp) q≠.dead->hget hp q≠.dead:=fun q hq=>by
   rw[hg] at hq
   split at hq
   ·rename_i hh;subst hh;exact hlid
   ·exact hq
  have hmn:∀x,w.heap.size<=x->m x=none:=fun x hx=>by
   cases hmx:m x with
   |none=>rfl
   |some o=>have:=lt_of_some (himm x o hmx);omega
  have hllt:∀q b c,hget hp q≠.dead->β q=some (some (b,c))->b<w.heap.size:=fun q b c hq hb'=>by
   exact live_lt hq hb' (hown q)
  have hkp:∀k,k<w.heap.size->k≠b->¬β.hid id k->w'.heap[k]? = w.heap[k]?:=fun k h1 h2 h3=>hkeep k h1 h2 fun h=>h3 (hgB k h)
  let β':Locs:=⟨β.f,fun i x=>if i=id then v'.ownBlock=some x else β.hid i x⟩
  have hhi:∀i x,i≠id->(β'.hid i x<->β.hid i x):=fun i x h=>by simp[β',h]
  have hhid':∀x,β'.hid id x<->v'.ownBlock=some x:=fun x=>by simp[β']
  refine⟨rv,m,β',rfl,hd _ _,Mem.le_refl _,?_,?_,hsz,hsame,?_,?_,?_,?_,hnx,fun q hq=>⟨hq,rfl⟩⟩
  ·intro x o hx
   have hx1:=himm x o hx
   rw[hkp x (lt_of_some hx1) (fun e=>by rw[e,hpriv id b cap hlid hb] at hx;cases hx) (fun h=>by rw[(hhid id x hlid h).2.1] at hx;cases hx)]
   exact hx1
  ·intro x hx hF
   exact⟨rfl,hkp x hx (fun e=>(hF id hlid).1 cap (by rw[e];exact hb)) (hF id hlid).2⟩
  ·intro q
   rw[hg]
   split
   ·rename_i hh
    subst hh
    cases dead with
    |true=>simp at hob2;subst hob2;exact ObOk.dead' _
    |false=>
     simp at hob2;subst hob2
     obtain⟨n1,n2,n3⟩:=hnew rfl
     show ObOk m β' w' (β'.hid id) (β id) _
     rw[hb]
     refine⟨hoff,hTe,p',v',(by simp),n1,n2,n3.imp (fun x=>x) ?_⟩
     rintro⟨g,c,cur,a1,a2,a3,a4⟩
     exact⟨g,c,cur,a1,(hhid' g).2 (by rw[a1];rfl),a2,a3,a4⟩
   ·rename_i hh
    have hBq:β'.hid q=β.hid q:=by funext x;exact propext (hhi q x (Ne.symm hh))
    rw[hBq]
    by_cases hqd:hget hp q=.dead
    ·rw[hqd];exact ObOk.dead' _
    refine ObOk.mono (m:=m) (β:=β) (β':=β') (w:=w') (Mem.le_refl _) (fun _ _ h=>h) (fun _ _ h=>h) (fun _ _=>rfl) (ObOk.congr (w:=w) ?_ ?_ (hown q))
    ·intro b1 c1 hb1
     exact hkp b1 (hllt q b1 c1 hqd hb1) (fun e=>hh (hinj _ _ _ _ _ hlid hqd hb (by rw[<-e];exact hb1))) (fun h=>(hhid id b1 hlid h).2.2.1 q b1 c1 hqd hb1 rfl)
    ·intro x hx
     have hx':=hhid q x hqd hx
     exact hkp x hx'.1 (hx'.2.2.1 id b cap hlid hb) (fun h=>hh (hx'.2.2.2 id hlid h))
  ·intro q b1 c1 hq hb1
   have hq:=hlive q hq
   exact⟨hpriv q b1 c1 hq hb1,fun _ hF=>(hF q hq).1 c1 hb1⟩
  ·intro q q' b1 c1 c1' hq hq'
   exact hinj q q' b1 c1 c1' (hlive q hq) (hlive q' hq')
  ·intro q x hq hx
   by_cases hqi:q=id
   ·subst hqi
    have hx1:=(hhid' x).1 hx
    rw[hg,if_pos rfl] at hq
    have hdf:dead=false:=by
     cases dead with
     |true=>simp at hob2;exact absurd hob2.symm hq
     |false=>rfl
    obtain⟨n1,n2,n3⟩:=hnew hdf
    have hxs:x<w'.heap.size:=by
     rcases n3 with ⟨rfl,_⟩|⟨g,c,cur,rfl,_,a3,_⟩
     ·simp[Value.ownBlock] at hx1
     ·simp[Value.ownBlock] at hx1;subst hx1;exact lt_of_some a3
    rcases hgs x hx1 with h|h
    ·have hxq:=hhid q x hlid (hgB x h)
     refine⟨hxs,hxq.2.1,fun _ hF=>(hF q hlid).2 (hgB x h),fun i b1 c1 hi=>hxq.2.2.1 i b1 c1 (hlive i hi),fun i hi hix=>?_⟩
     by_cases hii:i=q
     ·exact hii
     ·exact hxq.2.2.2 i (hlive i hi) ((hhi i x hii).1 hix)
    ·refine⟨hxs,hmn x h,fun h'=>by omega,fun i b1 c1 hi hb1 e=>?_,fun i hi hix=>?_⟩
     ·have:=hllt i b1 c1 (hlive i hi) hb1;omega
     ·by_cases hii:i=q
      ·exact hii
      ·have:=(hhid i x (hlive i hi) ((hhi i x hii).1 hix)).1;omega
   ·have hx1:=(hhi q x hqi).1 hx
    have hq1:=hlive q hq
    have hxq:=hhid q x hq1 hx1
    refine⟨by omega,hxq.2.1,fun _ hF=>(hF q hq1).2 hx1,fun i b1 c1 hi=>hxq.2.2.1 i b1 c1 (hlive i hi),fun i hi hix=>?_⟩
    by_cases hii:i=id
    ·subst hii
     rcases hgs x ((hhid' x).1 hix) with h|h
     ·exact hxq.2.2.2 i hlid (hgB x h)
     ·omega
    ·exact hxq.2.2.2 i (hlive i hi) ((hhi i x hii).1 hix)
theorem mut_bldW{gl:Gl}(L:Lays.n166 P ρ)(X:Builder.Extra P ρ){id k:Nat}{hp:Heap}{bs s:List UInt8}(ho:hget hp id=.bld (ρ.t 72) (ρ.t 5) bs)(hl:bs.length+s.length<=140737488355328):
  MutG gl P (ρ.f 166) [.ptr id 2 0 0,.con (.string ⟨s.toArray⟩)] k hp (.tup [.con (.int .i64 s.length),.con .nilIface]) k ((id,.bld (ρ.t 72) (ρ.t 5) (bs++s))::hp):=by
 refine mut_bld (bs':=bs++s) (rv:=.tuple #[.int .i64 s.length,.nilIface]) false X.neB5 ho rfl (fun b p v w vs h1 h2 h3 h4 h5 h6 _=>?_) (fun m β=>.imm (.tup rfl ?_)) (fun i x hx=>?_)
 ·obtain⟨x,y,rfl⟩:=two_of' (vs:=vs) h1
  have hx:x=.pointer (some ⟨b,0,none⟩):=by simpa using h2
  have hy:=h3 0 (.string ⟨s.toArray⟩) y rfl rfl
  subst hx hy
  refine(bld_write L X b p v bs s w h4 h5 h6 hl).mono ?_
  rintro e w' ⟨rfl,v',q1,q2,q3,q4,q5,q6⟩
  exact⟨rfl,_,v',fun _=>⟨q1,.inr rfl,q2⟩,q3,q4,q5,q6⟩
 ·intro i c v hc hv
  match i with
  |0=>simp at hc hv;subst hc hv;exact .con _
  |1=>simp at hc hv;subst hc hv;exact .con _
  |i+2=>simp at hc
 ·match i with
  |0=>simp at hx;exact⟨_,hx.symm⟩
  |i+1=>simp at hx
theorem mut_bldL{gl:Gl}(L:Lays.n170 P ρ)(hTe:ρ.t 72≠ρ.t 5){id k:Nat}{hp:Heap}{bs:List UInt8}(ho:hget hp id=.bld (ρ.t 72) (ρ.t 5) bs):
  MutG gl P (ρ.f 170) [.ptr id 2 0 0] k hp (.con (.int .i64 bs.length)) k ((id,.bld (ρ.t 72) (ρ.t 5) bs)::hp):=by
 refine mut_bld (bs':=bs) (rv:=.int .i64 bs.length) false hTe ho rfl (fun b p v w vs h1 h2 h3 h4 h5 h6 _=>?_) (fun m β=>.imm (.con _)) (fun i x hx=>by simp at hx)
 obtain⟨x,rfl⟩:=one_of (vs:=vs) h1
 have hx:x=.pointer (some ⟨b,0,none⟩):=by simpa using h2
 subst hx
 have hB:Lib.BuilderAt (ρ.t 72) (ρ.t 5) 0 b p (bs.map fun x=>Value.int .u8 (x.toNat:Int)) w:=by
  refine⟨Nat.zero_le _,v,h4,⟨by simp,?_⟩,?_⟩
  ·rcases h6 with ⟨rfl,rfl⟩|⟨g,c,cur,rfl,a2,a3,a4,a5,a6,a7,a8⟩
   ·exact .inl ⟨rfl,rfl⟩
   ·refine .inr ⟨g,c,cur,by simp,Nat.zero_le _,a3,by simpa using a5,a6,by simpa using a4,?_⟩
    apply List.ext_getElem?
    intro i
    rw[List.getElem?_take,List.getElem?_map]
    split
    ·rename_i hi
     have hi':i<bs.length:=by simpa using hi
     rw[List.getElem?_eq_getElem hi',Array.getElem?_toList,a8 i _ (List.getElem?_eq_getElem hi')];rfl
    ·rename_i hi
     rw[List.getElem?_eq_none (by simpa using hi)];rfl
  ·rcases h6 with ⟨rfl,rfl⟩|⟨g,c,cur,rfl,a2,_⟩
   ·simp[Value.ownBlock]
   ·simpa[Value.ownBlock] using a2
 refine(Any.Builder_Len L 0 b _ w (by rcases h5 with rfl|rfl;exact .inl hB;exact .inr hB)).mono ?_
 rintro e w' ⟨rfl,rfl⟩
 exact⟨by simp,p,v,fun _=>⟨h4,h5,h6⟩,fun _ _ _ _=>rfl,Nat.le_refl _,⟨rfl,rfl,rfl,Nat.le_refl _⟩,fun g hg=>.inl hg⟩
theorem mut_bldS{gl:Gl}(L:Lays.n169 P ρ)(X:Builder.Extra P ρ){id k:Nat}{hp:Heap}{bs:List UInt8}(ho:hget hp id=.bld (ρ.t 72) (ρ.t 5) bs):
  MutG gl P (ρ.f 169) [.ptr id 2 0 0] k hp (.con (.string ⟨bs.toArray⟩)) k ((id,.dead)::hp):=by
 refine mut_bld (bs':=bs) (rv:=.string ⟨bs.toArray⟩) true X.neB5 ho rfl (fun b p v w vs h1 h2 h3 h4 h5 h6 _=>?_) (fun m β=>.imm (.con _)) (fun i x hx=>by simp at hx)
 obtain⟨x,rfl⟩:=one_of (vs:=vs) h1
 have hx:x=.pointer (some ⟨b,0,none⟩):=by simpa using h2
 subst hx
 refine(bld_string L X b p v bs w h4 h6).mono ?_
 rintro e w' ⟨rfl,q1,q2,q3⟩
 exact⟨rfl,p,v,fun h=>(by cases h),fun k _ _ hk=>q1 k hk,by omega,q3,fun g hg=>.inl hg⟩
end
section
variable{K:Ctx}{Q:Post}{S:St}
variable{m:Mem}{β:Locs}{w:World}{a:Act}
variable{ops:Array Oper}{rest:List Oper}{ty:TypeId}{pos:String}{after:Array Edge}{g:Option (Nat×Bool)}
theorem aops_allocBld{d:Nat}{T:TypeId}(e:Nat)(hTe:Nat.beq T e=false)(hz:zeroCells K.P T=some [.pointer none,.slice none 0 0])(hw:Wants ops S ⟨some d,.alloc T,ty,pos,after,g⟩ true)
  (hN:Nat.blt d K.N=true)
  (kk:AOps K ops rest Q ⟨(d,.ptr S.nx 2 0 0)::S.env,(S.nx,.bld T e [])::S.hp,S.nx+1⟩):
  AOps K ops (⟨some d,.alloc T,ty,pos,after,g⟩::rest) Q S:=by
 refine aops_runs hw (fun m β w a r=>?_) kk
 obtain⟨z,hz1,hz2⟩:=zero_run hz w
 obtain⟨β',hle,hn,r'⟩:=r.alloc (.cells z.cells T) (.bld T e []) ⟨1,0⟩ _ rfl (fun β' hle=>by
  refine⟨rfl,fun h=>by rw[h] at hTe;simp at hTe,.pointer none,.slice none 0 0,(by simp),?_,.inl rfl,.inl ⟨rfl,rfl⟩⟩
  simp only[Array.getElem?_push,if_true,hz2])
 refine⟨.pointer (some ⟨w.heap.size,0,none⟩),{ w with heap:=w.heap.push (.cells z.cells T) },m,β',.inl ?_,?_⟩
 rotate_left
 ·exact Rel.put r' hN (by have:=VRel.ptr (m:=m) (k:=2) (i:=0) (off:=0) hn;simpa using this)
 ·simp only[execOp,Instr.alloc]
  simp only[Sem.run_bind,hz1,Result.andThen_ok]
  rfl
theorem aops_allocFresh{d:Nat}{T:TypeId}(e:Nat)(hTe:Nat.beq T e=false)(hz:zeroCells K.P T=some [.pointer none,.slice none 0 0])(hw:Wants ops S ⟨some d,.alloc T,ty,pos,after,g⟩ true)
  (hN:Nat.blt d K.N=true)
  (kk:AOps K ops rest Q ⟨(d,.ptr S.nx 2 0 0)::S.env,(S.nx,.bld T e [] true)::S.hp,S.nx+1⟩):
  AOps K ops (⟨some d,.alloc T,ty,pos,after,g⟩::rest) Q S:=by
 refine aops_runs hw (fun m β w a r=>?_) kk
 obtain⟨z,hz1,hz2⟩:=zero_run hz w
 obtain⟨β',hle,hn,r'⟩:=r.alloc (.cells z.cells T) (.bld T e [] true) ⟨1,0⟩ _ rfl (fun β' hle=>by
  refine⟨rfl,fun h=>by rw[h] at hTe;simp at hTe,.pointer none,.slice none 0 0,(fun _=>⟨rfl,rfl⟩),?_,.inl rfl,.inl ⟨rfl,rfl⟩⟩
  simp only[Array.getElem?_push,if_true,hz2])
 refine⟨.pointer (some ⟨w.heap.size,0,none⟩),{ w with heap:=w.heap.push (.cells z.cells T) },m,β',.inl ?_,?_⟩
 rotate_left
 ·exact Rel.put r' hN (by have:=VRel.ptr (m:=m) (k:=2) (i:=0) (off:=0) hn;simpa using this)
 ·simp only[execOp,Instr.alloc]
  simp only[Sem.run_bind,hz1,Result.andThen_ok]
  rfl
theorem aops_appendT_at{d T T' e bytes n n' id nx:Nat}{s x:Operand}{txt:List UInt8}{rows:List (List V)}(idn:Nat)(hid:(Nat.blt idn nx&&Nat.ble K.pins idn)=true)(hnxx:S.nx=nx)(hres:hget S.hp idn=.res)(rows':List (List V))(hT:tyEl K.P T e 1 bytes=true)(hT':tyStr K.P T'=true)
  (hpos:Nat.blt 0 bytes=true)
  (hw:Wants ops S ⟨some d,.call ⟨.builtin .append,#[s,x],#[T,T']⟩,ty,pos,after,g⟩ true)
  (hs:evl K S s=.own id n) (ho:hget S.hp id=.arr e 1 rows) (hn:rows.length=n) (hx:evl K S x=.con (.string ⟨txt.toArray⟩))
  (hr:rows++(txt.map fun c=>[V.con (.int .u8 (c.toNat:Int))])=rows') (hn':rows'.length=n') (hb:n'*bytes<=140737488355328) (hN:Nat.blt d K.N=true)
  (kk:AOps K ops rest Q ⟨(d,.own idn n')::S.env,(idn,.arr e 1 rows')::(id,.dead)::S.hp,S.nx⟩):
  AOps K ops (⟨some d,.call ⟨.builtin .append,#[s,x],#[T,T']⟩,ty,pos,after,g⟩::rest) Q S:=
 aops_appendG idn S.nx (fun _ _ _ _ r=>⟨r.free hres,fun q hq=>by have:=Nat.le_of_ble_eq_true (Bool.and_eq_true_iff.1 hid).2;omega⟩) (by rw[hnxx];exact Nat.le_of_ble_eq_true (Bool.and_eq_true_iff.1 hid).1) (Nat.le_refl _) _ rows' hT (by unfold tyStr at hT';unfold tySS;split at hT'<;>simp_all) hpos rfl hw hs ho hn hx (.str rfl rfl) hr hn' (.inl hb) hN kk
end
theorem hU{σ:List Nat}{hp T:Heap}{id t e:Nat}{l:List UInt8}(hn:Nat.blt id σ.length=true)(h:hget hp (sg σ id)=.bld t e l)(r:HS σ hp T):HS σ hp ((id,.bld t e l)::T):=
 .cons hn (by rw[h];exact ObSub.bld) r
section
variable{P:Program}{ρ:Go.Shelf.Ren}
def Grown(T e:TypeId)(b:Nat)(w w':World):Prop:=
 ∃v',w'.heap[b]? = some (.cells #[.pointer (some ⟨b,0,none⟩),v'] T (0,0))/\BufAt e b v' [] w'/\(∀k,k<w.heap.size->k≠b->w'.heap[k]? = w.heap[k]?)/\w.heap.size<=w'.heap.size/\Same w w'/\∀g,v'.ownBlock=some g->w.heap.size<=g
theorem grown_of{T e:TypeId}{b:Nat}{w:World}{cs:Array Value}(hbk:w.heap[b]? = some (.cells #[.pointer (some ⟨b,0,none⟩),.slice none 0 0] T (0,0)))(h0:cs.size≠0)(hm:cs.size<=maxLen):
  Grown T e b w ((w.alloc (.cells cs e)).setCell ⟨b,1,none⟩ (.slice (some ⟨w.heap.size,0,none⟩) 0 cs.size)).drew.drew.drew:=by
 have hlt:b<w.heap.size:=lt_of_some hbk
 have hb2:(w.alloc (.cells cs e)).heap[b]? = some (.cells #[.pointer (some ⟨b,0,none⟩),.slice none 0 0] T (0,0)):=(_root_.Go.heap_alloc_old w _ hlt).trans hbk
 refine⟨.slice (some ⟨w.heap.size,0,none⟩) 0 cs.size,?_,.inr ⟨w.heap.size,cs.size,cs,rfl,Nat.ne_of_gt hlt,?_,rfl,Nat.zero_le _,hm,h0,by simp⟩,?_,?_,⟨rfl,rfl,rfl,?_⟩,?_⟩
 ·show((w.alloc (.cells cs e)).setCell ⟨b,1,none⟩ _).heap[b]? = _
  simp[World.setCell,Array.getElem?_modify,hb2]
 ·show((w.alloc (.cells cs e)).setCell ⟨b,1,none⟩ _).heap[w.heap.size]? = _
  rw[Below.heap_setCell _ _ _ _ (Nat.ne_of_gt hlt)]
  exact _root_.Go.heap_alloc_new w _
 ·intro k hk hkb
  show((w.alloc (.cells cs e)).setCell ⟨b,1,none⟩ _).heap[k]? = _
  rw[Below.heap_setCell _ _ _ _ hkb]
  exact _root_.Go.heap_alloc_old w _ hk
 ·show w.heap.size<=((w.alloc (.cells cs e)).setCell ⟨b,1,none⟩ _).heap.size
  simp[World.setCell]
 ·exact Nat.le_add_right w.drawn 3
 ·intro g hg
  simp[Value.ownBlock] at hg
  omega
theorem grown_of2{T e:TypeId}{b:Nat}{w:World}{cs:Array Value}(hbk:w.heap[b]? = some (.cells #[.pointer (some ⟨b,0,none⟩),.slice none 0 0] T (0,0)))(h0:cs.size≠0)(hm:cs.size<=maxLen):
  Grown T e b w ((w.setCell ⟨b,1,none⟩ (.slice (some ⟨w.heap.size,0,none⟩) 0 cs.size)).alloc (.cells cs e)).drew.drew.drew:=by
 have hlt:b<w.heap.size:=lt_of_some hbk
 have hsz:(w.setCell ⟨b,1,none⟩ (.slice (some ⟨w.heap.size,0,none⟩) 0 cs.size)).heap.size=w.heap.size:=by simp[World.setCell]
 refine⟨.slice (some ⟨w.heap.size,0,none⟩) 0 cs.size,?_,.inr ⟨w.heap.size,cs.size,cs,rfl,Nat.ne_of_gt hlt,?_,rfl,Nat.zero_le _,hm,h0,by simp⟩,?_,?_,⟨rfl,rfl,rfl,?_⟩,?_⟩
 ·show((w.setCell ⟨b,1,none⟩ _).alloc (.cells cs e)).heap[b]? = _
  rw[_root_.Go.heap_alloc_old _ _ (by rw[hsz];exact hlt)]
  simp[World.setCell,Array.getElem?_modify,hbk]
 ·show((w.setCell ⟨b,1,none⟩ _).alloc (.cells cs e)).heap[w.heap.size]? = _
  have:=_root_.Go.heap_alloc_new (w.setCell ⟨b,1,none⟩ (.slice (some ⟨w.heap.size,0,none⟩) 0 cs.size)) (.cells cs e)
  rw[hsz] at this
  exact this
 ·intro k hk hkb
  show((w.setCell ⟨b,1,none⟩ _).alloc (.cells cs e)).heap[k]? = _
  rw[_root_.Go.heap_alloc_old _ _ (by rw[hsz];exact hk),Below.heap_setCell _ _ _ _ hkb]
 ·show w.heap.size<=((w.setCell ⟨b,1,none⟩ _).alloc (.cells cs e)).heap.size
  simp[World.setCell]
 ·exact Nat.le_add_right w.drawn 3
 ·intro g hg
  simp[Value.ownBlock] at hg
  omega
set_option maxHeartbeats 2000000 in
set_option maxRecDepth 1000000 in
theorem bld_room(L:Lays.n241 P ρ)(X:Builder.Extra P ρ)(b n:Nat)(w:World)(hbk:w.heap[b]? = some (.cells #[.pointer (some ⟨b,0,none⟩),.slice none 0 0] (ρ.t 72) (0,0)))(hn:n<=281474976710656)(h1:1<=n):
  Calls P (ρ.f 241) #[.pointer (some ⟨b,0,none⟩),.int .i64 n] w fun e w'=>e=.returned (.tuple #[])/\Grown (ρ.t 72) (ρ.t 5) b w w':=by
 have hlt:b<w.heap.size:=lt_of_some hbk
 obtain⟨cs,hrun,hle,hmax⟩:=Lib.run_makeNoZero (P:=P) w.drew #[(ρ.t 3)] (ρ.t 37) (ρ.t 5) L.t37 n hn
 have hw:IntKind.i64.wrap (IntKind.i64.wrap 0+(n:Int))=n:=by
  rw[IntKind.wrap_i64,IntKind.wrap_i64];omega
 have hcall:(callFunc (ρ.f 277) #[.int .i64 (IntKind.i64.wrap (IntKind.i64.wrap 0+(n:Int)))]).run P w.drew=.ok (.value (.slice (some ⟨w.drew.heap.size,0,none⟩) n cs.size)) (w.drew.drew.drew.alloc (.cells cs (ρ.t 5))):=by
  rw[hw,run_callFunc_extern L.f277 (by kernel_rfl) (by kernel_rfl) (by kernel_rfl) (e:=Extern.BytealgMakeNoZero.makeNoZero #[(ρ.t 3)] #[(ρ.t 37)]) (by kernel_rfl),hrun]
  rfl
 have hnew:(w.alloc (.cells cs (ρ.t 5))).heap[b]? = some (.cells #[.pointer (some ⟨b,0,none⟩),.slice none 0 0] (ρ.t 72) (0,0)):=(_root_.Go.heap_alloc_old w _ hlt).trans hbk
 have c1:w.drew.cell? ⟨b,1,none⟩=some (.slice none 0 0):=by
  have:w.drew.heap[b]? = _:=hbk
  rw[Lib.cell_of_heap this];rfl
 have c2:(w.alloc (.cells cs (ρ.t 5))).cell? ⟨b,1,none⟩=some (.slice none 0 0):=by rw[Lib.cell_of_heap hnew];rfl
 have f2:(w.alloc (.cells cs (ρ.t 5))).frozen? ⟨b,1,none⟩=false:=Lib.frozen_of_heap hnew 1
 have hcopy:∀W:World,(Builtin.copy_ #[(ρ.t 37),(ρ.t 37)] (ρ.t 3) #[.slice (some ⟨w.heap.size,0,none⟩) 0 cs.size,.slice none 0 0]).run P W=.ok (goInt 0) W:=
  fun W=>run_copy_none W (ρ.t 37) (ρ.t 37) (ρ.t 3) (ρ.t 5) _ _ 0 cs.size 0 0 L.t37 X.sizeByte rfl
 clear hw
 have mixed:=L.mixed
 have t72:=L.t72;have a72:=L.a72;have z72:=L.z72;have v72:=L.v72;have u72:=run_underlying L.t72
 have t70:=L.t70;have a70:=L.a70;have z70:=L.z70;have v70:=L.v70;have u70:=run_underlying L.t70
 have t37:=L.t37;have a37:=L.a37;have z37:=L.z37;have v37:=L.v37;have u37:=run_underlying L.t37
 have t3:=L.t3;have a3:=L.a3;have z3:=L.z3;have v3:=L.v3;have u3:=run_underlying L.t3
 have t5:=X.t5;have a5:=X.a5;have z5:=X.z5;have v5:=X.v5;have u5:=run_underlying X.t5
 go_enter L.f241,Body.n241_ntmps ρ
 go_wp2
 have hfin:=grown_of (T:=ρ.t 72) (e:=ρ.t 5) (cs:=cs) hbk (by omega) (hmax (by unfold maxLen;omega))
 have hfin2:=grown_of2 (T:=ρ.t 72) (e:=ρ.t 5) (cs:=cs) hbk (by omega) (hmax (by unfold maxLen;omega))
 go_region_o
 all_goals (go_wp2;go_end0;exact⟨rfl,by first|exact hfin2|exact hfin⟩)
end
section
variable{P:Program}{ρ:Go.Shelf.Ren}
set_option maxHeartbeats 2000000 in
set_option maxRecDepth 1000000 in
theorem bld_grow(L:Lays.n165 P ρ)(X:Builder.Extra P ρ)(b n:Nat)(w:World)(hbk:w.heap[b]? = some (.cells #[.pointer none,.slice none 0 0] (ρ.t 72) (0,0)))(hn:n<=281474976710656):
  Calls P (ρ.f 165) #[.pointer (some ⟨b,0,none⟩),.int .i64 n] w fun e w'=>e=.returned (.tuple #[])/\Grown (ρ.t 72) (ρ.t 5) b w w':=by
 have hlt:b<w.heap.size:=lt_of_some hbk
 have hb1:(w.setCell ⟨b,0,none⟩ (.pointer (some ⟨b,0,none⟩))).heap[b]? = some (.cells #[.pointer (some ⟨b,0,none⟩),.slice none 0 0] (ρ.t 72) (0,0)):=by
  simp[World.setCell,Array.getElem?_modify,hbk]
 have c1:(w.setCell ⟨b,0,none⟩ (.pointer (some ⟨b,0,none⟩))).drew.cell? ⟨b,1,none⟩=some (.slice none 0 0):=by
  have:(w.setCell ⟨b,0,none⟩ (.pointer (some ⟨b,0,none⟩))).drew.heap[b]? = _:=hb1
  rw[Lib.cell_of_heap this];rfl
 have mixed:=L.mixed
 have t72:=L.t72;have a72:=L.a72;have z72:=L.z72;have v72:=L.v72;have u72:=run_underlying L.t72
 have t70:=L.t70;have a70:=L.a70;have z70:=L.z70;have v70:=L.v70;have u70:=run_underlying L.t70
 have t37:=L.t37;have a37:=L.a37;have z37:=L.z37;have v37:=L.v37;have u37:=run_underlying L.t37
 have t3:=L.t3;have a3:=L.a3;have z3:=L.z3;have v3:=L.v3;have u3:=run_underlying L.t3
 have t9:=L.t9;have a9:=L.a9;have z9:=L.z9;have v9:=L.v9;have u9:=run_underlying L.t9
 have t4:=L.t4;have a4:=L.a4;have z4:=L.z4;have v4:=L.v4;have u4:=run_underlying L.t4
 have t164:=L.t164;have a164:=L.a164;have z164:=L.z164;have v164:=L.v164;have u164:=run_underlying L.t164
 have t5:=X.t5;have a5:=X.a5;have z5:=X.z5;have v5:=X.v5;have u5:=run_underlying X.t5
 have e240:∀args w,(callFunc (ρ.f 240) args).run P w=.ok (.enter (ρ.f 240) args) w:=enters_of L.f240 (by kernel_rfl) rfl
 have e241:∀args w,(callFunc (ρ.f 241) args).run P w=.ok (.enter (ρ.f 241) args) w:=enters_of L.f241 (by kernel_rfl) rfl
 -- the world behind copyCheck, and behind it a draw or two
 have hW:∀W W':World,W.heap=(w.setCell ⟨b,0,none⟩ (.pointer (some ⟨b,0,none⟩))).heap->Same w W->Grown (ρ.t 72) (ρ.t 5) b W W'->Grown (ρ.t 72) (ρ.t 5) b w W':=by
  rintro W W' hh hs ⟨v,g1,g2,g3,g4,g5,g6⟩
  have hsz:W.heap.size=w.heap.size:=by rw[hh];simp[World.setCell]
  refine⟨v,g1,g2,fun k hk hkb=>?_,by omega,⟨g5.os.trans hs.os,g5.tape.trans hs.tape,g5.output.trans hs.output,Nat.le_trans hs.drawn g5.drawn⟩,fun g hg=>by have:=g6 g hg;omega⟩
  rw[g3 k (by omega) hkb,hh,Below.heap_setCell _ _ _ _ hkb]
 have hno:∀W:World,W.heap=(w.setCell ⟨b,0,none⟩ (.pointer (some ⟨b,0,none⟩))).heap->Same w W->Grown (ρ.t 72) (ρ.t 5) b w W:=by
  intro W hh hs
  refine⟨.slice none 0 0,by rw[hh];exact hb1,.inl ⟨rfl,rfl⟩,fun k hk hkb=>?_,by rw[hh];simp[World.setCell],hs,fun g hg=>by simp[Value.ownBlock] at hg⟩
  rw[hh,Below.heap_setCell _ _ _ _ hkb]
 go_enter L.f165,Body.n165_ntmps ρ
 go_wp2_with (go_at_fn (ρ.f 240);refine(Any.Builder_copyCheck_fresh { L with } X.toX72 b w (by rw[Lib.cell_of_heap hbk];rfl) (by simp[World.shape?,hbk]) (Lib.frozen_of_heap hbk 0)).mono ?_;rintro e w' ⟨rfl,rfl⟩)
 by_cases h1:1<=n
 ·go_region_o
  all_goals go_wp2_with (go_at_fn (ρ.f 241);refine(bld_room { L with } X b n (w.setCell ⟨b,0,none⟩ (.pointer (some ⟨b,0,none⟩))).drew hb1 hn h1).mono ?_;rintro e w' ⟨rfl,hg⟩)
  all_goals first
   |(go_end0;exact⟨rfl,hW (w.setCell ⟨b,0,none⟩ (.pointer (some ⟨b,0,none⟩))).drew _ rfl ⟨rfl,rfl,rfl,Nat.le_succ w.drawn⟩ hg⟩)
   |(exfalso;simp_all;omega)
   |(go_end0;exact⟨rfl,hno _ rfl ⟨rfl,rfl,rfl,Nat.le_add_right _ _⟩⟩)
 ·have h0:n=0:=by omega
  subst h0
  go_region_o
  all_goals go_wp2
  all_goals (go_end0;exact⟨rfl,hno _ rfl ⟨rfl,rfl,rfl,Nat.le_add_right _ _⟩⟩)
end
section
variable{P:Program}{ρ:Go.Shelf.Ren}
theorem mut_bldG{gl:Gl}(L:Lays.n165 P ρ)(X:Builder.Extra P ρ){id k:Nat}{hp:Heap}{n:Int}(ho:hget hp id=.bld (ρ.t 72) (ρ.t 5) [] true)(hn:0<=n/\n<=281474976710656):
  MutG gl P (ρ.f 165) [.ptr id 2 0 0,.con (.int .i64 n)] k hp (.tup []) k ((id,.bld (ρ.t 72) (ρ.t 5) [])::hp):=by
 refine mut_bld (bs':=[]) (rv:=.tuple #[]) false X.neB5 ho rfl (fun b p v w vs h1 h2 h3 h4 h5 h6 h7=>?_) (fun m β=>.imm (.tup rfl (fun i c v hc hv=>by simp at hc))) (fun i x hx=>?_)
 ·obtain⟨x,y,rfl⟩:=two_of' (vs:=vs) h1
  have hx:x=.pointer (some ⟨b,0,none⟩):=by simpa using h2
  have hy:=h3 0 (.int .i64 n) y rfl rfl
  subst hx hy
  obtain⟨rfl,rfl⟩:=h7 rfl
  have e:n=((n.toNat:Nat):Int):=(Int.toNat_of_nonneg hn.1).symm
  rw[e]
  refine(bld_grow L X b n.toNat w h4 (by omega)).mono ?_
  rintro e w' ⟨rfl,v',q1,q2,q3,q4,q5,q6⟩
  exact⟨rfl,_,v',fun _=>⟨q1,.inr rfl,q2⟩,fun k a b _=>q3 k a b,q4,q5,fun g hg=>.inr (q6 g hg)⟩
 ·match i with
  |0=>simp at hx;exact⟨_,hx.symm⟩
  |i+1=>simp at hx
end
theorem rows_txt(enc:Int->List V)(xs:List Int)(s:List UInt8)(h:∀x,enc x=[V.con (.int .u8 x)]):xs.map enc++(s.map fun c=>[V.con (.int .u8 (c.toNat:Int))])=(xs++s.map fun c=>(c.toNat:Int)).map enc:=by
 rw[List.map_append,List.map_map];congr 1;apply List.map_congr_left;intro x _;exact(h _).symm
end Go.Pv
namespace Go.Proofs.YtjofofmllnpkpaaGreatDoor
open Go Go.Pv
set_option linter.unusedVariables false
set_option maxRecDepth 100000
variable{mx:Int}
theorem mixed:Tryz.prog.follows .mixedOrders=true:=by kernel_rfl
structure TIface where
 Name:(List UInt8)
 Methods:(List (List UInt8))
 deriving DecidableEq
structure TMethod where
 Name:(List UInt8)
 Func:(List UInt8)
 deriving DecidableEq
structure TType where
 Name:(List UInt8)
 Methods:(List TMethod)
 deriving DecidableEq
structure TCall where
 Kind:Int
 Target:(List UInt8)
 Method:(List UInt8)
 Feature:(List UInt8)
 deriving DecidableEq
structure TFunc where
 Name:(List UInt8)
 Component:(List UInt8)
 Calls:(List TCall)
 Makes:(List (List UInt8))
 deriving DecidableEq
structure TGraph where
 Ifaces:(List TIface)
 Types:(List TType)
 Funcs:(List TFunc)
 Entries:(List (List UInt8))
 deriving DecidableEq
structure Treach_checker where
 loose:Bool
 ifaces:(List ((List UInt8)×TIface))
 types:(List ((List UInt8)×Bool))
 funcs:(List ((List UInt8)×Bool))
 deriving DecidableEq
structure Tprovenderref6_names where
 ifaces:(List ((List UInt8)×(List ((List UInt8)×Bool))))
 types:(List ((List UInt8)×Bool))
 funcs:(List ((List UInt8)×Bool))
 deriving DecidableEq
structure Tprovenderref6_checker where
 g:TGraph
 n:Tprovenderref6_names
 loose:Bool
 deriving DecidableEq
def gl(mx:Int):Gl:=[(0,[V.con (.int .i64 mx)])]
def encI_u8(x:Int):List V:=[(V.con (.int .u8 x))]
theorem imms_encI_u8(x:Int):Imms (encI_u8 x):=(.cons (Imm.con _) .nil)
theorem one_encI_u8(x:Int):(encI_u8 x).all oneV=true:=rfl
instance:EI encI_u8:=⟨imms_encI_u8,one_encI_u8⟩
def encS(x:(List UInt8)):List V:=[(sV x)]
theorem imms_encS(x:(List UInt8)):Imms (encS x):=(.cons (Imm.con _) .nil)
theorem one_encS(x:(List UInt8)):(encS x).all oneV=true:=rfl
instance:EI encS:=⟨imms_encS,one_encS⟩
def encTIface(x:TIface):List V:=[(sV x.Name),(V.lst 1 (x.Methods.map encS))]
theorem imms_encTIface(x:TIface):Imms (encTIface x):=(.cons (Imm.con _) (.cons (Imm.lst _ _) .nil))
theorem one_encTIface(x:TIface):(encTIface x).all oneV=true:=rfl
instance:EI encTIface:=⟨imms_encTIface,one_encTIface⟩
@[simp] theorem len_encTIface(x:TIface):(encTIface x).length=2:=rfl
def encTMethod(x:TMethod):List V:=[(sV x.Name),(sV x.Func)]
theorem imms_encTMethod(x:TMethod):Imms (encTMethod x):=(.cons (Imm.con _) (.cons (Imm.con _) .nil))
theorem one_encTMethod(x:TMethod):(encTMethod x).all oneV=true:=rfl
instance:EI encTMethod:=⟨imms_encTMethod,one_encTMethod⟩
@[simp] theorem len_encTMethod(x:TMethod):(encTMethod x).length=2:=rfl
def encTType(x:TType):List V:=[(sV x.Name),(V.lst 2 (x.Methods.map encTMethod))]
theorem imms_encTType(x:TType):Imms (encTType x):=(.cons (Imm.con _) (.cons (Imm.lst _ _) .nil))
theorem one_encTType(x:TType):(encTType x).all oneV=true:=rfl
instance:EI encTType:=⟨imms_encTType,one_encTType⟩
@[simp] theorem len_encTType(x:TType):(encTType x).length=2:=rfl
def encTCall(x:TCall):List V:=[(iV x.Kind),(sV x.Target),(sV x.Method),(sV x.Feature)]
theorem imms_encTCall(x:TCall):Imms (encTCall x):=(.cons (Imm.con _) (.cons (Imm.con _) (.cons (Imm.con _) (.cons (Imm.con _) .nil))))
theorem one_encTCall(x:TCall):(encTCall x).all oneV=true:=rfl
instance:EI encTCall:=⟨imms_encTCall,one_encTCall⟩
@[simp] theorem len_encTCall(x:TCall):(encTCall x).length=4:=rfl
def encTFunc(x:TFunc):List V:=[(sV x.Name),(sV x.Component),(V.lst 4 (x.Calls.map encTCall)),(V.lst 1 (x.Makes.map encS))]
theorem imms_encTFunc(x:TFunc):Imms (encTFunc x):=(.cons (Imm.con _) (.cons (Imm.con _) (.cons (Imm.lst _ _) (.cons (Imm.lst _ _) .nil))))
theorem one_encTFunc(x:TFunc):(encTFunc x).all oneV=true:=rfl
instance:EI encTFunc:=⟨imms_encTFunc,one_encTFunc⟩
@[simp] theorem len_encTFunc(x:TFunc):(encTFunc x).length=4:=rfl
def encTGraph(x:TGraph):List V:=[(V.lst 2 (x.Ifaces.map encTIface)),(V.lst 2 (x.Types.map encTType)),(V.lst 4 (x.Funcs.map encTFunc)),(V.lst 1 (x.Entries.map encS))]
theorem imms_encTGraph(x:TGraph):Imms (encTGraph x):=(.cons (Imm.lst _ _) (.cons (Imm.lst _ _) (.cons (Imm.lst _ _) (.cons (Imm.lst _ _) .nil))))
theorem one_encTGraph(x:TGraph):(encTGraph x).all oneV=true:=rfl
instance:EI encTGraph:=⟨imms_encTGraph,one_encTGraph⟩
@[simp] theorem len_encTGraph(x:TGraph):(encTGraph x).length=4:=rfl
theorem eqp9{d:Nat}:EqOk Tryz.prog (d+1) 9 1 false (fun l=>∃n,l=[.string n]):=eqOk_str (show Tryz.prog.underlying 9=some (.string) by kernel_rfl) (show tyC Tryz.prog 9=true by kernel_rfl)
def cv64(x:TMethod):List Value:=[str x.Name]++([str x.Func]++[])
theorem inj_cv64(x y:TMethod)(h:cv64 x=cv64 y):x=y:=by
 obtain⟨h0,h⟩:=List.append_inj h rfl
 obtain⟨h1,h⟩:=List.append_inj h rfl
 obtain⟨a0,a1⟩:=x
 obtain⟨b0,b1⟩:=y
 obtain rfl:a0=b0:=inj_str _ _ (List.cons.inj h0).1
 obtain rfl:a1=b1:=inj_str _ _ (List.cons.inj h1).1
 rfl
theorem eqp64 {d:Nat}:EqOk Tryz.prog (d+2) 64 2 true (fun l=>∃x:TMethod,l=cv64 x):=(eqOk_struct (d:=d+1) (fs:=[(Field.mk "Name" 9 0 false "" "" 0),(Field.mk "Func" 9 1 false "" "" 16)]) (by kernel_rfl) (by kernel_rfl) (by kernel_rfl) (by kernel_rfl) (eqF_cons eqp9 (by simp) rfl (by simp) (eqF_cons eqp9 (by simp) rfl (by simp) eqF_nil))).weaken (fun l ⟨x,hx⟩=>by subst hx;exact⟨_,_,rfl,⟨_,rfl⟩,⟨_,_,rfl,⟨_,rfl⟩,rfl⟩⟩)
theorem eqk64:EqOk Tryz.prog 10000 64 2 true (fun l=>∃x:TMethod,l=cv64 x):=eqp64 (d:=9998)
theorem eqp3{d:Nat}:EqOk Tryz.prog (d+1) 3 1 false (fun l=>∃n,l=[.int .i64 n]):=eqOk_int (show Tryz.prog.underlying 3=some (.int .i64) by kernel_rfl) (show tyC Tryz.prog 3=true by kernel_rfl)
def cv74(x:TCall):List Value:=[.int .i64 x.Kind]++([str x.Target]++([str x.Method]++([str x.Feature]++[])))
theorem inj_cv74(x y:TCall)(h:cv74 x=cv74 y):x=y:=by
 obtain⟨h0,h⟩:=List.append_inj h rfl
 obtain⟨h1,h⟩:=List.append_inj h rfl
 obtain⟨h2,h⟩:=List.append_inj h rfl
 obtain⟨h3,h⟩:=List.append_inj h rfl
 obtain⟨a0,a1,a2,a3⟩:=x
 obtain⟨b0,b1,b2,b3⟩:=y
 obtain rfl:a0=b0:=inj_int _ _ (List.cons.inj h0).1
 obtain rfl:a1=b1:=inj_str _ _ (List.cons.inj h1).1
 obtain rfl:a2=b2:=inj_str _ _ (List.cons.inj h2).1
 obtain rfl:a3=b3:=inj_str _ _ (List.cons.inj h3).1
 rfl
theorem eqp74 {d:Nat}:EqOk Tryz.prog (d+2) 74 4 true (fun l=>∃x:TCall,l=cv74 x):=(eqOk_struct (d:=d+1) (fs:=[(Field.mk "Kind" 3 0 false "" "" 0),(Field.mk "Target" 9 1 false "" "" 8),(Field.mk "Method" 9 2 false "" "" 24),(Field.mk "Feature" 9 3 false "" "" 40)]) (by kernel_rfl) (by kernel_rfl) (by kernel_rfl) (by kernel_rfl) (eqF_cons eqp3 (by simp) rfl (by simp) (eqF_cons eqp9 (by simp) rfl (by simp) (eqF_cons eqp9 (by simp) rfl (by simp) (eqF_cons eqp9 (by simp) rfl (by simp) eqF_nil))))).weaken (fun l ⟨x,hx⟩=>by subst hx;exact⟨_,_,rfl,⟨_,rfl⟩,⟨_,_,rfl,⟨_,rfl⟩,⟨_,_,rfl,⟨_,rfl⟩,⟨_,_,rfl,⟨_,rfl⟩,rfl⟩⟩⟩⟩)
theorem eqk74:EqOk Tryz.prog 10000 74 4 true (fun l=>∃x:TCall,l=cv74 x):=eqp74 (d:=9998)
def encM9_56(p:(List UInt8)×TIface):Value×V:=(str p.1,(V.agg [(sV p.2.Name),(V.lst 1 (p.2.Methods.map encS))]))
abbrev encM9_56_val(v:TIface):V:=(V.agg [(sV v.Name),(V.lst 1 (v.Methods.map encS))])
theorem encM9_56_puts(xs:List ((List UInt8)×TIface))(k:(List UInt8))(v:TIface):Puts (str k) (encM9_56_val v) (xs.map encM9_56) ((mput xs k v).map encM9_56):=puts_map (kv:=fun k=>str k) (ev:=encM9_56_val) inj_str xs k v
theorem encM9_56_look(xs:List ((List UInt8)×TIface))(k:(List UInt8)):Look (str k) (xs.map encM9_56) ((mget xs k).map encM9_56_val):=look_map (kv:=fun k=>str k) (ev:=encM9_56_val) inj_str xs k
theorem encM9_56_imm{xs:List ((List UInt8)×TIface)}:∀p,p∈xs.map encM9_56->Imm p.2:=by
 intro p hp
 obtain⟨x,_,rfl⟩:=List.mem_map.1 hp
 exact(Imm.agg (.cons (Imm.con _) (.cons (Imm.lst _ _) .nil)))
instance:EM encM9_56:=⟨fun _=>(Imm.agg (.cons (Imm.con _) (.cons (Imm.lst _ _) .nil)))⟩
theorem encM9_56_good{xs:List ((List UInt8)×TIface)}:∀p,p∈xs.map encM9_56->isStr p.1:=by
 intro p hp
 obtain⟨x,_,rfl⟩:=List.mem_map.1 hp
 exact⟨_,rfl⟩
def encM9_4(p:(List UInt8)×Bool):Value×V:=(str p.1,(bV p.2))
abbrev encM9_4_val(v:Bool):V:=(bV v)
theorem encM9_4_puts(xs:List ((List UInt8)×Bool))(k:(List UInt8))(v:Bool):Puts (str k) (encM9_4_val v) (xs.map encM9_4) ((mput xs k v).map encM9_4):=puts_map (kv:=fun k=>str k) (ev:=encM9_4_val) inj_str xs k v
theorem encM9_4_look(xs:List ((List UInt8)×Bool))(k:(List UInt8)):Look (str k) (xs.map encM9_4) ((mget xs k).map encM9_4_val):=look_map (kv:=fun k=>str k) (ev:=encM9_4_val) inj_str xs k
theorem encM9_4_imm{xs:List ((List UInt8)×Bool)}:∀p,p∈xs.map encM9_4->Imm p.2:=by
 intro p hp
 obtain⟨x,_,rfl⟩:=List.mem_map.1 hp
 exact(Imm.con _)
theorem encM9_4_im(p:(List UInt8)×Bool):Imm (encM9_4 p).2:=(Imm.con _)
instance:EM encM9_4:=⟨fun _=>(Imm.con _)⟩
theorem encM9_4_good{xs:List ((List UInt8)×Bool)}:∀p,p∈xs.map encM9_4->isStr p.1:=by
 intro p hp
 obtain⟨x,_,rfl⟩:=List.mem_map.1 hp
 exact⟨_,rfl⟩
def encTreach_checker(x:Treach_checker):List V:=[(bV x.loose),(V.imap (x.ifaces.map encM9_56)),(V.imap (x.types.map encM9_4)),(V.imap (x.funcs.map encM9_4))]
theorem imms_encTreach_checker(x:Treach_checker):Imms (encTreach_checker x):=(.cons (Imm.con _) (.cons (Imm.imap _) (.cons (Imm.imap _) (.cons (Imm.imap _) .nil))))
theorem one_encTreach_checker(x:Treach_checker):(encTreach_checker x).all oneV=true:=rfl
instance:EI encTreach_checker:=⟨imms_encTreach_checker,one_encTreach_checker⟩
@[simp] theorem len_encTreach_checker(x:Treach_checker):(encTreach_checker x).length=4:=rfl
def encM9_115(p:(List UInt8)×(List ((List UInt8)×Bool))):Value×V:=(str p.1,(V.imap (p.2.map encM9_4)))
abbrev encM9_115_val(v:(List ((List UInt8)×Bool))):V:=(V.imap (v.map encM9_4))
theorem encM9_115_look(xs:List ((List UInt8)×(List ((List UInt8)×Bool))))(k:(List UInt8)):Look (str k) (xs.map encM9_115) ((mget xs k).map encM9_115_val):=look_map (kv:=fun k=>str k) (ev:=encM9_115_val) inj_str xs k
instance:EM encM9_115:=⟨fun _=>(Imm.imap _)⟩
theorem encM9_115_good{xs:List ((List UInt8)×(List ((List UInt8)×Bool)))}:∀p,p∈xs.map encM9_115->isStr p.1:=by
 intro p hp
 obtain⟨x,_,rfl⟩:=List.mem_map.1 hp
 exact⟨_,rfl⟩
def encTprovenderref6_names(x:Tprovenderref6_names):List V:=[(V.imap (x.ifaces.map encM9_115)),(V.imap (x.types.map encM9_4)),(V.imap (x.funcs.map encM9_4))]
theorem imms_encTprovenderref6_names(x:Tprovenderref6_names):Imms (encTprovenderref6_names x):=(.cons (Imm.imap _) (.cons (Imm.imap _) (.cons (Imm.imap _) .nil)))
theorem one_encTprovenderref6_names(x:Tprovenderref6_names):(encTprovenderref6_names x).all oneV=true:=rfl
instance:EI encTprovenderref6_names:=⟨imms_encTprovenderref6_names,one_encTprovenderref6_names⟩
@[simp] theorem len_encTprovenderref6_names(x:Tprovenderref6_names):(encTprovenderref6_names x).length=3:=rfl
def encTprovenderref6_checker(x:Tprovenderref6_checker):List V:=[(V.lst 2 (x.g.Ifaces.map encTIface)),(V.lst 2 (x.g.Types.map encTType)),(V.lst 4 (x.g.Funcs.map encTFunc)),(V.lst 1 (x.g.Entries.map encS)),(V.imap (x.n.ifaces.map encM9_115)),(V.imap (x.n.types.map encM9_4)),(V.imap (x.n.funcs.map encM9_4)),(bV x.loose)]
theorem imms_encTprovenderref6_checker(x:Tprovenderref6_checker):Imms (encTprovenderref6_checker x):=(.cons (Imm.lst _ _) (.cons (Imm.lst _ _) (.cons (Imm.lst _ _) (.cons (Imm.lst _ _) (.cons (Imm.imap _) (.cons (Imm.imap _) (.cons (Imm.imap _) (.cons (Imm.con _) .nil))))))))
theorem one_encTprovenderref6_checker(x:Tprovenderref6_checker):(encTprovenderref6_checker x).all oneV=true:=rfl
instance:EI encTprovenderref6_checker:=⟨imms_encTprovenderref6_checker,one_encTprovenderref6_checker⟩
@[simp] theorem len_encTprovenderref6_checker(x:Tprovenderref6_checker):(encTprovenderref6_checker x).length=8:=rfl
def dencTType(x:TType):List V:=[(sV x.Name),(V.dsl 64 2 (x.Methods.map encTMethod))]
theorem und_dencTType:UndE dencTType encTType:=fun x=>(.cons (und_con _) (.cons (und_dsl _ _ imms_encTMethod _) .nil))
@[simp] theorem len_dencTType(x:TType):(dencTType x).length=2:=rfl
instance:EK dencTType:=⟨fun x c hc=>by
 obtain⟨j,hj⟩:=List.getElem?_of_mem hc
 have hl:=(List.getElem?_eq_some_iff.1 hj).1
 rw[(und_dencTType x).1] at hl
 exact((und_dencTType x).2 j c _ hj (List.getElem?_eq_getElem hl)).2⟩
def dencTFunc(x:TFunc):List V:=[(sV x.Name),(sV x.Component),(V.dsl 74 4 (x.Calls.map encTCall)),(V.dsl 9 1 (x.Makes.map encS))]
theorem und_dencTFunc:UndE dencTFunc encTFunc:=fun x=>(.cons (und_con _) (.cons (und_con _) (.cons (und_dsl _ _ imms_encTCall _) (.cons (und_dsl _ _ imms_encS _) .nil))))
@[simp] theorem len_dencTFunc(x:TFunc):(dencTFunc x).length=4:=rfl
instance:EK dencTFunc:=⟨fun x c hc=>by
 obtain⟨j,hj⟩:=List.getElem?_of_mem hc
 have hl:=(List.getElem?_eq_some_iff.1 hj).1
 rw[(und_dencTFunc x).1] at hl
 exact((und_dencTFunc x).2 j c _ hj (List.getElem?_eq_getElem hl)).2⟩
def encM9_264(p:(List UInt8)×(List ((List UInt8)×Bool))):Value×V:=(str p.1,(V.dmp (p.2.map encM9_4)))
theorem encM9_264_und(p:(List UInt8)×(List ((List UInt8)×Bool))):(encM9_264 p).1=(encM9_115 p).1/\Und (encM9_264 p).2 (encM9_115 p).2/\Keep (encM9_264 p).2:=⟨rfl,und_ents encM9_4_im _,Keep.dmp _⟩
instance:EMK encM9_264:=⟨fun p=>(encM9_264_und p).2.2⟩
theorem encM9_264_good{xs:List ((List UInt8)×(List ((List UInt8)×Bool)))}:∀p,p∈xs.map encM9_264->isStr p.1:=by
 intro p hp
 obtain⟨x,_,rfl⟩:=List.mem_map.1 hp
 exact⟨_,rfl⟩
theorem tS27:tyS Tryz.prog 27 4=true:=by kernel_rfl
theorem tA27:tyA Tryz.prog 27 4=true:=by kernel_rfl
theorem tZ117:zeroCells Tryz.prog 117=some [.bool false,.map none,.map none,.map none]:=by kernel_rfl
theorem tPl117:tyPlaces Tryz.prog 117=some [(0,1),(1,1),(2,1),(3,1)]:=by kernel_rfl
theorem tS117:tyS Tryz.prog 117 4=true:=by kernel_rfl
theorem tF27_0:tyF Tryz.prog 27 0 0=true:=by kernel_rfl
theorem tC22:tyC Tryz.prog 22=true:=by kernel_rfl
theorem tIsSl22:tySlice Tryz.prog 22=true:=by kernel_rfl
theorem tSl22:tySl Tryz.prog 22 2=true:=by kernel_rfl
theorem tA56:tyA Tryz.prog 56 2=true:=by kernel_rfl
theorem tZ56:zeroCells Tryz.prog 56=some [.string ⟨#[]⟩,.slice none 0 0]:=by kernel_rfl
theorem tS56:tyS Tryz.prog 56 2=true:=by kernel_rfl
theorem tF117_1:tyF Tryz.prog 117 1 1=true:=by kernel_rfl
theorem tC114:tyC Tryz.prog 114=true:=by kernel_rfl
theorem tF56_0:tyF Tryz.prog 56 0 0=true:=by kernel_rfl
theorem tC9:tyC Tryz.prog 9=true:=by kernel_rfl
theorem tMap114:tyMap Tryz.prog 114 9 56=true:=by kernel_rfl
theorem tKey9:KeyT Tryz.prog 9 isStr:=keyT_str (by kernel_rfl)
theorem tF27_1:tyF Tryz.prog 27 1 1=true:=by kernel_rfl
theorem tC23:tyC Tryz.prog 23=true:=by kernel_rfl
theorem tIsSl23:tySlice Tryz.prog 23=true:=by kernel_rfl
theorem tSl23:tySl Tryz.prog 23 2=true:=by kernel_rfl
theorem tA61:tyA Tryz.prog 61 2=true:=by kernel_rfl
theorem tZ61:zeroCells Tryz.prog 61=some [.string ⟨#[]⟩,.slice none 0 0]:=by kernel_rfl
theorem tS61:tyS Tryz.prog 61 2=true:=by kernel_rfl
theorem tF117_2:tyF Tryz.prog 117 2 2=true:=by kernel_rfl
theorem tC115:tyC Tryz.prog 115=true:=by kernel_rfl
theorem tF61_0:tyF Tryz.prog 61 0 0=true:=by kernel_rfl
theorem tMap115:tyMap Tryz.prog 115 9 4=true:=by kernel_rfl
theorem tF27_2:tyF Tryz.prog 27 2 2=true:=by kernel_rfl
theorem tC24:tyC Tryz.prog 24=true:=by kernel_rfl
theorem tIsSl24:tySlice Tryz.prog 24=true:=by kernel_rfl
theorem tSl24:tySl Tryz.prog 24 4=true:=by kernel_rfl
theorem tA71:tyA Tryz.prog 71 4=true:=by kernel_rfl
theorem tZ71:zeroCells Tryz.prog 71=some [.string ⟨#[]⟩,.string ⟨#[]⟩,.slice none 0 0,.slice none 0 0]:=by kernel_rfl
theorem tS71:tyS Tryz.prog 71 4=true:=by kernel_rfl
theorem tF117_3:tyF Tryz.prog 117 3 3=true:=by kernel_rfl
theorem tF71_0:tyF Tryz.prog 71 0 0=true:=by kernel_rfl
theorem tA117:tyA Tryz.prog 117 4=true:=by kernel_rfl
theorem fOk60:fnOk Tryz.prog 60=true:=by kernel_rfl
theorem tStr9:tyStr Tryz.prog 9=true:=by kernel_rfl
theorem fOk126:fnOk Tryz.prog 126=true:=by kernel_rfl
theorem fOk125:fnOk Tryz.prog 125=true:=by kernel_rfl
theorem tF56_1:tyF Tryz.prog 56 1 1=true:=by kernel_rfl
theorem tC25:tyC Tryz.prog 25=true:=by kernel_rfl
theorem tIsSl25:tySlice Tryz.prog 25=true:=by kernel_rfl
theorem tSl25:tySl Tryz.prog 25 1=true:=by kernel_rfl
theorem fOk89:fnOk Tryz.prog 89=true:=by kernel_rfl
theorem tF61_1:tyF Tryz.prog 61 1 1=true:=by kernel_rfl
theorem tC59:tyC Tryz.prog 59=true:=by kernel_rfl
theorem tIsSl59:tySlice Tryz.prog 59=true:=by kernel_rfl
theorem tSl59:tySl Tryz.prog 59 2=true:=by kernel_rfl
theorem tA64:tyA Tryz.prog 64 2=true:=by kernel_rfl
theorem tZ64:zeroCells Tryz.prog 64=some [.string ⟨#[]⟩,.string ⟨#[]⟩]:=by kernel_rfl
theorem tS64:tyS Tryz.prog 64 2=true:=by kernel_rfl
theorem tF64_0:tyF Tryz.prog 64 0 0=true:=by kernel_rfl
theorem tF117_0:tyF Tryz.prog 117 0 0=true:=by kernel_rfl
theorem tC4:tyC Tryz.prog 4=true:=by kernel_rfl
theorem tF64_1:tyF Tryz.prog 64 1 1=true:=by kernel_rfl
theorem tZo4:(Tryz.prog.info? 4).bind (·.zero)=some (.bool false):=by kernel_rfl
theorem fOk90:fnOk Tryz.prog 90=true:=by kernel_rfl
theorem tF71_1:tyF Tryz.prog 71 1 1=true:=by kernel_rfl
theorem tF71_2:tyF Tryz.prog 71 2 2=true:=by kernel_rfl
theorem tC69:tyC Tryz.prog 69=true:=by kernel_rfl
theorem tIsSl69:tySlice Tryz.prog 69=true:=by kernel_rfl
theorem tSl69:tySl Tryz.prog 69 4=true:=by kernel_rfl
theorem tA74:tyA Tryz.prog 74 4=true:=by kernel_rfl
theorem tZ74:zeroCells Tryz.prog 74=some [.int .i64 0,.string ⟨#[]⟩,.string ⟨#[]⟩,.string ⟨#[]⟩]:=by kernel_rfl
theorem tS74:tyS Tryz.prog 74 4=true:=by kernel_rfl
theorem tF74_0:tyF Tryz.prog 74 0 0=true:=by kernel_rfl
theorem tC3:tyC Tryz.prog 3=true:=by kernel_rfl
theorem tF74_1:tyF Tryz.prog 74 1 1=true:=by kernel_rfl
theorem tF74_2:tyF Tryz.prog 74 2 2=true:=by kernel_rfl
theorem tZo56:(Tryz.prog.info? 56).bind (·.zero)=some (.agg #[.string ⟨#[]⟩,.slice none 0 0]):=by kernel_rfl
theorem fOk185:fnOk Tryz.prog 185=true:=by kernel_rfl
theorem fOk169:fnOk Tryz.prog 169=true:=by kernel_rfl
theorem tF74_3:tyF Tryz.prog 74 3 3=true:=by kernel_rfl
theorem fOk127:fnOk Tryz.prog 127=true:=by kernel_rfl
theorem tF71_3:tyF Tryz.prog 71 3 3=true:=by kernel_rfl
theorem fOk92:fnOk Tryz.prog 92=true:=by kernel_rfl
theorem fOk91:fnOk Tryz.prog 91=true:=by kernel_rfl
theorem tF27_3:tyF Tryz.prog 27 3 3=true:=by kernel_rfl
theorem fOk61:fnOk Tryz.prog 61=true:=by kernel_rfl
theorem fOk15:fnOk Tryz.prog 15=true:=by kernel_rfl
theorem tZ80:zeroCells Tryz.prog 80=some [.pointer none,.slice none 0 0]:=by kernel_rfl
theorem fOk71:fnOk Tryz.prog 71=true:=by kernel_rfl
theorem fOk32:fnOk Tryz.prog 32=true:=by kernel_rfl
theorem fOk36:fnOk Tryz.prog 36=true:=by kernel_rfl
theorem fOk33:fnOk Tryz.prog 33=true:=by kernel_rfl
theorem fOk34:fnOk Tryz.prog 34=true:=by kernel_rfl
theorem fOk35:fnOk Tryz.prog 35=true:=by kernel_rfl
theorem fOk9:fnOk Tryz.prog 9=true:=by kernel_rfl
theorem tZ124:zeroCells Tryz.prog 124=some [.map none,.map none,.map none]:=by kernel_rfl
theorem tPl124:tyPlaces Tryz.prog 124=some [(0,1),(1,1),(2,1)]:=by kernel_rfl
theorem tS124:tyS Tryz.prog 124 3=true:=by kernel_rfl
theorem tF124_0:tyF Tryz.prog 124 0 0=true:=by kernel_rfl
theorem tC122:tyC Tryz.prog 122=true:=by kernel_rfl
theorem tMap122:tyMap Tryz.prog 122 9 115=true:=by kernel_rfl
theorem tF124_1:tyF Tryz.prog 124 1 1=true:=by kernel_rfl
theorem tF124_2:tyF Tryz.prog 124 2 2=true:=by kernel_rfl
theorem tA124:tyA Tryz.prog 124 3=true:=by kernel_rfl
theorem fOk65:fnOk Tryz.prog 65=true:=by kernel_rfl
theorem tZ127:zeroCells Tryz.prog 127=some [.slice none 0 0,.slice none 0 0,.slice none 0 0,.slice none 0 0,.map none,.map none,.map none,.bool false]:=by kernel_rfl
theorem tPl127:tyPlaces Tryz.prog 127=some [(0,4),(4,3),(7,1)]:=by kernel_rfl
theorem tS127:tyS Tryz.prog 127 8=true:=by kernel_rfl
theorem tF127_0:tyF Tryz.prog 127 0 0=true:=by kernel_rfl
theorem tA127:tyA Tryz.prog 127 8=true:=by kernel_rfl
theorem fOk132:fnOk Tryz.prog 132=true:=by kernel_rfl
theorem fOk98:fnOk Tryz.prog 98=true:=by kernel_rfl
theorem fOk95:fnOk Tryz.prog 95=true:=by kernel_rfl
theorem tF127_2:tyF Tryz.prog 127 2 7=true:=by kernel_rfl
theorem tF127_1:tyF Tryz.prog 127 1 4=true:=by kernel_rfl
theorem fOk96:fnOk Tryz.prog 96=true:=by kernel_rfl
theorem tZo115:(Tryz.prog.info? 115).bind (·.zero)=some (.map none):=by kernel_rfl
theorem fOk133:fnOk Tryz.prog 133=true:=by kernel_rfl
theorem fOk97:fnOk Tryz.prog 97=true:=by kernel_rfl
theorem fOk66:fnOk Tryz.prog 66=true:=by kernel_rfl
theorem fOk22:fnOk Tryz.prog 22=true:=by kernel_rfl
theorem tZ91:zeroCells Tryz.prog 91=some [.slice none 0 0]:=by kernel_rfl
theorem tPl91:tyPlaces Tryz.prog 91=some [(0,1)]:=by kernel_rfl
theorem tS91:tyS Tryz.prog 91 1=true:=by kernel_rfl
theorem tEl25:tyEl Tryz.prog 25 9 1 16=true:=by kernel_rfl
theorem tZ9:zeroCells Tryz.prog 9=some [.string ⟨#[]⟩]:=by kernel_rfl
theorem tF91_0:tyF Tryz.prog 91 0 0=true:=by kernel_rfl
theorem tC78:tyC Tryz.prog 78=true:=by kernel_rfl
theorem tS78:tyS Tryz.prog 78 1=true:=by kernel_rfl
theorem tEl78:tyEl Tryz.prog 78 5 1 1=true:=by kernel_rfl
theorem tZ5:zeroCells Tryz.prog 5=some [.int .u8 0]:=by kernel_rfl
theorem tIsSl78:tySlice Tryz.prog 78=true:=by kernel_rfl
theorem fOk37:fnOk Tryz.prog 37=true:=by kernel_rfl
theorem tBy78:tyBytes Tryz.prog 78=true:=by kernel_rfl
theorem fOk10:fnOk Tryz.prog 10=true:=by kernel_rfl
theorem fOk8:fnOk Tryz.prog 8=true:=by kernel_rfl
theorem tZ27:zeroCells Tryz.prog 27=some [.slice none 0 0,.slice none 0 0,.slice none 0 0,.slice none 0 0]:=by kernel_rfl
theorem tPl27:tyPlaces Tryz.prog 27=some [(0,1),(1,1),(2,1),(3,1)]:=by kernel_rfl
theorem tZ39:zeroCells Tryz.prog 39=some [.slice none 0 0,.slice none 0 0,.slice none 0 0,.slice none 0 0,.int .i64 0]:=by kernel_rfl
theorem tPl39:tyPlaces Tryz.prog 39=some [(0,4),(4,1)]:=by kernel_rfl
theorem tS39:tyS Tryz.prog 39 5=true:=by kernel_rfl
theorem fOk11:fnOk Tryz.prog 11=true:=by kernel_rfl
theorem fOk16:fnOk Tryz.prog 16=true:=by kernel_rfl
theorem fOk12:fnOk Tryz.prog 12=true:=by kernel_rfl
theorem tF39_1:tyF Tryz.prog 39 1 4=true:=by kernel_rfl
theorem tS3:tyS Tryz.prog 3 1=true:=by kernel_rfl
theorem tF39_0:tyF Tryz.prog 39 0 0=true:=by kernel_rfl
theorem tPl56:tyPlaces Tryz.prog 56=some [(0,1),(1,1)]:=by kernel_rfl
theorem tS22:tyS Tryz.prog 22 1=true:=by kernel_rfl
theorem tEl22:tyEl Tryz.prog 22 56 2 40=true:=by kernel_rfl
theorem tPl61:tyPlaces Tryz.prog 61=some [(0,1),(1,1)]:=by kernel_rfl
theorem tS23:tyS Tryz.prog 23 1=true:=by kernel_rfl
theorem tEl23:tyEl Tryz.prog 23 61 2 40=true:=by kernel_rfl
theorem tPl71:tyPlaces Tryz.prog 71=some [(0,1),(1,1),(2,1),(3,1)]:=by kernel_rfl
theorem tS24:tyS Tryz.prog 24 1=true:=by kernel_rfl
theorem tEl24:tyEl Tryz.prog 24 71 4 80=true:=by kernel_rfl
theorem tS25:tyS Tryz.prog 25 1=true:=by kernel_rfl
theorem tPl64:tyPlaces Tryz.prog 64=some [(0,1),(1,1)]:=by kernel_rfl
theorem tEl59:tyEl Tryz.prog 59 64 2 32=true:=by kernel_rfl
theorem tS59:tyS Tryz.prog 59 1=true:=by kernel_rfl
theorem tPl74:tyPlaces Tryz.prog 74=some [(0,1),(1,1),(2,1),(3,1)]:=by kernel_rfl
theorem tS9:tyS Tryz.prog 9 1=true:=by kernel_rfl
theorem fOk75:fnOk Tryz.prog 75=true:=by kernel_rfl
theorem tEl69:tyEl Tryz.prog 69 74 4 56=true:=by kernel_rfl
theorem tS69:tyS Tryz.prog 69 1=true:=by kernel_rfl
theorem fOk39:fnOk Tryz.prog 39=true:=by kernel_rfl
theorem fOk13:fnOk Tryz.prog 13=true:=by kernel_rfl
theorem fOk77:fnOk Tryz.prog 77=true:=by kernel_rfl
theorem fOk42:fnOk Tryz.prog 42=true:=by kernel_rfl
theorem fOk41:fnOk Tryz.prog 41=true:=by kernel_rfl
theorem fOk109:fnOk Tryz.prog 109=true:=by kernel_rfl
theorem tI149:tyI Tryz.prog 149 .u64=true:=by kernel_rfl
theorem tUn3:tyU Tryz.prog 3=true:=by kernel_rfl
theorem tI3:tyI Tryz.prog 3 .i64=true:=by kernel_rfl
theorem tUn149:tyU Tryz.prog 149=true:=by kernel_rfl
theorem fOk174:fnOk Tryz.prog 174=true:=by kernel_rfl
theorem fOk139:fnOk Tryz.prog 139=true:=by kernel_rfl
theorem fOk110:fnOk Tryz.prog 110=true:=by kernel_rfl
theorem fOk76:fnOk Tryz.prog 76=true:=by kernel_rfl
theorem fOk40:fnOk Tryz.prog 40=true:=by kernel_rfl
theorem fOk44:fnOk Tryz.prog 44=true:=by kernel_rfl
theorem fOk43:fnOk Tryz.prog 43=true:=by kernel_rfl
theorem fOk45:fnOk Tryz.prog 45=true:=by kernel_rfl
theorem fOk47:fnOk Tryz.prog 47=true:=by kernel_rfl
theorem fOk46:fnOk Tryz.prog 46=true:=by kernel_rfl
theorem tS103:tyS Tryz.prog 103 1=true:=by kernel_rfl
theorem fOk82:fnOk Tryz.prog 82=true:=by kernel_rfl
theorem fOk50:fnOk Tryz.prog 50=true:=by kernel_rfl
theorem tC103:tyC Tryz.prog 103=true:=by kernel_rfl
theorem fOk49:fnOk Tryz.prog 49=true:=by kernel_rfl
theorem fOk80:fnOk Tryz.prog 80=true:=by kernel_rfl
theorem fOk48:fnOk Tryz.prog 48=true:=by kernel_rfl
theorem tS106:tyS Tryz.prog 106 1=true:=by kernel_rfl
theorem fOk85:fnOk Tryz.prog 85=true:=by kernel_rfl
theorem fOk53:fnOk Tryz.prog 53=true:=by kernel_rfl
theorem tC106:tyC Tryz.prog 106=true:=by kernel_rfl
theorem fOk52:fnOk Tryz.prog 52=true:=by kernel_rfl
theorem fOk83:fnOk Tryz.prog 83=true:=by kernel_rfl
theorem fOk51:fnOk Tryz.prog 51=true:=by kernel_rfl
theorem tS109:tyS Tryz.prog 109 1=true:=by kernel_rfl
theorem fOk88:fnOk Tryz.prog 88=true:=by kernel_rfl
theorem fOk56:fnOk Tryz.prog 56=true:=by kernel_rfl
theorem tC109:tyC Tryz.prog 109=true:=by kernel_rfl
theorem fOk55:fnOk Tryz.prog 55=true:=by kernel_rfl
theorem fOk86:fnOk Tryz.prog 86=true:=by kernel_rfl
theorem fOk54:fnOk Tryz.prog 54=true:=by kernel_rfl
theorem fOk57:fnOk Tryz.prog 57=true:=by kernel_rfl
theorem fOk58:fnOk Tryz.prog 58=true:=by kernel_rfl
theorem fOk59:fnOk Tryz.prog 59=true:=by kernel_rfl
theorem fOk14:fnOk Tryz.prog 14=true:=by kernel_rfl
theorem fOk5:fnOk Tryz.prog 5=true:=by kernel_rfl
theorem fOk24:fnOk Tryz.prog 24=true:=by kernel_rfl
theorem fOk23:fnOk Tryz.prog 23=true:=by kernel_rfl
theorem fOk27:fnOk Tryz.prog 27=true:=by kernel_rfl
theorem tEqG64:Tryz.prog.eqGuardType Tryz.prog.depth 64=false:=by kernel_rfl
theorem fOk26:fnOk Tryz.prog 26=true:=by kernel_rfl
theorem fOk25:fnOk Tryz.prog 25=true:=by kernel_rfl
theorem fOk28:fnOk Tryz.prog 28=true:=by kernel_rfl
theorem tEqG74:Tryz.prog.eqGuardType Tryz.prog.depth 74=false:=by kernel_rfl
theorem fOk67:fnOk Tryz.prog 67=true:=by kernel_rfl
theorem fOk30:fnOk Tryz.prog 30=true:=by kernel_rfl
theorem fOk29:fnOk Tryz.prog 29=true:=by kernel_rfl
theorem fOk7:fnOk Tryz.prog 7=true:=by kernel_rfl
def tt:TT:=[(3,[.C,.S 1,.U,.I .i64]),(4,[.C]),(5,[.Fn]),(7,[.Fn]),(8,[.Fn]),(9,[.C,.Str,.Fn,.S 1]),(10,[.Fn]),(11,[.Fn]),(12,[.Fn]),(15,[.Fn]),(16,[.Fn]),(22,[.C,.Sn,.Sl 2,.Fn,.S 1,.El 56 2 40]),(23,[.C,.Sn,.Sl 2,.S 1,.El 61 2 40,.Fn]),(24,[.C,.Sn,.Sl 4,.S 1,.El 71 4 80,.Fn]),(25,[.C,.Sn,.Sl 1,.El 9 1 16,.S 1,.Fn]),(26,[.Fn]),(27,[.S 4,.A 4,.F 0 0,.F 1 1,.F 2 2,.F 3 3,.Z 4 [.slice none 0 0,.slice none 0 0,.slice none 0 0,.slice none 0 0],.Pl [(0,1),(1,1),(2,1),(3,1)],.Fn]),(28,[.Fn]),(29,[.Fn]),(30,[.Fn]),(33,[.Fn]),(34,[.Fn]),(39,[.Z 5 [.slice none 0 0,.slice none 0 0,.slice none 0 0,.slice none 0 0,.int .i64 0],.Pl [(0,4),(4,1)],.S 5,.F 1 4,.F 0 0]),(41,[.Fn]),(42,[.Fn]),(44,[.Fn]),(47,[.Fn]),(48,[.Fn]),(49,[.Fn]),(50,[.Fn]),(51,[.Fn]),(52,[.Fn]),(53,[.Fn]),(54,[.Fn]),(55,[.Fn]),(56,[.A 2,.Z 2 [.string ⟨#[]⟩,.slice none 0 0],.S 2,.F 0 0,.F 1 1,.Pl [(0,1),(1,1)],.Fn]),(57,[.Fn]),(58,[.Fn]),(59,[.C,.Sn,.Sl 2,.El 64 2 32,.S 1,.Fn]),(60,[.Fn]),(61,[.A 2,.Z 2 [.string ⟨#[]⟩,.slice none 0 0],.S 2,.F 0 0,.F 1 1,.Fn,.Pl [(0,1),(1,1)]]),(64,[.A 2,.Z 2 [.string ⟨#[]⟩,.string ⟨#[]⟩],.S 2,.F 0 0,.F 1 1,.Pl [(0,1),(1,1)]]),(65,[.Fn]),(66,[.Fn]),(67,[.Fn]),(69,[.C,.Sn,.Sl 4,.El 74 4 56,.S 1]),(71,[.A 4,.Z 4 [.string ⟨#[]⟩,.string ⟨#[]⟩,.slice none 0 0,.slice none 0 0],.S 4,.F 0 0,.F 1 1,.F 2 2,.F 3 3,.Pl [(0,1),(1,1),(2,1),(3,1)]]),(74,[.A 4,.Z 4 [.int .i64 0,.string ⟨#[]⟩,.string ⟨#[]⟩,.string ⟨#[]⟩],.S 4,.F 0 0,.F 1 1,.F 2 2,.F 3 3,.Pl [(0,1),(1,1),(2,1),(3,1)]]),(75,[.Fn]),(77,[.Fn]),(78,[.C,.S 1,.Sn]),(82,[.Fn]),(85,[.Fn]),(88,[.Fn]),(89,[.Fn]),(90,[.Fn]),(91,[.Fn,.Z 1 [.slice none 0 0],.Pl [(0,1)],.S 1,.F 0 0]),(92,[.Fn]),(95,[.Fn]),(96,[.Fn]),(97,[.Fn]),(98,[.Fn]),(103,[.S 1,.C]),(106,[.S 1,.C]),(109,[.S 1,.C]),(114,[.C]),(115,[.C]),(117,[.Z 4 [.bool false,.map none,.map none,.map none],.Pl [(0,1),(1,1),(2,1),(3,1)],.S 4,.F 1 1,.F 2 2,.F 3 3,.A 4,.F 0 0]),(122,[.C]),(124,[.Z 3 [.map none,.map none,.map none],.Pl [(0,1),(1,1),(2,1)],.S 3,.F 0 0,.F 1 1,.F 2 2,.A 3]),(125,[.Fn]),(126,[.Fn]),(127,[.Fn,.Z 8 [.slice none 0 0,.slice none 0 0,.slice none 0 0,.slice none 0 0,.map none,.map none,.map none,.bool false],.Pl [(0,4),(4,3),(7,1)],.S 8,.F 0 0,.A 8,.F 2 7,.F 1 4]),(132,[.Fn]),(133,[.Fn]),(149,[.I .u64,.U]),(169,[.Fn]),(185,[.Fn])]
theorem ok:TTok Tryz.prog tt:=tt_all ⟨⟨tC3,tS3,tUn3,tI3,trivial⟩,⟨tC4,trivial⟩,⟨fOk5,trivial⟩,⟨fOk7,trivial⟩,⟨fOk8,trivial⟩,⟨tC9,tStr9,fOk9,tS9,trivial⟩,⟨fOk10,trivial⟩,⟨fOk11,trivial⟩,⟨fOk12,trivial⟩,⟨fOk15,trivial⟩,⟨fOk16,trivial⟩,⟨tC22,tIsSl22,tSl22,fOk22,tS22,tEl22,trivial⟩,⟨tC23,tIsSl23,tSl23,tS23,tEl23,fOk23,trivial⟩,⟨tC24,tIsSl24,tSl24,tS24,tEl24,fOk24,trivial⟩,⟨tC25,tIsSl25,tSl25,tEl25,tS25,fOk25,trivial⟩,⟨fOk26,trivial⟩,⟨tS27,tA27,tF27_0,tF27_1,tF27_2,tF27_3,⟨tZ27,rfl⟩,tPl27,fOk27,trivial⟩,⟨fOk28,trivial⟩,⟨fOk29,trivial⟩,⟨fOk30,trivial⟩,⟨fOk33,trivial⟩,⟨fOk34,trivial⟩,⟨⟨tZ39,rfl⟩,tPl39,tS39,tF39_1,tF39_0,trivial⟩,⟨fOk41,trivial⟩,⟨fOk42,trivial⟩,⟨fOk44,trivial⟩,⟨fOk47,trivial⟩,⟨fOk48,trivial⟩,⟨fOk49,trivial⟩,⟨fOk50,trivial⟩,⟨fOk51,trivial⟩,⟨fOk52,trivial⟩,⟨fOk53,trivial⟩,⟨fOk54,trivial⟩,⟨fOk55,trivial⟩,⟨tA56,⟨tZ56,rfl⟩,tS56,tF56_0,tF56_1,tPl56,fOk56,trivial⟩,⟨fOk57,trivial⟩,⟨fOk58,trivial⟩,⟨tC59,tIsSl59,tSl59,tEl59,tS59,fOk59,trivial⟩,⟨fOk60,trivial⟩,⟨tA61,⟨tZ61,rfl⟩,tS61,tF61_0,tF61_1,fOk61,tPl61,trivial⟩,⟨tA64,⟨tZ64,rfl⟩,tS64,tF64_0,tF64_1,tPl64,trivial⟩,⟨fOk65,trivial⟩,⟨fOk66,trivial⟩,⟨fOk67,trivial⟩,⟨tC69,tIsSl69,tSl69,tEl69,tS69,trivial⟩,⟨tA71,⟨tZ71,rfl⟩,tS71,tF71_0,tF71_1,tF71_2,tF71_3,tPl71,trivial⟩,⟨tA74,⟨tZ74,rfl⟩,tS74,tF74_0,tF74_1,tF74_2,tF74_3,tPl74,trivial⟩,⟨fOk75,trivial⟩,⟨fOk77,trivial⟩,⟨tC78,tS78,tIsSl78,trivial⟩,⟨fOk82,trivial⟩,⟨fOk85,trivial⟩,⟨fOk88,trivial⟩,⟨fOk89,trivial⟩,⟨fOk90,trivial⟩,⟨fOk91,⟨tZ91,rfl⟩,tPl91,tS91,tF91_0,trivial⟩,⟨fOk92,trivial⟩,⟨fOk95,trivial⟩,⟨fOk96,trivial⟩,⟨fOk97,trivial⟩,⟨fOk98,trivial⟩,⟨tS103,tC103,trivial⟩,⟨tS106,tC106,trivial⟩,⟨tS109,tC109,trivial⟩,⟨tC114,trivial⟩,⟨tC115,trivial⟩,⟨⟨tZ117,rfl⟩,tPl117,tS117,tF117_1,tF117_2,tF117_3,tA117,tF117_0,trivial⟩,⟨tC122,trivial⟩,⟨⟨tZ124,rfl⟩,tPl124,tS124,tF124_0,tF124_1,tF124_2,tA124,trivial⟩,⟨fOk125,trivial⟩,⟨fOk126,trivial⟩,⟨fOk127,⟨tZ127,rfl⟩,tPl127,tS127,tF127_0,tA127,tF127_2,tF127_1,trivial⟩,⟨fOk132,trivial⟩,⟨fOk133,trivial⟩,⟨tI149,tUn149,trivial⟩,⟨fOk169,trivial⟩,⟨fOk185,trivial⟩,trivial⟩
instance {N:Nat} {w:World} {m:Mem} {o:Nat->Prop} {p:Nat} {l:Nat->Option (Option (Nat×Cap))} {g:Gl} {h:GlOk g m}:TC ⟨Tryz.prog,N,w,m,o,p,l,g,h⟩ tt:=⟨ok⟩
end Go.Proofs.YtjofofmllnpkpaaGreatDoor
