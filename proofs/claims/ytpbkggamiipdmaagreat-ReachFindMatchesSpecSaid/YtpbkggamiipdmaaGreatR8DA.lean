/- Part of the proof: ZS, DA. -/
import Derived.Test.YtpbkggamiipdmaaGreatR8ZA
import Derived.Shelf.SlSortCmp.NoneTotal
import Derived.Test.YtpbkggamiipdmaaGreatR8ZC
import Derived.Test.YtpbkggamiipdmaaGreatR8WA
namespace Go.Pv
open Go Go.RowKit Go.Sort Go.Proofs
def q5p{T:Type}(cmp:T->T->Option Int)(x y:T):Bool:=match cmp x y with|some c=>decide (c<0)|none=>false
def swoM{T:Type}(cmp:T->T->Option Int)(l:List T):Bool:=
 l.all fun x=>!q5p cmp x x&&l.all fun y=>(cmp x y).isSome&&l.all fun z=>(!(q5p cmp x y&&q5p cmp y z)||q5p cmp x z)&&(q5p cmp x y||q5p cmp y z||!q5p cmp x z)
def dstM{T:Type}(cmp:T->T->Option Int):List T->Bool
 |[]=>true
 |x::l=>l.all (fun y=>q5p cmp x y||q5p cmp y x)&&dstM cmp l
def ascM{T:Type}(cmp:T->T->Option Int):List T->Bool
 |[]=>true
 |x::l=>l.all (fun y=>!q5p cmp y x)&&ascM cmp l
def srtM{T:Type}(cmp:T->T->Option Int)(l:List T):Option (List T):=
 bif swoM cmp l&&dstM cmp l&&ascM cmp (l.mergeSort fun x y=>!q5p cmp y x)&&Nat.blt l.length 4611686018427387904 then some (l.mergeSort fun x y=>!q5p cmp y x) else none
theorem ascM_pw{T:Type}{cmp:T->T->Option Int}:∀{l:List T},ascM cmp l=true->l.Pairwise fun x y=>q5p cmp y x=false
 |[],_=>.nil
 |x::l,h=>by
  simp only[ascM,Bool.and_eq_true,List.all_eq_true,Bool.not_eq_true'] at h
  exact .cons h.1 (ascM_pw h.2)
theorem dstM_uniq{T:Type}{cmp:T->T->Option Int}:∀{l:List T},dstM cmp l=true->∀x∈l,∀y∈l,q5p cmp x y=false->q5p cmp y x=false->x=y
 |[],_,x,hx,_,_,_,_=>by simp at hx
 |z::l,h,x,hx,y,hy,h1,h2=>by
  simp only[dstM,Bool.and_eq_true,List.all_eq_true,Bool.or_eq_true] at h
  rcases List.mem_cons.1 hx with e|hx'
  ·rcases List.mem_cons.1 hy with e'|hy'
   ·rw[e,e']
   ·rw[e] at h1 h2
    rcases h.1 y hy' with q|q
    ·rw[q] at h1;simp at h1
    ·rw[q] at h2;simp at h2
  ·rcases List.mem_cons.1 hy with e'|hy'
   ·rw[e'] at h1 h2
    rcases h.1 x hx' with q|q
    ·rw[q] at h2;simp at h2
    ·rw[q] at h1;simp at h1
   ·exact dstM_uniq h.2 x hx' y hy' h1 h2
structure z9i{T:Type}(l:List T)(enc:T->List V)(k:Nat)(m:Mem) where
 t:T
 mem:t∈l
 vs:List Value
 hl:vs.length=k
 h1:∀v∈vs,v.oneCell'=true
 rel:∀(j:Nat) (c:V) (v:Value),(enc t)[j]? = some c->vs[j]? = some v->q3n m c v
theorem grew_grow{m m':Mem}{w w':World}(h:Grew m m' w w'):∃q os,w'=grow (w.drewN q) os:=by
 obtain⟨q,hq⟩:=Nat.exists_eq_add_of_le h.same.drawn
 refine⟨q,w'.heap.extract w.heap.size w'.heap.size,?_⟩
 have hh:w'.heap=w.heap++w'.heap.extract w.heap.size w'.heap.size:=by
  apply Array.ext'
  simp only[Array.toList_append,Array.toList_extract]
  apply List.ext_getElem?
  intro i
  by_cases hi:i<w.heap.size
  ·rw[List.getElem?_append_left (by simpa using hi)]
   have:=h.heap i hi
   simpa using this
  ·rw[List.getElem?_append_right (by simpa using Nat.le_of_not_lt hi)]
   have hs:=h.size
   by_cases h2:i<w'.heap.size
   ·rw[List.getElem?_take_of_lt (by simp;omega),List.getElem?_drop]
    congr 1
    simp;omega
   ·rw[List.getElem?_eq_none (by simpa using h2),List.getElem?_eq_none (by simp;omega)]
 obtain⟨h0,h1,h2,h3,h4⟩:=w
 obtain⟨g0,g1,g2,g3,g4⟩:=w'
 have s1:=h.same.os;have s2:=h.same.tape;have s3:=h.same.output
 simp only at hh hq s1 s2 s3
 subst s1 s2 s3 hq
 simp only[grow,World.drewN]
 rw[<-hh]
theorem pair_of_sorted{α T:Type}[Inhabited α]{f:α->T}{r:T->T->Prop}{d:Array α}(h:∀i j,0<=i->i<j->j<d.size->r (f d[i]!) (f d[j]!)):(d.toList.map f).Pairwise r:=by
 rw[List.pairwise_iff_getElem]
 intro i j hi hj hij
 have hi':i<d.size:=by simpa using hi
 have hj':j<d.size:=by simpa using hj
 have:=h i j (Nat.zero_le _) hij hj'
 rw[getElem!_pos d i hi',getElem!_pos d j hj'] at this
 simpa using this
theorem cmp_lays{gl:Gl}{P:Program}{g:FuncId}{m:Mem}{T:Type}{l:List T}{enc:T->List V}{k:Nat}{w:World}{b off size:Nat}{cs:Array Value}{caps:List V}{cmp:T->T->Option Int}[Inhabited (z9i l enc k m)](hek:∀x,(enc x).length=k)(hgl:GlOk gl m)
  (hcl:caps.length=cs.size) (hcr:∀(i:Nat) (c:V) (v:Value),caps[i]? = some c->cs[i]? = some v->q3n m c v)
  (himm:∀(nd:Nat) (dk:Array (z9i l enc k m)) (os:Array Obj) (b':Nat) (o:Obj),m b'=some o->(sortWorldK z9i.vs k w b off nd dk os).heap[b']? = some o)
  (hcmp:∀x y c,cmp x y=some c->z8o gl P g ([.agg (enc x),.agg (enc y)]++caps) (.con (.int .i64 c)))
  (hd:∀x∈l,∀y∈l,(cmp x y).isSome=true):CmpLays P g cs (z9i.vs (l:=l) (enc:=enc) (k:=k) (m:=m)) k (fun x y=>(cmp x.t y.t).getD 0) b off size w:=by
 intro nd os dk _ x y
 have hi:=himm nd dk os
 generalize sortWorldK z9i.vs k w b off nd dk os=W at hi
 obtain⟨c,hc⟩:=Option.isSome_iff_exists.1 (hd x.t x.mem y.t y.mem)
 have hrelx:∀x:z9i l enc k m,q3n m (.agg (enc x.t)) (.agg x.vs.toArray):=fun x=>.agg (by simp[hek,x.hl]) fun i c v h1 h2=>x.rel i c v h1 (by simpa using h2)
 have hrels:IRels m ([.agg (enc x.t),.agg (enc y.t)]++caps) (#[.agg x.vs.toArray,.agg y.vs.toArray]++cs):=by
  refine⟨by simp[hcl];omega,fun i c' v' h1 h2=>?_⟩
  match i,h1,h2 with
  |0,h1,h2=>
   simp at h1
   rw[Array.getElem?_append_left (by simp)] at h2
   simp at h2
   rw[<-h1,<-h2];exact hrelx x
  |1,h1,h2=>
   simp at h1
   rw[Array.getElem?_append_left (by simp)] at h2
   simp at h2
   rw[<-h1,<-h2];exact hrelx y
  |i+2,h1,h2=>
   refine hcr i c' v' (by simpa using h1) ?_
   rw[Array.getElem?_append_right (by simp)] at h2
   simpa using h2
 refine Calls.mono (hcmp x.t y.t c hc m W _ hi hgl hrels) ?_
 rintro ex w' ⟨v',m',rfl,hv',hgr⟩
 cases hv'
 refine⟨?_,grew_grow hgr⟩
 show Ending.returned (.int .i64 c)=.returned (.int .i64 ((cmp x.t y.t).getD 0))
 rw[hc];rfl
set_option maxHeartbeats 1000000 in
theorem mut_sortF{gl:Gl}{P:Program}{f g:FuncId}{kk id:Nat}{hp:q0l}{e:TypeId}{k:Nat}{T:Type}(enc:T->List V)(hek:∀x,(enc x).length=k)(hei:∀x,q1p (enc x))(caps:List V)(hci:q1p caps)(cmp:T->T->Option Int)(l r:List T)
  (hid:q5d hp id=.arr e k (l.map enc)) (hr:srtM cmp l=some r)
  (hcmp:∀x y c,cmp x y=some c->z8o gl P g ([.agg (enc x),.agg (enc y)]++caps) (.con (.int .i64 c)))
  (h:∀{α:Type} [Inhabited α] (q0u:α->List Value) (_:∀x,(q0u x).length=k) (_:∀x,∀v∈q0u x,v.oneCell'=true) (cf:α->α->Int) (_:SWO (ltOf cf)) (cb:Array Value) (blk off cap:Nat) (d:Array α) (w:World) (_:CmpLays P g cb q0u k cf blk off d.size w) (_:HoldsK q0u k w blk off d) (_:blk<w.heap.size) (_:d.size<4611686018427387904),
   Calls P f #[.slice (some ⟨blk,off,none⟩) d.size cap,.func (.func g) #[] cb] w fun e w'=>e=.returned (.tuple #[])/\∃d' n os,PermIn 0 d.size d d'/\SortedIn (ltOf cf) 0 d.size d'/\w'=sortWorldK q0u k w blk off n d' os)
  (hn:∀(p:Option Addr) (cap:Nat) (fv:Value) (w:World),Calls P f #[.slice p 0 cap,fv] w fun e w'=>e=.returned (.tuple #[])/\w'=w):
  MutG gl P f [.own id l.length,.fn (.func g) [] caps] kk hp (.tup []) kk ((id,.arr e k (r.map enc))::hp):=by
 intro m β w vs himm hgl hargs hown hpriv hinj hhid hnx
 obtain⟨v,u,rfl⟩:∃v u,vs=#[v,u]:=by
  have:=hargs.len
  simp at this
  refine⟨vs[0],vs[1],?_⟩
  apply Array.ext
  ·simp[<-this]
  ·intro i h1 h2
   have:i=0\/i=1:=by simp at h2;omega
   rcases this with rfl|rfl<;>simp
 have hv:=hargs.at' 0 _ _ rfl rfl
 have hu:=hargs.at' 1 _ _ rfl rfl
 have hob:=hown id
 rw[hid] at hob
 unfold srtM at hr
 cases hguard:(swoM cmp l&&dstM cmp l&&ascM cmp (l.mergeSort fun x y=>!q5p cmp y x)&&Nat.blt l.length 4611686018427387904) with
 |false=>rw[hguard] at hr;simp at hr
 |true=>
 rw[hguard] at hr
 simp only[cond_true,Option.some.injEq] at hr
 simp only[Bool.and_eq_true] at hguard
 obtain⟨⟨⟨hswo,hdst⟩,hasc⟩,hlen⟩:=hguard
 have hlen:l.length<4611686018427387904:=Nat.le_of_ble_eq_true hlen
 have hperm:r.Perm l:=by rw[<-hr];exact List.mergeSort_perm _ _
 have hrl:r.length=l.length:=hperm.length_eq
 rw[hr] at hasc
 have hsorted:=ascM_pw hasc
 have hswo':∀x∈l,q5p cmp x x=false/\∀y∈l,(cmp x y).isSome=true/\∀z∈l,(q5p cmp x y=true->q5p cmp y z=true->q5p cmp x z=true)/\(q5p cmp x y=false->q5p cmp y z=false->q5p cmp x z=false):=by
  intro x hx
  unfold swoM at hswo
  have h1:=List.all_eq_true.1 hswo x hx
  simp only[Bool.and_eq_true,Bool.not_eq_true',List.all_eq_true] at h1
  refine⟨h1.1,fun y hy=>?_⟩
  have h2:=h1.2 y hy
  refine⟨h2.1,fun z hz=>?_⟩
  have h3:=h2.2 z hz
  revert h3
  cases q5p cmp x y<;>cases q5p cmp y z<;>cases q5p cmp x z<;>simp
 have hg:∀q,q5d ((id,Ob.arr e k (r.map enc))::hp) q=if id=q then Ob.arr e k (r.map enc) else q5d hp q:=fun q=>q7c _ _ _ _
 have hlive:∀q,q5d ((id,Ob.arr e k (r.map enc))::hp) q≠.dead->q5d hp q≠.dead:=fun q hq=>by
  rw[hg] at hq
  split at hq
  ·rename_i hh;subst hh;rw[hid];simp
  ·exact hq
 have hhids:∀(w':World),w.heap.size<=w'.heap.size->∀q x,q5d ((id,Ob.arr e k (r.map enc))::hp) q≠.dead->β.hid q x->x<w'.heap.size/\m x=none/\(x<w.heap.size->¬q8v hp β x)/\
   (∀i b c,q5d ((id,Ob.arr e k (r.map enc))::hp) i≠.dead->β i=some (some (b,c))->x≠b)/\∀i,q5d ((id,Ob.arr e k (r.map enc))::hp) i≠.dead->β.hid i x->i=q:=by
  intro w' hs q x hq hx
  obtain⟨q1,q2,q3,q4⟩:=hhid q x (hlive q hq) hx
  exact⟨by omega,q2,fun _ hF=>(hF q (hlive q hq)).2 hx,fun i b c hi=>q3 i b c (hlive i hi),fun i hi=>q4 i (hlive i hi)⟩
 obtain⟨cs,rfl,hcl,hcr⟩:∃cs:Array Value,u=.func (.func g) #[] cs/\caps.length=cs.size/\∀(i:Nat) (c:V) (v:Value),caps[i]? = some c->cs[i]? = some v->q3n m c v:=by
  cases hu with
  |imm h'=>
   cases h' with
   | @fn _ _ _ fs cs hl hl' hf hc=>
    have:fs=#[]:=Array.eq_empty_of_size_eq_zero (by simpa using hl.symm)
    subst this
    exact⟨cs,rfl,hl',hc⟩
  | @fn _ _ _ fs cs hl hl' hf hc=>
   have:fs=#[]:=Array.eq_empty_of_size_eq_zero (by simpa using hl.symm)
   subst this
   exact⟨cs,rfl,hl',fun i c v h1 h2=>(hci c (List.mem_of_getElem? h1)).2 _ _ _ (hc i c v h1 h2)⟩
 by_cases hnil:l=[]
 ·subst hnil
  have hrn:r=[]:=List.length_eq_zero_iff.1 hrl
  subst hrn
  obtain⟨p,c,rfl⟩:∃p c,v=.slice p 0 c:=by
   cases hv with
   |imm h'=>cases h'
   |ownNil hb=>exact⟨_,_,rfl⟩
   |own hb=>exact⟨_,_,rfl⟩
  refine(hn p c _ w).mono ?_
  rintro ex w' ⟨rfl,rfl⟩
  have hsm:∀q,q5d ((id,Ob.arr e k (([]:List T).map enc))::hp) q=q5d hp q:=fun q=>by
   rw[hg]
   split
   ·rename_i hh;subst hh;rw[hid]
   ·rfl
  refine⟨_,m,β,rfl,.tup rfl (by simp),Mem.le_refl _,himm,fun b hb _=>⟨rfl,rfl⟩,Nat.le_refl _,⟨rfl,rfl,rfl,Nat.le_refl _⟩,fun q=>?_,fun q b cap hq hbq=>?_,fun q q' b cap cap' hq hq'=>hinj q q' b cap cap' (hlive q hq) (hlive q' hq'),hhids w' (Nat.le_refl _),hnx,fun q hq=>⟨hq,rfl⟩⟩
  ·rw[hsm];exact hown q
  ·have hq:=hlive q hq
   exact⟨hpriv q b cap hq hbq,fun _ hF=>(hF q hq).1 cap hbq⟩
 generalize hnl:l.length=n at hv
 cases hv with
 |imm h'=>cases h'
 | @ownNil _ ad hb=>exact absurd (List.length_eq_zero_iff.1 hnl) hnil
 | @own _ _ b cap hb=>
 rw[hb] at hob
 obtain⟨arr,bl,o1,o2,o3,o4,o5,oB,o6⟩:=hob
 have hbs:b<w.heap.size:=q1i o1
 have o3':l.length<=cap.n:=by simpa using o3
 have hlid:q5d hp id≠.dead:=by rw[hid];simp
 have hmb:m b=none:=hpriv id b cap hlid hb
 have hcell:∀(i:Nat) (hi:i<l.length) (j:Nat) (c:V),(enc l[i])[j]? = some c->∃v,arr[cap.off+(i*k+j)]? = some v/\q3n m c v/\v.oneCell'=true:=fun i hi j c hc=>by
  obtain⟨v,v1,v2,v3⟩:=o6 i j (enc l[i]) c (by simp[List.getElem?_eq_getElem hi]) hc
  have hI:=hei l[i] c (List.mem_of_getElem? hc)
  exact⟨v,v1,hI.2 _ _ _ (v2.v hI.1),v3⟩
 have hrow:∀i:Fin l.length,∃x:z9i l enc k m,x.t=l[i.1]/\∀j,j<k->arr[cap.off+(i.1*k+j)]? = x.vs[j]?:=fun i=>by
  have q5d:∀j,j<k->∃c v,(enc l[i.1])[j]? = some c/\arr[cap.off+(i.1*k+j)]? = some v/\q3n m c v/\v.oneCell'=true:=fun j hj=>by
   have hj':j<(enc l[i.1]).length:=by rw[hek];exact hj
   obtain⟨v,hv⟩:=hcell i.1 i.2 j _ (List.getElem?_eq_getElem hj')
   exact⟨_,v,List.getElem?_eq_getElem hj',hv⟩
  have hvs:∀j,j<k->((List.range k).map fun j=>arr[cap.off+(i.1*k+j)]!)[j]? = arr[cap.off+(i.1*k+j)]?:=fun j hj=>by
   obtain⟨c,v,h1,h2,h3⟩:=q5d j hj
   rw[List.getElem?_map,List.getElem?_range hj,Option.map_some,h2]
   have hlt:=(Array.getElem?_eq_some_iff.1 h2).1
   rw[getElem!_pos arr _ hlt]
   rw[Array.getElem?_eq_getElem hlt] at h2
   exact h2
  refine⟨⟨l[i.1],List.getElem_mem _,(List.range k).map fun j=>arr[cap.off+(i.1*k+j)]!,by simp,fun v hv=>?_,fun j c v hc hv=>?_⟩,rfl,fun j hj=>(hvs j hj).symm⟩
  ·obtain⟨j,hj⟩:=List.getElem?_of_mem hv
   have hjk:j<k:=by have:=(List.getElem?_eq_some_iff.1 hj).1;simpa using this
   obtain⟨c,v',h1,h2,h3,h4⟩:=q5d j hjk
   rw[hvs j hjk,h2] at hj
   cases hj
   exact h4
  ·have hjk:j<k:=by have:=(List.getElem?_eq_some_iff.1 hv).1;simpa using this
   obtain⟨c',v',h1,h2,h3,h4⟩:=q5d j hjk
   rw[hvs j hjk,h2] at hv
   cases hv
   rw[h1] at hc
   cases hc
   exact h3
 obtain⟨row,hrow⟩:∃row:Fin l.length->z9i l enc k m,∀i,(row i).t=l[i.1]/\∀j,j<k->arr[cap.off+(i.1*k+j)]? = (row i).vs[j]?:=⟨fun i=>(hrow i).choose,fun i=>(hrow i).choose_spec⟩
 haveI:Inhabited (z9i l enc k m):=⟨row ⟨0,List.length_pos_iff.2 hnil⟩⟩
 obtain⟨d,hds,hdi⟩:∃d:Array (z9i l enc k m),d.size=n/\∀i (hi:i<l.length),d[i]! = row ⟨i,hi⟩:=by
  refine⟨Array.ofFn row,by simp[hnl],fun i hi=>?_⟩
  rw[getElem!_pos _ i (by simpa using hi)]
  simp
 have hdt:d.toList.map z9i.t=l:=by
  apply List.ext_getElem?
  intro i
  by_cases hi:i<l.length
  ·have:i<d.size:=by rw[hds,<-hnl];exact hi
   rw[List.getElem?_map,Array.getElem?_toList,Array.getElem?_eq_getElem this,Option.map_some,List.getElem?_eq_getElem hi]
   have h2:=hdi i hi
   rw[getElem!_pos d i this] at h2
   rw[h2,(hrow ⟨i,hi⟩).1]
  ·rw[List.getElem?_eq_none (by simp[hds,<-hnl];omega),List.getElem?_eq_none (by omega)]
 have hlt:∀x y:z9i l enc k m,ltOf (fun x y:z9i l enc k m=>(cmp x.t y.t).getD 0) x y=q5p cmp x.t y.t:=fun x y=>by
  have:=((hswo' x.t x.mem).2 y.t y.mem).1
  show decide ((cmp x.t y.t).getD 0<0)=_
  unfold q5p
  cases hc:cmp x.t y.t with
  |none=>rw[hc] at this;simp at this
  |some c=>rfl
 have hSW:SWO (ltOf (fun x y:z9i l enc k m=>(cmp x.t y.t).getD 0)):=by
  refine⟨fun x=>?_,fun x y z h1 h2=>?_,fun x y z h1 h2=>?_⟩
  ·rw[hlt];exact(hswo' x.t x.mem).1
  ·rw[hlt] at *;exact(((hswo' x.t x.mem).2 y.t y.mem).2 z.t z.mem).1 h1 h2
  ·rw[hlt] at *;exact(((hswo' x.t x.mem).2 y.t y.mem).2 z.t z.mem).2 h1 h2
 have hheap:∀(nd:Nat) (dk:Array (z9i l enc k m)) (os:Array Obj) (b':Nat),b'<w.heap.size->(sortWorldK z9i.vs k w b cap.off nd dk os).heap[b']? = if b=b' then (w.heap[b']?).map (onCells (putCells _root_.id cap.off (flatK z9i.vs k dk))) else w.heap[b']?:=fun nd dk os b' hb'=>z7j _root_.id w nd b cap.off (flatK z9i.vs k dk) os b' hb'
 have hother:∀(nd:Nat) (dk:Array (z9i l enc k m)) (os:Array Obj) (b':Nat),b'<w.heap.size->b'≠b->(sortWorldK z9i.vs k w b cap.off nd dk os).heap[b']? = w.heap[b']?:=fun nd dk os b' h1 h2=>by rw[hheap nd dk os b' h1,if_neg (Ne.symm h2)]
 have himm':∀(nd:Nat) (dk:Array (z9i l enc k m)) (os:Array Obj) (b':Nat) (o:Obj),m b'=some o->(sortWorldK z9i.vs k w b cap.off nd dk os).heap[b']? = some o:=fun nd dk os b' o hb'=>by
  have hne:b'≠b:=fun e=>by rw[e,hmb] at hb';simp at hb'
  rw[hother nd dk os b' (q1i (himm b' o hb')) hne]
  exact himm b' o hb'
 have hC:=cmp_lays (size:=d.size) (w:=w) (b:=b) (off:=cap.off) hek hgl hcl hcr himm' hcmp fun x hx y hy=>((hswo' x hx).2 y hy).1
 have hH:HoldsK z9i.vs k w b cap.off d:=by
  intro j hj
  have hjd:j<d.size*k:=by simpa using hj
  have hk0:0<k:=by
   rcases Nat.eq_zero_or_pos k with h0|h0
   ·rw[show d.size*k=0 from by rw[Nat.mul_eq_zero];exact .inr h0] at hjd;omega
   ·exact h0
  have hi:j / k<l.length:=by rw[hnl,<-hds];exact Nat.div_lt_of_lt_mul (by rw[Nat.mul_comm];exact hjd)
  have hjk:j % k<k:=Nat.mod_lt _ hk0
  refine⟨?_,by simp[World.frozen?,o1]⟩
  rw[get_flatK z9i.vs k d j hjd,hdi _ hi,q1j o1]
  have h2:=(hrow ⟨j / k,hi⟩).2 (j % k) hjk
  have e1:j / k*k+j % k=j:=by rw[Nat.mul_comm];exact Nat.div_add_mod j k
  simp only[e1] at h2
  rw[h2]
  have hlt2:j % k<(row ⟨j / k,hi⟩).vs.length:=by rw[(row ⟨j / k,hi⟩).hl];exact hjk
  rw[List.getElem?_eq_getElem hlt2]
  show _=some ((row ⟨j / k,hi⟩).vs[j % k]!)
  rw[getElem!_pos (row ⟨j / k,hi⟩).vs (j % k) hlt2]
 have hcall:=h z9i.vs (fun x=>x.hl) (fun x=>x.h1) _ hSW cs b cap.off cap.n d w hC hH hbs (by rw[hds,<-hnl];exact hlen)
 rw[hds] at hcall
 refine hcall.mono ?_
 rintro ex w' ⟨rfl,d',nd,os,hP,hS,rfl⟩
 obtain⟨p1,_,p3⟩:=hP
 have hd's:d'.size=n:=by rw[p1,hds]
 have hd'p:d'.toList.Perm d.toList:=by
  have e1:d'.extract 0 n=d':=by rw[<-hd's];exact Array.extract_size
  have e2:d.extract 0 n=d:=by rw[<-hds];exact Array.extract_size
  rwa [e1,e2] at p3
 have hd't:d'.toList.map z9i.t=r:=by
  refine List.Perm.eq_of_pairwise (le:=fun x y=>q5p cmp y x=false) (fun x y h1 h2 h3 h4=>?_) ?_ hsorted (((hd'p.map z9i.t).trans (by rw[hdt])).trans hperm.symm)
  ·exact dstM_uniq hdst x (((hd'p.map z9i.t).trans (by rw[hdt])).mem_iff.1 h1) y (hperm.mem_iff.1 h2) h4 h3
  ·refine pair_of_sorted (f:=z9i.t) (r:=fun x y=>q5p cmp y x=false) fun i j hi hij hj=>?_
   rw[<-hlt]
   exact hS i j hi hij (by rw[<-hd's];exact hj)
 have hsz:w.heap.size<=(sortWorldK z9i.vs k w b cap.off nd d' os).heap.size:=by simp[sortWorldK,putRowK,grow,putRow,mapBlock,Sort.ahead]
 refine⟨_,m,β,rfl,.tup rfl (by simp),Mem.le_refl _,himm' nd d' os,fun b' hb' hF=>⟨rfl,hother nd d' os b' hb' (fun e=>?_)⟩,hsz,⟨rfl,rfl,rfl,Nat.le_add_right _ _⟩,fun q=>?_,fun q b' cap' hq hbq=>?_,fun q q' b1 cap1 cap2 hq hq'=>hinj q q' b1 cap1 cap2 (hlive q hq) (hlive q' hq'),hhids _ hsz,hnx,fun q hq=>⟨hq,rfl⟩⟩
 ·subst e;exact(hF id hlid).1 cap hb
 ·rw[hg]
  split
  ·rename_i hh
   subst hh
   rw[hb]
   refine⟨putCells _root_.id cap.off (flatK z9i.vs k d') arr,bl,by rw[hheap nd d' os b hbs,if_pos rfl,o1];rfl,by simp[putCells,o2],by simpa[hrl] using o3,o4,?_,oB,fun i j rw' c hr' hc=>?_⟩
   ·intro rw' hr'
    obtain⟨x,_,rfl⟩:=List.mem_map.1 hr'
    exact hek x
   ·rw[<-hd't,List.map_map,List.getElem?_map,Array.getElem?_toList] at hr'
    cases hx:d'[i]? with
    |none=>rw[hx] at hr';simp at hr'
    |some x=>
     rw[hx] at hr'
     simp at hr'
     subst hr'
     have hi:i<d'.size:=(Array.getElem?_eq_some_iff.1 hx).1
     have hjk:j<k:=by have:=(List.getElem?_eq_some_iff.1 hc).1;rwa [hek] at this
     have hjv:j<x.vs.length:=by rw[x.hl];exact hjk
     have hij:i*k+j<d'.size*k:=by
      have:=Nat.mul_le_mul_right k (show i+1<=d'.size from hi)
      rw[Nat.succ_mul] at this
      omega
     have ha:cap.off+(i*k+j)<arr.size:=by
      rw[o2]
      have:=Nat.mul_le_mul_right k (show d'.size<=cap.n by rw[hd's,<-hnl];exact o3')
      omega
     have e1:(i*k+j) / k=i:=by
      rw[Nat.mul_comm,Nat.mul_add_div (by omega),Nat.div_eq_of_lt hjk,Nat.add_zero]
     have e2:(i*k+j) % k=j:=by rw[Nat.mul_comm,Nat.mul_add_mod,Nat.mod_eq_of_lt hjk]
     refine⟨x.vs[j],?_,.inl (.imm (x.rel j c _ hc (List.getElem?_eq_getElem hjv))),x.h1 _ (List.getElem_mem _)⟩
     unfold putCells
     rw[Array.getElem?_mapIdx,Array.getElem?_eq_getElem ha,Option.map_some,if_pos ⟨Nat.le_add_right _ _,by rw[size_flatK];omega⟩,Nat.add_sub_cancel_left,get_flatK z9i.vs k d' _ hij,e1,e2]
     have hx2:d'[i]! = x:=by
      rw[getElem!_pos d' i hi]
      rw[Array.getElem?_eq_getElem hi] at hx
      exact Option.some.inj hx
     rw[hx2]
     show some ((x.vs)[j]!)=_
     rw[getElem!_pos x.vs j hjv]
  ·rename_i hne
   by_cases hd:q5d hp q=.dead
   ·rw[hd];exact q7j.dead' _
   ·refine q7j.congr (fun b' cap' hbb=>hother nd d' os b' (q0x hd hbb (hown q)) (fun e=>?_)) (fun x hx=>hother nd d' os x (hhid q x hd hx).1 ((hhid q x hd hx).2.2.1 id b cap hlid hb)) (hown q)
    subst e
    exact hne (hinj id q b' cap cap' hlid hd hb hbb)
 ·have hq:=hlive q hq
  exact⟨hpriv q b' cap' hq hbq,fun _ hF=>(hF q hq).1 cap' hbq⟩
end Go.Pv
namespace Go.Pv
open Go
set_option linter.unusedVariables false
section
variable{K:Ctx}{Q:q2q}{S:St}
variable{ops:Array Oper}{rest:List Oper}{ty:TypeId}{pos:String}{after:Array Edge}{g:Option (Nat×Bool)}
def q0u{α:Type}(e k:Nat)(enc:α->List V)(r:List α):List V:=[.dsl e k (r.map enc)]
theorem set_set{α:Type}(l:List α)(i:Nat)(a b:α):(l.set i a).set i b=l.set i b:=by
 induction l generalizing i with
 |nil=>rfl
 |cons x l ih=>cases i with
  |zero=>rfl
  |succ i=>simp[ih]
theorem csub_nil(e k:Nat):CSub Idn (.dsl e k []) (.con (.slice none 0 0)):=fun m β m' β' w B x hy hx=>by
 have h:=hx.v rfl
 have:=h.of_con
 subst this
 exact .inr (.nil e k none)
theorem ghost_eqH{env:Env}{hp:q0l}(hp':q0l){nx:Nat}(h:∀q,q5d hp' q=q5d hp q):q7h K ⟨env,hp,nx⟩ ⟨env,hp',nx⟩:=fun m β w a r=>⟨m,β,r.congr (fun _=>rfl) h rfl⟩
theorem hget_self{i:Nat}{b:Ob}{hp:q0l}:q5d ((i,b)::hp) i=b:=by rw[q7c,if_pos rfl]
theorem aops_makeSliceD{α:Type}{d T e k bytes e2 k2:Nat}{x:Operand}{n:Int}{zs:List Value}{ln:Nat}(enc:α->List V)(rows:List (List V))(hT:tyEl K.P T e k bytes=true)(hz:zeroCells K.P e=some zs)
  (h1:zs.all (·.oneCell')=true) (hk:Nat.blt 0 k=true) (hzn:zs=[.slice none 0 0]) (h0:0<=n/\(bytes:Int)*n<=140737488355328/\n<=140737488355328) (hr:rows=(List.replicate n.toNat ([]:List α)).map (q0u e2 k2 enc)) (hln:ln=n.toNat) (hw:q3g ops S ⟨some d,.makeSlice T x x,ty,pos,after,g⟩ true)
  (hx:evl K S x=.con (.int .i64 n)) (hN:Nat.blt d K.N=true)
  (kk:q1g K ops rest Q ⟨(d,.own S.nx ln)::S.env,(S.nx,.arr e k rows)::S.hp,S.nx+1⟩):
  q1g K ops (⟨some d,.makeSlice T x x,ty,pos,after,g⟩::rest) Q S:=by
 refine q7r (List.replicate n.toNat (zs.map V.con)) hT hz h1 hk h0 rfl hln hw hx hN ?_
 refine q5f (ghost_tellC S.nx (.arr e k rows) (ob0:=.arr e k (List.replicate n.toNat (zs.map V.con))) hget_self ?_) (q5f (ghost_eqH ((S.nx,.arr e k rows)::S.hp) (fun q=>?_)) kk)
 ·subst hr hzn
  refine⟨rfl,rfl,by simp,fun i r r' h h'=>?_⟩
  rw[List.getElem?_map,List.getElem?_replicate] at h
  rw[List.getElem?_replicate] at h'
  split at h
  ·rename_i hi
   rw[if_pos hi] at h'
   simp only[Option.map_some,Option.some.injEq] at h h'
   subst h h'
   refine⟨by simp[q0u],fun j c c' hc hc'=>?_⟩
   match j with
   |0=>
    simp[q0u] at hc hc'
    subst hc hc'
    exact csub_nil e2 k2
   |j+1=>simp[q0u] at hc
  ·simp at h
 ·simp only[q7c]
  split<;>rfl
theorem z3d{α:Type}{d id k j e e2 k2 nx:Nat}{x:Operand}{T:TypeId}{xs:List (List α)}{row:List α}(enc:α->List V)(hT:tyC K.P T=true)
  (hw:q3g ops S ⟨some d,.load T x,ty,pos,after,g⟩ true) (hx:evl K S x=.ptr id k j 0) (ho:q5d S.hp id=.arr e k (xs.map (q0u e2 k2 enc))) (hr:xs[j]? = some row) (hnx:S.nx=nx) (hN:Nat.blt d K.N=true)
  (kk:q1g K ops rest Q ⟨(d,.own nx row.length)::S.env,(id,.arr e k (setC (xs.map (q0u e2 k2 enc)) j (q0u e2 k2 enc row) 0 (.own nx row.length)))::(nx,.arr e2 k2 (row.map enc))::S.hp,nx+1⟩):
  q1g K ops (⟨some d,.load T x,ty,pos,after,g⟩::rest) Q S:=by
 have hrow:(xs.map (q0u e2 k2 enc))[j]? = some (q0u e2 k2 enc row):=by rw[List.getElem?_map,hr];rfl
 have hg:=ghost_take (K:=K) (S:=S) id j 0 nx ho hrow (show(q0u e2 k2 enc row)[0]? = some (.dsl e2 k2 (row.map enc)) from rfl) hnx
 rw[List.length_map] at hg
 refine q5f hg ?_
 have hj:j<xs.length:=(List.getElem?_eq_some_iff.1 hr).1
 refine z8i (id:=id) (k:=k) (i:=j) (o:=0) (e:=e) (rows:=setC (xs.map (q0u e2 k2 enc)) j (q0u e2 k2 enc row) 0 (.own nx row.length)) (.own nx row.length) hT hw ?_ hget_self (row:=[.own nx row.length]) ?_ rfl rfl hN kk
 ·cases x<;>exact hx
 ·unfold setC
  rw[List.getElem?_set_self (by simpa using hj)]
  rfl
theorem q6w{α:Type}{id k j e e2 k2 id2 n2:Nat}{x y:Operand}{T:TypeId}{xs:List (List α)}{ys:List α}{r0:List V}{c0:V}(enc:α->List V)(hkp:∀z,Keeps (enc z))(xs':List (List α))(hT:tyS K.P T 1=true)
  (hw:q3g ops S ⟨none,.store T x y,ty,pos,after,g⟩ true) (hx:evl K S x=.ptr id k j 0) (hy:evl K S y=.own id2 n2) (ho:q5d S.hp id=.arr e k (setC (xs.map (q0u e2 k2 enc)) j r0 0 c0)) (hr0:r0.length=1) (hj:j<xs.length)
  (ho2:q5d S.hp id2=.arr e2 k2 (ys.map enc)) (hn:n2=ys.length) (hne:Nat.beq id id2=false) (hxs:xs.set j ys=xs')
  (kk:q1g K ops rest Q ⟨S.env,(id,.arr e k (xs'.map (q0u e2 k2 enc)))::(id2,.dead)::S.hp,S.nx⟩):
  q1g K ops (⟨none,.store T x y,ty,pos,after,g⟩::rest) Q S:=by
 subst hxs
 have hr1:(setC (xs.map (q0u e2 k2 enc)) j r0 0 c0)[j]? = some (r0.set 0 c0):=by
  unfold setC
  rw[List.getElem?_set_self (by simpa using hj)]
 obtain⟨u,rfl⟩:∃u,r0=[u]:=by
  match r0,hr0 with
  |[u],_=>exact⟨u,rfl⟩
 have hrows:(setC (xs.map (q0u e2 k2 enc)) j [u] 0 c0).set j [.own id2 n2]=(xs.map (q0u e2 k2 enc)).set j [.own id2 n2]:=by
  unfold setC;rw[set_set]
 have hid:id≠id2:=fun h=>by rw[h,Nat.beq_refl] at hne;simp at hne
 refine aops_store [.own id2 n2] ((xs.map (q0u e2 k2 enc)).set j [.own id2 n2]) hT hw hx hy rfl rfl ho hr1 (by simp) (by simpa using hrows) ?_
 have h1:q5d ((id,Ob.arr e k ((xs.map (q0u e2 k2 enc)).set j [.own id2 n2]))::S.hp) id2=.arr e2 k2 (ys.map enc):=by rw[q7c,if_neg hid];exact ho2
 have hg:=ghost_untake (K:=K) (S:=⟨S.env,(id,.arr e k ((xs.map (q0u e2 k2 enc)).set j [.own id2 n2]))::S.hp,S.nx⟩) id j 0 id2 hget_self (List.getElem?_set_self (show j<(xs.map (q0u e2 k2 enc)).length by simpa using hj)) (show([.own id2 n2]:List V)[0]? = some (.own id2 n2) from rfl)
  h1 (by rw[hn,List.length_map]) hne (fun r hr=>by obtain⟨z,_,rfl⟩:=List.mem_map.1 hr;exact hkp z)
 have he:setC ((xs.map (q0u e2 k2 enc)).set j [.own id2 n2]) j [.own id2 n2] 0 (.dsl e2 k2 (ys.map enc))=(xs.set j ys).map (q0u e2 k2 enc):=by
  unfold setC
  rw[set_set,List.map_set]
  rfl
 rw[he] at hg
 refine q5f hg (q5f (ghost_eqH ((id,.arr e k ((xs.set j ys).map (q0u e2 k2 enc)))::(id2,.dead)::S.hp) fun q=>?_) kk)
 simp only[q7c]
 repeat' split
 all_goals rfl
theorem ghost_frzDE{α:Type}(id t:Nat){e k e2 k2 n:Nat}{xs:List (List α)}(enc:α->List V)(hi:∀z,q1p (enc z))(encL:List α->List V)(hL:∀r,encL r=[.lst k2 (r.map enc)])(ho:q5d S.hp id=.arr e k (xs.map (q0u e2 k2 enc)))(ht:get S.env t=.own id n)(hn:n=xs.length):
  q7h K S ⟨(t,.lst k (xs.map encL))::S.env,(id,.dead)::S.hp,S.nx⟩:=by
 obtain rfl:encL=fun r=>[.lst k2 (r.map enc)]:=funext hL
 refine ghost_freezeD id (xs.map fun r=>[.lst k2 (r.map enc)]) _ _ ho (by simp) (fun i r r' h h'=>?_) (fun i j r r' c c' h h' hc hc'=>?_) (envPut (fun _=>Sub.keep) (by rw[ht];exact Sub.frzAll (by rw[hn,List.length_map]))) hpFrz0 (by simp[q7c])
 ·rw[List.getElem?_map] at h h'
  cases hx:xs[i]? with
  |none=>rw[hx] at h;simp at h
  |some u=>rw[hx] at h h';simp at h h';subst h h';rfl
 ·rw[List.getElem?_map] at h h'
  cases hx:xs[i]? with
  |none=>rw[hx] at h;simp at h
  |some u=>
   rw[hx] at h h'
   simp only[Option.map_some,Option.some.injEq] at h h'
   subst h h'
   match j with
   |0=>
    simp[q0u] at hc hc'
    subst hc hc'
    exact⟨und_rows hi u,z9f.dsl _ _ _⟩
   |j+1=>simp[q0u] at hc
instance {α:Type} {e k:Nat} {enc:α->List V}:EK (q0u e k enc):=⟨fun x c hc=>by
 have:c=.dsl e k (x.map enc):=by simpa[q0u] using hc
 subst this
 exact z9f.dsl _ _ _⟩
end
theorem bk{α β:Type}{o:Option α}{k:α->Option β}{r:β}{P:Prop}(h:o.bind k=some r)(c:∀y,o=some y->k y=some r->P):P:=by
 obtain⟨y,a,b⟩:=bind_some h
 exact c y a b
theorem pure_nilAt{gl:Gl}{P:Program}{f:FuncId}{args args':List V}{d:V}{k:Nat}(i:Nat)(h1:args'[i]? = some (.con (.slice none 0 0)))(h2:args=args'.set i (.lst k []))(h:z8o gl P f args d):z8o gl P f args' d:=fun m w vs hm hg ha=>by
 subst h2
 refine h m w vs hm hg ⟨by simpa using ha.1,fun j c v hc hv=>?_⟩
 rw[List.getElem?_set] at hc
 by_cases e:i=j
 ·subst e
  have hi:=(List.getElem?_eq_some_iff.1 h1).1
  rw[if_pos rfl,if_pos hi] at hc
  cases hc
  have:=ha.2 i _ v h1 hv
  cases this
  exact .nil _ _ _
 ·rw[if_neg e] at hc
  exact ha.2 j c v hc hv
end Go.Pv
