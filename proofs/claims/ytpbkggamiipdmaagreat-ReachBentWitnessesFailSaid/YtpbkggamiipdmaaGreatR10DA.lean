/- Part of the proof: ZS, ZV, DA. -/
import Derived.Test.YtpbkggamiipdmaaGreatR10ZA
import Derived.Shelf.SlSortCmp.NoneTotal
import Derived.Test.YtpbkggamiipdmaaGreatR10ZC
import Derived.Lib.SlicesDelete
import Derived.Lib.SliceRun
import Derived.Test.YtpbkggamiipdmaaGreatR10WA
namespace Go.Pv
open Go Go.RowKit Go.Sort Go.Proofs
def q1q{T:Type}(cmp:T->T->Option Int)(x y:T):Bool:=match cmp x y with|some c=>decide (c<0)|none=>false
def v4v{T:Type}(cmp:T->T->Option Int)(l:List T):Bool:=
 l.all fun x=>!q1q cmp x x&&l.all fun y=>(cmp x y).isSome&&l.all fun z=>(!(q1q cmp x y&&q1q cmp y z)||q1q cmp x z)&&(q1q cmp x y||q1q cmp y z||!q1q cmp x z)
def v6v{T:Type}(cmp:T->T->Option Int):List T->Bool
 |[]=>true
 |x::l=>l.all (fun y=>q1q cmp x y||q1q cmp y x)&&v6v cmp l
def w8t{T:Type}(cmp:T->T->Option Int):List T->Bool
 |[]=>true
 |x::l=>l.all (fun y=>!q1q cmp y x)&&w8t cmp l
def w6i{T:Type}(cmp:T->T->Option Int)(l:List T):Option (List T):=
 bif v4v cmp l&&v6v cmp l&&w8t cmp (l.mergeSort fun x y=>!q1q cmp y x)&&Nat.blt l.length 4611686018427387904 then some (l.mergeSort fun x y=>!q1q cmp y x) else none
theorem w0g{T:Type}{cmp:T->T->Option Int}:∀{l:List T},w8t cmp l=true->l.Pairwise fun x y=>q1q cmp y x=false
 |[],_=>.nil
 |x::l,h=>by
  simp only[w8t,Bool.and_eq_true,List.all_eq_true,Bool.not_eq_true'] at h
  exact .cons h.1 (w0g h.2)
theorem j2e{T:Type}{cmp:T->T->Option Int}:∀{l:List T},v6v cmp l=true->∀x∈l,∀y∈l,q1q cmp x y=false->q1q cmp y x=false->x=y
 |[],_,x,hx,_,_,_,_=>by simp at hx
 |z::l,h,x,hx,y,hy,h1,h2=>by
  simp only[v6v,Bool.and_eq_true,List.all_eq_true,Bool.or_eq_true] at h
  rcases List.mem_cons.1 hx with e|hx'
  ·rcases List.mem_cons.1 hy with e'|hy'
   ·rw[e,e']
   ·rw[e] at h1 h2
    rcases h.1 y hy' with q|q
    ·rw[q] at h1;simp at h1
    ·rw[q] at h2;simp at h2
  ·rcases List.mem_cons.1 hy with e'|hy'
   ·rw[e'] at h1 h2
    rcases h.1 x hx' with q|q
    ·rw[q] at h2;simp at h2
    ·rw[q] at h1;simp at h1
   ·exact j2e h.2 x hx' y hy' h1 h2
structure z0l{T:Type}(l:List T)(enc:T->List V)(k:Nat)(m:Mem) where
 t:T
 mem:t∈l
 vs:List Value
 hl:vs.length=k
 h1:∀v∈vs,v.oneCell'=true
 rel:∀(j:Nat) (c:V) (v:Value),(enc t)[j]? = some c->vs[j]? = some v->q3o m c v
theorem w3d{m m':Mem}{w w':World}(h:y8d m m' w w'):∃q os,w'=grow (w.drewN q) os:=by
 obtain⟨q,hq⟩:=Nat.exists_eq_add_of_le h.same.drawn
 refine⟨q,w'.heap.extract w.heap.size w'.heap.size,?_⟩
 have hh:w'.heap=w.heap++w'.heap.extract w.heap.size w'.heap.size:=by
  apply Array.ext'
  simp only[Array.toList_append,Array.toList_extract]
  apply List.ext_getElem?
  intro i
  by_cases hi:i<w.heap.size
  ·rw[List.getElem?_append_left (by simpa using hi)]
   have:=h.heap i hi
   simpa using this
  ·rw[List.getElem?_append_right (by simpa using Nat.le_of_not_lt hi)]
   have hs:=h.size
   by_cases h2:i<w'.heap.size
   ·rw[List.getElem?_take_of_lt (by simp;omega),List.getElem?_drop]
    congr 1
    simp;omega
   ·rw[List.getElem?_eq_none (by simpa using h2),List.getElem?_eq_none (by simp;omega)]
 obtain⟨h0,h1,h2,h3,h4⟩:=w
 obtain⟨g0,g1,g2,g3,g4⟩:=w'
 have s1:=h.same.os;have s2:=h.same.tape;have s3:=h.same.output
 simp only at hh hq s1 s2 s3
 subst s1 s2 s3 hq
 simp only[grow,World.drewN]
 rw[<-hh]
theorem j4k{α T:Type}[Inhabited α]{f:α->T}{r:T->T->Prop}{d:Array α}(h:∀i j,0<=i->i<j->j<d.size->r (f d[i]!) (f d[j]!)):(d.toList.map f).Pairwise r:=by
 rw[List.pairwise_iff_getElem]
 intro i j hi hj hij
 have hi':i<d.size:=by simpa using hi
 have hj':j<d.size:=by simpa using hj
 have:=h i j (Nat.zero_le _) hij hj'
 rw[getElem!_pos d i hi',getElem!_pos d j hj'] at this
 simpa using this
theorem w4o{gl:Gl}{P:Program}{g:FuncId}{m:Mem}{T:Type}{l:List T}{enc:T->List V}{k:Nat}{w:World}{b off size:Nat}{cs:Array Value}{caps:List V}{cmp:T->T->Option Int}[Inhabited (z0l l enc k m)](hek:∀x,(enc x).length=k)(hgl:v7g gl m)
  (hcl:caps.length=cs.size) (hcr:∀(i:Nat) (c:V) (v:Value),caps[i]? = some c->cs[i]? = some v->q3o m c v)
  (himm:∀(nd:Nat) (dk:Array (z0l l enc k m)) (os:Array Obj) (b':Nat) (o:Obj),m b'=some o->(sortWorldK z0l.vs k w b off nd dk os).heap[b']? = some o)
  (hcmp:∀x y c,cmp x y=some c->z0r gl P g ([.agg (enc x),.agg (enc y)]++caps) (.con (.int .i64 c)))
  (hd:∀x∈l,∀y∈l,(cmp x y).isSome=true):CmpLays P g cs (z0l.vs (l:=l) (enc:=enc) (k:=k) (m:=m)) k (fun x y=>(cmp x.t y.t).getD 0) b off size w:=by
 intro nd os dk _ x y
 have hi:=himm nd dk os
 generalize sortWorldK z0l.vs k w b off nd dk os=W at hi
 obtain⟨c,hc⟩:=Option.isSome_iff_exists.1 (hd x.t x.mem y.t y.mem)
 have hrelx:∀x:z0l l enc k m,q3o m (.agg (enc x.t)) (.agg x.vs.toArray):=fun x=>.agg (by simp[hek,x.hl]) fun i c v h1 h2=>x.rel i c v h1 (by simpa using h2)
 have hrels:v0v m ([.agg (enc x.t),.agg (enc y.t)]++caps) (#[.agg x.vs.toArray,.agg y.vs.toArray]++cs):=by
  refine⟨by simp[hcl];omega,fun i c' v' h1 h2=>?_⟩
  match i,h1,h2 with
  |0,h1,h2=>
   simp at h1
   rw[Array.getElem?_append_left (by simp)] at h2
   simp at h2
   rw[<-h1,<-h2];exact hrelx x
  |1,h1,h2=>
   simp at h1
   rw[Array.getElem?_append_left (by simp)] at h2
   simp at h2
   rw[<-h1,<-h2];exact hrelx y
  |i+2,h1,h2=>
   refine hcr i c' v' (by simpa using h1) ?_
   rw[Array.getElem?_append_right (by simp)] at h2
   simpa using h2
 refine Calls.mono (hcmp x.t y.t c hc m W _ hi hgl hrels) ?_
 rintro ex w' ⟨v',m',rfl,hv',hgr⟩
 cases hv'
 refine⟨?_,w3d hgr⟩
 show Ending.returned (.int .i64 c)=.returned (.int .i64 ((cmp x.t y.t).getD 0))
 rw[hc];rfl
set_option maxHeartbeats 1000000 in
theorem w1b{gl:Gl}{P:Program}{f g:FuncId}{kk id:Nat}{hp:q2l}{e:TypeId}{k:Nat}{T:Type}(enc:T->List V)(hek:∀x,(enc x).length=k)(hei:∀x,q7p (enc x))(caps:List V)(hci:q7p caps)(cmp:T->T->Option Int)(l r:List T)
  (hid:q5d hp id=.arr e k (l.map enc)) (hr:w6i cmp l=some r)
  (hcmp:∀x y c,cmp x y=some c->z0r gl P g ([.agg (enc x),.agg (enc y)]++caps) (.con (.int .i64 c)))
  (h:∀{α:Type} [Inhabited α] (q6u:α->List Value) (_:∀x,(q6u x).length=k) (_:∀x,∀v∈q6u x,v.oneCell'=true) (cf:α->α->Int) (_:SWO (ltOf cf)) (cb:Array Value) (blk off cap:Nat) (d:Array α) (w:World) (_:CmpLays P g cb q6u k cf blk off d.size w) (_:HoldsK q6u k w blk off d) (_:blk<w.heap.size) (_:d.size<4611686018427387904),
   Calls P f #[.slice (some ⟨blk,off,none⟩) d.size cap,.func (.func g) #[] cb] w fun e w'=>e=.returned (.tuple #[])/\∃d' n os,PermIn 0 d.size d d'/\SortedIn (ltOf cf) 0 d.size d'/\w'=sortWorldK q6u k w blk off n d' os)
  (hn:∀(p:Option Addr) (cap:Nat) (fv:Value) (w:World),Calls P f #[.slice p 0 cap,fv] w fun e w'=>e=.returned (.tuple #[])/\w'=w):
  v7k gl P f [.own id l.length,.fn (.func g) [] caps] kk hp (.tup []) kk ((id,.arr e k (r.map enc))::hp):=by
 intro m β w vs himm hgl hargs hown hpriv hinj hhid hnx
 obtain⟨v,u,rfl⟩:∃v u,vs=#[v,u]:=by
  have:=hargs.len
  simp at this
  refine⟨vs[0],vs[1],?_⟩
  apply Array.ext
  ·simp[<-this]
  ·intro i h1 h2
   have:i=0\/i=1:=by simp at h2;omega
   rcases this with rfl|rfl<;>simp
 have hv:=hargs.at' 0 _ _ rfl rfl
 have hu:=hargs.at' 1 _ _ rfl rfl
 have hob:=hown id
 rw[hid] at hob
 unfold w6i at hr
 cases hguard:(v4v cmp l&&v6v cmp l&&w8t cmp (l.mergeSort fun x y=>!q1q cmp y x)&&Nat.blt l.length 4611686018427387904) with
 |false=>rw[hguard] at hr;simp at hr
 |true=>
 rw[hguard] at hr
 simp only[cond_true,Option.some.injEq] at hr
 simp only[Bool.and_eq_true] at hguard
 obtain⟨⟨⟨hswo,hdst⟩,hasc⟩,hlen⟩:=hguard
 have hlen:l.length<4611686018427387904:=Nat.le_of_ble_eq_true hlen
 have hperm:r.Perm l:=by rw[<-hr];exact List.mergeSort_perm _ _
 have hrl:r.length=l.length:=hperm.length_eq
 rw[hr] at hasc
 have hsorted:=w0g hasc
 have hswo':∀x∈l,q1q cmp x x=false/\∀y∈l,(cmp x y).isSome=true/\∀z∈l,(q1q cmp x y=true->q1q cmp y z=true->q1q cmp x z=true)/\(q1q cmp x y=false->q1q cmp y z=false->q1q cmp x z=false):=by
  intro x hx
  unfold v4v at hswo
  have h1:=List.all_eq_true.1 hswo x hx
  simp only[Bool.and_eq_true,Bool.not_eq_true',List.all_eq_true] at h1
  refine⟨h1.1,fun y hy=>?_⟩
  have h2:=h1.2 y hy
  refine⟨h2.1,fun z hz=>?_⟩
  have h3:=h2.2 z hz
  revert h3
  cases q1q cmp x y<;>cases q1q cmp y z<;>cases q1q cmp x z<;>simp
 have hg:∀q,q5d ((id,Ob.arr e k (r.map enc))::hp) q=if id=q then Ob.arr e k (r.map enc) else q5d hp q:=fun q=>q1d _ _ _ _
 have hlive:∀q,q5d ((id,Ob.arr e k (r.map enc))::hp) q≠.dead->q5d hp q≠.dead:=fun q hq=>by
  rw[hg] at hq
  split at hq
  ·rename_i hh;subst hh;rw[hid];simp
  ·exact hq
 have hhids:∀(w':World),w.heap.size<=w'.heap.size->∀q x,q5d ((id,Ob.arr e k (r.map enc))::hp) q≠.dead->β.hid q x->x<w'.heap.size/\m x=none/\(x<w.heap.size->¬q1u hp β x)/\
   (∀i b c,q5d ((id,Ob.arr e k (r.map enc))::hp) i≠.dead->β i=some (some (b,c))->x≠b)/\∀i,q5d ((id,Ob.arr e k (r.map enc))::hp) i≠.dead->β.hid i x->i=q:=by
  intro w' hs q x hq hx
  obtain⟨q1,q2,q3,q4⟩:=hhid q x (hlive q hq) hx
  exact⟨by omega,q2,fun _ hF=>(hF q (hlive q hq)).2 hx,fun i b c hi=>q3 i b c (hlive i hi),fun i hi=>q4 i (hlive i hi)⟩
 obtain⟨cs,rfl,hcl,hcr⟩:∃cs:Array Value,u=.func (.func g) #[] cs/\caps.length=cs.size/\∀(i:Nat) (c:V) (v:Value),caps[i]? = some c->cs[i]? = some v->q3o m c v:=by
  cases hu with
  |imm h'=>
   cases h' with
   | @fn _ _ _ fs cs hl hl' hf hc=>
    have:fs=#[]:=Array.eq_empty_of_size_eq_zero (by simpa using hl.symm)
    subst this
    exact⟨cs,rfl,hl',hc⟩
  | @fn _ _ _ fs cs hl hl' hf hc=>
   have:fs=#[]:=Array.eq_empty_of_size_eq_zero (by simpa using hl.symm)
   subst this
   exact⟨cs,rfl,hl',fun i c v h1 h2=>(hci c (List.mem_of_getElem? h1)).2 _ _ _ (hc i c v h1 h2)⟩
 by_cases hnil:l=[]
 ·subst hnil
  have hrn:r=[]:=List.length_eq_zero_iff.1 hrl
  subst hrn
  obtain⟨p,c,rfl⟩:∃p c,v=.slice p 0 c:=by
   cases hv with
   |imm h'=>cases h'
   |ownNil hb=>exact⟨_,_,rfl⟩
   |own hb=>exact⟨_,_,rfl⟩
  refine(hn p c _ w).mono ?_
  rintro ex w' ⟨rfl,rfl⟩
  have hsm:∀q,q5d ((id,Ob.arr e k (([]:List T).map enc))::hp) q=q5d hp q:=fun q=>by
   rw[hg]
   split
   ·rename_i hh;subst hh;rw[hid]
   ·rfl
  refine⟨_,m,β,rfl,.tup rfl (by simp),Mem.le_refl _,himm,fun b hb _=>⟨rfl,rfl⟩,Nat.le_refl _,⟨rfl,rfl,rfl,Nat.le_refl _⟩,fun q=>?_,fun q b cap hq hbq=>?_,fun q q' b cap cap' hq hq'=>hinj q q' b cap cap' (hlive q hq) (hlive q' hq'),hhids w' (Nat.le_refl _),hnx,fun q hq=>⟨hq,rfl⟩⟩
  ·rw[hsm];exact hown q
  ·have hq:=hlive q hq
   exact⟨hpriv q b cap hq hbq,fun _ hF=>(hF q hq).1 cap hbq⟩
 generalize hnl:l.length=n at hv
 cases hv with
 |imm h'=>cases h'
 | @ownNil _ ad hb=>exact absurd (List.length_eq_zero_iff.1 hnl) hnil
 | @own _ _ b cap hb=>
 rw[hb] at hob
 obtain⟨arr,bl,o1,o2,o3,o4,o5,oB,o6⟩:=hob
 have hbs:b<w.heap.size:=q0i o1
 have o3':l.length<=cap.n:=by simpa using o3
 have hlid:q5d hp id≠.dead:=by rw[hid];simp
 have hmb:m b=none:=hpriv id b cap hlid hb
 have hcell:∀(i:Nat) (hi:i<l.length) (j:Nat) (c:V),(enc l[i])[j]? = some c->∃v,arr[cap.off+(i*k+j)]? = some v/\q3o m c v/\v.oneCell'=true:=fun i hi j c hc=>by
  obtain⟨v,v1,v2,v3⟩:=o6 i j (enc l[i]) c (by simp[List.getElem?_eq_getElem hi]) hc
  have hI:=hei l[i] c (List.mem_of_getElem? hc)
  exact⟨v,v1,hI.2 _ _ _ (v2.v hI.1),v3⟩
 have hrow:∀i:Fin l.length,∃x:z0l l enc k m,x.t=l[i.1]/\∀j,j<k->arr[cap.off+(i.1*k+j)]? = x.vs[j]?:=fun i=>by
  have q5d:∀j,j<k->∃c v,(enc l[i.1])[j]? = some c/\arr[cap.off+(i.1*k+j)]? = some v/\q3o m c v/\v.oneCell'=true:=fun j hj=>by
   have hj':j<(enc l[i.1]).length:=by rw[hek];exact hj
   obtain⟨v,hv⟩:=hcell i.1 i.2 j _ (List.getElem?_eq_getElem hj')
   exact⟨_,v,List.getElem?_eq_getElem hj',hv⟩
  have hvs:∀j,j<k->((List.range k).map fun j=>arr[cap.off+(i.1*k+j)]!)[j]? = arr[cap.off+(i.1*k+j)]?:=fun j hj=>by
   obtain⟨c,v,h1,h2,h3⟩:=q5d j hj
   rw[List.getElem?_map,List.getElem?_range hj,Option.map_some,h2]
   have hlt:=(Array.getElem?_eq_some_iff.1 h2).1
   rw[getElem!_pos arr _ hlt]
   rw[Array.getElem?_eq_getElem hlt] at h2
   exact h2
  refine⟨⟨l[i.1],List.getElem_mem _,(List.range k).map fun j=>arr[cap.off+(i.1*k+j)]!,by simp,fun v hv=>?_,fun j c v hc hv=>?_⟩,rfl,fun j hj=>(hvs j hj).symm⟩
  ·obtain⟨j,hj⟩:=List.getElem?_of_mem hv
   have hjk:j<k:=by have:=(List.getElem?_eq_some_iff.1 hj).1;simpa using this
   obtain⟨c,v',h1,h2,h3,h4⟩:=q5d j hjk
   rw[hvs j hjk,h2] at hj
   cases hj
   exact h4
  ·have hjk:j<k:=by have:=(List.getElem?_eq_some_iff.1 hv).1;simpa using this
   obtain⟨c',v',h1,h2,h3,h4⟩:=q5d j hjk
   rw[hvs j hjk,h2] at hv
   cases hv
   rw[h1] at hc
   cases hc
   exact h3
 obtain⟨row,hrow⟩:∃row:Fin l.length->z0l l enc k m,∀i,(row i).t=l[i.1]/\∀j,j<k->arr[cap.off+(i.1*k+j)]? = (row i).vs[j]?:=⟨fun i=>(hrow i).choose,fun i=>(hrow i).choose_spec⟩
 haveI:Inhabited (z0l l enc k m):=⟨row ⟨0,List.length_pos_iff.2 hnil⟩⟩
 obtain⟨d,hds,hdi⟩:∃d:Array (z0l l enc k m),d.size=n/\∀i (hi:i<l.length),d[i]! = row ⟨i,hi⟩:=by
  refine⟨Array.ofFn row,by simp[hnl],fun i hi=>?_⟩
  rw[getElem!_pos _ i (by simpa using hi)]
  simp
 have hdt:d.toList.map z0l.t=l:=by
  apply List.ext_getElem?
  intro i
  by_cases hi:i<l.length
  ·have:i<d.size:=by rw[hds,<-hnl];exact hi
   rw[List.getElem?_map,Array.getElem?_toList,Array.getElem?_eq_getElem this,Option.map_some,List.getElem?_eq_getElem hi]
   have h2:=hdi i hi
   rw[getElem!_pos d i this] at h2
   rw[h2,(hrow ⟨i,hi⟩).1]
  ·rw[List.getElem?_eq_none (by simp[hds,<-hnl];omega),List.getElem?_eq_none (by omega)]
 have hlt:∀x y:z0l l enc k m,ltOf (fun x y:z0l l enc k m=>(cmp x.t y.t).getD 0) x y=q1q cmp x.t y.t:=fun x y=>by
  have:=((hswo' x.t x.mem).2 y.t y.mem).1
  show decide ((cmp x.t y.t).getD 0<0)=_
  unfold q1q
  cases hc:cmp x.t y.t with
  |none=>rw[hc] at this;simp at this
  |some c=>rfl
 have hSW:SWO (ltOf (fun x y:z0l l enc k m=>(cmp x.t y.t).getD 0)):=by
  refine⟨fun x=>?_,fun x y z h1 h2=>?_,fun x y z h1 h2=>?_⟩
  ·rw[hlt];exact(hswo' x.t x.mem).1
  ·rw[hlt] at *;exact(((hswo' x.t x.mem).2 y.t y.mem).2 z.t z.mem).1 h1 h2
  ·rw[hlt] at *;exact(((hswo' x.t x.mem).2 y.t y.mem).2 z.t z.mem).2 h1 h2
 have hheap:∀(nd:Nat) (dk:Array (z0l l enc k m)) (os:Array Obj) (b':Nat),b'<w.heap.size->(sortWorldK z0l.vs k w b cap.off nd dk os).heap[b']? = if b=b' then (w.heap[b']?).map (onCells (putCells _root_.id cap.off (flatK z0l.vs k dk))) else w.heap[b']?:=fun nd dk os b' hb'=>z9a _root_.id w nd b cap.off (flatK z0l.vs k dk) os b' hb'
 have hother:∀(nd:Nat) (dk:Array (z0l l enc k m)) (os:Array Obj) (b':Nat),b'<w.heap.size->b'≠b->(sortWorldK z0l.vs k w b cap.off nd dk os).heap[b']? = w.heap[b']?:=fun nd dk os b' h1 h2=>by rw[hheap nd dk os b' h1,if_neg (Ne.symm h2)]
 have himm':∀(nd:Nat) (dk:Array (z0l l enc k m)) (os:Array Obj) (b':Nat) (o:Obj),m b'=some o->(sortWorldK z0l.vs k w b cap.off nd dk os).heap[b']? = some o:=fun nd dk os b' o hb'=>by
  have hne:b'≠b:=fun e=>by rw[e,hmb] at hb';simp at hb'
  rw[hother nd dk os b' (q0i (himm b' o hb')) hne]
  exact himm b' o hb'
 have hC:=w4o (size:=d.size) (w:=w) (b:=b) (off:=cap.off) hek hgl hcl hcr himm' hcmp fun x hx y hy=>((hswo' x hx).2 y hy).1
 have hH:HoldsK z0l.vs k w b cap.off d:=by
  intro j hj
  have hjd:j<d.size*k:=by simpa using hj
  have hk0:0<k:=by
   rcases Nat.eq_zero_or_pos k with h0|h0
   ·rw[show d.size*k=0 from by rw[Nat.mul_eq_zero];exact .inr h0] at hjd;omega
   ·exact h0
  have hi:j / k<l.length:=by rw[hnl,<-hds];exact Nat.div_lt_of_lt_mul (by rw[Nat.mul_comm];exact hjd)
  have hjk:j % k<k:=Nat.mod_lt _ hk0
  refine⟨?_,by simp[World.frozen?,o1]⟩
  rw[get_flatK z0l.vs k d j hjd,hdi _ hi,q0j o1]
  have h2:=(hrow ⟨j / k,hi⟩).2 (j % k) hjk
  have e1:j / k*k+j % k=j:=by rw[Nat.mul_comm];exact Nat.div_add_mod j k
  simp only[e1] at h2
  rw[h2]
  have hlt2:j % k<(row ⟨j / k,hi⟩).vs.length:=by rw[(row ⟨j / k,hi⟩).hl];exact hjk
  rw[List.getElem?_eq_getElem hlt2]
  show _=some ((row ⟨j / k,hi⟩).vs[j % k]!)
  rw[getElem!_pos (row ⟨j / k,hi⟩).vs (j % k) hlt2]
 have hcall:=h z0l.vs (fun x=>x.hl) (fun x=>x.h1) _ hSW cs b cap.off cap.n d w hC hH hbs (by rw[hds,<-hnl];exact hlen)
 rw[hds] at hcall
 refine hcall.mono ?_
 rintro ex w' ⟨rfl,d',nd,os,hP,hS,rfl⟩
 obtain⟨p1,_,p3⟩:=hP
 have hd's:d'.size=n:=by rw[p1,hds]
 have hd'p:d'.toList.Perm d.toList:=by
  have e1:d'.extract 0 n=d':=by rw[<-hd's];exact Array.extract_size
  have e2:d.extract 0 n=d:=by rw[<-hds];exact Array.extract_size
  rwa [e1,e2] at p3
 have hd't:d'.toList.map z0l.t=r:=by
  refine List.Perm.eq_of_pairwise (le:=fun x y=>q1q cmp y x=false) (fun x y h1 h2 h3 h4=>?_) ?_ hsorted (((hd'p.map z0l.t).trans (by rw[hdt])).trans hperm.symm)
  ·exact j2e hdst x (((hd'p.map z0l.t).trans (by rw[hdt])).mem_iff.1 h1) y (hperm.mem_iff.1 h2) h4 h3
  ·refine j4k (f:=z0l.t) (r:=fun x y=>q1q cmp y x=false) fun i j hi hij hj=>?_
   rw[<-hlt]
   exact hS i j hi hij (by rw[<-hd's];exact hj)
 have hsz:w.heap.size<=(sortWorldK z0l.vs k w b cap.off nd d' os).heap.size:=by simp[sortWorldK,putRowK,grow,putRow,mapBlock,Sort.ahead]
 refine⟨_,m,β,rfl,.tup rfl (by simp),Mem.le_refl _,himm' nd d' os,fun b' hb' hF=>⟨rfl,hother nd d' os b' hb' (fun e=>?_)⟩,hsz,⟨rfl,rfl,rfl,Nat.le_add_right _ _⟩,fun q=>?_,fun q b' cap' hq hbq=>?_,fun q q' b1 cap1 cap2 hq hq'=>hinj q q' b1 cap1 cap2 (hlive q hq) (hlive q' hq'),hhids _ hsz,hnx,fun q hq=>⟨hq,rfl⟩⟩
 ·subst e;exact(hF id hlid).1 cap hb
 ·rw[hg]
  split
  ·rename_i hh
   subst hh
   rw[hb]
   refine⟨putCells _root_.id cap.off (flatK z0l.vs k d') arr,bl,by rw[hheap nd d' os b hbs,if_pos rfl,o1];rfl,by simp[putCells,o2],by simpa[hrl] using o3,o4,?_,oB,fun i j rw' c hr' hc=>?_⟩
   ·intro rw' hr'
    obtain⟨x,_,rfl⟩:=List.mem_map.1 hr'
    exact hek x
   ·rw[<-hd't,List.map_map,List.getElem?_map,Array.getElem?_toList] at hr'
    cases hx:d'[i]? with
    |none=>rw[hx] at hr';simp at hr'
    |some x=>
     rw[hx] at hr'
     simp at hr'
     subst hr'
     have hi:i<d'.size:=(Array.getElem?_eq_some_iff.1 hx).1
     have hjk:j<k:=by have:=(List.getElem?_eq_some_iff.1 hc).1;rwa [hek] at this
     have hjv:j<x.vs.length:=by rw[x.hl];exact hjk
     have hij:i*k+j<d'.size*k:=by
      have:=Nat.mul_le_mul_right k (show i+1<=d'.size from hi)
      rw[Nat.succ_mul] at this
      omega
     have ha:cap.off+(i*k+j)<arr.size:=by
      rw[o2]
      have:=Nat.mul_le_mul_right k (show d'.size<=cap.n by rw[hd's,<-hnl];exact o3')
      omega
     have e1:(i*k+j) / k=i:=by
      rw[Nat.mul_comm,Nat.mul_add_div (by omega),Nat.div_eq_of_lt hjk,Nat.add_zero]
     have e2:(i*k+j) % k=j:=by rw[Nat.mul_comm,Nat.mul_add_mod,Nat.mod_eq_of_lt hjk]
     refine⟨x.vs[j],?_,.inl (.imm (x.rel j c _ hc (List.getElem?_eq_getElem hjv))),x.h1 _ (List.getElem_mem _)⟩
     unfold putCells
     rw[Array.getElem?_mapIdx,Array.getElem?_eq_getElem ha,Option.map_some,if_pos ⟨Nat.le_add_right _ _,by rw[size_flatK];omega⟩,Nat.add_sub_cancel_left,get_flatK z0l.vs k d' _ hij,e1,e2]
     have hx2:d'[i]! = x:=by
      rw[getElem!_pos d' i hi]
      rw[Array.getElem?_eq_getElem hi] at hx
      exact Option.some.inj hx
     rw[hx2]
     show some ((x.vs)[j]!)=_
     rw[getElem!_pos x.vs j hjv]
  ·rename_i hne
   by_cases hd:q5d hp q=.dead
   ·rw[hd];exact q2k.dead' _
   ·refine q2k.congr (fun b' cap' hbb=>hother nd d' os b' (q7v hd hbb (hown q)) (fun e=>?_)) (fun x hx=>hother nd d' os x (hhid q x hd hx).1 ((hhid q x hd hx).2.2.1 id b cap hlid hb)) (hown q)
    subst e
    exact hne (hinj id q b' cap cap' hlid hd hb hbb)
 ·have hq:=hlive q hq
  exact⟨hpriv q b' cap' hq hbq,fun _ hF=>(hF q hq).1 cap' hbq⟩
end Go.Pv
namespace Go.Pv
open Go Go.RowKit Go.Lib
set_option linter.unusedVariables false
set_option linter.unusedSimpArgs false
theorem j3n{P:Program}{n:Nat}(w:World)(t e ty:TypeId)(z:Value)(ht:P.underlying t=some (.slice e))(hv:∀w,(zeroValue e).run P w=.ok z w)(h1:∀v∈(Builtin.zeroCells z.cells n).toList,v.oneCell'=true)(b o c:Nat)(hn:0<n)
  (hc:∀j,j<n*z.cells.size->(w.cell? ⟨b,o+j,none⟩).isSome=true) (hf:∀j,j<n*z.cells.size->w.frozen? ⟨b,o+j,none⟩=false):
  (Builtin.clear_ #[t] ty #[.slice (some ⟨b,o,none⟩) n c]).run P w=.ok (.tuple #[]) (w.setCells b o (Builtin.zeroCells z.cells n).toList):=by
 have hl:(Builtin.zeroCells z.cells n).toList.length=n*z.cells.size:=by simp[Builtin.zeroCells]
 have hst:=run_storeCells_cells (P:=P) b o (Builtin.zeroCells z.cells n).toList 0 w (by rw[hl];simpa using hc) (by rw[hl];simpa using hf) h1
 simp only[Nat.add_zero] at hst
 obtain⟨m,rfl⟩:∃m,n=m+1:=⟨n - 1,by omega⟩
 simp[Builtin.clear_,run_underlying ht,hv,hst]
theorem v3l{z:Array Value}{n:Nat}(h:z.all (·.oneCell')=true):∀v∈(Builtin.zeroCells z n).toList,v.oneCell'=true:=by
 intro v hv
 simp only[Builtin.zeroCells,Array.toList_map,List.mem_map,Array.mem_toList_iff,Array.mem_range] at hv
 obtain⟨t,ht,rfl⟩:=hv
 have h0:0<z.size:=by
  rcases Nat.eq_zero_or_pos z.size with q|q
  ·rw[q] at ht;simp at ht
  ·exact q
 rw[getElem!_pos z _ (Nat.mod_lt _ h0)]
 exact Array.all_eq_true.1 h _ (Nat.mod_lt _ h0)
theorem j4e{α:Type}(d:Array α)(i j:Nat)(zs:List α)(hz:zs.length=j - i)(hij:i<=j)(hj:j<=d.size):
  lay (lay d i (d.toList.drop j)) (i+(d.size - j)) zs=(d.toList.take i++d.toList.drop j++zs).toArray:=by
 apply Array.ext_getElem?
 intro t
 have l1:(d.toList.take i).length=i:=by simp;omega
 have l2:(d.toList.drop j).length=d.size - j:=by simp
 rw[lay_get? _ _ _ _ (by rw[lay_size];omega),lay_get? _ _ _ _ (by rw[l2];omega),show(d.toList.take i++d.toList.drop j++zs).toArray[t]? = (d.toList.take i++d.toList.drop j++zs)[t]? from List.getElem?_toArray]
 simp only[hz,l2]
 by_cases c1:t<i
 ·rw[if_neg (by omega),if_neg (by omega),List.getElem?_append_left (by simp;omega),List.getElem?_append_left (by omega),List.getElem?_take,if_pos c1,Array.getElem?_toList]
 ·by_cases c2:t<i+(d.size - j)
  ·rw[if_neg (by omega),if_pos (by omega),List.getElem?_append_left (by simp;omega),List.getElem?_append_right (by omega),l1]
  ·rw[List.getElem?_append_right (by simp;omega)]
   simp only[List.length_append,l1,l2]
   by_cases c3:t<d.size
   ·rw[if_pos (by omega)]
   ·rw[if_neg (by omega),if_neg (by omega),Array.getElem?_eq_none (by omega),List.getElem?_eq_none (by omega)]
def v1l(P:Program)(f:FuncId)(k:Nat):Prop:=∀(blk off cap n i j:Nat) (d:Array Value) (w:World),d.size=n*k->(∀x,x∈d.toList->x.oneCell'=true)->Go.Sort.Holds (fun v=>v) w blk off d->n<=cap->cap<=9223372036854775807->i<=j->j<=n->
 Calls P f #[.slice (some ⟨blk,off,none⟩) n cap,.int .i64 i,.int .i64 j] w fun e w'=>e=.returned (.slice (some ⟨blk,off,none⟩) (n - (j - i)) cap)/\∃q zs,zs.length=(j - i)*k/\w'=Go.Sort.putRow (fun v=>v) (Sort.ahead w q) blk off (d.toList.take (i*k)++d.toList.drop (j*k)++zs).toArray
def w3i(P:Program)(f:FuncId):Prop:=∀(a:Option Addr) (w:World),Calls P f #[.slice a 0 0,.int .i64 0,.int .i64 0] w fun e w'=>e=.returned (.slice a 0 0)/\w'=w
theorem w0k{vs:Array Value}(h:vs.size=3):∃a b c,vs=#[a,b,c]:=by
 obtain⟨l⟩:=vs
 match l,h with
 |[a,b,c],_=>exact⟨a,b,c,rfl⟩
theorem w8d{d:Array Value}{k i j:Nat}{zs:List Value}{n t c:Nat}(hd:d.size=n*k)(hij:i<=j)(hj:j<=n)(hc:c<k)(ht:t<n - (j - i)):
  (d.toList.take (i*k)++d.toList.drop (j*k)++zs)[t*k+c]? = d[(if t<i then t else t+(j - i))*k+c]?:=by
 have hik:i*k<=j*k:=Nat.mul_le_mul_right _ hij
 have hjk:j*k<=n*k:=Nat.mul_le_mul_right _ hj
 have l1:(d.toList.take (i*k)).length=i*k:=by simp;omega
 have l2:(d.toList.drop (j*k)).length=n*k - j*k:=by simp[hd]
 have hN:(n - (j - i))*k=i*k+(n*k - j*k):=by
  rw[Nat.sub_mul,Nat.sub_mul];omega
 have h1:t*k+k<=(n - (j - i))*k:=by
  rw[<-Nat.succ_mul];exact Nat.mul_le_mul_right _ ht
 rw[List.getElem?_append_left (by rw[List.length_append,l1,l2];omega)]
 by_cases hti:t<i
 ·have h2:t*k+k<=i*k:=by rw[<-Nat.succ_mul];exact Nat.mul_le_mul_right _ hti
  rw[if_pos hti,List.getElem?_append_left (by rw[l1];omega),List.getElem?_take,if_pos (by omega),Array.getElem?_toList]
 ·have h2:i*k<=t*k:=Nat.mul_le_mul_right _ (by omega)
  rw[if_neg hti,List.getElem?_append_right (by rw[l1];omega),l1,List.getElem?_drop,Array.getElem?_toList]
  congr 1
  rw[Nat.add_mul,Nat.sub_mul];omega
open Go.Sort in
theorem j3c{gl:Gl}{P:Program}{f:FuncId}{kk id:Nat}{hp:q2l}{e:TypeId}{k:Nat}{T:Type}(enc:T->List V)(hek:∀x,(enc x).length=k)(hnd:∀x,q7p (enc x))(l:List T)(i j:Int)
  (hid:q5d hp id=.arr e k (l.map enc)) (hD:v1l P f k) (hn:w3i P f) (hc:0<=i/\i<=j/\j.toNat<=l.length):
  v7k gl P f [.own id l.length,.con (.int .i64 i),.con (.int .i64 j)] kk hp (.own id (l.take i.toNat++l.drop j.toNat).length) kk ((id,.arr e k ((l.take i.toNat++l.drop j.toNat).map enc))::hp):=by
 obtain⟨h0,hij,hjl⟩:=hc
 obtain⟨i,rfl⟩:=Int.eq_ofNat_of_zero_le h0
 obtain⟨j,rfl⟩:=Int.eq_ofNat_of_zero_le (Int.le_trans h0 hij)
 simp only[Int.ofNat_eq_natCast,Int.toNat_natCast] at hij hjl ⊢
 have hij:i<=j:=by omega
 intro m β w vs himm _ hargs hown hpriv hinj hhid hnx
 obtain⟨v,u1,u2,rfl⟩:=w0k (vs:=vs) (by have:=hargs.len;simpa using this.symm)
 have hv:=hargs.at' 0 _ _ rfl rfl
 have hu1:=(hargs.at' 1 _ _ rfl rfl).of_con
 have hu2:=(hargs.at' 2 _ _ rfl rfl).of_con
 subst hu1 hu2
 have hob:=hown id
 rw[hid] at hob
 have hl':(l.take i++l.drop j).length=l.length - (j - i):=by simp;omega
 generalize hr:l.take i++l.drop j=l' at hl' ⊢
 have hg:∀q,q5d ((id,Ob.arr e k (l'.map enc))::hp) q=if id=q then Ob.arr e k (l'.map enc) else q5d hp q:=fun q=>q1d _ _ _ _
 have hlive:∀q,q5d ((id,Ob.arr e k (l'.map enc))::hp) q≠.dead->q5d hp q≠.dead:=fun q hq=>by
  rw[hg] at hq
  split at hq
  ·rename_i hh;subst hh;rw[hid];simp
  ·exact hq
 have hhids:∀(w':World),w.heap.size<=w'.heap.size->∀q x,q5d ((id,Ob.arr e k (l'.map enc))::hp) q≠.dead->β.hid q x->x<w'.heap.size/\m x=none/\(x<w.heap.size->¬q1u hp β x)/\
   (∀i b c,q5d ((id,Ob.arr e k (l'.map enc))::hp) i≠.dead->β i=some (some (b,c))->x≠b)/\∀i,q5d ((id,Ob.arr e k (l'.map enc))::hp) i≠.dead->β.hid i x->i=q:=by
  intro w' hs q x hq hx
  obtain⟨q1,q2,q3,q4⟩:=hhid q x (hlive q hq) hx
  exact⟨by omega,q2,fun _ hF=>(hF q (hlive q hq)).2 hx,fun i b c hi=>q3 i b c (hlive i hi),fun i hi=>q4 i (hlive i hi)⟩
 generalize hnl:l.length=n at hv hjl hl'
 cases hv with
 |imm h'=>cases h'
 | @ownNil _ ad hb=>
  have hj0:j=0:=by omega
  have hi0:i=0:=by omega
  subst hj0 hi0
  have hl0:l=[]:=List.length_eq_zero_iff.1 hnl
  subst hl0
  simp at hr
  subst hr
  refine(hn ad w).mono ?_
  rintro ex w' ⟨rfl,rfl⟩
  refine⟨_,m,β,rfl,.ownNil hb,Mem.le_refl _,himm,fun b hb _=>⟨rfl,rfl⟩,Nat.le_refl _,⟨rfl,rfl,rfl,Nat.le_refl _⟩,fun q=>?_,fun q b cap hq hbq=>?_,fun q q' b cap cap' hq hq'=>hinj q q' b cap cap' (hlive q hq) (hlive q' hq'),hhids w' (Nat.le_refl _),hnx,fun q hq=>⟨hq,rfl⟩⟩
  ·rw[hg]
   split
   ·rename_i hh;subst hh;rw[hb];simp[q2k]
   ·exact hown q
  ·have hq:=hlive q hq
   exact⟨hpriv q b cap hq hbq,fun _ hF=>(hF q hq).1 cap hbq⟩
 | @own _ _ b cap hb=>
  rw[hb] at hob
  obtain⟨arr,bl,o1,o2,o3,o4,o5,oB,o6⟩:=hob
  have hbs:b<w.heap.size:=q0i o1
  rw[List.length_map,hnl] at o3
  have hnk:n*k<=cap.n*k:=Nat.mul_le_mul_right _ o3
  obtain⟨d,hd⟩:∃d,d=arr.extract cap.off (cap.off+n*k):=⟨_,rfl⟩
  have hds:d.size=n*k:=by rw[hd];simp;omega
  have hdg:∀t,t<n*k->d[t]? = arr[cap.off+t]?:=fun t ht=>by rw[hd,Array.getElem?_extract,if_pos (by omega)]
  have hcell:∀t c,t<n->c<k->∃v cv row,l[t]? = some row/\(enc row)[c]? = some cv/\arr[cap.off+(t*k+c)]? = some v/\q3m m β cv v/\v.oneCell'=true:=fun t c ht hc=>by
   have ht':t<l.length:=by omega
   have hc':c<(enc l[t]).length:=by rw[hek];exact hc
   obtain⟨v,v1,v2,v3⟩:=o6 t c (enc l[t]) (enc l[t])[c] (by rw[List.getElem?_map,List.getElem?_eq_getElem ht'];rfl) (List.getElem?_eq_getElem hc')
   exact⟨v,_,l[t],List.getElem?_eq_getElem ht',List.getElem?_eq_getElem hc',v1,v2.v (hnd _ _ (List.getElem_mem hc')).1,v3⟩
  have hone:∀x,x∈d.toList->x.oneCell'=true:=by
   intro x hx
   obtain⟨t,ht,rfl⟩:=List.getElem_of_mem hx
   have ht':t<n*k:=by rw[<-hds];simpa using ht
   have hk:0<k:=by
    rcases Nat.eq_zero_or_pos k with h|h
    ·subst h;simp at ht'
    ·exact h
   obtain⟨v,_,_,_,_,a1,_,a2⟩:=hcell (t / k) (t % k) (Nat.div_lt_of_lt_mul (by rw[Nat.mul_comm];exact ht')) (Nat.mod_lt _ hk)
   have e1:t / k*k+t % k=t:=by rw[Nat.mul_comm];exact Nat.div_add_mod t k
   rw[e1,<-hdg t ht'] at a1
   have:d.toList[t]=v:=by
    have:d.toList[t]? = some v:=by rw[Array.getElem?_toList];exact a1
    rw[List.getElem?_eq_getElem ht] at this
    exact Option.some.inj this
   rw[this];exact a2
  have hcm:cap.n<=9223372036854775807:=o4
  refine(hD b cap.off cap.n n i j d w hds hone (fun t ht=>?_) o3 hcm hij hjl).mono ?_
  ·have ht':t<n*k:=by rw[<-hds];exact ht
   have hx:=hdg t ht'
   rw[Array.getElem?_eq_getElem ht] at hx
   rw[getElem!_pos d t ht]
   exact⟨(q0j o1).trans hx.symm,by simp[World.frozen?,o1]⟩
  rintro ex w' ⟨rfl,nd,zs,hzs,rfl⟩
  obtain⟨new,hnew⟩:∃new,new=d.toList.take (i*k)++d.toList.drop (j*k)++zs:=⟨_,rfl⟩
  have hik:i*k<=j*k:=Nat.mul_le_mul_right _ hij
  have hjk:j*k<=n*k:=Nat.mul_le_mul_right _ hjl
  have hnewl:new.length=n*k:=by
   rw[hnew,List.length_append,List.length_append,hzs,Nat.sub_mul,List.length_take,List.length_drop,Array.length_toList,hds];omega
  rw[<-hnew]
  have hheap:=z9a (fun v:Value=>v) w nd b cap.off new.toArray #[]
  rw[<-v0q] at hheap
  have hother:∀b',b'<w.heap.size->b'≠b->(putRow (fun v:Value=>v) (Sort.ahead w nd) b cap.off new.toArray).heap[b']? = w.heap[b']?:=fun b' h1 h2=>by rw[hheap b' h1,if_neg (Ne.symm h2)]
  have hlid:q5d hp id≠.dead:=by rw[hid];simp
  have hsz:w.heap.size<=(putRow (fun v:Value=>v) (Sort.ahead w nd) b cap.off new.toArray).heap.size:=by simp[putRow,mapBlock,Sort.ahead]
  have hres:q3m m β (.own id l'.length) (.slice (some ⟨b,cap.off,none⟩) (n - (j - i)) cap.n):=by rw[hl'];exact .own hb
  refine⟨_,m,β,rfl,hres,Mem.le_refl _,fun b' o hb'=>?_,fun b' hb' hF=>⟨rfl,hother b' hb' (fun e=>?_)⟩,hsz,⟨rfl,rfl,rfl,Nat.le_add_right _ _⟩,fun q=>?_,fun q b' cap' hq hbq=>?_,fun q q' b1 cap1 cap2 hq hq'=>hinj q q' b1 cap1 cap2 (hlive q hq) (hlive q' hq'),hhids _ hsz,hnx,fun q hq=>⟨hq,rfl⟩⟩
  ·have hne:b'≠b:=fun e=>by
    subst e
    rw[hpriv id b' cap hlid hb] at hb'
    simp at hb'
   rw[hother b' (q0i (himm b' o hb')) hne]
   exact himm b' o hb'
  ·subst e;exact(hF id hlid).1 cap hb
  ·rw[hg]
   split
   ·rename_i hh
    subst hh
    rw[hb]
    refine⟨putCells (fun v:Value=>v) cap.off new.toArray arr,bl,by rw[hheap b hbs,if_pos rfl,o1];rfl,by simp[putCells,o2],by rw[List.length_map,hl'];omega,o4,?_,oB,fun t c row cv hr' hcv=>?_⟩
    ·intro row hr'
     obtain⟨x,_,rfl⟩:=List.mem_map.1 hr'
     exact hek x
    ·rw[List.getElem?_map] at hr'
     cases hli:l'[t]? with
     |none=>rw[hli] at hr';simp at hr'
     |some x=>
      rw[hli] at hr'
      simp at hr'
      subst hr'
      have ht:t<l'.length:=(List.getElem?_eq_some_iff.1 hli).1
      rw[hl'] at ht
      have hck:c<k:=by
       have:=(List.getElem?_eq_some_iff.1 hcv).1
       rw[hek] at this;exact this
      obtain⟨v,cv',row',a1,a2,a3,a4,a5⟩:=hcell (if t<i then t else t+(j - i)) c (by split<;>omega) hck
      have hrow:row'=x:=by
       have:l'[t]? = l[if t<i then t else t+(j - i)]?:=by
        rw[<-hr]
        by_cases hti:t<i
        ·rw[if_pos hti,List.getElem?_append_left (by simp;omega),List.getElem?_take,if_pos hti]
        ·rw[if_neg hti,List.getElem?_append_right (by simp;omega),List.getElem?_drop]
         congr 1
         simp;omega
       rw[hli,a1] at this
       exact(Option.some.inj this).symm
      subst hrow
      rw[hcv] at a2
      simp only[Option.some.injEq] at a2
      subst a2
      have hpos:t*k+c<n*k:=by
       have h1:t*k+k<=n*k:=by rw[<-Nat.succ_mul];exact Nat.mul_le_mul_right _ (by omega)
       omega
      have ha:cap.off+(t*k+c)<arr.size:=by rw[o2];omega
      refine⟨v,?_,.inl a4,a5⟩
      unfold putCells
      rw[Array.getElem?_mapIdx,Array.getElem?_eq_getElem ha,Option.map_some,if_pos ⟨Nat.le_add_right _ _,by simp[hnewl];omega⟩,Nat.add_sub_cancel_left,getElem!_pos _ (t*k+c) (by simp[hnewl];exact hpos)]
      have hfg:=w8d (zs:=zs) hds hij hjl hck ht
      rw[<-hnew,List.getElem?_eq_getElem (by rw[hnewl];exact hpos)] at hfg
      have hq:(if t<i then t else t+(j - i))*k+c<n*k:=by
       have h1:(if t<i then t else t+(j - i))+1<=n:=by split<;>omega
       have h2:=Nat.mul_le_mul_right k h1
       rw[Nat.succ_mul] at h2;omega
      rw[hdg _ hq,a3] at hfg
      simpa using hfg
   ·by_cases hd0:q5d hp q=.dead
    ·rw[hd0];exact q2k.dead' _
    ·refine q2k.congr (fun b' cap' hbb=>hother b' (q7v hd0 hbb (hown q)) (fun e=>?_)) (fun x hx=>hother x (hhid q x hd0 hx).1 ((hhid q x hd0 hx).2.2.1 id b cap hlid hb)) (hown q)
     subst e
     rename_i hne
     exact hne (hinj id q b' cap cap' hlid hd0 hb hbb)
  ·have hq:=hlive q hq
   exact⟨hpriv q b' cap' hq hbq,fun _ hF=>(hF q hq).1 cap' hbq⟩
end Go.Pv
namespace Go.Pv
open Go
set_option linter.unusedVariables false
section
variable{K:Ctx}{Q:q0r}{S:St}
variable{ops:Array Oper}{rest:List Oper}{ty:TypeId}{pos:String}{after:Array Edge}{g:Option (Nat×Bool)}
def q6u{α:Type}(e k:Nat)(enc:α->List V)(r:List α):List V:=[.dsl e k (r.map enc)]
theorem v9y{α:Type}(l:List α)(i:Nat)(a b:α):(l.set i a).set i b=l.set i b:=by
 induction l generalizing i with
 |nil=>rfl
 |cons x l ih=>cases i with
  |zero=>rfl
  |succ i=>simp[ih]
theorem w3o(e k:Nat):v2l Idn (.dsl e k []) (.con (.slice none 0 0)):=fun m β m' β' w B x hy hx=>by
 have h:=hx.v rfl
 have:=h.of_con
 subst this
 exact .inr (.nil e k none)
theorem v3b{env:Env}{hp:q2l}(hp':q2l){nx:Nat}(h:∀q,q5d hp' q=q5d hp q):q8h K ⟨env,hp,nx⟩ ⟨env,hp',nx⟩:=fun m β w a r=>⟨m,β,r.congr (fun _=>rfl) h rfl⟩
theorem j6d{i:Nat}{b:Ob}{hp:q2l}:q5d ((i,b)::hp) i=b:=by rw[q1d,if_pos rfl]
theorem j1f{α:Type}{d T e k bytes e2 k2:Nat}{x:Operand}{n:Int}{zs:List Value}{ln:Nat}(enc:α->List V)(rows:List (List V))(hT:z0s K.P T e k bytes=true)(hz:zeroCells K.P e=some zs)
  (h1:zs.all (·.oneCell')=true) (hk:Nat.blt 0 k=true) (hzn:zs=[.slice none 0 0]) (h0:0<=n/\(bytes:Int)*n<=140737488355328/\n<=140737488355328) (hr:rows=(List.replicate n.toNat ([]:List α)).map (q6u e2 k2 enc)) (hln:ln=n.toNat) (hw:q4g ops S ⟨some d,.makeSlice T x x,ty,pos,after,g⟩ true)
  (hx:evl K S x=.con (.int .i64 n)) (hN:Nat.blt d K.N=true)
  (kk:q3g K ops rest Q ⟨(d,.own S.nx ln)::S.env,(S.nx,.arr e k rows)::S.hp,S.nx+1⟩):
  q3g K ops (⟨some d,.makeSlice T x x,ty,pos,after,g⟩::rest) Q S:=by
 refine q8n (List.replicate n.toNat (zs.map V.con)) hT hz h1 hk h0 rfl hln hw hx hN ?_
 refine q8f (j8d S.nx (.arr e k rows) (ob0:=.arr e k (List.replicate n.toNat (zs.map V.con))) j6d ?_) (q8f (v3b ((S.nx,.arr e k rows)::S.hp) (fun q=>?_)) kk)
 ·subst hr hzn
  refine⟨rfl,rfl,by simp,fun i r r' h h'=>?_⟩
  rw[List.getElem?_map,List.getElem?_replicate] at h
  rw[List.getElem?_replicate] at h'
  split at h
  ·rename_i hi
   rw[if_pos hi] at h'
   simp only[Option.map_some,Option.some.injEq] at h h'
   subst h h'
   refine⟨by simp[q6u],fun j c c' hc hc'=>?_⟩
   match j with
   |0=>
    simp[q6u] at hc hc'
    subst hc hc'
    exact w3o e2 k2
   |j+1=>simp[q6u] at hc
  ·simp at h
 ·simp only[q1d]
  split<;>rfl
theorem z7e{α:Type}{d id k j e e2 k2 nx:Nat}{x:Operand}{T:TypeId}{xs:List (List α)}{row:List α}(enc:α->List V)(hT:tyC K.P T=true)
  (hw:q4g ops S ⟨some d,.load T x,ty,pos,after,g⟩ true) (hx:evl K S x=.ptr id k j 0) (ho:q5d S.hp id=.arr e k (xs.map (q6u e2 k2 enc))) (hr:xs[j]? = some row) (hnx:S.nx=nx) (hN:Nat.blt d K.N=true)
  (kk:q3g K ops rest Q ⟨(d,.own nx row.length)::S.env,(id,.arr e k (j9t (xs.map (q6u e2 k2 enc)) j (q6u e2 k2 enc row) 0 (.own nx row.length)))::(nx,.arr e2 k2 (row.map enc))::S.hp,nx+1⟩):
  q3g K ops (⟨some d,.load T x,ty,pos,after,g⟩::rest) Q S:=by
 have hrow:(xs.map (q6u e2 k2 enc))[j]? = some (q6u e2 k2 enc row):=by rw[List.getElem?_map,hr];rfl
 have hg:=v5t (K:=K) (S:=S) id j 0 nx ho hrow (show(q6u e2 k2 enc row)[0]? = some (.dsl e2 k2 (row.map enc)) from rfl) hnx
 rw[List.length_map] at hg
 refine q8f hg ?_
 have hj:j<xs.length:=(List.getElem?_eq_some_iff.1 hr).1
 refine z9k (id:=id) (k:=k) (i:=j) (o:=0) (e:=e) (rows:=j9t (xs.map (q6u e2 k2 enc)) j (q6u e2 k2 enc row) 0 (.own nx row.length)) (.own nx row.length) hT hw ?_ j6d (row:=[.own nx row.length]) ?_ rfl rfl hN kk
 ·cases x<;>exact hx
 ·unfold j9t
  rw[List.getElem?_set_self (by simpa using hj)]
  rfl
theorem q7x{α:Type}{id k j e e2 k2 id2 n2:Nat}{x y:Operand}{T:TypeId}{xs:List (List α)}{ys:List α}{r0:List V}{c0:V}(enc:α->List V)(hkp:∀z,z4v (enc z))(xs':List (List α))(hT:tyS K.P T 1=true)
  (hw:q4g ops S ⟨none,.store T x y,ty,pos,after,g⟩ true) (hx:evl K S x=.ptr id k j 0) (hy:evl K S y=.own id2 n2) (ho:q5d S.hp id=.arr e k (j9t (xs.map (q6u e2 k2 enc)) j r0 0 c0)) (hr0:r0.length=1) (hj:j<xs.length)
  (ho2:q5d S.hp id2=.arr e2 k2 (ys.map enc)) (hn:n2=ys.length) (hne:Nat.beq id id2=false) (hxs:xs.set j ys=xs')
  (kk:q3g K ops rest Q ⟨S.env,(id,.arr e k (xs'.map (q6u e2 k2 enc)))::(id2,.dead)::S.hp,S.nx⟩):
  q3g K ops (⟨none,.store T x y,ty,pos,after,g⟩::rest) Q S:=by
 subst hxs
 have hr1:(j9t (xs.map (q6u e2 k2 enc)) j r0 0 c0)[j]? = some (r0.set 0 c0):=by
  unfold j9t
  rw[List.getElem?_set_self (by simpa using hj)]
 obtain⟨u,rfl⟩:∃u,r0=[u]:=by
  match r0,hr0 with
  |[u],_=>exact⟨u,rfl⟩
 have hrows:(j9t (xs.map (q6u e2 k2 enc)) j [u] 0 c0).set j [.own id2 n2]=(xs.map (q6u e2 k2 enc)).set j [.own id2 n2]:=by
  unfold j9t;rw[v9y]
 have hid:id≠id2:=fun h=>by rw[h,Nat.beq_refl] at hne;simp at hne
 refine z9t [.own id2 n2] ((xs.map (q6u e2 k2 enc)).set j [.own id2 n2]) hT hw hx hy rfl rfl ho hr1 (by simp) (by simpa using hrows) ?_
 have h1:q5d ((id,Ob.arr e k ((xs.map (q6u e2 k2 enc)).set j [.own id2 n2]))::S.hp) id2=.arr e2 k2 (ys.map enc):=by rw[q1d,if_neg hid];exact ho2
 have hg:=v0b (K:=K) (S:=⟨S.env,(id,.arr e k ((xs.map (q6u e2 k2 enc)).set j [.own id2 n2]))::S.hp,S.nx⟩) id j 0 id2 j6d (List.getElem?_set_self (show j<(xs.map (q6u e2 k2 enc)).length by simpa using hj)) (show([.own id2 n2]:List V)[0]? = some (.own id2 n2) from rfl)
  h1 (by rw[hn,List.length_map]) hne (fun r hr=>by obtain⟨z,_,rfl⟩:=List.mem_map.1 hr;exact hkp z)
 have he:j9t ((xs.map (q6u e2 k2 enc)).set j [.own id2 n2]) j [.own id2 n2] 0 (.dsl e2 k2 (ys.map enc))=(xs.set j ys).map (q6u e2 k2 enc):=by
  unfold j9t
  rw[v9y,List.map_set]
  rfl
 rw[he] at hg
 refine q8f hg (q8f (v3b ((id,.arr e k ((xs.set j ys).map (q6u e2 k2 enc)))::(id2,.dead)::S.hp) fun q=>?_) kk)
 simp only[q1d]
 repeat' split
 all_goals rfl
theorem v4j{α:Type}(id t:Nat){e k e2 k2 n:Nat}{xs:List (List α)}(enc:α->List V)(hi:∀z,q7p (enc z))(encL:List α->List V)(hL:∀r,encL r=[.lst k2 (r.map enc)])(ho:q5d S.hp id=.arr e k (xs.map (q6u e2 k2 enc)))(ht:get S.env t=.own id n)(hn:n=xs.length):
  q8h K S ⟨(t,.lst k (xs.map encL))::S.env,(id,.dead)::S.hp,S.nx⟩:=by
 obtain rfl:encL=fun r=>[.lst k2 (r.map enc)]:=funext hL
 refine j3v id (xs.map fun r=>[.lst k2 (r.map enc)]) _ _ ho (by simp) (fun i r r' h h'=>?_) (fun i j r r' c c' h h' hc hc'=>?_) (j2p (fun _=>Sub.keep) (by rw[ht];exact Sub.frzAll (by rw[hn,List.length_map]))) v8a (by simp[q1d])
 ·rw[List.getElem?_map] at h h'
  cases hx:xs[i]? with
  |none=>rw[hx] at h;simp at h
  |some u=>rw[hx] at h h';simp at h h';subst h h';rfl
 ·rw[List.getElem?_map] at h h'
  cases hx:xs[i]? with
  |none=>rw[hx] at h;simp at h
  |some u=>
   rw[hx] at h h'
   simp only[Option.map_some,Option.some.injEq] at h h'
   subst h h'
   match j with
   |0=>
    simp[q6u] at hc hc'
    subst hc hc'
    exact⟨j0t hi u,z7h.dsl _ _ _⟩
   |j+1=>simp[q6u] at hc
instance {α:Type} {e k:Nat} {enc:α->List V}:EK (q6u e k enc):=⟨fun x c hc=>by
 have:c=.dsl e k (x.map enc):=by simpa[q6u] using hc
 subst this
 exact z7h.dsl _ _ _⟩
end
theorem bk{α β:Type}{o:Option α}{k:α->Option β}{r:β}{P:Prop}(h:o.bind k=some r)(c:∀y,o=some y->k y=some r->P):P:=by
 obtain⟨y,a,b⟩:=bind_some h
 exact c y a b
theorem v6s{gl:Gl}{P:Program}{f:FuncId}{args args':List V}{d:V}{k:Nat}(i:Nat)(h1:args'[i]? = some (.con (.slice none 0 0)))(h2:args=args'.set i (.lst k []))(h:z0r gl P f args d):z0r gl P f args' d:=fun m w vs hm hg ha=>by
 subst h2
 refine h m w vs hm hg ⟨by simpa using ha.1,fun j c v hc hv=>?_⟩
 rw[List.getElem?_set] at hc
 by_cases e:i=j
 ·subst e
  have hi:=(List.getElem?_eq_some_iff.1 h1).1
  rw[if_pos rfl,if_pos hi] at hc
  cases hc
  have:=ha.2 i _ v h1 hv
  cases this
  exact .nil _ _ _
 ·rw[if_neg e] at hc
  exact ha.2 j c v hc hv
end Go.Pv
