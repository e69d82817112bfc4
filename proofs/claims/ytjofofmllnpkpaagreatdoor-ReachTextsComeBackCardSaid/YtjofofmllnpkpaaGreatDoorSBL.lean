/- Part of the proof: ZQ, DA, DS, DT, DU, BL. -/
import Derived.Test.YtjofofmllnpkpaaGreatDoorSDC
import Derived.Test.YtjofofmllnpkpaaGreatDoorSZA
import Derived.Test.YtjofofmllnpkpaaGreatDoorSWA
import Derived.Shelf.Strings.Builder1
import Derived.Lib.AppendStr
namespace Go.Pv
open Go Go.RowKit Go.Sort Go.Proofs
set_option linter.unusedVariables false
def idxQ(n:Nat):Array (Fin n):=Array.ofFn fun i=>i
theorem idxQ_size{n:Nat}:(idxQ n).size=n:=by simp[idxQ]
theorem idxQ_get{n:Nat}[Inhabited (Fin n)]{i:Nat}(h:i<n):(idxQ n)[i]! = ⟨i,h⟩:=by
 rw[getElem!_pos _ i (by rw[idxQ_size];exact h)]
 simp[idxQ]
def cfQ{T:Type}(cmp:T->T->Option Int)(l:List T)(x y:Fin l.length):Int:=(cmp l[x.1] l[y.1]).getD 0
open Classical in
noncomputable def srtQ{T:Type}(cmp:T->T->Option Int)(l:List T):Option (List T):=
 bif swoM cmp l&&Nat.blt l.length 4611686018427387904 then
  some (if h:0<l.length then haveI:Inhabited (Fin l.length):=⟨⟨0,h⟩⟩;((pdq (ltOf (cfQ cmp l)) (idxQ l.length) 0 l.length (Lib.bitLen l.length) true true).toList.map fun i=>l[i.1]) else [])
 else none
theorem swoM_at{T:Type}{cmp:T->T->Option Int}{l:List T}(hswo:swoM cmp l=true):∀x∈l,cltM cmp x x=false/\∀y∈l,(cmp x y).isSome=true/\∀z∈l,(cltM cmp x y=true->cltM cmp y z=true->cltM cmp x z=true)/\(cltM cmp x y=false->cltM cmp y z=false->cltM cmp x z=false):=by
 intro x hx
 unfold swoM at hswo
 have h1:=List.all_eq_true.1 hswo x hx
 simp only[Bool.and_eq_true,Bool.not_eq_true',List.all_eq_true] at h1
 refine⟨h1.1,fun y hy=>?_⟩
 have h2:=h1.2 y hy
 refine⟨h2.1,fun z hz=>?_⟩
 have h3:=h2.2 z hz
 revert h3
 cases cltM cmp x y<;>cases cltM cmp y z<;>cases cltM cmp x z<;>simp
theorem lt_cfQ{T:Type}{cmp:T->T->Option Int}{l:List T}(hswo:swoM cmp l=true)(x y:Fin l.length):ltOf (cfQ cmp l) x y=cltM cmp l[x.1] l[y.1]:=by
 have:=((swoM_at hswo l[x.1] (List.getElem_mem _)).2 l[y.1] (List.getElem_mem _)).1
 show decide ((cmp l[x.1] l[y.1]).getD 0<0)=_
 unfold cltM
 cases hc:cmp l[x.1] l[y.1] with
 |none=>rw[hc] at this;simp at this
 |some c=>rfl
theorem swo_cfQ{T:Type}{cmp:T->T->Option Int}{l:List T}(hswo:swoM cmp l=true):SWO (ltOf (cfQ cmp l)):=by
 have hswo':=swoM_at hswo
 refine⟨fun x=>?_,fun x y z h1 h2=>?_,fun x y z h1 h2=>?_⟩
 ·rw[lt_cfQ hswo];exact(hswo' _ (List.getElem_mem _)).1
 ·rw[lt_cfQ hswo] at *;exact(((hswo' _ (List.getElem_mem _)).2 _ (List.getElem_mem _)).2 _ (List.getElem_mem _)).1 h1 h2
 ·rw[lt_cfQ hswo] at *;exact(((hswo' _ (List.getElem_mem _)).2 _ (List.getElem_mem _)).2 _ (List.getElem_mem _)).2 h1 h2
theorem srtQ_parts{T:Type}{cmp:T->T->Option Int}{l r:List T}(hr:srtQ cmp l=some r):swoM cmp l=true/\l.length<4611686018427387904/\∀(h:0<l.length),r=(haveI:Inhabited (Fin l.length):=⟨⟨0,h⟩⟩;((pdq (ltOf (cfQ cmp l)) (idxQ l.length) 0 l.length (Lib.bitLen l.length) true true).toList.map fun i=>l[i.1])):=by
 unfold srtQ at hr
 cases hg:(swoM cmp l&&Nat.blt l.length 4611686018427387904) with
 |false=>rw[hg] at hr;simp at hr
 |true=>
  rw[hg] at hr
  simp only[cond_true,Option.some.injEq] at hr
  simp only[Bool.and_eq_true] at hg
  exact⟨hg.1,Nat.le_of_ble_eq_true hg.2,fun h=>by rw[dif_pos h] at hr;exact hr.symm⟩
theorem srtQ_nil{T:Type}{cmp:T->T->Option Int}:srtQ cmp ([]:List T)=some []:=by
 unfold srtQ
 rw[show(swoM cmp ([]:List T)&&Nat.blt ([]:List T).length 4611686018427387904)=true from rfl]
 simp
theorem idxQ_map{T:Type}(l:List T):(idxQ l.length).toList.map (fun i=>l[i.1])=l:=by
 apply List.ext_getElem
 ·simp[idxQ]
 ·intro i h1 h2
  simp[idxQ]
theorem srtQ_both{T:Type}{cmp:T->T->Option Int}{l r:List T}(hr:srtQ cmp l=some r):r.Perm l/\r.Pairwise fun x y=>cltM cmp y x=false:=by
 by_cases hn:l=[]
 ·subst hn
  rw[srtQ_nil] at hr
  simp at hr;subst hr
  exact⟨.refl _,.nil⟩
 ·obtain⟨h1,h2,h3⟩:=srtQ_parts hr
  have hpos:0<l.length:=List.length_pos_iff.2 hn
  have h:=@pdq_sorts (Fin l.length) ⟨⟨0,hpos⟩⟩ (ltOf (cfQ cmp l)) (swo_cfQ h1) (idxQ l.length) 0 l.length (Lib.bitLen l.length) true true (Nat.zero_le _) (by rw[idxQ_size];exact Nat.le_refl _) (Or.inl rfl)
  have h3:=h3 hpos
  generalize @pdq (Fin l.length) ⟨⟨0,hpos⟩⟩ (ltOf (cfQ cmp l)) (idxQ l.length) 0 l.length (Lib.bitLen l.length) true true=d' at h h3
  letI:Inhabited (Fin l.length):=⟨⟨0,hpos⟩⟩
  obtain⟨⟨p1,_,p3⟩,hS⟩:=h
  have hsz:d'.size=l.length:=by rw[p1,idxQ_size]
  have hp:d'.toList.Perm (idxQ l.length).toList:=by
   have e1:d'.extract 0 l.length=d':=by
    have:=Array.extract_size (xs:=d')
    rwa [hsz] at this
   have e2:(idxQ l.length).extract 0 l.length=idxQ l.length:=by
    have:=Array.extract_size (xs:=idxQ l.length)
    rwa [idxQ_size] at this
   rwa [e1,e2] at p3
  subst h3
  refine⟨(hp.map _).trans (by rw[idxQ_map]),?_⟩
  refine pair_of_sorted (f:=fun i:Fin l.length=>l[i.1]) (r:=fun x y=>cltM cmp y x=false) fun i j hi hij hj=>?_
  rw[<-lt_cfQ h1]
  exact hS i j hi hij (by rw[<-hsz];exact hj)
theorem srtQ_perm{T:Type}{cmp:T->T->Option Int}{l r:List T}(hr:srtQ cmp l=some r):r.Perm l:=(srtQ_both hr).1
theorem srtQ_some{T:Type}{cmp:T->T->Option Int}{l:List T}(h:swoM cmp l=true)(hl:l.length<4611686018427387904):∃r,srtQ cmp l=some r:=by
 unfold srtQ
 have h2:Nat.blt l.length 4611686018427387904=true:=Nat.ble_eq_true_of_le hl
 rw[h,h2]
 exact⟨_,rfl⟩
theorem cmp_laysR{gl:Gl}{P:Program}{g:FuncId}{m:Mem}{T:Type}{l:List T}{enc:T->List V}{k:Nat}{w:World}{b off size:Nat}{cs:Array Value}{caps:List V}{cmp:T->T->Option Int}{α:Type}[Inhabited α](row:α->RowT l enc k m)(hek:∀x,(enc x).length=k)(hgl:GlOk gl m)
  (hcl:caps.length=cs.size) (hcr:∀(i:Nat) (c:V) (v:Value),caps[i]? = some c->cs[i]? = some v->IRel m c v)
  (himm:∀(nd:Nat) (dk:Array α) (os:Array Obj) (b':Nat) (o:Obj),m b'=some o->(sortWorldK (fun a=>(row a).vs) k w b off nd dk os).heap[b']? = some o)
  (hcmp:∀x y c,cmp x y=some c->PureG gl P g ([.agg (enc x),.agg (enc y)]++caps) (.con (.int .i64 c)))
  (hd:∀x∈l,∀y∈l,(cmp x y).isSome=true):CmpLays P g cs (fun a=>(row a).vs) k (fun x y=>(cmp (row x).t (row y).t).getD 0) b off size w:=by
 intro nd os dk _ x0 y0
 have hi:=himm nd dk os
 generalize sortWorldK (fun a=>(row a).vs) k w b off nd dk os=W at hi
 obtain⟨c,hc⟩:=Option.isSome_iff_exists.1 (hd (row x0).t (row x0).mem (row y0).t (row y0).mem)
 have hrelx:∀x:RowT l enc k m,IRel m (.agg (enc x.t)) (.agg x.vs.toArray):=fun x=>.agg (by simp[hek,x.hl]) fun i c v h1 h2=>x.rel i c v h1 (by simpa using h2)
 have hrels:IRels m ([.agg (enc (row x0).t),.agg (enc (row y0).t)]++caps) (#[.agg (row x0).vs.toArray,.agg (row y0).vs.toArray]++cs):=by
  refine⟨by simp[hcl];omega,fun i c' v' h1 h2=>?_⟩
  match i,h1,h2 with
  |0,h1,h2=>
   simp at h1
   rw[Array.getElem?_append_left (by simp)] at h2
   simp at h2
   rw[<-h1,<-h2];exact hrelx (row x0)
  |1,h1,h2=>
   simp at h1
   rw[Array.getElem?_append_left (by simp)] at h2
   simp at h2
   rw[<-h1,<-h2];exact hrelx (row y0)
  |i+2,h1,h2=>
   refine hcr i c' v' (by simpa using h1) ?_
   rw[Array.getElem?_append_right (by simp)] at h2
   simpa using h2
 refine Calls.mono (hcmp (row x0).t (row y0).t c hc m W _ hi hgl hrels) ?_
 rintro ex w' ⟨v',m',rfl,hv',hgr⟩
 cases hv'
 refine⟨?_,grew_grow hgr⟩
 show Ending.returned (.int .i64 c)=.returned (.int .i64 ((cmp (row x0).t (row y0).t).getD 0))
 rw[hc];rfl
set_option maxHeartbeats 1000000 in
theorem mut_sortQ{gl:Gl}{P:Program}{f g:FuncId}{kk id:Nat}{hp:Heap}{e:TypeId}{k:Nat}{T:Type}(enc:T->List V)(hek:∀x,(enc x).length=k)(hei:∀x,Imms (enc x))(caps:List V)(hci:Imms caps)(cmp:T->T->Option Int)(l r:List T)
  (hid:hget hp id=.arr e k (l.map enc)) (hr:srtQ cmp l=some r)
  (hcmp:∀x y c,cmp x y=some c->PureG gl P g ([.agg (enc x),.agg (enc y)]++caps) (.con (.int .i64 c)))
  (h:∀{α:Type} [Inhabited α] (encR:α->List Value) (_:∀x,(encR x).length=k) (_:∀x,∀v∈encR x,v.oneCell'=true) (cf:α->α->Int) (_:SWO (ltOf cf)) (cb:Array Value) (blk off cap:Nat) (d:Array α) (w:World) (_:CmpLays P g cb encR k cf blk off d.size w) (_:HoldsK encR k w blk off d) (_:blk<w.heap.size) (_:d.size<4611686018427387904),
   Calls P f #[.slice (some ⟨blk,off,none⟩) d.size cap,.func (.func g) #[] cb] w fun e w'=>e=.returned (.tuple #[])/\∃n os,w'=sortWorldK encR k w blk off n (pdq (ltOf cf) d 0 d.size (Lib.bitLen d.size) true true) os)
  (hn:∀(p:Option Addr) (cap:Nat) (fv:Value) (w:World),Calls P f #[.slice p 0 cap,fv] w fun e w'=>e=.returned (.tuple #[])/\w'=w):
  MutG gl P f [.own id l.length,.fn (.func g) [] caps] kk hp (.tup []) kk ((id,.arr e k (r.map enc))::hp):=by
 intro m β w vs himm hgl hargs hown hpriv hinj hhid hnx
 obtain⟨v,u,rfl⟩:∃v u,vs=#[v,u]:=by
  have:=hargs.len
  simp at this
  refine⟨vs[0],vs[1],?_⟩
  apply Array.ext
  ·simp[<-this]
  ·intro i h1 h2
   have:i=0\/i=1:=by simp at h2;omega
   rcases this with rfl|rfl<;>simp
 have hv:=hargs.at' 0 _ _ rfl rfl
 have hu:=hargs.at' 1 _ _ rfl rfl
 have hob:=hown id
 rw[hid] at hob
 obtain⟨hswo,hlen,hrd⟩:=srtQ_parts hr
 have hrl:r.length=l.length:=(srtQ_perm hr).length_eq
 have hswo':=swoM_at hswo
 have hg:∀q,hget ((id,Ob.arr e k (r.map enc))::hp) q=if id=q then Ob.arr e k (r.map enc) else hget hp q:=fun q=>hget_put _ _ _ _
 have hlive:∀q,hget ((id,Ob.arr e k (r.map enc))::hp) q≠.dead->hget hp q≠.dead:=fun q hq=>by
  rw[hg] at hq
  split at hq
  ·rename_i hh;subst hh;rw[hid];simp
  ·exact hq
 have hhids:∀(w':World),w.heap.size<=w'.heap.size->∀q x,hget ((id,Ob.arr e k (r.map enc))::hp) q≠.dead->β.hid q x->x<w'.heap.size/\m x=none/\(x<w.heap.size->¬Foreign hp β x)/\
   (∀i b c,hget ((id,Ob.arr e k (r.map enc))::hp) i≠.dead->β i=some (some (b,c))->x≠b)/\∀i,hget ((id,Ob.arr e k (r.map enc))::hp) i≠.dead->β.hid i x->i=q:=by
  intro w' hs q x hq hx
  obtain⟨q1,q2,q3,q4⟩:=hhid q x (hlive q hq) hx
  exact⟨by omega,q2,fun _ hF=>(hF q (hlive q hq)).2 hx,fun i b c hi=>q3 i b c (hlive i hi),fun i hi=>q4 i (hlive i hi)⟩
 obtain⟨cs,rfl,hcl,hcr⟩:∃cs:Array Value,u=.func (.func g) #[] cs/\caps.length=cs.size/\∀(i:Nat) (c:V) (v:Value),caps[i]? = some c->cs[i]? = some v->IRel m c v:=by
  cases hu with
  |imm h'=>
   cases h' with
   | @fn _ _ _ fs cs hl hl' hf hc=>
    have:fs=#[]:=Array.eq_empty_of_size_eq_zero (by simpa using hl.symm)
    subst this
    exact⟨cs,rfl,hl',hc⟩
  | @fn _ _ _ fs cs hl hl' hf hc=>
   have:fs=#[]:=Array.eq_empty_of_size_eq_zero (by simpa using hl.symm)
   subst this
   exact⟨cs,rfl,hl',fun i c v h1 h2=>(hci c (List.mem_of_getElem? h1)).2 _ _ _ (hc i c v h1 h2)⟩
 by_cases hnil:l=[]
 ·subst hnil
  have hrn:r=[]:=List.length_eq_zero_iff.1 hrl
  subst hrn
  obtain⟨p,c,rfl⟩:∃p c,v=.slice p 0 c:=by
   cases hv with
   |imm h'=>cases h'
   |ownNil hb=>exact⟨_,_,rfl⟩
   |own hb=>exact⟨_,_,rfl⟩
  refine(hn p c _ w).mono ?_
  rintro ex w' ⟨rfl,rfl⟩
  have hsm:∀q,hget ((id,Ob.arr e k (([]:List T).map enc))::hp) q=hget hp q:=fun q=>by
   rw[hg]
   split
   ·rename_i hh;subst hh;rw[hid]
   ·rfl
  refine⟨_,m,β,rfl,.tup rfl (by simp),Mem.le_refl _,himm,fun b hb _=>⟨rfl,rfl⟩,Nat.le_refl _,⟨rfl,rfl,rfl,Nat.le_refl _⟩,fun q=>?_,fun q b cap hq hbq=>?_,fun q q' b cap cap' hq hq'=>hinj q q' b cap cap' (hlive q hq) (hlive q' hq'),hhids w' (Nat.le_refl _),hnx,fun q hq=>⟨hq,rfl⟩⟩
  ·rw[hsm];exact hown q
  ·have hq:=hlive q hq
   exact⟨hpriv q b cap hq hbq,fun _ hF=>(hF q hq).1 cap hbq⟩
 generalize hnl:l.length=n at hv
 cases hv with
 |imm h'=>cases h'
 | @ownNil _ ad hb=>exact absurd (List.length_eq_zero_iff.1 hnl) hnil
 | @own _ _ b cap hb=>
 rw[hb] at hob
 obtain⟨arr,bl,o1,o2,o3,o4,o5,oB,o6⟩:=hob
 have hbs:b<w.heap.size:=lt_of_some o1
 have o3':l.length<=cap.n:=by simpa using o3
 have hlid:hget hp id≠.dead:=by rw[hid];simp
 have hmb:m b=none:=hpriv id b cap hlid hb
 have hcell:∀(i:Nat) (hi:i<l.length) (j:Nat) (c:V),(enc l[i])[j]? = some c->∃v,arr[cap.off+(i*k+j)]? = some v/\IRel m c v/\v.oneCell'=true:=fun i hi j c hc=>by
  obtain⟨v,v1,v2,v3⟩:=o6 i j (enc l[i]) c (by simp[List.getElem?_eq_getElem hi]) hc
  have hI:=hei l[i] c (List.mem_of_getElem? hc)
  exact⟨v,v1,hI.2 _ _ _ (v2.v hI.1),v3⟩
 have hrow:∀i:Fin l.length,∃x:RowT l enc k m,x.t=l[i.1]/\∀j,j<k->arr[cap.off+(i.1*k+j)]? = x.vs[j]?:=fun i=>by
  have hget:∀j,j<k->∃c v,(enc l[i.1])[j]? = some c/\arr[cap.off+(i.1*k+j)]? = some v/\IRel m c v/\v.oneCell'=true:=fun j hj=>by
   have hj':j<(enc l[i.1]).length:=by rw[hek];exact hj
   obtain⟨v,hv⟩:=hcell i.1 i.2 j _ (List.getElem?_eq_getElem hj')
   exact⟨_,v,List.getElem?_eq_getElem hj',hv⟩
  have hvs:∀j,j<k->((List.range k).map fun j=>arr[cap.off+(i.1*k+j)]!)[j]? = arr[cap.off+(i.1*k+j)]?:=fun j hj=>by
   obtain⟨c,v,h1,h2,h3⟩:=hget j hj
   rw[List.getElem?_map,List.getElem?_range hj,Option.map_some,h2]
   have hlt:=(Array.getElem?_eq_some_iff.1 h2).1
   rw[getElem!_pos arr _ hlt]
   rw[Array.getElem?_eq_getElem hlt] at h2
   exact h2
  refine⟨⟨l[i.1],List.getElem_mem _,(List.range k).map fun j=>arr[cap.off+(i.1*k+j)]!,by simp,fun v hv=>?_,fun j c v hc hv=>?_⟩,rfl,fun j hj=>(hvs j hj).symm⟩
  ·obtain⟨j,hj⟩:=List.getElem?_of_mem hv
   have hjk:j<k:=by have:=(List.getElem?_eq_some_iff.1 hj).1;simpa using this
   obtain⟨c,v',h1,h2,h3,h4⟩:=hget j hjk
   rw[hvs j hjk,h2] at hj
   cases hj
   exact h4
  ·have hjk:j<k:=by have:=(List.getElem?_eq_some_iff.1 hv).1;simpa using this
   obtain⟨c',v',h1,h2,h3,h4⟩:=hget j hjk
   rw[hvs j hjk,h2] at hv
   cases hv
   rw[h1] at hc
   cases hc
   exact h3
 obtain⟨row,hrow⟩:∃row:Fin l.length->RowT l enc k m,∀i,(row i).t=l[i.1]/\∀j,j<k->arr[cap.off+(i.1*k+j)]? = (row i).vs[j]?:=⟨fun i=>(hrow i).choose,fun i=>(hrow i).choose_spec⟩
 letI:Inhabited (Fin l.length):=⟨⟨0,List.length_pos_iff.2 hnil⟩⟩
 obtain⟨d,hd⟩:∃d:Array (Fin l.length),d=idxQ l.length:=⟨_,rfl⟩
 have hds:d.size=n:=by rw[hd,<-hnl];exact idxQ_size
 have hdi:∀i (hi:i<l.length),d[i]! = ⟨i,hi⟩:=fun i hi=>by rw[hd];exact idxQ_get hi
 have hrt:∀i:Fin l.length,(row i).t=l[i.1]:=fun i=>(hrow i).1
 have hlt:∀x y:Fin l.length,ltOf (fun x y:Fin l.length=>(cmp (row x).t (row y).t).getD 0) x y=cltM cmp l[x.1] l[y.1]:=fun x y=>by
  have:=((hswo' l[x.1] (List.getElem_mem _)).2 l[y.1] (List.getElem_mem _)).1
  show decide ((cmp (row x).t (row y).t).getD 0<0)=_
  rw[hrt,hrt]
  unfold cltM
  cases hc:cmp l[x.1] l[y.1] with
  |none=>rw[hc] at this;simp at this
  |some c=>rfl
 have hcf:(fun x y:Fin l.length=>(cmp (row x).t (row y).t).getD 0)=cfQ cmp l:=by
  funext x y;rw[hrt,hrt];rfl
 have hSW:SWO (ltOf (fun x y:Fin l.length=>(cmp (row x).t (row y).t).getD 0)):=by
  rw[hcf];exact swo_cfQ hswo
 have hheap:∀(nd:Nat) (dk:Array (Fin l.length)) (os:Array Obj) (b':Nat),b'<w.heap.size->(sortWorldK (fun a=>(row a).vs) k w b cap.off nd dk os).heap[b']? = if b=b' then (w.heap[b']?).map (onCells (putCells _root_.id cap.off (flatK (fun a=>(row a).vs) k dk))) else w.heap[b']?:=fun nd dk os b' hb'=>heap_sorted _root_.id w nd b cap.off (flatK (fun a=>(row a).vs) k dk) os b' hb'
 have hother:∀(nd:Nat) (dk:Array (Fin l.length)) (os:Array Obj) (b':Nat),b'<w.heap.size->b'≠b->(sortWorldK (fun a=>(row a).vs) k w b cap.off nd dk os).heap[b']? = w.heap[b']?:=fun nd dk os b' h1 h2=>by rw[hheap nd dk os b' h1,if_neg (Ne.symm h2)]
 have himm':∀(nd:Nat) (dk:Array (Fin l.length)) (os:Array Obj) (b':Nat) (o:Obj),m b'=some o->(sortWorldK (fun a=>(row a).vs) k w b cap.off nd dk os).heap[b']? = some o:=fun nd dk os b' o hb'=>by
  have hne:b'≠b:=fun e=>by rw[e,hmb] at hb';simp at hb'
  rw[hother nd dk os b' (lt_of_some (himm b' o hb')) hne]
  exact himm b' o hb'
 have hC:=cmp_laysR (row:=row) (size:=d.size) (w:=w) (b:=b) (off:=cap.off) hek hgl hcl hcr himm' hcmp fun x hx y hy=>((hswo' x hx).2 y hy).1
 have hH:HoldsK (fun a=>(row a).vs) k w b cap.off d:=by
  intro j hj
  have hjd:j<d.size*k:=by simpa using hj
  have hk0:0<k:=by
   rcases Nat.eq_zero_or_pos k with h0|h0
   ·rw[show d.size*k=0 from by rw[Nat.mul_eq_zero];exact .inr h0] at hjd;omega
   ·exact h0
  have hi:j / k<l.length:=by rw[hnl,<-hds];exact Nat.div_lt_of_lt_mul (by rw[Nat.mul_comm];exact hjd)
  have hjk:j % k<k:=Nat.mod_lt _ hk0
  refine⟨?_,by simp[World.frozen?,o1]⟩
  rw[get_flatK (fun a=>(row a).vs) k d j hjd,hdi _ hi,cell_of_heap o1]
  have h2:=(hrow ⟨j / k,hi⟩).2 (j % k) hjk
  have e1:j / k*k+j % k=j:=by rw[Nat.mul_comm];exact Nat.div_add_mod j k
  simp only[e1] at h2
  rw[h2]
  have hlt2:j % k<(row ⟨j / k,hi⟩).vs.length:=by rw[(row ⟨j / k,hi⟩).hl];exact hjk
  rw[List.getElem?_eq_getElem hlt2]
  show _=some ((row ⟨j / k,hi⟩).vs[j % k]!)
  rw[getElem!_pos (row ⟨j / k,hi⟩).vs (j % k) hlt2]
 have hcall:=h (fun a=>(row a).vs) (fun x=>(row x).hl) (fun x=>(row x).h1) _ hSW cs b cap.off cap.n d w hC hH hbs (by rw[hds,<-hnl];exact hlen)
 rw[hds] at hcall
 refine hcall.mono ?_
 rintro ex w' ⟨rfl,nd,os,hw⟩
 subst hnl
 subst hd
 rw[hcf] at hw
 obtain⟨d',hd',hd't⟩:∃d':Array (Fin l.length),pdq (ltOf (cfQ cmp l)) (idxQ l.length) 0 l.length (Lib.bitLen l.length) true true=d'/\d'.toList.map (fun i=>l[i.1])=r:=
  ⟨_,rfl,(hrd (List.length_pos_iff.2 hnil)).symm⟩
 rw[hd'] at hw
 subst hw
 have hd's:d'.size=l.length:=by
  have:=congrArg List.length hd't
  simp at this
  rw[this,hrl]
 have hsz:w.heap.size<=(sortWorldK (fun a=>(row a).vs) k w b cap.off nd d' os).heap.size:=by simp[sortWorldK,putRowK,grow,putRow,mapBlock,Sort.ahead]
 refine⟨_,m,β,rfl,.tup rfl (by simp),Mem.le_refl _,himm' nd d' os,fun b' hb' hF=>⟨rfl,hother nd d' os b' hb' (fun e=>?_)⟩,hsz,⟨rfl,rfl,rfl,Nat.le_add_right _ _⟩,fun q=>?_,fun q b' cap' hq hbq=>?_,fun q q' b1 cap1 cap2 hq hq'=>hinj q q' b1 cap1 cap2 (hlive q hq) (hlive q' hq'),hhids _ hsz,hnx,fun q hq=>⟨hq,rfl⟩⟩
 ·subst e;exact(hF id hlid).1 cap hb
 ·rw[hg]
  split
  ·rename_i hh
   subst hh
   rw[hb]
   refine⟨putCells _root_.id cap.off (flatK (fun a=>(row a).vs) k d') arr,bl,by rw[hheap nd d' os b hbs,if_pos rfl,o1];rfl,by simp[putCells,o2],by simpa[hrl] using o3,o4,?_,oB,fun i j rw' c hr' hc=>?_⟩
   ·intro rw' hr'
    obtain⟨x,_,rfl⟩:=List.mem_map.1 hr'
    exact hek x
   ·rw[<-hd't,List.map_map,List.getElem?_map,Array.getElem?_toList] at hr'
    cases hx:d'[i]? with
    |none=>rw[hx] at hr';simp at hr'
    |some x0=>
     rw[hx] at hr'
     simp at hr'
     subst hr'
     rw[<-hrt x0] at hc
     have hi:i<d'.size:=(Array.getElem?_eq_some_iff.1 hx).1
     have hjk:j<k:=by have:=(List.getElem?_eq_some_iff.1 hc).1;rwa [hek] at this
     have hjv:j<(row x0).vs.length:=by rw[(row x0).hl];exact hjk
     have hij:i*k+j<d'.size*k:=by
      have:=Nat.mul_le_mul_right k (show i+1<=d'.size from hi)
      rw[Nat.succ_mul] at this
      omega
     have ha:cap.off+(i*k+j)<arr.size:=by
      rw[o2]
      have:=Nat.mul_le_mul_right k (show d'.size<=cap.n by rw[hd's];exact o3')
      omega
     have e1:(i*k+j) / k=i:=by
      rw[Nat.mul_comm,Nat.mul_add_div (by omega),Nat.div_eq_of_lt hjk,Nat.add_zero]
     have e2:(i*k+j) % k=j:=by rw[Nat.mul_comm,Nat.mul_add_mod,Nat.mod_eq_of_lt hjk]
     refine⟨(row x0).vs[j],?_,.inl (.imm ((row x0).rel j c _ hc (List.getElem?_eq_getElem hjv))),(row x0).h1 _ (List.getElem_mem _)⟩
     unfold putCells
     rw[Array.getElem?_mapIdx,Array.getElem?_eq_getElem ha,Option.map_some,if_pos ⟨Nat.le_add_right _ _,by rw[size_flatK];omega⟩,Nat.add_sub_cancel_left,get_flatK (fun a=>(row a).vs) k d' _ hij,e1,e2]
     have hx2:d'[i]! = x0:=by
      rw[getElem!_pos d' i hi]
      rw[Array.getElem?_eq_getElem hi] at hx
      exact Option.some.inj hx
     rw[hx2]
     show some (((row x0).vs)[j]!)=_
     rw[getElem!_pos (row x0).vs j hjv]
  ·rename_i hne
   by_cases hd:hget hp q=.dead
   ·rw[hd];exact ObOk.dead' _
   ·refine ObOk.congr (fun b' cap' hbb=>hother nd d' os b' (live_lt hd hbb (hown q)) (fun e=>?_)) (fun x hx=>hother nd d' os x (hhid q x hd hx).1 ((hhid q x hd hx).2.2.1 id b cap hlid hb)) (hown q)
    subst e
    exact hne (hinj id q b' cap cap' hlid hd hb hbb)
 ·have hq:=hlive q hq
  exact⟨hpriv q b' cap' hq hbq,fun _ hF=>(hF q hq).1 cap' hbq⟩
end Go.Pv
namespace Go.Pv
open Go
set_option linter.unusedVariables false
section
variable{K:Ctx}{Q:Post}{S:St}
variable{ops:Array Oper}{rest:List Oper}{ty:TypeId}{pos:String}{after:Array Edge}{g:Option (Nat×Bool)}
def encR{α:Type}(e k:Nat)(enc:α->List V)(r:List α):List V:=[.dsl e k (r.map enc)]
theorem set_set{α:Type}(l:List α)(i:Nat)(a b:α):(l.set i a).set i b=l.set i b:=by
 induction l generalizing i with
 |nil=>rfl
 |cons x l ih=>cases i with
  |zero=>rfl
  |succ i=>simp[ih]
theorem csub_nil(e k:Nat):CSub Idn (.dsl e k []) (.con (.slice none 0 0)):=fun m β m' β' w B x hy hx=>by
 have h:=hx.v rfl
 have:=h.of_con
 subst this
 exact .inr (.nil e k none)
theorem ghost_eqH{env:Env}{hp:Heap}(hp':Heap){nx:Nat}(h:∀q,hget hp' q=hget hp q):Ghost K ⟨env,hp,nx⟩ ⟨env,hp',nx⟩:=fun m β w a r=>⟨m,β,r.congr (fun _=>rfl) h rfl⟩
theorem hget_self{i:Nat}{b:Ob}{hp:Heap}:hget ((i,b)::hp) i=b:=by rw[hget_put,if_pos rfl]
instance {α:Type} {e k:Nat} {enc:α->List V}:EK (encR e k enc):=⟨fun x c hc=>by
 have:c=.dsl e k (x.map enc):=by simpa[encR] using hc
 subst this
 exact Keep.dsl _ _ _⟩
end
section
variable{K:Ctx}{Q:Post}{S:St}
variable{ops:Array Oper}{rest:List Oper}{ty:TypeId}{pos:String}{after:Array Edge}{g:Option (Nat×Bool)}
theorem aops_load_takeS{α β:Type}{d id k j p e e2 k2 nx n:Nat}{x:Operand}{T:TypeId}{xs:List α}{x0:α}{l:List β}(D:α->List V)(enc2:β->List V)(hD:(D x0)[p]? = some (.dsl e2 k2 (l.map enc2)))(hT:tyC K.P T=true)
  (hw:Wants ops S ⟨some d,.load T x,ty,pos,after,g⟩ true) (hx:evl K S x=.ptr id k j p) (ho:hget S.hp id=.arr e k (xs.map D)) (hr:xs[j]? = some x0) (hn:n=l.length) (hnx:S.nx=nx) (hN:Nat.blt d K.N=true)
  (kk:AOps K ops rest Q ⟨(d,.own nx n)::S.env,(id,.arr e k (setC (xs.map D) j (D x0) p (.own nx n)))::(nx,.arr e2 k2 (l.map enc2))::S.hp,nx+1⟩):
  AOps K ops (⟨some d,.load T x,ty,pos,after,g⟩::rest) Q S:=by
 subst hn
 have hrow:(xs.map D)[j]? = some (D x0):=by rw[List.getElem?_map,hr];rfl
 have hg:=ghost_take (K:=K) (S:=S) id j p nx ho hrow hD hnx
 rw[List.length_map] at hg
 refine aops_ghost hg ?_
 have hj:j<xs.length:=(List.getElem?_eq_some_iff.1 hr).1
 have hp:p<(D x0).length:=(List.getElem?_eq_some_iff.1 hD).1
 refine aops_load_cell (id:=id) (k:=k) (i:=j) (o:=p) (e:=e) (rows:=setC (xs.map D) j (D x0) p (.own nx l.length)) (.own nx l.length) hT hw ?_ hget_self (row:=(D x0).set p (.own nx l.length)) ?_ (List.getElem?_set_self hp) rfl hN kk
 ·cases x<;>exact hx
 ·unfold setC
  rw[List.getElem?_set_self (by simpa using hj)]
theorem aops_store_untakeS{α β:Type}{id k j p e e2 k2 id2 n2:Nat}{x y:Operand}{T:TypeId}{xs:List α}{x0:α}{ys:List β}{c0:V}(D:α->List V)(enc2:β->List V)(hkp:∀z,Keeps (enc2 z))(xs':List α)(hT:tyS K.P T 1=true)
  (hw:Wants ops S ⟨none,.store T x y,ty,pos,after,g⟩ true) (hx:evl K S x=.ptr id k j p) (hy:evl K S y=.own id2 n2) (ho:hget S.hp id=.arr e k (setC (xs.map D) j (D x0) p c0)) (hp:p<(D x0).length) (hj:j<xs.length)
  (ho2:hget S.hp id2=.arr e2 k2 (ys.map enc2)) (hn:n2=ys.length) (hne:Nat.beq id id2=false) (hxs:xs'.map D=(xs.map D).set j ((D x0).set p (.dsl e2 k2 (ys.map enc2))))
  (kk:AOps K ops rest Q ⟨S.env,(id,.arr e k (xs'.map D))::(id2,.dead)::S.hp,S.nx⟩):
  AOps K ops (⟨none,.store T x y,ty,pos,after,g⟩::rest) Q S:=by
 have hr1:(setC (xs.map D) j (D x0) p c0)[j]? = some ((D x0).set p c0):=by
  unfold setC
  rw[List.getElem?_set_self (by simpa using hj)]
 have hid:id≠id2:=fun h=>by rw[h,Nat.beq_refl] at hne;simp at hne
 have hrow:((D x0).set p c0).take p++[.own id2 n2]++((D x0).set p c0).drop (p+[V.own id2 n2].length)=(D x0).set p (.own id2 n2):=by
  rw[List.take_set_of_le (Nat.le_refl _),List.drop_set_of_lt (by simp),List.set_eq_take_append_cons_drop,if_pos hp]
  simp
 have hrows:(setC (xs.map D) j (D x0) p c0).set j ((D x0).set p (.own id2 n2))=(xs.map D).set j ((D x0).set p (.own id2 n2)):=by
  unfold setC;rw[set_set]
 refine aops_store [.own id2 n2] ((xs.map D).set j ((D x0).set p (.own id2 n2))) hT hw hx hy rfl rfl ho hr1 (by simp;omega) (by rw[hrow,hrows]) ?_
 have h1:hget ((id,Ob.arr e k ((xs.map D).set j ((D x0).set p (.own id2 n2))))::S.hp) id2=.arr e2 k2 (ys.map enc2):=by rw[hget_put,if_neg hid];exact ho2
 have hg:=ghost_untake (K:=K) (S:=⟨S.env,(id,.arr e k ((xs.map D).set j ((D x0).set p (.own id2 n2))))::S.hp,S.nx⟩) id j p id2 hget_self (List.getElem?_set_self (show j<(xs.map D).length by simpa using hj)) (List.getElem?_set_self hp)
  h1 (by rw[hn,List.length_map]) hne (fun r hr=>by obtain⟨z,_,rfl⟩:=List.mem_map.1 hr;exact hkp z)
 have he:setC ((xs.map D).set j ((D x0).set p (.own id2 n2))) j ((D x0).set p (.own id2 n2)) p (.dsl e2 k2 (ys.map enc2))=xs'.map D:=by
  unfold setC
  rw[set_set,set_set,hxs]
 rw[he] at hg
 refine aops_ghost hg (aops_ghost (ghost_eqH ((id,.arr e k (xs'.map D))::(id2,.dead)::S.hp) fun q=>?_) kk)
 simp only[hget_put]
 repeat' split
 all_goals rfl
def UndL(a b:List V):Prop:=a.length=b.length/\∀(j:Nat) (c c':V),a[j]? = some c->b[j]? = some c'->Und c c'/\Keep c
def UndE{α:Type}(D E:α->List V):Prop:=∀x,UndL (D x) (E x)
theorem undE_rows{α:Type}{D E:α->List V}(h:UndE D E)(xs:List α):(xs.map D).length=(xs.map E).length/\(∀(i:Nat) (r r':List V),(xs.map D)[i]? = some r->(xs.map E)[i]? = some r'->r.length=r'.length)/\
  ∀(i j:Nat) (r r':List V) (c c':V),(xs.map D)[i]? = some r->(xs.map E)[i]? = some r'->r[j]? = some c->r'[j]? = some c'->Und c c'/\Keep c:=by
 refine⟨by simp,fun i r r' h1 h2=>?_,fun i j r r' c c' h1 h2 h3 h4=>?_⟩
 ·rw[List.getElem?_map] at h1 h2
  cases hx:xs[i]? with
  |none=>rw[hx] at h1;simp at h1
  |some u=>rw[hx] at h1 h2;simp at h1 h2;subst h1 h2;exact(h u).1
 ·rw[List.getElem?_map] at h1 h2
  cases hx:xs[i]? with
  |none=>rw[hx] at h1;simp at h1
  |some u=>rw[hx] at h1 h2;simp at h1 h2;subst h1 h2;exact(h u).2 j c c' h3 h4
theorem ghost_frzSE{α:Type}(id t:Nat){e k n:Nat}{xs:List α}{D E:α->List V}(hu:UndE D E)(ho:hget S.hp id=.arr e k (xs.map D))(ht:get S.env t=.own id n)(hn:n=xs.length):
  Ghost K S ⟨(t,.lst k (xs.map E))::S.env,(id,.dead)::S.hp,S.nx⟩:=
 ghost_freezeD id (xs.map E) _ _ ho (undE_rows hu xs).1 (undE_rows hu xs).2.1 (undE_rows hu xs).2.2 (envPut (fun _=>Sub.keep) (by rw[ht];exact Sub.frzAll (by rw[hn,List.length_map]))) hpFrz0 (by simp[hget_put])
inductive CSubs:List V->List V->Prop
 |nil:CSubs [] []
 |cons {c c':V} {l l':List V} (h:CSub Idn c c') (h':CSubs l l'):CSubs (c::l) (c'::l')
theorem CSubs.len{l l':List V}(h:CSubs l l'):l.length=l'.length:=by
 induction h with
 |nil=>rfl
 |cons _ _ ih=>simp[ih]
theorem CSubs.at{l l':List V}(h:CSubs l l'):∀(j:Nat) (c c':V),l[j]? = some c->l'[j]? = some c'->CSub Idn c c':=by
 induction h with
 |nil=>intro j c c' h;simp at h
 |cons h _ ih=>
  intro j c c' h1 h2
  cases j with
  |zero=>simp at h1 h2;subst h1 h2;exact h
  |succ j=>exact ih j c c' (by simpa using h1) (by simpa using h2)
theorem csub_keep(c:V):CSub Idn c c:=CSub.same HyMC.h Sub.keepI
theorem UndL.nil:UndL [] []:=⟨rfl,fun j c c' h=>by simp at h⟩
theorem UndL.cons{c c':V}{l l':List V}(h:Und c c'/\Keep c)(r:UndL l l'):UndL (c::l) (c'::l'):=⟨by simp[r.1],fun j x x' h1 h2=>by
 cases j with
 |zero=>simp at h1 h2;subst h1 h2;exact h
 |succ j=>exact r.2 j x x' (by simpa using h1) (by simpa using h2)⟩
theorem und_con(v:Value):Und (.con v) (.con v)/\Keep (.con v):=⟨.imm rfl,(Imm.con v).2⟩
theorem und_dsl{α:Type}(e k:Nat){enc:α->List V}(hi:∀x,Imms (enc x))(l:List α):Und (.dsl e k (l.map enc)) (.lst k (l.map enc))/\Keep (.dsl e k (l.map enc)):=⟨und_rows hi l,Keep.dsl _ _ _⟩
end
section
variable{K:Ctx}{Q:Post}{S:St}
variable{ops:Array Oper}{rest:List Oper}{ty:TypeId}{pos:String}{after:Array Edge}{g:Option (Nat×Bool)}
theorem aops_load_takeS_at{α β:Type}{d nx id k j p e e2 k2 n:Nat}{x:Operand}{T:TypeId}{xs:List α}{x0:α}{l:List β}(idn:Nat)(hid:(Nat.blt idn nx&&Nat.ble K.pins idn)=true)(hnxx:S.nx=nx)(hres:hget S.hp idn=.res)(D:α->List V)(enc2:β->List V)(hD:(D x0)[p]? = some (.dsl e2 k2 (l.map enc2)))(hT:tyC K.P T=true)
  (hw:Wants ops S ⟨some d,.load T x,ty,pos,after,g⟩ true) (hx:evl K S x=.ptr id k j p) (ho:hget S.hp id=.arr e k (xs.map D)) (hr:xs[j]? = some x0) (hn:n=l.length) (hN:Nat.blt d K.N=true)
  (kk:AOps K ops rest Q ⟨(d,.own idn n)::S.env,(id,.arr e k (setC (xs.map D) j (D x0) p (.own idn n)))::(idn,.arr e2 k2 (l.map enc2))::S.hp,S.nx⟩):
  AOps K ops (⟨some d,.load T x,ty,pos,after,g⟩::rest) Q S:=by
 subst hn
 have hrow:(xs.map D)[j]? = some (D x0):=by rw[List.getElem?_map,hr];rfl
 have hg:Ghost K S ⟨S.env,(id,.arr e k (setC (xs.map D) j (D x0) p (.own idn (l.map enc2).length)))::(idn,.arr e2 k2 (l.map enc2))::S.hp,S.nx⟩:=fun m β w a r=>r.takeC id j p idn S.nx (r.free hres) (fun q hq=>by have:=Nat.le_of_ble_eq_true (Bool.and_eq_true_iff.1 hid).2;omega) (by rw[hnxx];exact Nat.le_of_ble_eq_true (Bool.and_eq_true_iff.1 hid).1) (Nat.le_refl _) ho hrow hD rfl
 rw[List.length_map] at hg
 refine aops_ghost hg ?_
 have hj:j<xs.length:=(List.getElem?_eq_some_iff.1 hr).1
 have hp:p<(D x0).length:=(List.getElem?_eq_some_iff.1 hD).1
 refine aops_load_cell (id:=id) (k:=k) (i:=j) (o:=p) (e:=e) (rows:=setC (xs.map D) j (D x0) p (.own idn l.length)) (.own idn l.length) hT hw ?_ hget_self (row:=(D x0).set p (.own idn l.length)) ?_ (List.getElem?_set_self hp) rfl hN kk
 ·cases x<;>exact hx
 ·unfold setC
  rw[List.getElem?_set_self (by simpa using hj)]
theorem aops_appendS_at{α:Type}{d nx T T' e e2 k bytes n n' id id2:Nat}{s x:Operand}{xs:List α}{r:List V}(idn:Nat)(hid:(Nat.blt idn nx&&Nat.ble K.pins idn)=true)(hnxx:S.nx=nx)(hres:hget S.hp idn=.res)(D:α->List V)(y:α)(hT:tyEl K.P T e k bytes=true)(hT':tySlice K.P T'=true)
  (hpos:Nat.blt 0 bytes=true) (hkp:Nat.blt 0 k=true)
  (hw:Wants ops S ⟨some d,.call ⟨.builtin .append,#[s,x],#[T,T']⟩,ty,pos,after,g⟩ true)
  (hs:evl K S s=.own id n) (ho:hget S.hp id=.arr e k (xs.map D)) (hn:xs.length=n) (hx:evl K S x=.own id2 1) (ho2:hget S.hp id2=.arr e2 k [r]) (hnd:ndB r=true) (hsub:CSubs (D y) r)
  (hn':(xs++[y]).length=n') (hb:n'*bytes<=140737488355328) (hN:Nat.blt d K.N=true)
  (kk:AOps K ops rest Q ⟨(d,.own idn n')::S.env,(idn,.arr e k ((xs++[y]).map D))::(id,.dead)::S.hp,S.nx⟩):
  AOps K ops (⟨some d,.call ⟨.builtin .append,#[s,x],#[T,T']⟩,ty,pos,after,g⟩::rest) Q S:=by
 refine aops_append_at idn hid hnxx hres [r] (xs.map D++[r]) hT hT' hpos hkp hw hs ho (by simpa using hn) hx (.own ho2 rfl (fun row hr c hc=>by
  simp only[List.mem_singleton] at hr
  subst hr
  obtain⟨j,hj⟩:=List.getElem?_of_mem hc
  exact ndB_at hnd hj)) rfl (by rw[<-hn'];simp) hb hN ?_
 refine aops_ghost (ghost_tellC idn (.arr e k ((xs++[y]).map D)) (ob0:=.arr e k (xs.map D++[r])) hget_self ?_) (aops_ghost (ghost_eqH ((idn,.arr e k ((xs++[y]).map D))::(id,.dead)::S.hp) (fun q=>?_)) kk)
 ·refine⟨rfl,rfl,by simp,fun i r1 r2 h1 h2=>?_⟩
  rw[List.map_append,List.map_cons,List.map_nil] at h1
  by_cases hi:i<(xs.map D).length
  ·rw[List.getElem?_append_left hi] at h1 h2
   rw[h1] at h2
   simp only[Option.some.injEq] at h2
   subst h2
   exact⟨rfl,fun j c c' a b=>by rw[a] at b;simp only[Option.some.injEq] at b;subst b;exact csub_keep c⟩
  ·rw[List.getElem?_append_right (by omega)] at h1 h2
   cases hj:i - (xs.map D).length with
   |zero=>
    rw[hj] at h1 h2
    simp at h1 h2
    subst h1 h2
    exact⟨hsub.len,hsub.at⟩
   |succ j=>rw[hj] at h1;simp at h1
 ·simp only[hget_put]
  split<;>rfl
end
section
variable{K:Ctx}{S:St}
theorem ghost_untakeS{α β:Type}{e k e2 k2 n2:Nat}{xs:List α}{x0:α}{ys:List β}(id j p id2:Nat)(D:α->List V)(enc2:β->List V)(hkp:∀z,Keeps (enc2 z))(xs':List α)(ho:hget S.hp id=.arr e k (setC (xs.map D) j (D x0) p (.own id2 n2)))(hp:p<(D x0).length)(hj:j<xs.length)
  (ho2:hget S.hp id2=.arr e2 k2 (ys.map enc2)) (hn:n2=ys.length) (hne:Nat.beq id id2=false) (hxs:xs'.map D=(xs.map D).set j ((D x0).set p (.dsl e2 k2 (ys.map enc2)))):
  Ghost K S ⟨S.env,(id,.arr e k (xs'.map D))::(id2,.dead)::S.hp,S.nx⟩:=by
 have hr1:(setC (xs.map D) j (D x0) p (.own id2 n2))[j]? = some ((D x0).set p (.own id2 n2)):=by
  unfold setC
  rw[List.getElem?_set_self (by simpa using hj)]
 have hg:=ghost_untake (K:=K) (S:=S) id j p id2 ho hr1 (List.getElem?_set_self hp)
  ho2 (by rw[hn,List.length_map]) hne (fun r hr=>by obtain⟨z,_,rfl⟩:=List.mem_map.1 hr;exact hkp z)
 have he:setC (setC (xs.map D) j (D x0) p (.own id2 n2)) j ((D x0).set p (.own id2 n2)) p (.dsl e2 k2 (ys.map enc2))=xs'.map D:=by
  unfold setC
  rw[set_set,set_set,hxs]
 rw[he] at hg
 exact hg
theorem rows_same{α β:Type}{xs:List α}{x0:α}{l:List β}{e2 k2 j p:Nat}{D:α->List V}{enc2:β->List V}(hr:xs[j]? = some x0)(hD:(D x0)[p]? = some (.dsl e2 k2 (l.map enc2))):xs.map D=(xs.map D).set j ((D x0).set p (.dsl e2 k2 (l.map enc2))):=by
 have h1:(D x0).set p (.dsl e2 k2 (l.map enc2))=D x0:=by
  apply List.ext_getElem?
  intro i
  rw[List.getElem?_set]
  split
  ·rename_i h;subst h
   rw[if_pos (List.getElem?_eq_some_iff.1 hD).1,hD]
  ·rfl
 rw[h1]
 apply List.ext_getElem?
 intro i
 rw[List.getElem?_set]
 split
 ·rename_i h;subst h
  rw[if_pos (by simpa using (List.getElem?_eq_some_iff.1 hr).1),List.getElem?_map,hr];rfl
 ·rfl
end
end Go.Pv
namespace Go.Pv
open Go Go.RowKit Go.Lib Go.Shelf Go.Proofs
set_option linter.unusedVariables false
def BufAt(e:TypeId)(b:Nat)(v:Value)(bs:List UInt8)(w:World):Prop:=
 (v=.slice none 0 0/\bs=[])\/∃g c cur,v=.slice (some ⟨g,0,none⟩) bs.length c/\g≠b/\w.heap[g]? = some (.cells cur e (0,0))/\cur.size=c/\bs.length<=c/\c<=maxLen/\c≠0/\
  ∀(i:Nat) (x:UInt8),bs[i]? = some x->cur[i]? = some (.int .u8 x.toNat)
theorem strCells_get(s:List UInt8)(i:Nat):(strCells (⟨s.toArray⟩:ByteArray))[i]? = (s[i]?).map fun x=>Value.int .u8 (x.toNat:Int):=by simp[strCells]
theorem bsize(s:List UInt8):(⟨s.toArray⟩:ByteArray).size=s.length:=by simp[ByteArray.size]
theorem run_buf{P:Program}(w:World)(t u ty e b:TypeId)(i:TypeInfo)(ht:P.underlying t=some (.slice e))(hu:P.underlying u=some .string)(hi:P.info? e=some i)(hz:i.zero=some (.int .u8 0))
    (hsize:i.size=1) (hby:i.bytes=1) (v:Value) (bs s:List UInt8) (h:BufAt e b v bs w) (hb:b<w.heap.size) (hl:bs.length+s.length<=140737488355328):
    ∃v' w',(Builtin.append_ #[t,u] ty #[v,.string ⟨s.toArray⟩]).run P w=.ok v' w'/\BufAt e b v' (bs++s) w'/\w.grownBy w' v.ownBlock/\w.drawn<=w'.drawn/\(∀g,v'.ownBlock=some g->v.ownBlock=some g\/g=w.heap.size):=by
  rcases h with ⟨rfl,rfl⟩|⟨g,c,cur,rfl,hne,hg,hc,hlc,hcm,hnb,hcells⟩
  · by_cases hm:s=[]
    · subst hm
      refine⟨.slice none 0 0,w,?_,.inl ⟨rfl,rfl⟩,⟨rfl,rfl,rfl,Nat.le_refl _,fun _ _ _=>rfl⟩,Nat.le_refl _,fun g hg=>by simp[Value.ownBlock] at hg⟩
      have hf:=run_firstCells_string (P:=P) w 1 ⟨#[]⟩
      simp[Builtin.append_,run_underlying ht,run_underlying hu,sizeOf,typeInfo,hi,Builtin.lenOf,ByteArray.size,Builtin.firstCells]
    · have hs0:0<s.length:=List.length_pos_iff.2 hm
      have hr:=run_append_nil_string (P:=P) w t u ty e i (.int .u8 0) ht hu hi hz ⟨s.toArray⟩ (by rw[bsize];omega) (by rw[bsize];omega) (by rw[hby,bsize];omega)
      have hge:=grownCap_ge w s.length 0 e
      have hcm:grownCap w s.length 0 e<=maxLen:=grownCap_le_maxLen w s.length 0 e (by unfold maxLen;omega)
      rw[bsize] at hr
      refine⟨_,_,hr,.inr ⟨w.heap.size,_,_,rfl,Nat.ne_of_gt hb,_root_.Go.heap_alloc_new w.drew _,?_,by simpa using hge,hcm,by omega,?_⟩,⟨rfl,rfl,rfl,by simp,fun k hk _=>_root_.Go.heap_alloc_old w.drew _ hk⟩,by simp,fun g hg=>.inr (by simpa[Value.ownBlock] using hg.symm)⟩
      · have hz1:(Value.int IntKind.u8 0).cells.size=1:=rfl
        simp only[Array.size_append,List.size_toArray,zeroCells_size,hz1,Array.size_map]
        simp
        omega
      · intro i x hx
        have hlt:i<s.length:=(List.getElem?_eq_some_iff.1 (by simpa using hx)).1
        rw[Array.getElem?_append,if_pos (by simpa using hlt)]
        simp at hx
        simp[hx]
  · by_cases hroom:bs.length+s.length<=c
    · have hr:=run_append_room_string (P:=P) w t u ty e i ht hu hi hsize g bs.length c cur hg ⟨s.toArray⟩ (by rw[bsize];exact hroom) (by rw[bsize];omega)
      rw[bsize] at hr
      refine⟨_,_,hr,.inr ⟨g,c,_,by simp,hne,setRow_heap w g cur _ e _ hg,?_,by simpa using hroom,hcm,hnb,?_⟩,⟨rfl,rfl,rfl,by simp,fun k _ hk=>setRow_other w g k _ (fun e=>hk (by simp[Value.ownBlock,e]))⟩,by simp,fun g' hg'=>.inl hg'⟩
      · simp[strCells_length,bsize];omega
      · intro i x hx
        rw[List.getElem?_toArray,List.append_assoc]
        by_cases hi':i<bs.length
        · rw[List.getElem?_append_left hi'] at hx
          rw[List.getElem?_append_left (by simp;omega),List.getElem?_take,if_pos hi']
          simpa using hcells i x hx
        · rw[List.getElem?_append_right (by omega)] at hx
          have hl1:(cur.toList.take bs.length).length=bs.length:=by simp;omega
          have hlt:i - bs.length<s.length:=(List.getElem?_eq_some_iff.1 hx).1
          rw[List.getElem?_append_right (by omega),hl1,List.getElem?_append_left (by rw[strCells_length,bsize];exact hlt),strCells_get,hx];rfl
    · have hr:=run_append_grow_string (P:=P) w t u ty e i (.int .u8 0) ht hu hi hz ⟨g,0,none⟩ bs.length c (bs.map fun x=>Value.int .u8 (x.toNat:Int)) (by simp[hsize]) (fun j x hx=>by
          rw[List.getElem?_map] at hx
          cases hbj:bs[j]? with
          |none=>rw[hbj] at hx;cases hx
          |some y=>
            rw[hbj] at hx;cases hx
            have hadd:(⟨g,0,none⟩:Addr).add j=⟨g,j,none⟩:=by unfold Addr.add;split<;>simp_all
            rw[hadd,cell_of_row w g j cur e (0,0) hg]
            exact hcells j y hbj) ⟨s.toArray⟩ (by rw[bsize];omega) (by rw[bsize];omega) (by rw[hby,bsize];exact growslice_fits (by omega) (by omega))
      have hge:=grownCap_ge w (bs.length+s.length) c e
      have hcm:grownCap w (bs.length+s.length) c e<=maxLen:=grownCap_le_maxLen w (bs.length+s.length) c e (by unfold maxLen;omega)
      rw[bsize] at hr
      refine⟨_,_,hr,.inr ⟨w.heap.size,_,_,by simp,Nat.ne_of_gt hb,_root_.Go.heap_alloc_new w.drew _,?_,by simpa using hge,hcm,by omega,?_⟩,⟨rfl,rfl,rfl,by simp,fun k hk _=>_root_.Go.heap_alloc_old w.drew _ hk⟩,by simp,fun g hg=>.inr (by simpa[Value.ownBlock] using hg.symm)⟩
      · have hz1:(Value.int IntKind.u8 0).cells.size=1:=rfl
        simp only[Array.size_append,List.size_toArray,zeroCells_size,hz1,strCells_length,bsize,List.length_map]
        omega
      · intro i x hx
        have hlt:i<(bs++s).length:=(List.getElem?_eq_some_iff.1 hx).1
        rw[Array.getElem?_append,if_pos (by simp[strCells_length,bsize];simpa using hlt)]
        by_cases hi':i<bs.length
        · rw[List.getElem?_append_left hi'] at hx
          rw[Array.getElem?_append,if_pos (by simpa using hi')]
          simp[hx]
        · rw[List.getElem?_append_right (by omega)] at hx
          rw[Array.getElem?_append,if_neg (by simpa using hi')]
          simp[strCells_get,hx]
theorem freeze_other{w:World}{g n k c:Nat}{m:Nat}(h:(Value.slice (some ⟨g,0,none⟩) m c).ownBlock≠some k):(w.drew.freeze ⟨g,0,none⟩ n).heap[k]? = w.heap[k]?:=by
 have hk:g≠k:=fun e=>h (by simp[Value.ownBlock,e])
 unfold World.freeze
 split
 ·rfl
 ·simp only[Array.getElem?_modify];rw[if_neg hk];rfl
theorem freeze_size(w:World)(g n:Nat):(w.drew.freeze ⟨g,0,none⟩ n).heap.size=w.heap.size:=by
 unfold World.freeze
 split
 ·rfl
 ·simp
theorem freeze_same(w:World)(g n:Nat):Same w (w.drew.freeze ⟨g,0,none⟩ n):=by
 unfold World.freeze
 split
 ·exact⟨rfl,rfl,rfl,Nat.le_succ _⟩
 ·exact⟨rfl,rfl,rfl,Nat.le_succ _⟩
section
variable{P:Program}{ρ:Go.Shelf.Ren}
theorem bld_check(L:Lays.n240 P ρ)(X:Builder.X72 P ρ)(b:Nat)(p v:Value)(w:World)(hbk:w.heap[b]? = some (.cells #[p,v] (ρ.t 72) (0,0)))(hp:p=.pointer none\/p=.pointer (some ⟨b,0,none⟩)):
  Calls P (ρ.f 240) #[.pointer (some ⟨b,0,none⟩)] w fun e w'=>e=.returned (.tuple #[])/\w'.heap[b]? = some (.cells #[.pointer (some ⟨b,0,none⟩),v] (ρ.t 72) (0,0))/\(∀k,k≠b->w'.heap[k]? = w.heap[k]?)/\w'.heap.size=w.heap.size/\Same w w':=by
 have c0:w.cell? ⟨b,0,none⟩=some p:=by rw[Lib.cell_of_heap hbk];rfl
 rcases hp with rfl|rfl
 ·refine(Any.Builder_copyCheck_fresh L X b w c0 (by simp[World.shape?,hbk]) (Lib.frozen_of_heap hbk 0)).mono ?_
  rintro e w' ⟨rfl,rfl⟩
  refine⟨rfl,?_,fun k hk=>Below.heap_setCell _ _ _ _ hk,by simp[World.setCell],⟨rfl,rfl,rfl,Nat.le_refl _⟩⟩
  simp[World.setCell,Array.getElem?_modify,hbk]
 ·refine(Any.Builder_copyCheck_used L X b w c0).mono ?_
  rintro e w' ⟨rfl,rfl⟩
  exact⟨rfl,hbk,fun _ _=>rfl,rfl,⟨rfl,rfl,rfl,Nat.le_refl _⟩⟩
theorem wpList_buf{ops:Array Oper}{rest:List Oper}{o:Oper}{a:Act}{Q:Exit->Act->World->Prop}{w:World}(hgd:o.guard=none)(sl x:Operand)(t u:TypeId)
  (ho:o.op=.call { callee:=.builtin .append,args:=#[sl,x],argTypes:=#[t,u] })
  (e b:Nat) (i:TypeInfo) (ht:P.underlying t=some (.slice e)) (hu:P.underlying u=some .string) (hi:P.info? e=some i) (hz:i.zero=some (.int .u8 0)) (hsize:i.size=1) (hby:i.bytes=1)
  (v:Value) (bs s:List UInt8) (hs:a.eval sl=v) (hv:BufAt e b v bs w) (hx:a.eval x=.string ⟨s.toArray⟩) (hb:b<w.heap.size) (hl:bs.length+s.length<=140737488355328)
  (h:∀v' w',BufAt e b v' (bs++s) w'->w.grownBy w' v.ownBlock->w.drawn<=w'.drawn->(∀g,v'.ownBlock=some g->v.ownBlock=some g\/g=w.heap.size)->wpList P ops Q rest (a.put o.dst v') w'):wpList P ops Q (o::rest) a w:=by
 refine wpList_plain hgd fun K hK=>?_
 obtain⟨v',w',hr,h2,h3,h4,h5⟩:=run_buf (P:=P) w t u o.type e b i ht hu hi hz hsize hby v bs s hv hb hl
 unfold Oper.wp execOp
 simp only[ho,resolve,invoke,builtin,Sem.run_bind,Sem.run_pure,Result.andThen_ok,List.map_toArray,List.map_cons,List.map_nil,hs,hx,hr]
 exact hK _ _ (h v' w' h2 h3 h4 h5)
theorem BufAt.shape{e b:Nat}{v:Value}{bs:List UInt8}{w:World}(h:BufAt e b v bs w):∃ao n c,v=.slice ao n c:=by
 rcases h with ⟨rfl,_⟩|⟨g,c,_,rfl,_⟩
 ·exact⟨_,_,_,rfl⟩
 ·exact⟨_,_,_,rfl⟩
theorem BufAt.kept{e b:Nat}{v:Value}{bs:List UInt8}{w w':World}(h:BufAt e b v bs w)(hk:∀k,k≠b->w'.heap[k]? = w.heap[k]?):BufAt e b v bs w':=by
 rcases h with h|⟨g,c,cur,h1,h2,h3,h4⟩
 ·exact .inl h
 ·exact .inr ⟨g,c,cur,h1,h2,by rw[hk g h2];exact h3,h4⟩
set_option maxHeartbeats 2000000 in
set_option maxRecDepth 100000 in
theorem bld_write(L:Lays.n166 P ρ)(X:Builder.Extra P ρ)(b:Nat)(p v:Value)(bs s:List UInt8)(w:World)(hbk:w.heap[b]? = some (.cells #[p,v] (ρ.t 72) (0,0)))(hp:p=.pointer none\/p=.pointer (some ⟨b,0,none⟩))
  (hv:BufAt (ρ.t 5) b v bs w) (hl:bs.length+s.length<=140737488355328):
  Calls P (ρ.f 166) #[.pointer (some ⟨b,0,none⟩),.string ⟨s.toArray⟩] w fun e w'=>e=.returned (.tuple #[.int .i64 s.length,.nilIface])/\∃v',w'.heap[b]? = some (.cells #[.pointer (some ⟨b,0,none⟩),v'] (ρ.t 72) (0,0))/\
   BufAt (ρ.t 5) b v' (bs++s) w'/\(∀k,k<w.heap.size->k≠b->v.ownBlock≠some k->w'.heap[k]? = w.heap[k]?)/\w.heap.size<=w'.heap.size/\Same w w'/\∀g,v'.ownBlock=some g->v.ownBlock=some g\/w.heap.size<=g:=by
 obtain⟨i0,hi,hz0,hz1,hz2⟩:=info_parts X.infoByte
 have mixed:=L.mixed
 have t72:=L.t72;have a72:=L.a72;have z72:=L.z72;have v72:=L.v72;have u72:=run_underlying L.t72
 have t70:=L.t70;have a70:=L.a70;have z70:=L.z70;have v70:=L.v70;have u70:=run_underlying L.t70
 have t37:=L.t37;have a37:=L.a37;have z37:=L.z37;have v37:=L.v37;have u37:=run_underlying L.t37
 have t3:=L.t3;have a3:=L.a3;have z3:=L.z3;have v3:=L.v3;have u3:=run_underlying L.t3
 have t9:=L.t9;have a9:=L.a9;have z9:=L.z9;have v9:=L.v9;have u9:=run_underlying L.t9
 have e240:∀args w,(callFunc (ρ.f 240) args).run P w=.ok (.enter (ρ.f 240) args) w:=enters_of L.f240 (by kernel_rfl) rfl
 have hsz:(⟨s.toArray⟩:ByteArray).size=s.length:=bsize s
 go_enter L.f166,Body.n166_ntmps ρ
 go_wp2_with (go_at_fn (ρ.f 240);refine(bld_check { L with } X.toX72 b p v _ hbk hp).mono ?_)
 rintro e w1 ⟨rfl,hb1,hk1,hs1,hsame1⟩
 have hlt:b<w1.heap.size:=lt_of_some hb1
 have hv1:=hv.kept hk1
 have c0:w1.cell? ⟨b,0,none⟩=some (.pointer (some ⟨b,0,none⟩)):=by rw[Lib.cell_of_heap hb1];rfl
 have c1:w1.cell? ⟨b,1,none⟩=some v:=by rw[Lib.cell_of_heap hb1];rfl
 go_wp2_with (at_builtin;refine wpList_buf rfl _ _ (ρ.t 37) (ρ.t 9) rfl (ρ.t 5) b i0 L.t37 L.t9 hi hz0 hz1 hz2 v bs s rfl hv1 rfl hlt hl ?_)
 intro v' w2 hv2 hgrow hdr hown
 have hvb:some b≠v.ownBlock:=by
  rcases hv1 with ⟨rfl,_⟩|⟨g,c,cur,rfl,hne,_⟩
  ·simp[Value.ownBlock]
  ·simp[Value.ownBlock];exact fun h=>hne h.symm
 have hb2:w2.heap[b]? = some (.cells #[.pointer (some ⟨b,0,none⟩),v] (ρ.t 72) (0,0)):=by
  rw[hgrow.block b hlt hvb];exact hb1
 have d0:w2.cell? ⟨b,0,none⟩=some (.pointer (some ⟨b,0,none⟩)):=by rw[Lib.cell_of_heap hb2];rfl
 have d1:w2.cell? ⟨b,1,none⟩=some v:=by rw[Lib.cell_of_heap hb2];rfl
 have f1:w2.frozen? ⟨b,1,none⟩=false:=Lib.frozen_of_heap hb2 1
 obtain⟨ao,n',cap,rfl⟩:=hv2.shape
 go_wp2
 go_ret2
 refine⟨rfl,_,?_,hv2.kept (fun k hk=>Below.heap_setCell _ _ _ _ hk),?_,?_,?_,?_⟩
 ·simp[World.setCell,Array.getElem?_modify,hb2]
 ·intro k hk hkb hkv
  rw[Below.heap_setCell _ _ _ _ hkb,hgrow.block k (by omega) (Ne.symm hkv),hk1 k hkb]
 ·have:=hgrow.size;simp[World.setCell];omega
 ·exact⟨hgrow.os.trans hsame1.os,hgrow.tape.trans hsame1.tape,hgrow.output.trans hsame1.output,Nat.le_trans hsame1.drawn hdr⟩
 ·intro g hg
  rcases hown g hg with h|h
  ·exact .inl h
  ·exact .inr (by omega)
set_option maxHeartbeats 2000000 in
set_option maxRecDepth 100000 in
theorem bld_string(L:Lays.n169 P ρ)(X:Builder.Extra P ρ)(b:Nat)(p v:Value)(bs:List UInt8)(w:World)(hbk:w.heap[b]? = some (.cells #[p,v] (ρ.t 72) (0,0)))(hv:BufAt (ρ.t 5) b v bs w):
  Calls P (ρ.f 169) #[.pointer (some ⟨b,0,none⟩)] w fun e w'=>e=.returned (.string ⟨bs.toArray⟩)/\(∀k,v.ownBlock≠some k->w'.heap[k]? = w.heap[k]?)/\w'.heap.size=w.heap.size/\Same w w':=by
 have c1:w.drew.cell? ⟨b,1,none⟩=some v:=by
  have:w.drew.heap[b]? = some (.cells #[p,v] (ρ.t 72) (0,0)):=hbk
  rw[Lib.cell_of_heap this];rfl
 rcases hv with ⟨rfl,rfl⟩|⟨g,cap,cur,rfl,hne,hg,hcs,hnc,hcm,h0,hcells⟩
 ·have hUS:=Any.unsafeString_none L X
  have hSD:(Builtin.unsafeSliceData_ #[(ρ.t 37)] (ρ.t 127) #[.slice none 0 0]).run P w.drew=.ok (.pointer none) w.drew:=rfl
  have mixed:=L.mixed
  have t72:=L.t72;have a72:=L.a72;have z72:=L.z72;have v72:=L.v72;have u72:=run_underlying L.t72
  have t70:=L.t70;have a70:=L.a70;have z70:=L.z70;have v70:=L.v70;have u70:=run_underlying L.t70
  have t37:=L.t37;have a37:=L.a37;have z37:=L.z37;have v37:=L.v37;have u37:=run_underlying L.t37
  have t127:=L.t127;have a127:=L.a127;have z127:=L.z127;have v127:=L.v127;have u127:=run_underlying L.t127
  have t3:=L.t3;have a3:=L.a3;have z3:=L.z3;have v3:=L.v3;have u3:=run_underlying L.t3
  have t9:=L.t9;have a9:=L.a9;have z9:=L.z9;have v9:=L.v9;have u9:=run_underlying L.t9
  have t5:=X.t5;have a5:=X.a5;have z5:=X.z5;have v5:=X.v5;have u5:=run_underlying X.t5
  go_enter L.f169,Body.n169_ntmps ρ
  go_wp2
  go_region_o
  all_goals (go_wp2;go_ret;exact⟨rfl,fun _ _=>rfl,rfl,⟨rfl,rfl,rfl,Nat.le_succ _⟩⟩)
 ·by_cases hb0:bs=[]
  ·subst hb0
   have hSD:(Builtin.unsafeSliceData_ #[(ρ.t 37)] (ρ.t 127) #[.slice (some ⟨g,0,none⟩) 0 cap]).run P w.drew=.ok (.pointer (some ⟨g,0,none⟩)) w.drew:=
    Lib.run_unsafeSliceData_row _ _ _ _ _ _ h0
   have hUS:=Any.unsafeString_none L X
   have mixed:=L.mixed
   have t72:=L.t72;have a72:=L.a72;have z72:=L.z72;have v72:=L.v72;have u72:=run_underlying L.t72
   have t70:=L.t70;have a70:=L.a70;have z70:=L.z70;have v70:=L.v70;have u70:=run_underlying L.t70
   have t37:=L.t37;have a37:=L.a37;have z37:=L.z37;have v37:=L.v37;have u37:=run_underlying L.t37
   have t127:=L.t127;have a127:=L.a127;have z127:=L.z127;have v127:=L.v127;have u127:=run_underlying L.t127
   have t3:=L.t3;have a3:=L.a3;have z3:=L.z3;have v3:=L.v3;have u3:=run_underlying L.t3
   have t9:=L.t9;have a9:=L.a9;have z9:=L.z9;have v9:=L.v9;have u9:=run_underlying L.t9
   have t5:=X.t5;have a5:=X.a5;have z5:=X.z5;have v5:=X.v5;have u5:=run_underlying X.t5
   go_enter L.f169,Body.n169_ntmps ρ
   go_wp2
   go_region_o
   all_goals (go_wp2;go_ret;exact⟨rfl,fun _ _=>rfl,rfl,⟨rfl,rfl,rfl,Nat.le_succ _⟩⟩)
  have hl0:bs.length≠0:=by simpa using hb0
  have hSD:(Builtin.unsafeSliceData_ #[(ρ.t 37)] (ρ.t 127) #[.slice (some ⟨g,0,none⟩) bs.length cap]).run P w.drew=.ok (.pointer (some ⟨g,0,none⟩)) w.drew:=
   Lib.run_unsafeSliceData_row _ _ _ _ _ _ (by omega)
  have hUS:(Builtin.unsafeString_ #[(ρ.t 127),(ρ.t 3)] (ρ.t 9) #[.pointer (some ⟨g,0,none⟩),.int .i64 bs.length]).run P w.drew=.ok (.string ⟨bs.toArray⟩) (w.drew.freeze ⟨g,0,none⟩ bs.length):=by
   refine Lib.run_unsafeString_row w.drew (ρ.t 127) (ρ.t 3) (ρ.t 9) (ρ.t 5) L.t127 X.cellsByte g cur.size (by have hg':w.drew.heap[g]? = some (.cells cur (ρ.t 5) (0,0)):=hg;simp[World.shape?,hg']) bs hb0 (by omega) (by unfold maxLen at hcm;omega) ?_
   intro j x hx
   have hg':w.drew.heap[g]? = some (.cells cur (ρ.t 5) (0,0)):=hg
   have hadd:(⟨g,0,none⟩:Addr).add j=⟨g,j,none⟩:=by unfold Addr.add;split<;>simp_all
   first
   |rw[hadd,cell_of_row w.drew g j cur (ρ.t 5) (0,0) hg'];exact hcells j x hx
   |rw[cell_of_row w.drew g j cur (ρ.t 5) (0,0) hg'];exact hcells j x hx
  have mixed:=L.mixed
  have t72:=L.t72;have a72:=L.a72;have z72:=L.z72;have v72:=L.v72;have u72:=run_underlying L.t72
  have t70:=L.t70;have a70:=L.a70;have z70:=L.z70;have v70:=L.v70;have u70:=run_underlying L.t70
  have t37:=L.t37;have a37:=L.a37;have z37:=L.z37;have v37:=L.v37;have u37:=run_underlying L.t37
  have t127:=L.t127;have a127:=L.a127;have z127:=L.z127;have v127:=L.v127;have u127:=run_underlying L.t127
  have t3:=L.t3;have a3:=L.a3;have z3:=L.z3;have v3:=L.v3;have u3:=run_underlying L.t3
  have t9:=L.t9;have a9:=L.a9;have z9:=L.z9;have v9:=L.v9;have u9:=run_underlying L.t9
  have t5:=X.t5;have a5:=X.a5;have z5:=X.z5;have v5:=X.v5;have u5:=run_underlying X.t5
  go_enter L.f169,Body.n169_ntmps ρ
  go_wp2
  go_region_o
  all_goals (go_wp2;go_ret;exact⟨rfl,fun k hk=>freeze_other hk,freeze_size _ _ _,freeze_same _ _ _⟩)
end
end Go.Pv
