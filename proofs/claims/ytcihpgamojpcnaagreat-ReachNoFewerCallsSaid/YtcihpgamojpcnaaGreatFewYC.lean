/- Part of the proof: K, C6O, YA, YB, YC. -/
import Derived.Test.YtcihpgamojpcnaaGreatFewPvU
import Derived.WideKeyArgs
import Derived.Deep.Slices
import Derived.ProofKit
import Derived.OpenShut
import Derived.JoinedCond
import Derived.Test.YtcihpgamojpcnaaGreatFewC6T
import Derived.KernelRfl
import Derived.Test.YtcihpgamojpcnaaGreatFewC6Ord
namespace Go.Pv
open Go Go.ChangeShapes Go.WideShapes
mutual
def bulk{H:Type}:DataW H->Nat
 | .lit (.string bytes)=>bytes.length+1
 | .lit _=>1
 | .nil=>1
 | .ptr d=>bulk d+1
 | .slice elems spare=>bulkAll elems+bulkAll spare+1
 | .agg parts=>bulkAll parts+1
 | .iface _ d=>bulk d+1
 | .map entries=>bulkEnts entries+1
 | .held _=>1
def bulkAll{H:Type}:List (DataW H)->Nat
 |[]=>0
 |d::r=>bulk d+bulkAll r
def bulkEnts{H:Type}:List (Lit×DataW H)->Nat
 |[]=>0
 |x::r=>bulkEnt x+bulkEnts r
def bulkEnt{H:Type}:Lit×DataW H->Nat
 |(.string bytes,d)=>bytes.length+bulk d+1
 |(_,d)=>bulk d+1
end
def memOf(w:World):Mem:=fun b=>w.heap[b]?
def IRelL(m:Mem)(ds:List V)(cs:List Value):Prop:=
 ds.length=cs.length/\∀(i:Nat) (c:V) (v:Value),ds[i]? = some c->cs[i]? = some v->IRel m c v
theorem IRelL.one{m:Mem}{d:V}{c:Value}(h:IRel m d c):IRelL m [d] [c]:=
 ⟨rfl,fun i d' c' hd hc=>by
  match i with
  |0=>simp at hd hc;subst hd;subst hc;exact h
  |_+1=>simp at hd⟩
theorem IRelL.app{m:Mem}{a b:List V}{x y:List Value}(h:IRelL m a x)(h':IRelL m b y):IRelL m (a++b) (x++y):=by
 refine⟨by simp[h.1,h'.1],fun i c v hc hv=>?_⟩
 by_cases hi:i<a.length
 ·rw[List.getElem?_append_left hi] at hc
  rw[List.getElem?_append_left (by rw[<-h.1];exact hi)] at hv
  exact h.2 i c v hc hv
 ·rw[List.getElem?_append_right (by omega)] at hc
  rw[List.getElem?_append_right (by rw[<-h.1];omega),<-h.1] at hv
  exact h'.2 _ c v hc hv
section
variable{P:Program}{t e:TypeId}{α β:Type}
def wOk{H:Type}(P:Program)(t:TypeId)(d:DataW H):Prop:=(d.weights P t).all (·<=reachBytes)=true
def wOks{H:Type}(P:Program)(ts:List TypeId)(ds:List (DataW H)):Prop:=(DataW.weightsEach P ts ds).all (·<=reachBytes)=true
theorem wOks_cons{H:Type}{P:Program}{t:TypeId}{ts:List TypeId}{d:DataW H}{ds:List (DataW H)}(h:wOks P (t::ts) (d::ds)):wOk P t d/\wOks P ts ds:=by
 unfold wOks wOk at *
 rw[DataW.weightsEach,List.all_append,Bool.and_eq_true] at h
 exact h
theorem wAll{H:Type}{P:Program}{e:TypeId}:∀(l:List (DataW H)),(DataW.weightsAll P e l).all (·<=reachBytes)=true->∀d,d∈l->wOk P e d
 |[],_,d,hd=>by simp at hd
 |x::l,h,d,hd=>by
  rw[DataW.weightsAll,List.all_append,Bool.and_eq_true] at h
  rcases List.mem_cons.1 hd with rfl|hd
  ·exact h.1
  ·exact wAll l h.2 d hd
def Opens(P:Program)(t:TypeId)(e:α->List V)(sz:α->Nat)(ok:α->Prop):Prop:=
 ∀{H:Type} (enc:TypeId×Value->H) (w:World) (fuel:Nat) (cs:List Value) (x:DataW H×List MemPlace),
  DataW.trod enc P w 0 (fun _=>true) true fuel t cs=some x->wOk P t x.1->∃a:α,IRelL (memOf w) (e a) cs/\sz a<=bulk x.1/\ok a
theorem opens_int{k:IntKind}(ht:P.underlying t=some (.int k)):Opens P t (fun n:Int=>[V.con (.int k n)]) (fun _=>1) (fun n=>k.min<=n/\n<=k.max):=by
 intro H enc w fuel cs x h hw
 obtain⟨n,rfl,rfl,hw'⟩:=DataW.trod_int ht h
 simp only[Lit.wf,Bool.and_eq_true,decide_eq_true_eq] at hw'
 exact⟨n,IRelL.one (.con _),by simp[bulk],hw'⟩
theorem opens_string(ht:P.underlying t=some .string):Opens P t (fun s:List UInt8=>[sV s]) (fun s=>s.length+1) (fun s=>s.length<=maxLen):=by
 intro H enc w fuel cs x h hw
 obtain⟨s,rfl,rfl,hs⟩:=DataW.trod_string ht h
 refine⟨s.data.toList,IRelL.one ?_,by simp[bulk],by simpa using hs⟩
 have:str s.data.toList=.string s:=by simp[str]
 unfold sV
 rw[this]
 exact .con _
theorem list_of{p:Nat->α->Prop}:∀{n:Nat},(∀i,i<n->∃a,p i a)->∃l:List α,l.length=n/\∀i a,l[i]? = some a->p i a
 |0,_=>⟨[],rfl,by simp⟩
 |n+1,h=>by
  obtain⟨l,hl,hp⟩:=list_of (n:=n) fun i hi=>h i (by omega)
  obtain⟨a,ha⟩:=h n (by omega)
  refine⟨l++[a],by simp[hl],fun i b hb=>?_⟩
  by_cases hi:i<l.length
  ·rw[List.getElem?_append_left hi] at hb;exact hp i b hb
  ·rw[List.getElem?_append_right (by omega)] at hb
   have:i - l.length=0:=by
    have:=(List.getElem?_eq_some_iff.1 hb).1
    simp at this;omega
   rw[this] at hb
   simp at hb
   subst hb
   rw[show i=n by omega];exact ha
theorem bulkAll_map{H:Type}{n:Nat}(D:Nat->DataW H):bulkAll ((List.range n).map D)=((List.range n).map fun i=>bulk (D i)).sum:=by
 generalize List.range n=l
 induction l with
 |nil=>rfl
 |cons a l ih=>simp[bulkAll,ih]
theorem sum_le{l:List α}{sz:α->Nat}{g:Nat->Nat}(h:∀i a,l[i]? = some a->sz a<=g i):(l.map sz).sum<=((List.range l.length).map g).sum:=by
 induction l generalizing g with
 |nil=>simp
 |cons a l ih=>
  rw[List.length_cons,List.range_succ_eq_map]
  simp only[List.map_cons,List.sum_cons,List.map_map]
  have h0:=h 0 a rfl
  have h1:=ih (g:=g ∘ Nat.succ) fun i b hb=>h (i+1) b (by simpa using hb)
  exact Nat.add_le_add h0 h1
theorem opens_slice{k:Nat}{ee:α->List V}{sz:α->Nat}{ok:α->Prop}(ht:P.underlying t=some (.slice e))(hk:P.cellsOf e=k)(h0:0<k)(he:Opens P e ee sz ok):
  Opens P t (fun l:List α=>[V.lst k (l.map ee)]) (fun l=>(l.map sz).sum+1) (fun l=>(∀a,a∈l->ok a)/\l.length<=maxLen):=by
 intro H enc w fuel cs x h hw
 rcases Deep.open_slice ht h with ⟨rfl,rfl⟩|⟨a,len,cap,m,n,D,Pl,rfl,_,hlc,hcm,hm,rfl,hel⟩
 ·exact⟨[],IRelL.one (.nil _ _ _),by simp[bulk],by simp⟩
 ·simp only[if_true] at hm
  subst hm
  obtain⟨l,hl,hp⟩:=list_of (n:=len) (p:=fun i (b:α)=>sz b<=bulk (D i)/\ok b/\∃cs',w.cells? 0 (a.add (i*P.cellsOf e)) (P.cellsOf e)=some cs'/\IRelL (memOf w) (ee b) cs') (by
   intro i hi
   obtain⟨cs',hc,hd⟩:=hel i (by omega)
   obtain⟨b,h1,h2,h3⟩:=he _ _ _ _ _ hd (by
    unfold wOk at hw
    rw[DataW.weights] at hw
    simp only[ht,List.all_cons,List.all_append,Bool.and_eq_true] at hw
    exact wAll _ hw.2.1 _ (List.mem_map.2 ⟨i,List.mem_range.2 hi,rfl⟩))
   exact⟨b,h2,h3,cs',hc,h1⟩)
  refine⟨l,IRelL.one ?_,?_,fun b hb=>?_,by omega⟩
  ·by_cases hz:len=0
   ·subst hz
    have:l=[]:=List.length_eq_zero_iff.1 hl
    subst this
    exact .nil _ _ _
   ·have hcell:∀i j b,l[i]? = some b->j<k->∃v,w.cell? ((a.add (i*k)).add j)=some v/\(∃c,(ee b)[j]? = some c)/\∀c,(ee b)[j]? = some c->IRel (memOf w) c v:=by
     intro i j b hb hj
     obtain⟨_,_,cs',hc,hr⟩:=hp i b hb
     rw[hk] at hc
     obtain⟨_,hn,hcs⟩:=World.cells?_some hc
     have hj':j<cs'.length:=by omega
     have hv:cs'[j]? = some cs'[j]:=List.getElem?_eq_getElem hj'
     have hj2:j<(ee b).length:=by rw[hr.1];exact hj'
     exact⟨cs'[j],(hcs j hj).trans hv,⟨(ee b)[j],List.getElem?_eq_getElem hj2⟩,fun c hcc=>hr.2 j c _ hcc hv⟩
    have hlen:∀b,b∈l->(ee b).length=k:=by
     intro b hb
     obtain⟨i,hi⟩:=List.mem_iff_getElem?.1 hb
     obtain⟨_,_,cs',hc,hr⟩:=hp i b hi
     rw[hk] at hc
     rw[hr.1,(World.cells?_some hc).2.1]
    have hb0:∃b,l[0]? = some b:=⟨l[0]'(by omega),List.getElem?_eq_getElem _⟩
    obtain⟨b0,hb0⟩:=hb0
    obtain⟨v0,hv0,_⟩:=hcell 0 0 b0 hb0 h0
    have hadd0:(a.add (0*k)).add 0=a:=by simp[Addr.add]
    rw[hadd0] at hv0
    unfold World.cell? at hv0
    split at hv0
    case h_2=>simp at hv0
    rename_i arr T fr hblk
    have hsp:a.spot=none:=by
     cases hs:a.spot with
     |none=>rfl
     |some s=>simp[hs] at hv0
    have hget:∀i j b,l[i]? = some b->j<k->∃v,arr[a.off+(i*k+j)]? = some v/\(∃c,(ee b)[j]? = some c)/\∀c,(ee b)[j]? = some c->IRel (memOf w) c v:=by
     intro i j b hb hj
     obtain⟨v,hv,hc⟩:=hcell i j b hb hj
     rw[Deep.add_add] at hv
     unfold World.cell? at hv
     have hbk:(a.add (i*k+j)).block=a.block:=by unfold Addr.add;split<;>rfl
     have hso:(a.add (i*k+j)).spot=none:=by unfold Addr.add;split<;>simp[hsp]
     have hof:(a.add (i*k+j)).off=a.off+(i*k+j):=by unfold Addr.add;split<;>simp[*]
     rw[hbk,hblk] at hv
     simp only[hso,hof] at hv
     exact⟨v,by simpa using hv,hc⟩
    refine IRel.lst (arr:=arr) (T:=T) (fr:=fr) (fun i=>(arr[a.off+i]?).getD undef) hblk hsp (by simpa using hl) hlc (by omega) ?_ ?_ ?_
    ·intro row hrow
     obtain⟨b,hb,rfl⟩:=List.mem_map.1 hrow
     exact hlen b hb
    ·intro i hi
     rw[List.length_map] at hi
     have hq:i / k<l.length:=Nat.div_lt_of_lt_mul (by rw[Nat.mul_comm];exact hi)
     obtain⟨v,hv,_⟩:=hget (i / k) (i % k) l[i / k] (List.getElem?_eq_getElem hq) (Nat.mod_lt _ h0)
     have:i / k*k+i % k=i:=by rw[Nat.mul_comm];exact Nat.div_add_mod i k
     rw[this] at hv
     simp[hv]
    ·intro i j row c hrow hc
     rw[List.getElem?_map,Option.map_eq_some_iff] at hrow
     obtain⟨b,hb,rfl⟩:=hrow
     have hj:j<k:=by
      have:=(List.getElem?_eq_some_iff.1 hc).1
      rw[hlen b (List.mem_iff_getElem?.2 ⟨i,hb⟩)] at this
      exact this
     obtain⟨v,hv,_,hcr⟩:=hget i j b hb hj
     simp only[hv,Option.getD_some]
     exact hcr c hc
  ·simp only[bulk]
   rw[bulkAll_map]
   have:=sum_le (l:=l) (sz:=sz) (g:=fun i=>bulk (D i)) fun i b hb=>(hp i b hb).1
   rw[hl] at this
   omega
  ·obtain⟨i,hi⟩:=List.mem_iff_getElem?.1 hb
   exact(hp i b hi).2.1
def FOpens(P:Program)(N:Nat)(fs:List (TypeId×Nat×Nat))(off:Nat)(e:α->List V)(sz:α->Nat)(ok:α->Prop):Prop:=
 ∀{H:Type} (enc:TypeId×Value->H) (w:World) (n:Nat) (cs:List Value) (xs:List (DataW H×List MemPlace)),cs.length=N->xs.length=fs.length->
  (∀(i:Nat) (f:TypeId×Nat×Nat),fs[i]? = some f->DataW.trod enc P w 0 (fun _=>true) true n f.1 ((cs.drop f.2.1).take f.2.2)=xs[i]?)->
  wOks P (fs.map (·.1)) (xs.map (·.1))->∃a:α,IRelL (memOf w) (e a) (cs.drop off)/\sz a<=bulkAll (xs.map (·.1))/\ok a
theorem fopens_nil{N:Nat}:FOpens P N [] N (fun _:Unit=>[]) (fun _=>0) (fun _=>True):=by
 intro H enc w n cs xs hN hx _ _
 refine⟨(),?_,by simp,trivial⟩
 rw[<-hN]
 simp[IRelL]
theorem fopens_cons{N k off:Nat}{ft:TypeId}{fs:List (TypeId×Nat×Nat)}{ea:α->List V}{eb:β->List V}{sa:α->Nat}{sb:β->Nat}{oa:α->Prop}{ob:β->Prop}
  (h:Opens P ft ea sa oa) (hr:FOpens P N fs (off+k) eb sb ob):FOpens P N ((ft,off,k)::fs) off (fun p:α×β=>ea p.1++eb p.2) (fun p=>sa p.1+sb p.2) (fun p=>oa p.1/\ob p.2):=by
 intro H enc w n cs xs hN hx hf hw
 match xs,hx with
 |x::xs,hx=>
  have h1:=hf 0 _ rfl
  simp only[List.getElem?_cons_zero] at h1
  have hw':=wOks_cons hw
  obtain⟨a,ha,hs,ho⟩:=h enc w n _ x h1 hw'.1
  have hb':=hr enc w n cs xs hN (by simpa using hx) fun i f hi=>by
   have:=hf (i+1) f (by simpa using hi)
   simpa using this
  obtain⟨b,hb,hs',ho'⟩:=hb' hw'.2
  refine⟨(a,b),?_,by simp only[List.map_cons,bulkAll];omega,ho,ho'⟩
  have:=ha.app hb
  rw[show(cs.drop off).take k++cs.drop (off+k)=cs.drop off by rw[<-List.drop_drop];exact List.take_append_drop _ _] at this
  exact this
def fieldsOf(P:Program)(t:TypeId):Option (List (TypeId×Nat×Nat)):=
 match P.underlying t with
 |some (.struct fs)=>some (fs.toList.map fun f=>(f.type,f.offset,P.cellsOf f.type))
 |_=>none
theorem opens_struct{N:Nat}{fs:List (TypeId×Nat×Nat)}{e:α->List V}{sz:α->Nat}{ok:α->Prop}(ht:fieldsOf P t=some fs)(hN:P.cellsOf t=N)(h:FOpens P N fs 0 e sz ok):
  Opens P t e (fun a=>sz a+1) ok:=by
 intro H enc w fuel cs x hx hw
 unfold fieldsOf at ht
 split at ht
 case h_2=>simp at ht
 rename_i gs hu
 simp only[Option.some.injEq] at ht
 subst ht
 obtain⟨xs,n,_,rfl,hl,hxl,hf⟩:=DataW.trod_struct hu hx
 have ha':=h enc w n cs xs (hl.trans hN) (by simpa using hxl) fun i f hi=>by
  rw[List.getElem?_map,Option.map_eq_some_iff] at hi
  obtain⟨g,hg,rfl⟩:=hi
  exact hf i g (by simpa using hg)
 obtain⟨a,h1,h2,h3⟩:=ha' (by
  unfold wOk at hw
  rw[DataW.weights] at hw
  simp only[hu] at hw
  unfold wOks
  rw[List.map_map]
  exact hw)
 exact⟨a,by simpa using h1,by simp only[bulk];omega,h3⟩
theorem opens_map{ea:α->List V}{eb:β->List V}{sa:α->Nat}{sb:β->Nat}{oa:α->Prop}{ob:β->Prop}(h:Opens P t ea sa oa)(g:α->β)
  (he:∀a,eb (g a)=ea a) (hs:∀a,sb (g a)=sa a) (ho:∀a,oa a->ob (g a)):Opens P t eb sb ob:=by
 intro H enc w fuel cs x hx hw
 obtain⟨a,h1,h2,h3⟩:=h enc w fuel cs x hx hw
 exact⟨g a,by rw[he];exact h1,by rw[hs];exact h2,ho a h3⟩
def OpensV(P:Program)(t:TypeId)(e:α->V)(sz:α->Nat)(ok:α->Prop):Prop:=
 ∀{H:Type} (enc:TypeId×Value->H) (w:World) (base:Nat) (v:Value) (d:DataW H) (p:List MemPlace),
  Value.okWide P w .any base t v->DataW.Trod enc P w 0 (fun _=>true) true t v d p->wOk P t d->∃a:α,IRel (memOf w) (e a) v/\sz a<=bulk d/\ok a
theorem opensV_agg{fs:List (TypeId×Nat×Nat)}{e:α->List V}{sz:α->Nat}{ok:α->Prop}(ht:fieldsOf P t=some fs)(h:Opens P t e sz ok):OpensV P t (fun a=>.agg (e a)) sz ok:=by
 intro H enc w base v d p hv ⟨n,hd⟩ hw
 unfold fieldsOf at ht
 split at ht
 case h_2=>simp at ht
 rename_i gs hu
 obtain⟨cs,rfl,_⟩:=okWide_struct hu hv
 obtain⟨a,h1,h2,h3⟩:=h enc w n _ _ hd hw
 exact⟨a,.agg (by simpa[Value.cells] using h1.1) (fun i c v' hc hv'=>h1.2 i c v' hc (by simpa[Value.cells] using hv')),h2,h3⟩
def cellKind(P:Program)(t:TypeId):Bool:=
 match P.underlying t with
 |some (.int _)|some .bool|some .string|some (.slice _)=>true
 |_=>false
theorem opensV_cell{e:α->V}{sz:α->Nat}{ok:α->Prop}(ht:cellKind P t=true)(h:Opens P t (fun a=>[e a]) sz ok):OpensV P t e sz ok:=by
 intro H enc w base v d p hv ⟨n,hd⟩ hw
 obtain⟨a,h1,h2,h3⟩:=h enc w n _ _ hd hw
 have hna:∀cs,v≠.agg cs:=by
  rintro cs rfl
  unfold cellKind at ht
  unfold Value.okWide at hv
  split at ht<;>rename_i hu<;>first|exact absurd ht (by decide)|(simp only[hu,Cell.okWide,Cell.ok] at hv)
 have hc:v.cells.toList=[v]:=by cases v<;>first|rfl|exact absurd rfl (hna _)
 rw[hc] at h1
 exact⟨a,h1.2 0 _ _ rfl rfl,h2,h3⟩
theorem sameAt_of{w w':World}(h:∀b,b<w.heap.size->w'.heap[b]? = w.heap[b]?){p:MemPlace}(hp:p.block<w.heap.size):w.sameAt w' p:=by
 cases p with
 |cell b o=>simp only[World.sameAt,World.cell?];rw[h b hp]
 |map b=>exact h b hp
theorem trodAll_stays{H:Type}{enc:TypeId×Value->H}(hl:laidOutB P=true){w w':World}{sp:Nat->Bool}(hh:∀b,b<w.heap.size->w'.heap[b]? = w.heap[b]?)
  (hs:∀b,b<w.heap.size->sp b=true):∀{ts:List TypeId} {vs:List Value} {ds:List (DataW H)} {ps:List MemPlace},
  (ts.all fun t=>P.readableRec t&&decide (t<P.types.size))=true->DataW.TrodAll enc P w 0 (fun _=>true) true ts vs ds ps->(∀p∈ps,p.block<w.heap.size)->DataW.TrodAll enc P w' 0 sp true ts vs ds ps
 |[],[],[],_,_,h,_=>h
 |t::ts,v::vs,d::ds,_,hr,⟨p,q,h1,h2,e⟩,hlt=>by
  subst e
  simp only[List.all_cons,Bool.and_eq_true,decide_eq_true_eq] at hr
  exact⟨p,q,WideElems.Trod_stays hl hr.1.1 hr.1.2 h1 (fun x hx=>sameAt_of hh (hlt x (List.mem_append_left _ hx))) (fun x hx=>hs _ (hlt x (List.mem_append_left _ hx))),
   trodAll_stays hl hh hs (by simpa using hr.2) h2 (fun x hx=>hlt x (List.mem_append_right _ hx)),rfl⟩
theorem kept_of{w w':World}(hs:Same w w')(hh:∀b,b<w.heap.size->w'.heap[b]? = w.heap[b]?)(may:MemPlace->Prop):w.keptBut w' may:=by
 refine⟨hs.os,hs.output,fun i hi=>?_⟩
 rw[hh i hi]
 split<;>first|exact⟨rfl,rfl,rfl,fun _ _=>rfl⟩|exact .inr ⟨rfl,rfl⟩|rfl|skip
 all_goals simp_all
theorem law_post{H:Type}{enc:TypeId×Value->H}{f:Func}{s:ChangeSpec}{apart fresh handsOn:Bool}{w w':World}{args:Array Value}{v:Value}{ds gs:List (DataW H)}{before:List MemPlace}{m m':Mem}{tb:TypeId}
  (hl:laidOutB P=true) (hts:(f.params.toList.all fun t=>P.readableRec t&&decide (t<P.types.size))=true) (hv:s.vars=[]) (hfn:∀gs',gs'=[]->s.fn H (ds++gs')={ results:=[.lit (.bool true)],args:=ds })
  (hres:f.resultTypes=#[tb]) (hb:P.underlying tb=some .bool) (hW:DataW.Whole enc P f.params.toList s.vars apart w args.toList ds gs before) (h:IRel m' (bV true) v) (hg:Grew m m' w w'):
  s.post enc P f apart fresh handsOn false w args v w':=by
 have hW0:=hW
 obtain⟨p,q,hA,hV,rfl,hfz,hnd⟩:=hW0
 cases h
 rw[hv] at hV
 cases gs with
 |cons _ _=>simp[DataW.TrodVars] at hV
 |nil=>
 have hq:q=[]:=hV
 subst hq
 refine⟨ds,[],p++[],[],p,[],hW,?_,?_,?_,kept_of hg.same hg.heap _,fun h=>by simp at h⟩
 ·rw[hfn _ rfl,hres]
  exact trodAll_cons_mk (RowKit.shut_bool hb _) trodAll_mk0
 ·rw[hfn _ rfl]
  exact trodAll_stays hl hg.heap (fun b hb=>by simpa using hb) hts hA (DataW.TrodAll.lt hA)
 ·rw[hv,hfn _ rfl]
  rfl
theorem args_nil{H:Type}{enc:TypeId×Value->H}{w:World}{args:Array Value}{f:Func}{s:ChangeSpec}{apart:Bool}{ds gs:List (DataW H)}{before:List MemPlace}
  (hW:DataW.Whole enc P f.params.toList s.vars apart w args.toList ds gs before):∃p,DataW.TrodAll enc P w 0 (fun _=>true) true f.params.toList args.toList ds p:=by
 obtain⟨p,q,hA,_⟩:=hW
 exact⟨p,hA⟩
end
def factsA(P:Program)(f:FuncId)(fn:Func)(s:ChangeSpec)(c:OpenClaim):Bool:=
 c.wf (OpenSpec.ofChange s)&&laidOutB P&&mapsRowed P &&
 fn.params.all (P.readableRec ·)&&namedTie P c.named s.vars &&
 (c.stops==[])&&(P.stops==[])&&(c.knobs==[])&&(P.stopKnobs==[]) &&
 (c.inPlace==P.inPlace f)&&(c.unfollowed==P.unfollowed f)&&(c.recurses==P.recurses f)&&(c.named==P.varsNamed f) &&
 (c.maps==(fn.params.toList++s.plain.varTypes P).any (P.mapsRec ·))&&(c.ifaces==(fn.params.toList++s.plain.varTypes P).any (P.ifacesRec ·))&&(c.mapsOut==P.mapsAmong fn.resultTypes.toList) &&
 (c.loops==(fn.params.toList++s.plain.varTypes P).any (P.loopsFrom ·))&&(c.wideKeys==(fn.params.toList++s.plain.varTypes P++fn.resultTypes.toList).any (P.wideKeysFrom ·)) &&
 s.vars.all (P.varReadable ·)&&fn.resultTypes.all (fun t=>P.readableRec t&&decide (t<P.types.size))&&(c.ifacesOut==fn.resultTypes.toList.any (P.ifacesRec ·))&&(c.loopsOut==fn.resultTypes.toList.any (P.loopsFrom ·))&&(c.plainKeys==P.plainKeys)&&c.shortTexts.isNone&&P.stopsHeard
def factsB(P:Program)(c:OpenClaim):Bool:=P.mayEnter&&(c.lifted==P.liftsFinal)&&(P.make==some c.make)
def factsC(P:Program)(fn:Func)(s:ChangeSpec)(c:OpenClaim):Bool:=
 (c.kinds==(if c.domain.isEmpty then [] else fn.params.toList.map fun t=>match P.underlying t with|some (.int k)=>some k|_=>none))&&(c.pinned==c.pinnedBy) &&
 (c.veiled==(fn.params.toList++s.plain.varTypes P++fn.resultTypes.toList).any (P.veiledRec ·))&&c.veiledFits P fn.params.toList (fn.params.toList++s.plain.varTypes P++fn.resultTypes.toList)
theorem facts_join{P:Program}{f:FuncId}{fn:Func}{s:ChangeSpec}{c:OpenClaim}(h1:factsA P f fn s c=true)(h2:factsB P c=true)(h3:factsC P fn s c=true):joinedFacts P f fn s c=true:=by
 unfold factsA at h1
 unfold factsB at h2
 unfold factsC at h3
 have e:∀a b c d b1 b2 b3 c1 c2 c3:Bool,a=true->(b1&&b2&&b3)=true->(b&&c&&d&&c1)=true->(a&&b1&&b2&&b3&&b&&c&&d&&c1)=true:=by
  intro a b c d b1 b2 b3 c1 c2 c3 h h' h''
  simp only[Bool.and_eq_true] at *
  simp_all
 exact e _ _ _ _ _ _ _ _ true true h1 h2 h3
end Go.Pv
namespace Go.Proofs.YtcihpgamojpcnaaGreat
open Go Go.Pv
set_option linter.unusedVariables false
set_option maxRecDepth 100000
theorem opens_9:Opens Tryz.prog 9 (fun x=>[sV x]) (fun x:(List UInt8)=>(x.length+1)) (fun x:(List UInt8)=>(x.length<=maxLen)):=opens_string (show Tryz.prog.underlying 9=some (.string) by kernel_rfl)
theorem opens_25:Opens Tryz.prog 25 (fun l=>[V.lst 1 (l.map encS)]) (fun x:(List (List UInt8))=>((x.map (fun x:(List UInt8)=>(x.length+1))).sum+1)) (fun x:(List (List UInt8))=>((∀a,a∈x->(fun x:(List UInt8)=>(x.length<=maxLen)) a)/\x.length<=maxLen)):=opens_slice (show Tryz.prog.underlying 25=some (.slice 9) by kernel_rfl) (by kernel_rfl) (by decide) opens_9
def szTIface(x:TIface):Nat:=(x.Name.length+1)+(((x.Methods.map (fun x:(List UInt8)=>(x.length+1))).sum+1)+0)+1
def okTIface(x:TIface):Prop:=(x.Name.length<=maxLen)/\(((∀a,a∈x.Methods->(fun x:(List UInt8)=>(x.length<=maxLen)) a)/\x.Methods.length<=maxLen)/\True)
theorem opens_80:Opens Tryz.prog 80 encTIface szTIface okTIface:=opens_map (opens_struct (fs:=[(9,0,1),(25,1,1)]) (by kernel_rfl) (by kernel_rfl) (fopens_cons opens_9 (fopens_cons opens_25 fopens_nil))) (fun p=>TIface.mk p.1 p.2.1) (fun _=>rfl) (fun _=>rfl) (fun _ h=>h)
theorem opens_22:Opens Tryz.prog 22 (fun l=>[V.lst 2 (l.map encTIface)]) (fun x:(List TIface)=>((x.map (fun x:TIface=>(szTIface x))).sum+1)) (fun x:(List TIface)=>((∀a,a∈x->(fun x:TIface=>(okTIface x)) a)/\x.length<=maxLen)):=opens_slice (show Tryz.prog.underlying 22=some (.slice 80) by kernel_rfl) (by kernel_rfl) (by decide) opens_80
def szTMethod(x:TMethod):Nat:=(x.Name.length+1)+((x.Func.length+1)+0)+1
def okTMethod(x:TMethod):Prop:=(x.Name.length<=maxLen)/\((x.Func.length<=maxLen)/\True)
theorem opens_144:Opens Tryz.prog 144 encTMethod szTMethod okTMethod:=opens_map (opens_struct (fs:=[(9,0,1),(9,1,1)]) (by kernel_rfl) (by kernel_rfl) (fopens_cons opens_9 (fopens_cons opens_9 fopens_nil))) (fun p=>TMethod.mk p.1 p.2.1) (fun _=>rfl) (fun _=>rfl) (fun _ h=>h)
theorem opens_84:Opens Tryz.prog 84 (fun l=>[V.lst 2 (l.map encTMethod)]) (fun x:(List TMethod)=>((x.map (fun x:TMethod=>(szTMethod x))).sum+1)) (fun x:(List TMethod)=>((∀a,a∈x->(fun x:TMethod=>(okTMethod x)) a)/\x.length<=maxLen)):=opens_slice (show Tryz.prog.underlying 84=some (.slice 144) by kernel_rfl) (by kernel_rfl) (by decide) opens_144
def szTType(x:TType):Nat:=(x.Name.length+1)+(((x.Methods.map (fun x:TMethod=>(szTMethod x))).sum+1)+0)+1
def okTType(x:TType):Prop:=(x.Name.length<=maxLen)/\(((∀a,a∈x.Methods->(fun x:TMethod=>(okTMethod x)) a)/\x.Methods.length<=maxLen)/\True)
theorem opens_86:Opens Tryz.prog 86 encTType szTType okTType:=opens_map (opens_struct (fs:=[(9,0,1),(84,1,1)]) (by kernel_rfl) (by kernel_rfl) (fopens_cons opens_9 (fopens_cons opens_84 fopens_nil))) (fun p=>TType.mk p.1 p.2.1) (fun _=>rfl) (fun _=>rfl) (fun _ h=>h)
theorem opens_23:Opens Tryz.prog 23 (fun l=>[V.lst 2 (l.map encTType)]) (fun x:(List TType)=>((x.map (fun x:TType=>(szTType x))).sum+1)) (fun x:(List TType)=>((∀a,a∈x->(fun x:TType=>(okTType x)) a)/\x.length<=maxLen)):=opens_slice (show Tryz.prog.underlying 23=some (.slice 86) by kernel_rfl) (by kernel_rfl) (by decide) opens_86
theorem opens_3:Opens Tryz.prog 3 (fun x=>[V.con (.int .i64 x)]) (fun x:Int=>1) (fun x:Int=>((IntKind.i64).min<=x/\x<=(IntKind.i64).max)):=opens_int (show Tryz.prog.underlying 3=some (.int .i64) by kernel_rfl)
def szTCall(x:TCall):Nat:=1+((x.Target.length+1)+((x.Method.length+1)+((x.Feature.length+1)+0)))+1
def okTCall(x:TCall):Prop:=((IntKind.i64).min<=x.Kind/\x.Kind<=(IntKind.i64).max)/\((x.Target.length<=maxLen)/\((x.Method.length<=maxLen)/\((x.Feature.length<=maxLen)/\True)))
theorem opens_54:Opens Tryz.prog 54 encTCall szTCall okTCall:=opens_map (opens_struct (fs:=[(3,0,1),(9,1,1),(9,2,1),(9,3,1)]) (by kernel_rfl) (by kernel_rfl) (fopens_cons opens_3 (fopens_cons opens_9 (fopens_cons opens_9 (fopens_cons opens_9 fopens_nil))))) (fun p=>TCall.mk p.1 p.2.1 p.2.2.1 p.2.2.2.1) (fun _=>rfl) (fun _=>rfl) (fun _ h=>h)
theorem opens_50:Opens Tryz.prog 50 (fun l=>[V.lst 4 (l.map encTCall)]) (fun x:(List TCall)=>((x.map (fun x:TCall=>(szTCall x))).sum+1)) (fun x:(List TCall)=>((∀a,a∈x->(fun x:TCall=>(okTCall x)) a)/\x.length<=maxLen)):=opens_slice (show Tryz.prog.underlying 50=some (.slice 54) by kernel_rfl) (by kernel_rfl) (by decide) opens_54
def szTFunc(x:TFunc):Nat:=(x.Name.length+1)+((x.Component.length+1)+(((x.Calls.map (fun x:TCall=>(szTCall x))).sum+1)+(((x.Makes.map (fun x:(List UInt8)=>(x.length+1))).sum+1)+0)))+1
def okTFunc(x:TFunc):Prop:=(x.Name.length<=maxLen)/\((x.Component.length<=maxLen)/\(((∀a,a∈x.Calls->(fun x:TCall=>(okTCall x)) a)/\x.Calls.length<=maxLen)/\(((∀a,a∈x.Makes->(fun x:(List UInt8)=>(x.length<=maxLen)) a)/\x.Makes.length<=maxLen)/\True)))
theorem opens_52:Opens Tryz.prog 52 encTFunc szTFunc okTFunc:=opens_map (opens_struct (fs:=[(9,0,1),(9,1,1),(50,2,1),(25,3,1)]) (by kernel_rfl) (by kernel_rfl) (fopens_cons opens_9 (fopens_cons opens_9 (fopens_cons opens_50 (fopens_cons opens_25 fopens_nil))))) (fun p=>TFunc.mk p.1 p.2.1 p.2.2.1 p.2.2.2.1) (fun _=>rfl) (fun _=>rfl) (fun _ h=>h)
theorem opens_24:Opens Tryz.prog 24 (fun l=>[V.lst 4 (l.map encTFunc)]) (fun x:(List TFunc)=>((x.map (fun x:TFunc=>(szTFunc x))).sum+1)) (fun x:(List TFunc)=>((∀a,a∈x->(fun x:TFunc=>(okTFunc x)) a)/\x.length<=maxLen)):=opens_slice (show Tryz.prog.underlying 24=some (.slice 52) by kernel_rfl) (by kernel_rfl) (by decide) opens_52
def szTGraph(x:TGraph):Nat:=((x.Ifaces.map (fun x:TIface=>(szTIface x))).sum+1)+(((x.Types.map (fun x:TType=>(szTType x))).sum+1)+(((x.Funcs.map (fun x:TFunc=>(szTFunc x))).sum+1)+(((x.Entries.map (fun x:(List UInt8)=>(x.length+1))).sum+1)+0)))+1
def okTGraph(x:TGraph):Prop:=((∀a,a∈x.Ifaces->(fun x:TIface=>(okTIface x)) a)/\x.Ifaces.length<=maxLen)/\(((∀a,a∈x.Types->(fun x:TType=>(okTType x)) a)/\x.Types.length<=maxLen)/\(((∀a,a∈x.Funcs->(fun x:TFunc=>(okTFunc x)) a)/\x.Funcs.length<=maxLen)/\(((∀a,a∈x.Entries->(fun x:(List UInt8)=>(x.length<=maxLen)) a)/\x.Entries.length<=maxLen)/\True)))
theorem opens_27:Opens Tryz.prog 27 encTGraph szTGraph okTGraph:=opens_map (opens_struct (fs:=[(22,0,1),(23,1,1),(24,2,1),(25,3,1)]) (by kernel_rfl) (by kernel_rfl) (fopens_cons opens_22 (fopens_cons opens_23 (fopens_cons opens_24 (fopens_cons opens_25 fopens_nil))))) (fun p=>TGraph.mk p.1 p.2.1 p.2.2.1 p.2.2.2.1) (fun _=>rfl) (fun _=>rfl) (fun _ h=>h)
theorem opensV_27:OpensV Tryz.prog 27 (fun x=>V.agg (encTGraph x)) szTGraph okTGraph:=opensV_agg (fs:=[(22,0,1),(23,1,1),(24,2,1),(25,3,1)]) (by kernel_rfl) opens_27
theorem opensV_25:OpensV Tryz.prog 25 (fun l=>V.lst 1 (l.map encS)) (fun x:(List (List UInt8))=>((x.map (fun x:(List UInt8)=>(x.length+1))).sum+1)) (fun x:(List (List UInt8))=>((∀a,a∈x->(fun x:(List UInt8)=>(x.length<=maxLen)) a)/\x.length<=maxLen)):=opensV_cell (by kernel_rfl) opens_25
theorem opensV_9:OpensV Tryz.prog 9 (fun x=>sV x) (fun x:(List UInt8)=>(x.length+1)) (fun x:(List UInt8)=>(x.length<=maxLen)):=opensV_cell (by kernel_rfl) opens_9
def szTSite(x:TSite):Nat:=(x.Func.length+1)+(1+0)+1
def okTSite(x:TSite):Prop:=(x.Func.length<=maxLen)/\(((IntKind.i64).min<=x.Call/\x.Call<=(IntKind.i64).max)/\True)
theorem opens_41:Opens Tryz.prog 41 encTSite szTSite okTSite:=opens_map (opens_struct (fs:=[(9,0,1),(3,1,1)]) (by kernel_rfl) (by kernel_rfl) (fopens_cons opens_9 (fopens_cons opens_3 fopens_nil))) (fun p=>TSite.mk p.1 p.2.1) (fun _=>rfl) (fun _=>rfl) (fun _ h=>h)
theorem opens_28:Opens Tryz.prog 28 (fun l=>[V.lst 2 (l.map encTSite)]) (fun x:(List TSite)=>((x.map (fun x:TSite=>(szTSite x))).sum+1)) (fun x:(List TSite)=>((∀a,a∈x->(fun x:TSite=>(okTSite x)) a)/\x.length<=maxLen)):=opens_slice (show Tryz.prog.underlying 28=some (.slice 41) by kernel_rfl) (by kernel_rfl) (by decide) opens_41
theorem opensV_28:OpensV Tryz.prog 28 (fun l=>V.lst 2 (l.map encTSite)) (fun x:(List TSite)=>((x.map (fun x:TSite=>(szTSite x))).sum+1)) (fun x:(List TSite)=>((∀a,a∈x->(fun x:TSite=>(okTSite x)) a)/\x.length<=maxLen)):=opensV_cell (by kernel_rfl) opens_28
set_option linter.unusedSimpArgs false
abbrev Tx:=List UInt8
def vis(c:UInt8):Bool:=decide (33<=c.toNat)&&decide (c.toNat<=126)&&!decide (c.toNat=35)
def nm(s:Tx):Bool:=s.all vis&&decide (1<=s.length)&&decide (s.length<=100)
def le(a b:Tx):Bool:=Op.bytesLess a b||a==b
theorem le_nil{s:Tx}(h:nm s=true):le s []=false:=by
 cases s with
 |nil=>simp[nm] at h
 |cons c s=>simp[le,Op.bytesLess]
theorem le_iff{a b:Tx}:le a b=false<->Op.bytesLess b a=true:=by
 unfold le
 rcases bl_tri a b with h|h|h
 ·simp[h,bl_asymm h]
 ·subst h;simp[bl_irrefl]
 ·simp[h,bl_asymm h,(bl_ne h).symm]
theorem M108_eq(F:Nat)(s:Tx)(h:s.length<=maxLen):M108 F s=some (nm s):=by
 have h':(s.length:Int)<=9223372036854775807:=by have:s.length<=9223372036854775807:=h;omega
 unfold M108
 rw[jn_def,if_pos h',Int.toNat_natCast]
 generalize hk:(if (!(s==[]))=true then some (decide ((s.length:Int)<=100)) else some false)=k
 have:=bytesL (g:=M108_L1 F s k) (k:=k) (f:=false) s vis (fun _=>rfl) (fun m n=>by
  rw[M108_L1]
  cases hi:idx s n with
  |none=>rfl
  |some c=>
   simp only[Option.bind_some]
   by_cases h1:c.toNat<33
   ·rw[if_t (by omega)];simp[vis];omega
   ·rw[if_f (by omega)]
    by_cases h2:c.toNat>126
    ·rw[if_t (by omega)];simp[vis];omega
    ·rw[if_f (by omega)]
     by_cases h3:c.toNat=35
     ·rw[if_pos (by simp[h3])];simp[vis,h3]
     ·rw[if_neg (by simp;omega),if_pos];simp[vis];omega) s.length 0 (by omega)
 rw[show((0:Nat):Int)=0 from rfl] at this
 rw[this,List.drop_zero,<-hk]
 unfold nm
 cases s.all vis
 ·simp
 ·cases s with
  |nil=>simp
  |cons c s=>simp only[if_true,Bool.true_and];rw[if_pos (by simp)];congr 1;rw[Bool.eq_iff_iff];simp only[decide_eq_true_eq,Bool.and_eq_true,List.length_cons];omega
theorem M88_eq(F:Nat)(s:Tx)(h:s.length<=maxLen):M88 F s=some (nm s):=by
 have h':(s.length:Int)<=9223372036854775807:=by have:s.length<=9223372036854775807:=h;omega
 unfold M88
 rw[jn_def,if_pos h',Int.toNat_natCast]
 generalize hk:(if decide ((s.length:Int)>=1)=true then some (decide ((s.length:Int)<=100)) else some false)=k
 have:=bytesL (g:=M88_L1 F s k) (k:=k) (f:=false) s vis (fun _=>rfl) (fun m n=>by
  rw[M88_L1]
  cases hi:idx s n with
  |none=>rfl
  |some c=>
   simp only[Option.bind_some]
   by_cases h1:c.toNat<33
   ·rw[if_t (by omega)];simp[vis];omega
   ·rw[if_f (by omega)]
    by_cases h2:c.toNat>126
    ·rw[if_t (by omega)];simp[vis];omega
    ·rw[if_f (by omega)]
     by_cases h3:c.toNat=35
     ·rw[if_pos (by simp[h3])];simp[vis,h3]
     ·rw[if_neg (by simp;omega),if_pos];simp[vis];omega) s.length 0 (by omega)
 rw[show((0:Nat):Int)=0 from rfl] at this
 rw[this,List.drop_zero,<-hk]
 unfold nm
 cases s.all vis
 ·simp
 ·simp only[if_true,Bool.true_and]
  by_cases h1:1<=s.length
  ·rw[if_t (by omega)];congr 1;rw[Bool.eq_iff_iff];simp only[decide_eq_true_eq,Bool.and_eq_true];omega
  ·rw[if_f (by omega)];congr 1;symm;rw[Bool.eq_false_iff];simp only[decide_eq_true_eq,Bool.and_eq_true,ne_eq];omega
def nmd(s before:Tx)(first:Bool):Int:=if !nm s then 8 else if !first then (if le s before then 10 else 0) else 0
theorem M87_eq(F:Nat)(s b:Tx)(f:Bool)(h:s.length<=maxLen):M87 F s b f=some (nmd s b f):=by
 unfold M87 nmd
 rw[M108_eq F s h,Option.bind_some,jn_def]
 cases nm s
 ·simp
 ·cases f
  ·simp[le];split<;>rfl
  ·simp
def nme(s:Tx)(p:Option Tx):Int:=if !nm s then 8 else match p with|some b=>if le s b then 10 else 0|none=>0
theorem nmd_first(s b:Tx):nmd s b true=nme s none:=by unfold nmd nme;cases nm s<;>rfl
theorem nmd_next(s b:Tx):nmd s b false=nme s (some b):=by unfold nmd nme;cases nm s<;>rfl
theorem nme_zero{s:Tx}{p:Option Tx}(h:nme s p=0):nm s=true/\∀b,p=some b->Op.bytesLess b s=true:=by
 unfold nme at h
 cases hn:nm s
 ·simp[hn] at h
 ·refine⟨rfl,fun b hb=>?_⟩
  subst hb
  simp only[hn,Bool.not_true,Bool.false_eq_true,if_false] at h
  split at h
  ·simp at h
  ·rename_i hl;exact le_iff.1 (by simpa using hl)
abbrev SetM:=List (Tx×Bool)
def sset(m:SetM):List Tx->SetM
 |[]=>m
 |x::l=>sset (mput m x true) l
def has(m:SetM)(x:Tx):Bool:=(mget m x).getD false
theorem has_sset(x:Tx):∀(l:List Tx) (m:SetM),has (sset m l) x=(has m x||l.contains x)
 |[],m=>by simp[sset]
 |y::l,m=>by
  rw[sset,has_sset x l,List.contains_cons]
  unfold has
  rw[mget_mput]
  by_cases h:y=x
  ·subst h;simp
  ·rw[if_neg h]
   have:(x==y)=false:=by simpa using fun e=>h e.symm
   rw[this,Bool.false_or]
theorem has_set(x:Tx)(l:List Tx):has (sset [] l) x=l.contains x:=by rw[has_sset];simp[has,mget]
def methE:Option Tx->List Tx->Int
 |_,[]=>0
 |p,s::l=>if nme s p≠0 then nme s p else methE (some s) l
def ifE:Option Tx->List TIface->Int
 |_,[]=>0
 |p,x::l=>if nme x.Name p≠0 then nme x.Name p else if x.Methods=[] then 13 else if 200<x.Methods.length then 3 else if methE none x.Methods≠0 then methE none x.Methods else ifE (some x.Name) l
def mtE(fs:Tx->Bool)(lo:Bool):Option Tx->List TMethod->Int
 |_,[]=>0
 |p,m::l=>if nme m.Name p≠0 then nme m.Name p else if (!lo&&!fs m.Func)=true then 4 else mtE fs lo (some m.Name) l
def tyE(fs:Tx->Bool)(lo:Bool):Option Tx->List TType->Int
 |_,[]=>0
 |p,x::l=>if nme x.Name p≠0 then nme x.Name p else if 200<x.Methods.length then 3 else if mtE fs lo none x.Methods≠0 then mtE fs lo none x.Methods else tyE fs lo (some x.Name) l
def clE(fs:Tx->Bool)(is:Tx->Option (List Tx))(lo:Bool)(c:TCall):Int:=
 if c.Kind=1 then (if (!lo&&!fs c.Target)=true then 4 else if c.Method≠[] then 2 else if c.Feature≠[]/\nm c.Feature=false then 8 else 0)
 else if c.Kind=2 then (if (!lo&&!((is c.Target).elim false fun l=>l.contains c.Method))=true then 4 else if c.Feature≠[]/\nm c.Feature=false then 8 else 0) else 7
def csE(fs:Tx->Bool)(is:Tx->Option (List Tx))(lo:Bool):List TCall->Int
 |[]=>0
 |c::l=>if clE fs is lo c≠0 then clE fs is lo c else csE fs is lo l
def lsE(there:Tx->Bool)(lo:Bool):Option Tx->List Tx->Int
 |_,[]=>0
 |p,s::l=>if (!lo&&!there s)=true then 4 else if (p.elim false fun b=>le s b)=true then 10 else lsE there lo (some s) l
def fnE(fs ts:Tx->Bool)(is:Tx->Option (List Tx))(lo:Bool):Option Tx->List TFunc->Int
 |_,[]=>0
 |p,x::l=>if nme x.Name p≠0 then nme x.Name p else if nm x.Component=false then 8 else if 200<x.Calls.length then 3 else if csE fs is lo x.Calls≠0 then csE fs is lo x.Calls else if lsE ts lo none x.Makes≠0 then lsE ts lo none x.Makes else fnE fs ts is lo (some x.Name) l
def ifm(m:List (Tx×TIface)):List TIface->List (Tx×TIface)
 |[]=>m
 |x::l=>ifm (mput m x.Name x) l
def fsOf(g:TGraph):Tx->Bool:=fun x=>(g.Funcs.map (·.Name)).contains x
def tsOf(g:TGraph):Tx->Bool:=fun x=>(g.Types.map (·.Name)).contains x
def isOf(g:TGraph):Tx->Option (List Tx):=fun x=>(mget (ifm [] g.Ifaces) x).map (·.Methods)
def chk(lo:Bool)(g:TGraph):Int:=
 if 200<g.Ifaces.length then 3 else if 500<g.Types.length then 3 else if 3000<g.Funcs.length then 3
 else if ifE none g.Ifaces≠0 then ifE none g.Ifaces
 else if tyE (fsOf g) lo none g.Types≠0 then tyE (fsOf g) lo none g.Types
 else if fnE (fsOf g) (tsOf g) (isOf g) lo none g.Funcs≠0 then fnE (fsOf g) (tsOf g) (isOf g) lo none g.Funcs
 else lsE (fsOf g) lo none g.Entries
theorem M52_L3_eq{F:Nat}(k:SetM->Option Treach_checker):∀(l:List TFunc) (m:SetM),M52_L3 F k l m=k (sset m (l.map (·.Name)))
 |[],m=>rfl
 |x::l,m=>by rw[M52_L3,M52_L3_eq k l];rfl
theorem M52_L2_eq{F:Nat}(k:SetM->Option Treach_checker):∀(l:List TType) (m:SetM),M52_L2 F k l m=k (sset m (l.map (·.Name)))
 |[],m=>rfl
 |x::l,m=>by rw[M52_L2,M52_L2_eq k l];rfl
theorem M52_L1_eq{F:Nat}(k:List (Tx×TIface)->Option Treach_checker):∀(l:List TIface) (m:List (Tx×TIface)),M52_L1 F k l m=k (ifm m l)
 |[],m=>rfl
 |x::l,m=>by rw[M52_L1,M52_L1_eq k l];rfl
def kOf(g:TGraph)(lo:Bool):Treach_checker:=Treach_checker.mk lo (ifm [] g.Ifaces) (sset [] (g.Types.map (·.Name))) (sset [] (g.Funcs.map (·.Name)))
theorem M52_eq(F:Nat)(g:TGraph)(lo:Bool):M52 F g lo=some (kOf g lo):=by
 unfold M52
 simp only[jn_def,M52_L1_eq,M52_L2_eq,M52_L3_eq]
 rfl
def pz(n:Int)(p:Option Tx)(s:Tx):Prop:=match p with|none=>n=0|some b=>n>0/\s=b
theorem nmd_pz{n:Int}{p:Option Tx}{s x:Tx}(h:pz n p s):nmd x s (n==0)=nme x p:=by
 cases p with
 |none=>have h:n=0:=h;subst h;exact nmd_first x s
 |some b=>
  obtain⟨h1,h2⟩:=h
  subst h2
  rw[show(n==0)=false by simp;omega];exact nmd_next x s
theorem M75_L2_eq(F:Nat)(k:Option Int):∀(l:List Tx) (n:Int) (s:Tx) (p:Option Tx),(∀x,x∈l->x.length<=maxLen)->0<=n->pz n p s->M75_L2 F k l n s=if methE p l≠0 then some (methE p l) else k
 |[],n,s,p,_,_,_=>by simp[M75_L2,methE]
 |x::l,n,s,p,hx,hn,hp=>by
  rw[M75_L2,M87_eq F x s _ (hx x (by simp)),Option.bind_some,nmd_pz hp,methE]
  by_cases h:nme x p=0
  ·simp only[h,bne_self_eq_false,Bool.false_eq_true,ne_eq,not_true_eq_false,if_false]
   exact M75_L2_eq F k l (n+1) x (some x) (fun y hy=>hx y (List.mem_cons_of_mem _ hy)) (by omega) ⟨by omega,rfl⟩
  ·rw[if_pos (by simpa using h),if_pos h,if_pos h]
theorem M75_L1_eq(F:Nat)(k:Option Int):∀(l:List TIface) (n:Int) (s:Tx) (p:Option Tx),(∀x,x∈l->okTIface x)->0<=n->pz n p s->M75_L1 F k l n s=if ifE p l≠0 then some (ifE p l) else k
 |[],n,s,p,_,_,_=>by simp[M75_L1,ifE]
 |x::l,n,s,p,hx,hn,hp=>by
  obtain⟨o1,⟨o2,_⟩,_⟩:=hx x (by simp)
  rw[M75_L1]
  simp only[jn_def]
  rw[M87_eq F x.Name s _ o1,Option.bind_some,nmd_pz hp,ifE]
  by_cases h:nme x.Name p=0
  ·simp only[h,bne_self_eq_false,Bool.false_eq_true,ne_eq,not_true_eq_false,if_false]
   by_cases h1:x.Methods=[]
   ·rw[if_pos (by simp[h1]),if_pos h1];simp
   ·rw[if_neg (by simpa using h1),if_neg h1]
    by_cases h2:200<x.Methods.length
    ·rw[if_t (by omega),if_pos h2];simp
    ·rw[if_f (by omega),if_neg h2,M75_L2_eq F _ _ 0 [] none o2 (by omega) rfl]
     by_cases h3:methE none x.Methods=0
     ·simp only[h3,bne_self_eq_false,Bool.false_eq_true,ne_eq,not_true_eq_false,if_false]
      exact M75_L1_eq F k l (n+1) x.Name (some x.Name) (fun y hy=>hx y (List.mem_cons_of_mem _ hy)) (by omega) ⟨by omega,rfl⟩
     ·rw[if_pos h3,if_pos h3,if_pos h3]
  ·rw[if_pos (by simpa using h),if_pos h,if_pos h]
theorem M76_L2_eq(F:Nat)(a:Treach_checker)(fs:Tx->Bool)(hf:∀x,(mget a.funcs x).getD false=fs x)(k:Option Int):∀(l:List TMethod) (n:Int) (s:Tx) (p:Option Tx),(∀x,x∈l->x.Name.length<=maxLen)->0<=n->pz n p s->M76_L2 F a k l n s=if mtE fs a.loose p l≠0 then some (mtE fs a.loose p l) else k
 |[],n,s,p,_,_,_=>by simp[M76_L2,mtE]
 |x::l,n,s,p,hx,hn,hp=>by
  have ih:=M76_L2_eq F a fs hf k l (n+1) x.Name (some x.Name) (fun y hy=>hx y (List.mem_cons_of_mem _ hy)) (by omega) ⟨by omega,rfl⟩
  rw[M76_L2]
  simp only[jn_def]
  rw[M87_eq F x.Name s _ (hx x (by simp)),Option.bind_some,nmd_pz hp,mtE,ih,hf]
  by_cases h:nme x.Name p=0
  ·simp only[h,bne_self_eq_false,Bool.false_eq_true,ne_eq,not_true_eq_false,if_false]
   cases a.loose<;>cases fs x.Func<;>simp
  ·rw[if_pos (by simpa using h),if_pos h,if_pos h]
theorem M76_L1_eq(F:Nat)(a:Treach_checker)(fs:Tx->Bool)(hf:∀x,(mget a.funcs x).getD false=fs x)(k:Option Int):∀(l:List TType) (n:Int) (s:Tx) (p:Option Tx),(∀x,x∈l->okTType x)->0<=n->pz n p s->M76_L1 F a k l n s=if tyE fs a.loose p l≠0 then some (tyE fs a.loose p l) else k
 |[],n,s,p,_,_,_=>by simp[M76_L1,tyE]
 |x::l,n,s,p,hx,hn,hp=>by
  obtain⟨o1,⟨o2,_⟩,_⟩:=hx x (by simp)
  rw[M76_L1]
  simp only[jn_def]
  rw[M87_eq F x.Name s _ o1,Option.bind_some,nmd_pz hp,tyE]
  by_cases h:nme x.Name p=0
  ·simp only[h,bne_self_eq_false,Bool.false_eq_true,ne_eq,not_true_eq_false,if_false]
   by_cases h2:200<x.Methods.length
   ·rw[if_t (by omega),if_pos h2];simp
   ·rw[if_f (by omega),if_neg h2,M76_L2_eq F a fs hf _ _ 0 [] none (fun y hy=>(o2 y hy).1) (by omega) rfl]
    by_cases h3:mtE fs a.loose none x.Methods=0
    ·simp only[h3,bne_self_eq_false,Bool.false_eq_true,ne_eq,not_true_eq_false,if_false]
     exact M76_L1_eq F a fs hf k l (n+1) x.Name (some x.Name) (fun y hy=>hx y (List.mem_cons_of_mem _ hy)) (by omega) ⟨by omega,rfl⟩
    ·rw[if_pos h3,if_pos h3,if_pos h3]
  ·rw[if_pos (by simpa using h),if_pos h,if_pos h]
theorem M10_eq(F:Nat)(l:List Tx)(x:Tx):M10 F l x=some (l.contains x):=by
 unfold M10 M35
 rw[jn_def]
 have:=idxL (g:=M35_L1 F x (some (-1))) (fun y:Tx=>x==y) (fun _=>rfl) (fun y l n=>by rw[M35_L1]) l 0
 rw[show((0:Nat):Int)=0 from rfl] at this
 rw[this]
 have e:(l.any fun y=>x==y)=l.contains x:=by rw[List.contains_eq_any_beq]
 rw[e]
 cases l.contains x
 ·rfl
 ·simp
theorem M109_eq(F:Nat)(a:Treach_checker)(fs:Tx->Bool)(is:Tx->Option (List Tx))(hf:∀x,(mget a.funcs x).getD false=fs x)(hi:∀x,(mget a.ifaces x).map (·.Methods)=is x)(c:TCall)(hc:c.Feature.length<=maxLen):M109 F a c=some (clE fs is a.loose c):=by
 unfold M109 clE
 rw[jn_def,M108_eq F _ hc,<-hi,hf]
 simp only[Option.bind_some,M10_eq]
 have tail:(if (!(c.Feature==([]:Tx)))=true then if (!nm c.Feature)=true then some (8:Int) else some 0 else some 0)=some (if c.Feature≠[]/\nm c.Feature=false then 8 else 0):=by
  by_cases h1:c.Feature=[]<;>cases h2:nm c.Feature<;>simp[h1]
 rw[tail]
 by_cases k1:c.Kind=1
 ·rw[if_pos (by simp[k1]),if_pos k1]
  by_cases k3:c.Method=[]<;>cases a.loose<;>cases fs c.Target<;>simp[k3]
 ·rw[if_neg (by simpa using k1),if_neg k1]
  by_cases k2:c.Kind=2
  ·rw[if_pos (by simp[k2]),if_pos k2]
   cases hm:mget a.ifaces c.Target with
   |none=>cases a.loose<;>simp
   |some x=>
    cases a.loose
    ·cases hcc:x.Methods.contains c.Method<;>simp[hcc]<;>simp_all
    ·simp
  ·rw[if_neg (by simpa using k2),if_neg k2]
theorem M77_L2_eq(F:Nat)(a:Treach_checker)(fs:Tx->Bool)(is:Tx->Option (List Tx))(hf:∀x,(mget a.funcs x).getD false=fs x)(hi:∀x,(mget a.ifaces x).map (·.Methods)=is x)(k:Option Int):∀(l:List TCall),(∀c,c∈l->c.Feature.length<=maxLen)->M77_L2 F a k l=if csE fs is a.loose l≠0 then some (csE fs is a.loose l) else k
 |[],_=>by simp[M77_L2,csE]
 |c::l,h=>by
  rw[M77_L2,M109_eq F a fs is hf hi c (h c (by simp)),Option.bind_some,csE,M77_L2_eq F a fs is hf hi k l (fun c hc=>h c (List.mem_cons_of_mem _ hc))]
  by_cases h1:clE fs is a.loose c=0
  ·simp only[h1,bne_self_eq_false,Bool.false_eq_true,ne_eq,not_true_eq_false,if_false]
  ·rw[if_pos (by simpa using h1),if_pos h1,if_pos h1]
theorem drop_at{α:Type}{a l:List α}{x:α}{n:Nat}(h:a.drop n=x::l):∃hn:n<a.length,a[n]=x/\a.drop (n+1)=l:=by
 have hn:n<a.length:=by
  rcases Nat.lt_or_ge n a.length with h2|h2
  ·exact h2
  ·rw[List.drop_eq_nil_of_le h2] at h;simp at h
 rw[List.drop_eq_getElem_cons hn] at h
 simp only[List.cons.injEq] at h
 exact⟨hn,h.1,h.2⟩
theorem prev_idx{α:Type}{a:List α}{n:Nat}(hn:n<a.length)(h0:n≠0)(hb:a.length<=maxLen):∃h:n - 1<a.length,idx a (w64 ((n:Int) - 1))=some a[n - 1]:=by
 have hb':a.length<=9223372036854775807:=hb
 refine⟨by omega,?_⟩
 rw[w64_id (by omega) (by omega),show(n:Int) - 1=((n - 1:Nat):Int) by omega]
 exact idx_nat _
def prv(a:List Tx)(n:Nat):Option Tx:=if n=0 then none else a[n - 1]?
theorem prv_zero(a:List Tx):prv a 0=none:=rfl
theorem prv_next{a:List Tx}{x:Tx}{n:Nat}(hn:n<a.length)(hx:a[n]=x):prv a (n+1)=some x:=by
 unfold prv
 rw[if_neg (by omega),Nat.add_sub_cancel,List.getElem?_eq_getElem hn,hx]
theorem prv_some{a:List Tx}{n:Nat}(hn:n<a.length)(h0:n≠0):∃h:n - 1<a.length,prv a n=some a[n - 1]:=by
 refine⟨by omega,?_⟩
 unfold prv
 rw[if_neg h0,List.getElem?_eq_getElem (by omega)]
theorem M78_L1_eq(F:Nat)(a:Treach_checker)(a2:List Tx)(a3:SetM)(ha:a2.length<=maxLen)(k:Option Int):∀(l:List Tx) (n:Nat),a2.drop n=l->M78_L1 F a a2 a3 k l n=if lsE (has a3) a.loose (prv a2 n) l≠0 then some (lsE (has a3) a.loose (prv a2 n) l) else k
 |[],n,_=>by simp[M78_L1,lsE]
 |x::l,n,hd=>by
  obtain⟨hn,hx,hl⟩:=drop_at hd
  have ih:=M78_L1_eq F a a2 a3 ha k l (n+1) hl
  rw[prv_next hn hx,show((n+1:Nat):Int)=(n:Int)+1 from rfl] at ih
  rw[M78_L1]
  simp only[jn_def]
  rw[ih,lsE]
  have e:(mget a3 x).getD false=has a3 x:=rfl
  rw[e]
  by_cases h0:n=0
  ·subst h0
   rw[prv_zero]
   cases a.loose<;>cases has a3 x<;>simp
  ·obtain⟨_,e1⟩:=prev_idx hn h0 ha
   obtain⟨_,e2⟩:=prv_some hn h0
   rw[if_t (show(n:Int)>0 by omega),e1,e2]
   simp only[Option.bind_some,Option.elim_some]
   have e3:(Op.bytesLess x a2[n - 1]||x==a2[n - 1])=le x a2[n - 1]:=rfl
   rw[e3]
   cases a.loose<;>cases has a3 x<;>by_cases hc:le x a2[n - 1]=true<;>simp[hc]
theorem M78_eq(F:Nat)(a:Treach_checker)(a2:List Tx)(a3:SetM)(ha:a2.length<=maxLen):M78 F a a2 a3=some (lsE (has a3) a.loose none a2):=by
 unfold M78
 rw[jn_def]
 have:=M78_L1_eq F a a2 a3 ha (some 0) a2 0 rfl
 rw[show((0:Nat):Int)=0 from rfl,prv_zero] at this
 rw[this]
 split
 ·rfl
 ·rename_i h;simp only[ne_eq,Decidable.not_not] at h;rw[h]
theorem M77_L1_eq(F:Nat)(a:Treach_checker)(fs ts:Tx->Bool)(is:Tx->Option (List Tx))(hf:∀x,(mget a.funcs x).getD false=fs x)(hi:∀x,(mget a.ifaces x).map (·.Methods)=is x)(ht:has a.types=ts)(k:Option Int):
  ∀(l:List TFunc) (n:Int) (s:Tx) (p:Option Tx),(∀x,x∈l->okTFunc x)->0<=n->pz n p s->M77_L1 F a k l n s=if fnE fs ts is a.loose p l≠0 then some (fnE fs ts is a.loose p l) else k
 |[],n,s,p,_,_,_=>by simp[M77_L1,fnE]
 |x::l,n,s,p,hx,hn,hp=>by
  obtain⟨o1,o2,⟨o3,_⟩,⟨_,o4⟩,_⟩:=hx x (by simp)
  rw[M77_L1]
  simp only[jn_def]
  rw[M87_eq F x.Name s _ o1,Option.bind_some,nmd_pz hp,fnE]
  by_cases h:nme x.Name p=0
  ·simp only[h,bne_self_eq_false,Bool.false_eq_true,ne_eq,not_true_eq_false,if_false]
   rw[M108_eq F _ o2,Option.bind_some]
   by_cases h1:nm x.Component=false
   ·rw[if_pos (by simp[h1]),if_pos h1];simp
   ·rw[if_neg (by simpa using h1),if_neg h1]
    by_cases h2:200<x.Calls.length
    ·rw[if_t (by omega),if_pos h2];simp
    ·rw[if_f (by omega),if_neg h2,M77_L2_eq F a fs is hf hi _ _ (fun c hc=>(o3 c hc).2.2.2.1)]
     by_cases h3:csE fs is a.loose x.Calls=0
     ·simp only[h3,bne_self_eq_false,Bool.false_eq_true,ne_eq,not_true_eq_false,if_false]
      rw[M78_eq F a _ _ o4,Option.bind_some,ht]
      by_cases h4:lsE ts a.loose none x.Makes=0
      ·simp only[h4,bne_self_eq_false,Bool.false_eq_true,ne_eq,not_true_eq_false,if_false]
       exact M77_L1_eq F a fs ts is hf hi ht k l (n+1) x.Name (some x.Name) (fun y hy=>hx y (List.mem_cons_of_mem _ hy)) (by omega) ⟨by omega,rfl⟩
      ·rw[if_pos (by simpa using h4),if_pos h4,if_pos h4]
     ·rw[if_pos h3,if_pos h3,if_pos h3]
  ·rw[if_pos (by simpa using h),if_pos h,if_pos h]
theorem orz{n:Int}:(if n≠0 then some n else some 0)=some n:=by split<;>simp_all
theorem M53_eq(F:Nat)(g:TGraph)(lo:Bool)(h:okTGraph g):M53 F (kOf g lo) g=some (chk lo g):=by
 obtain⟨⟨o1,_⟩,⟨o2,_⟩,⟨o3,_⟩,⟨_,o4⟩,_⟩:=h
 have hf:∀x,(mget (kOf g lo).funcs x).getD false=fsOf g x:=fun x=>has_set x _
 have ht:has (kOf g lo).types=tsOf g:=funext fun x=>has_set x _
 have hi:∀x,(mget (kOf g lo).ifaces x).map (·.Methods)=isOf g x:=fun x=>rfl
 have hf':has (kOf g lo).funcs=fsOf g:=funext fun x=>has_set x _
 unfold M53 chk M75 M76 M77
 simp only[jn_def]
 rw[M75_L1_eq F _ _ 0 [] none o1 (by omega) rfl,M76_L1_eq F _ _ hf _ _ 0 [] none o2 (by omega) rfl,M77_L1_eq F _ _ _ _ hf hi ht _ _ 0 [] none o3 (by omega) rfl,orz,orz,orz,M78_eq F _ _ _ o4,hf',show(kOf g lo).loose=lo from rfl]
 simp only[Option.bind_some]
 by_cases h1:200<g.Ifaces.length
 ·rw[if_t (by omega),if_pos h1]
 rw[if_f (by omega),if_neg h1]
 by_cases h2:500<g.Types.length
 ·rw[if_t (by omega),if_pos h2]
 rw[if_f (by omega),if_neg h2]
 by_cases h3:3000<g.Funcs.length
 ·rw[if_t (by omega),if_pos h3]
 rw[if_f (by omega),if_neg h3]
 refine ite2 ne0 (fun _=>rfl) (fun _=>ite2 ne0 (fun _=>rfl) (fun _=>ite2 ne0 (fun _=>rfl) (fun _=>rfl)))
theorem M20_eq(F:Nat)(g:TGraph)(h:okTGraph g):M20 F g=some (chk false g):=by
 unfold M20
 rw[M52_eq,Option.bind_some,M53_eq F g false h];rfl
theorem mput_mput{α β:Type}[DecidableEq α](k:α)(a b:β):∀m:List (α×β),mput (mput m k a) k b=mput m k b
 |[]=>by simp[mput]
 |(q,v)::m=>by
  by_cases h:q=k
  ·simp[mput,h]
  ·simp[mput,h,mput_mput k a b m]
abbrev MM:=List (Tx×SetM)
theorem M63_L2_eq(F:Nat)(x:TIface)(k:MM->Option Tprovenderref6_names)(m:MM):∀(l:List Tx) (a:SetM),M63_L2 F x k l (mput m x.Name a)=k (mput m x.Name (sset a l))
 |[],a=>rfl
 |y::l,a=>by
  rw[M63_L2,mget_mput,if_pos rfl]
  simp only[Option.isSome_some,if_true,Option.getD_some]
  rw[mput_mput,M63_L2_eq F x k m l];rfl
def rfm(m:MM):List TIface->MM
 |[]=>m
 |x::l=>rfm (mput m x.Name (sset [] x.Methods)) l
theorem M63_L1_eq(F:Nat)(k:MM->Option Tprovenderref6_names):∀(l:List TIface) (m:MM),M63_L1 F k l m=k (rfm m l)
 |[],m=>rfl
 |x::l,m=>by
  rw[M63_L1]
  simp only[jn_def]
  rw[M63_L2_eq,M63_L1_eq F k l];rfl
theorem M63_L3_eq{F:Nat}(k:SetM->Option Tprovenderref6_names):∀(l:List TType) (m:SetM),M63_L3 F k l m=k (sset m (l.map (·.Name)))
 |[],m=>rfl
 |x::l,m=>by rw[M63_L3,M63_L3_eq k l];rfl
theorem M63_L4_eq{F:Nat}(k:SetM->Option Tprovenderref6_names):∀(l:List TFunc) (m:SetM),M63_L4 F k l m=k (sset m (l.map (·.Name)))
 |[],m=>rfl
 |x::l,m=>by rw[M63_L4,M63_L4_eq k l];rfl
def nOf(g:TGraph):Tprovenderref6_names:=Tprovenderref6_names.mk (rfm [] g.Ifaces) (sset [] (g.Types.map (·.Name))) (sset [] (g.Funcs.map (·.Name)))
theorem M63_eq(F:Nat)(g:TGraph):M63 F g=some (nOf g):=by
 unfold M63
 simp only[jn_def,M63_L1_eq,M63_L3_eq,M63_L4_eq]
 rfl
theorem rfm_get(t:Tx):∀(l:List TIface) (m:MM) (m':List (Tx×TIface)),mget m t=(mget m' t).map (fun x=>sset [] x.Methods)->mget (rfm m l) t=(mget (ifm m' l) t).map (fun x=>sset [] x.Methods)
 |[],m,m',h=>h
 |x::l,m,m',h=>by
  rw[rfm,ifm]
  refine rfm_get t l _ _ ?_
  rw[mget_mput,mget_mput]
  split
  ·rfl
  ·exact h
theorem rises_eq(F:Nat){a:List Tx}{n:Nat}{x:Tx}(hn:n<a.length)(hx:a[n]=x)(ha:a.length<=maxLen):M86 F a n=some (if ((prv a n).elim false fun b=>le x b)=true then 10 else 0):=by
 unfold M86
 by_cases h0:n=0
 ·subst h0
  rw[if_f (by omega),prv_zero];rfl
 ·obtain⟨_,e1⟩:=prev_idx hn h0 ha
  obtain⟨_,e2⟩:=prv_some hn h0
  rw[if_t (by omega),idx_nat hn,Option.bind_some,e1,Option.bind_some,e2,hx]
  simp only[Option.elim_some]
  have e3:(Op.bytesLess x a[n - 1]||x==a[n - 1])=le x a[n - 1]:=rfl
  rw[e3]
  by_cases hc:le x a[n - 1]=true<;>simp[hc]
theorem nme_prv{x:Tx}{p:Option Tx}:(if nm x=false then (8:Int) else if (p.elim false fun b=>le x b)=true then 10 else 0)=nme x p:=by
 unfold nme
 cases nm x<;>cases p<;>rfl
theorem M83_L2_eq(F:Nat)(x:TIface)(ha:x.Methods.length<=maxLen)(hm:∀s,s∈x.Methods->s.length<=maxLen)(k:Option Int):∀(l:List Tx) (n:Nat),x.Methods.drop n=l->M83_L2 F x k l n=if methE (prv x.Methods n) l≠0 then some (methE (prv x.Methods n) l) else k
 |[],n,_=>by simp[M83_L2,methE]
 |s::l,n,hd=>by
  obtain⟨hn,hx,hl⟩:=drop_at hd
  have hs:s∈x.Methods:=by rw[<-hx];exact List.getElem_mem _
  have ih:=M83_L2_eq F x ha hm k l (n+1) hl
  rw[prv_next hn hx,show((n+1:Nat):Int)=(n:Int)+1 from rfl] at ih
  rw[M83_L2,M88_eq F s (hm s hs),Option.bind_some,rises_eq F hn hx ha,Option.bind_some,ih,methE,<-nme_prv]
  cases nm s<;>by_cases hc:((prv x.Methods n).elim false fun b=>le s b)=true<;>simp[hc]
def bz(s:Tx)(p:Option Tx):Prop:=match p with|none=>s=[]|some b=>s=b
theorem nme_bz{x s:Tx}{p:Option Tx}(h:bz s p):(if nm x=false then (8:Int) else if le x s=true then 10 else 0)=nme x p:=by
 unfold nme
 cases p with
 |none=>
  have h:s=[]:=h
  subst h
  cases hn:nm x
  ·rfl
  ·rw[le_nil hn];rfl
 |some b=>
  have h:s=b:=h
  subst h
  cases nm x<;>rfl
theorem M83_L1_eq(F:Nat)(k:Option Int):∀(l:List TIface) (s:Tx) (p:Option Tx),(∀x,x∈l->okTIface x)->bz s p->M83_L1 F k l s=if ifE p l≠0 then some (ifE p l) else k
 |[],s,p,_,_=>by simp[M83_L1,ifE]
 |x::l,s,p,hx,hp=>by
  obtain⟨o1,⟨o2,o3⟩,_⟩:=hx x (by simp)
  have ih:=M83_L1_eq F k l x.Name (some x.Name) (fun y hy=>hx y (List.mem_cons_of_mem _ hy)) rfl
  have e:=M83_L2_eq F x o3 o2 (M83_L1 F k l x.Name) x.Methods 0 rfl
  rw[show((0:Nat):Int)=0 from rfl,prv_zero] at e
  rw[M83_L1]
  simp only[jn_def]
  rw[M88_eq F x.Name o1,Option.bind_some,ifE,e,ih,<-nme_bz hp]
  have e3:(Op.bytesLess x.Name s||x.Name==s)=le x.Name s:=rfl
  rw[e3]
  cases nm x.Name
  ·simp
  ·by_cases hc:le x.Name s=true
   ·simp[hc]
   ·by_cases h1:x.Methods=[]
    ·simp[hc,h1]
    ·by_cases h2:200<x.Methods.length
     ·rw[if_neg (by simp),if_neg hc,if_neg (by simpa using h1),if_t (by omega)];simp[hc,h1,h2]
     ·rw[if_neg (by simp),if_neg hc,if_neg (by simpa using h1),if_f (by omega)];simp[hc,h1,h2]
      by_cases h3:methE none x.Methods=0<;>simp[h3]
theorem M84_L2_eq(F:Nat)(a:Tprovenderref6_checker)(fs:Tx->Bool)(hf:∀x,(mget a.n.funcs x).getD false=fs x)(k:Option Int):∀(l:List TMethod) (s:Tx) (p:Option Tx),(∀x,x∈l->x.Name.length<=maxLen)->bz s p->M84_L2 F a k l s=if mtE fs a.loose p l≠0 then some (mtE fs a.loose p l) else k
 |[],s,p,_,_=>by simp[M84_L2,mtE]
 |x::l,s,p,hx,hp=>by
  have ih:=M84_L2_eq F a fs hf k l x.Name (some x.Name) (fun y hy=>hx y (List.mem_cons_of_mem _ hy)) rfl
  rw[M84_L2]
  simp only[jn_def]
  rw[M88_eq F x.Name (hx x (by simp)),Option.bind_some,mtE,ih,hf,<-nme_bz hp]
  have e3:(Op.bytesLess x.Name s||x.Name==s)=le x.Name s:=rfl
  rw[e3]
  cases nm x.Name
  ·simp
  ·by_cases hc:le x.Name s=true
   ·simp[hc]
   ·cases a.loose<;>cases fs x.Func<;>simp[hc]
theorem M84_L1_eq(F:Nat)(a:Tprovenderref6_checker)(fs:Tx->Bool)(hf:∀x,(mget a.n.funcs x).getD false=fs x)(k:Option Int):∀(l:List TType) (s:Tx) (p:Option Tx),(∀x,x∈l->okTType x)->bz s p->M84_L1 F a k l s=if tyE fs a.loose p l≠0 then some (tyE fs a.loose p l) else k
 |[],s,p,_,_=>by simp[M84_L1,tyE]
 |x::l,s,p,hx,hp=>by
  obtain⟨o1,⟨o2,o3⟩,_⟩:=hx x (by simp)
  have ih:=M84_L1_eq F a fs hf k l x.Name (some x.Name) (fun y hy=>hx y (List.mem_cons_of_mem _ hy)) rfl
  rw[M84_L1]
  simp only[jn_def]
  rw[M88_eq F x.Name o1,Option.bind_some,tyE,M84_L2_eq F a fs hf _ _ [] none (fun y hy=>(o2 y hy).1) rfl,ih,<-nme_bz hp]
  have e3:(Op.bytesLess x.Name s||x.Name==s)=le x.Name s:=rfl
  rw[e3]
  cases nm x.Name
  ·simp
  ·by_cases hc:le x.Name s=true
   ·simp[hc]
   ·by_cases h2:200<x.Methods.length
    ·rw[if_neg (by simp),if_neg hc,if_t (by omega)];simp[hc,h2]
    ·rw[if_neg (by simp),if_neg hc,if_f (by omega)];simp[hc,h2]
     by_cases h3:mtE fs a.loose none x.Methods=0<;>simp[h3]
theorem M126_eq(F:Nat)(a:Tprovenderref6_checker)(fs:Tx->Bool)(is:Tx->Option (List Tx))(hf:∀x,(mget a.n.funcs x).getD false=fs x)(hi:∀x,mget a.n.ifaces x=(is x).map (sset []))(c:TCall)(hc:c.Feature.length<=maxLen):M126 F a c=some (clE fs is a.loose c):=by
 unfold M126 clE
 rw[jn_def,M88_eq F _ hc,hi,hf]
 simp only[Option.bind_some]
 have tail:(if (!(c.Feature==([]:Tx)))=true then if (!nm c.Feature)=true then some (8:Int) else some 0 else some 0)=some (if c.Feature≠[]/\nm c.Feature=false then 8 else 0):=by
  by_cases h1:c.Feature=[]<;>cases h2:nm c.Feature<;>simp[h1]
 rw[tail]
 by_cases k1:c.Kind=1
 ·rw[if_pos (by simp[k1]),if_pos k1]
  by_cases k3:c.Method=[]<;>cases a.loose<;>cases fs c.Target<;>simp[k3]
 ·rw[if_neg (by simpa using k1),if_neg k1]
  by_cases k2:c.Kind=2
  ·rw[if_pos (by simp[k2]),if_pos k2]
   cases hm:is c.Target with
   |none=>cases a.loose<;>simp
   |some l=>
    have e:(mget (sset [] l) c.Method).getD false=l.contains c.Method:=has_set _ _
    simp only[Option.map_some,Option.isSome_some,if_true,Option.getD_some,e,Option.elim_some]
    cases a.loose<;>by_cases hcc:l.contains c.Method=true<;>simp only[hcc]<;>simp
  ·rw[if_neg (by simpa using k2),if_neg k2]
theorem M85_L2_eq(F:Nat)(a:Tprovenderref6_checker)(fs:Tx->Bool)(is:Tx->Option (List Tx))(hf:∀x,(mget a.n.funcs x).getD false=fs x)(hi:∀x,mget a.n.ifaces x=(is x).map (sset []))(k:Option Int):∀(l:List TCall),(∀c,c∈l->c.Feature.length<=maxLen)->M85_L2 F a k l=if csE fs is a.loose l≠0 then some (csE fs is a.loose l) else k
 |[],_=>by simp[M85_L2,csE]
 |c::l,h=>by
  rw[M85_L2,M126_eq F a fs is hf hi c (h c (by simp)),Option.bind_some,csE,M85_L2_eq F a fs is hf hi k l (fun c hc=>h c (List.mem_cons_of_mem _ hc))]
  by_cases h1:clE fs is a.loose c=0<;>simp[h1]
theorem M85_L3_eq(F:Nat)(a:Tprovenderref6_checker)(x:TFunc)(ha:x.Makes.length<=maxLen)(k:Option Int):∀(l:List Tx) (n:Nat),x.Makes.drop n=l->M85_L3 F a x k l n=if lsE (has a.n.types) a.loose (prv x.Makes n) l≠0 then some (lsE (has a.n.types) a.loose (prv x.Makes n) l) else k
 |[],n,_=>by simp[M85_L3,lsE]
 |s::l,n,hd=>by
  obtain⟨hn,hx,hl⟩:=drop_at hd
  have ih:=M85_L3_eq F a x ha k l (n+1) hl
  rw[prv_next hn hx,show((n+1:Nat):Int)=(n:Int)+1 from rfl] at ih
  rw[M85_L3]
  simp only[jn_def]
  have e:(mget a.n.types s).getD false=has a.n.types s:=rfl
  rw[rises_eq F hn hx ha,Option.bind_some,ih,lsE,e]
  cases a.loose<;>cases has a.n.types s<;>by_cases hc:((prv x.Makes n).elim false fun b=>le s b)=true<;>simp[hc]
theorem M64_L1_eq(F:Nat)(a:Tprovenderref6_checker)(ha:a.g.Entries.length<=maxLen)(k:Option Int):∀(l:List Tx) (n:Nat),a.g.Entries.drop n=l->M64_L1 F a k l n=if lsE (has a.n.funcs) a.loose (prv a.g.Entries n) l≠0 then some (lsE (has a.n.funcs) a.loose (prv a.g.Entries n) l) else k
 |[],n,_=>by simp[M64_L1,lsE]
 |s::l,n,hd=>by
  obtain⟨hn,hx,hl⟩:=drop_at hd
  have ih:=M64_L1_eq F a ha k l (n+1) hl
  rw[prv_next hn hx,show((n+1:Nat):Int)=(n:Int)+1 from rfl] at ih
  rw[M64_L1]
  simp only[jn_def]
  have e:(mget a.n.funcs s).getD false=has a.n.funcs s:=rfl
  rw[rises_eq F hn hx ha,Option.bind_some,ih,lsE,e]
  cases a.loose<;>cases has a.n.funcs s<;>by_cases hc:((prv a.g.Entries n).elim false fun b=>le s b)=true<;>simp[hc]
theorem M85_L1_eq(F:Nat)(a:Tprovenderref6_checker)(fs ts:Tx->Bool)(is:Tx->Option (List Tx))(hf:∀x,(mget a.n.funcs x).getD false=fs x)(hi:∀x,mget a.n.ifaces x=(is x).map (sset []))(ht:has a.n.types=ts)(k:Option Int):
  ∀(l:List TFunc) (s:Tx) (p:Option Tx),(∀x,x∈l->okTFunc x)->bz s p->M85_L1 F a k l s=if fnE fs ts is a.loose p l≠0 then some (fnE fs ts is a.loose p l) else k
 |[],s,p,_,_=>by simp[M85_L1,fnE]
 |x::l,s,p,hx,hp=>by
  obtain⟨o1,o2,⟨o3,_⟩,⟨_,o4⟩,_⟩:=hx x (by simp)
  have ih:=M85_L1_eq F a fs ts is hf hi ht k l x.Name (some x.Name) (fun y hy=>hx y (List.mem_cons_of_mem _ hy)) rfl
  have e:=M85_L3_eq F a x o4 (M85_L1 F a k l x.Name) x.Makes 0 rfl
  rw[show((0:Nat):Int)=0 from rfl,prv_zero] at e
  rw[M85_L1]
  simp only[jn_def]
  rw[M88_eq F x.Name o1,Option.bind_some,M88_eq F x.Component o2,Option.bind_some,fnE,M85_L2_eq F a fs is hf hi _ _ (fun c hc=>(o3 c hc).2.2.2.1),e,ht,ih,<-nme_bz hp]
  have e3:(Op.bytesLess x.Name s||x.Name==s)=le x.Name s:=rfl
  rw[e3]
  cases nm x.Name
  ·simp
  ·by_cases hc:le x.Name s=true
   ·simp[hc]
   ·cases hcm:nm x.Component
    ·simp[hc,hcm]
    ·by_cases h2:200<x.Calls.length
     ·rw[if_neg (by simp),if_neg hc,if_neg (by simp),if_t (by omega)];simp[hc,h2,hcm]
     ·rw[if_neg (by simp),if_neg hc,if_neg (by simp),if_f (by omega)];simp[hc,h2,hcm]
      by_cases h3:csE fs is a.loose x.Calls=0
      ·by_cases h4:lsE ts a.loose none x.Makes=0<;>simp[h3,h4]
      ·simp[h3]
theorem M64_eq(F:Nat)(g:TGraph)(lo:Bool)(h:okTGraph g):M64 F (Tprovenderref6_checker.mk g (nOf g) lo)=some (chk lo g):=by
 obtain⟨⟨o1,_⟩,⟨o2,_⟩,⟨o3,_⟩,⟨_,o4⟩,_⟩:=h
 have hf:∀x,(mget (Tprovenderref6_checker.mk g (nOf g) lo).n.funcs x).getD false=fsOf g x:=fun x=>has_set x _
 have ht:has (Tprovenderref6_checker.mk g (nOf g) lo).n.types=tsOf g:=funext fun x=>has_set x _
 have hi:∀x,mget (Tprovenderref6_checker.mk g (nOf g) lo).n.ifaces x=(isOf g x).map (sset []):=fun x=>by
  show mget (rfm [] g.Ifaces) x=_
  rw[rfm_get x g.Ifaces [] [] rfl]
  unfold isOf
  rw[Option.map_map];rfl
 have hf':has (nOf g).funcs=fsOf g:=funext fun x=>has_set x _
 unfold M64 chk M83 M84 M85
 simp only[jn_def]
 have e:=M64_L1_eq F (Tprovenderref6_checker.mk g (nOf g) lo) o4 (some 0) g.Entries 0 rfl
 rw[show((0:Nat):Int)=0 from rfl,prv_zero] at e
 rw[M83_L1_eq F _ _ [] none o1 rfl,M84_L1_eq F _ _ hf _ _ [] none o2 rfl,M85_L1_eq F _ _ _ _ hf hi ht _ _ [] none o3 rfl,orz,orz,orz]
 simp only at e
 rw[e,hf',orz]
 simp only[Option.bind_some]
 by_cases h1:200<g.Ifaces.length
 ·rw[if_t (by omega),if_pos h1]
 rw[if_f (by omega),if_neg h1]
 by_cases h2:500<g.Types.length
 ·rw[if_t (by omega),if_pos h2]
 rw[if_f (by omega),if_neg h2]
 by_cases h3:3000<g.Funcs.length
 ·rw[if_t (by omega),if_pos h3]
 rw[if_f (by omega),if_neg h3]
 refine ite2 ne0 (fun _=>rfl) (fun _=>ite2 ne0 (fun _=>rfl) (fun _=>ite2 ne0 (fun _=>rfl) (fun _=>rfl)))
theorem M30_eq(F:Nat)(g:TGraph)(h:okTGraph g):M30 F g=some (chk false g):=by
 unfold M30
 rw[M63_eq,Option.bind_some,M64_eq F g false h];rfl
theorem M66_L1_eq(F:Nat)(k:Option Int):∀(l:List Tx) (n:Int) (s:Tx) (p:Option Tx),(∀x,x∈l->x.length<=maxLen)->0<=n->pz n p s->M66_L1 F k l n s=if methE p l≠0 then some (methE p l) else k
 |[],n,s,p,_,_,_=>by simp[M66_L1,methE]
 |x::l,n,s,p,hx,hn,hp=>by
  have ih:=M66_L1_eq F k l (n+1) x (some x) (fun y hy=>hx y (List.mem_cons_of_mem _ hy)) (by omega) ⟨by omega,rfl⟩
  rw[M66_L1,M87_eq F x s _ (hx x (by simp)),Option.bind_some,nmd_pz hp,methE,ih]
  by_cases h:nme x p=0<;>simp[h]
def feE(l:List Tx):Int:=if 30<l.length then 3 else methE none l
theorem M66_eq(F:Nat)(l:List Tx)(h:∀x,x∈l->x.length<=maxLen):M66 F l=some (feE l):=by
 unfold M66 feE
 rw[jn_def,M66_L1_eq F _ l 0 [] none h (by omega) rfl,orz]
 by_cases h1:30<l.length
 ·rw[if_t (by omega),if_pos h1]
 ·rw[if_f (by omega),if_neg h1]
end Go.Proofs.YtcihpgamojpcnaaGreat
