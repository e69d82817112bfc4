/- Part of the proof: K, R4O. -/
import Derived.Test.YtjofofmllnpkpaaGreatDoorSPvU
import Derived.WideKeyArgs
import Derived.Deep.Slices
import Derived.ProofKit
import Derived.OpenShut
import Derived.JoinedCond
import Derived.Test.YtjofofmllnpkpaaGreatDoorSR4T
import Derived.KernelRfl
namespace Go.Pv
open Go Go.ChangeShapes Go.WideShapes
mutual
def bulk{H:Type}:DataW H->Nat
 | .lit (.string bytes)=>bytes.length+1
 | .lit _=>1
 | .nil=>1
 | .ptr d=>bulk d+1
 | .slice elems spare=>bulkAll elems+bulkAll spare+1
 | .agg parts=>bulkAll parts+1
 | .iface _ d=>bulk d+1
 | .map entries=>bulkEnts entries+1
 | .held _=>1
def bulkAll{H:Type}:List (DataW H)->Nat
 |[]=>0
 |d::r=>bulk d+bulkAll r
def bulkEnts{H:Type}:List (Lit×DataW H)->Nat
 |[]=>0
 |x::r=>bulkEnt x+bulkEnts r
def bulkEnt{H:Type}:Lit×DataW H->Nat
 |(.string bytes,d)=>bytes.length+bulk d+1
 |(_,d)=>bulk d+1
end
def memOf(w:World):Mem:=fun b=>w.heap[b]?
def IRelL(m:Mem)(ds:List V)(cs:List Value):Prop:=
 ds.length=cs.length/\∀(i:Nat) (c:V) (v:Value),ds[i]? = some c->cs[i]? = some v->IRel m c v
theorem IRelL.one{m:Mem}{d:V}{c:Value}(h:IRel m d c):IRelL m [d] [c]:=
 ⟨rfl,fun i d' c' hd hc=>by
  match i with
  |0=>simp at hd hc;subst hd;subst hc;exact h
  |_+1=>simp at hd⟩
theorem IRelL.app{m:Mem}{a b:List V}{x y:List Value}(h:IRelL m a x)(h':IRelL m b y):IRelL m (a++b) (x++y):=by
 refine⟨by simp[h.1,h'.1],fun i c v hc hv=>?_⟩
 by_cases hi:i<a.length
 ·rw[List.getElem?_append_left hi] at hc
  rw[List.getElem?_append_left (by rw[<-h.1];exact hi)] at hv
  exact h.2 i c v hc hv
 ·rw[List.getElem?_append_right (by omega)] at hc
  rw[List.getElem?_append_right (by rw[<-h.1];omega),<-h.1] at hv
  exact h'.2 _ c v hc hv
section
variable{P:Program}{t e:TypeId}{α β:Type}
def wOk{H:Type}(P:Program)(t:TypeId)(d:DataW H):Prop:=(d.weights P t).all (·<=reachBytes)=true
def wOks{H:Type}(P:Program)(ts:List TypeId)(ds:List (DataW H)):Prop:=(DataW.weightsEach P ts ds).all (·<=reachBytes)=true
theorem wOks_cons{H:Type}{P:Program}{t:TypeId}{ts:List TypeId}{d:DataW H}{ds:List (DataW H)}(h:wOks P (t::ts) (d::ds)):wOk P t d/\wOks P ts ds:=by
 unfold wOks wOk at *
 rw[DataW.weightsEach,List.all_append,Bool.and_eq_true] at h
 exact h
theorem wAll{H:Type}{P:Program}{e:TypeId}:∀(l:List (DataW H)),(DataW.weightsAll P e l).all (·<=reachBytes)=true->∀d,d∈l->wOk P e d
 |[],_,d,hd=>by simp at hd
 |x::l,h,d,hd=>by
  rw[DataW.weightsAll,List.all_append,Bool.and_eq_true] at h
  rcases List.mem_cons.1 hd with rfl|hd
  ·exact h.1
  ·exact wAll l h.2 d hd
def Opens(P:Program)(t:TypeId)(e:α->List V)(sz:α->Nat)(ok:α->Prop):Prop:=
 ∀{H:Type} (enc:TypeId×Value->H) (w:World) (fuel:Nat) (cs:List Value) (x:DataW H×List MemPlace),
  DataW.trod enc P w 0 (fun _=>true) true fuel t cs=some x->wOk P t x.1->∃a:α,IRelL (memOf w) (e a) cs/\sz a<=bulk x.1/\ok a
theorem opens_int{k:IntKind}(ht:P.underlying t=some (.int k)):Opens P t (fun n:Int=>[V.con (.int k n)]) (fun _=>1) (fun n=>k.min<=n/\n<=k.max):=by
 intro H enc w fuel cs x h hw
 obtain⟨n,rfl,rfl,hw'⟩:=DataW.trod_int ht h
 simp only[Lit.wf,Bool.and_eq_true,decide_eq_true_eq] at hw'
 exact⟨n,IRelL.one (.con _),by simp[bulk],hw'⟩
theorem opens_string(ht:P.underlying t=some .string):Opens P t (fun s:List UInt8=>[sV s]) (fun s=>s.length+1) (fun s=>s.length<=maxLen):=by
 intro H enc w fuel cs x h hw
 obtain⟨s,rfl,rfl,hs⟩:=DataW.trod_string ht h
 refine⟨s.data.toList,IRelL.one ?_,by simp[bulk],by simpa using hs⟩
 have:str s.data.toList=.string s:=by simp[str]
 unfold sV
 rw[this]
 exact .con _
theorem list_of{p:Nat->α->Prop}:∀{n:Nat},(∀i,i<n->∃a,p i a)->∃l:List α,l.length=n/\∀i a,l[i]? = some a->p i a
 |0,_=>⟨[],rfl,by simp⟩
 |n+1,h=>by
  obtain⟨l,hl,hp⟩:=list_of (n:=n) fun i hi=>h i (by omega)
  obtain⟨a,ha⟩:=h n (by omega)
  refine⟨l++[a],by simp[hl],fun i b hb=>?_⟩
  by_cases hi:i<l.length
  ·rw[List.getElem?_append_left hi] at hb;exact hp i b hb
  ·rw[List.getElem?_append_right (by omega)] at hb
   have:i - l.length=0:=by
    have:=(List.getElem?_eq_some_iff.1 hb).1
    simp at this;omega
   rw[this] at hb
   simp at hb
   subst hb
   rw[show i=n by omega];exact ha
theorem bulkAll_map{H:Type}{n:Nat}(D:Nat->DataW H):bulkAll ((List.range n).map D)=((List.range n).map fun i=>bulk (D i)).sum:=by
 generalize List.range n=l
 induction l with
 |nil=>rfl
 |cons a l ih=>simp[bulkAll,ih]
theorem sum_le{l:List α}{sz:α->Nat}{g:Nat->Nat}(h:∀i a,l[i]? = some a->sz a<=g i):(l.map sz).sum<=((List.range l.length).map g).sum:=by
 induction l generalizing g with
 |nil=>simp
 |cons a l ih=>
  rw[List.length_cons,List.range_succ_eq_map]
  simp only[List.map_cons,List.sum_cons,List.map_map]
  have h0:=h 0 a rfl
  have h1:=ih (g:=g ∘ Nat.succ) fun i b hb=>h (i+1) b (by simpa using hb)
  exact Nat.add_le_add h0 h1
theorem opens_slice{k:Nat}{ee:α->List V}{sz:α->Nat}{ok:α->Prop}(ht:P.underlying t=some (.slice e))(hk:P.cellsOf e=k)(h0:0<k)(he:Opens P e ee sz ok):
  Opens P t (fun l:List α=>[V.lst k (l.map ee)]) (fun l=>(l.map sz).sum+1) (fun l=>(∀a,a∈l->ok a)/\l.length<=maxLen):=by
 intro H enc w fuel cs x h hw
 rcases Deep.open_slice ht h with ⟨rfl,rfl⟩|⟨a,len,cap,m,n,D,Pl,rfl,_,hlc,hcm,hm,rfl,hel⟩
 ·exact⟨[],IRelL.one (.nil _ _ _),by simp[bulk],by simp⟩
 ·simp only[if_true] at hm
  subst hm
  obtain⟨l,hl,hp⟩:=list_of (n:=len) (p:=fun i (b:α)=>sz b<=bulk (D i)/\ok b/\∃cs',w.cells? 0 (a.add (i*P.cellsOf e)) (P.cellsOf e)=some cs'/\IRelL (memOf w) (ee b) cs') (by
   intro i hi
   obtain⟨cs',hc,hd⟩:=hel i (by omega)
   obtain⟨b,h1,h2,h3⟩:=he _ _ _ _ _ hd (by
    unfold wOk at hw
    rw[DataW.weights] at hw
    simp only[ht,List.all_cons,List.all_append,Bool.and_eq_true] at hw
    exact wAll _ hw.2.1 _ (List.mem_map.2 ⟨i,List.mem_range.2 hi,rfl⟩))
   exact⟨b,h2,h3,cs',hc,h1⟩)
  refine⟨l,IRelL.one ?_,?_,fun b hb=>?_,by omega⟩
  ·by_cases hz:len=0
   ·subst hz
    have:l=[]:=List.length_eq_zero_iff.1 hl
    subst this
    exact .nil _ _ _
   ·have hcell:∀i j b,l[i]? = some b->j<k->∃v,w.cell? ((a.add (i*k)).add j)=some v/\(∃c,(ee b)[j]? = some c)/\∀c,(ee b)[j]? = some c->IRel (memOf w) c v:=by
     intro i j b hb hj
     obtain⟨_,_,cs',hc,hr⟩:=hp i b hb
     rw[hk] at hc
     obtain⟨_,hn,hcs⟩:=World.cells?_some hc
     have hj':j<cs'.length:=by omega
     have hv:cs'[j]? = some cs'[j]:=List.getElem?_eq_getElem hj'
     have hj2:j<(ee b).length:=by rw[hr.1];exact hj'
     exact⟨cs'[j],(hcs j hj).trans hv,⟨(ee b)[j],List.getElem?_eq_getElem hj2⟩,fun c hcc=>hr.2 j c _ hcc hv⟩
    have hlen:∀b,b∈l->(ee b).length=k:=by
     intro b hb
     obtain⟨i,hi⟩:=List.mem_iff_getElem?.1 hb
     obtain⟨_,_,cs',hc,hr⟩:=hp i b hi
     rw[hk] at hc
     rw[hr.1,(World.cells?_some hc).2.1]
    have hb0:∃b,l[0]? = some b:=⟨l[0]'(by omega),List.getElem?_eq_getElem _⟩
    obtain⟨b0,hb0⟩:=hb0
    obtain⟨v0,hv0,_⟩:=hcell 0 0 b0 hb0 h0
    have hadd0:(a.add (0*k)).add 0=a:=by simp[Addr.add]
    rw[hadd0] at hv0
    unfold World.cell? at hv0
    split at hv0
    case h_2=>simp at hv0
    rename_i arr T fr hblk
    have hsp:a.spot=none:=by
     cases hs:a.spot with
     |none=>rfl
     |some s=>simp[hs] at hv0
    have hget:∀i j b,l[i]? = some b->j<k->∃v,arr[a.off+(i*k+j)]? = some v/\(∃c,(ee b)[j]? = some c)/\∀c,(ee b)[j]? = some c->IRel (memOf w) c v:=by
     intro i j b hb hj
     obtain⟨v,hv,hc⟩:=hcell i j b hb hj
     rw[Deep.add_add] at hv
     unfold World.cell? at hv
     have hbk:(a.add (i*k+j)).block=a.block:=by unfold Addr.add;split<;>rfl
     have hso:(a.add (i*k+j)).spot=none:=by unfold Addr.add;split<;>simp[hsp]
     have hof:(a.add (i*k+j)).off=a.off+(i*k+j):=by unfold Addr.add;split<;>simp[*]
     rw[hbk,hblk] at hv
     simp only[hso,hof] at hv
     exact⟨v,by simpa using hv,hc⟩
    refine IRel.lst (arr:=arr) (T:=T) (fr:=fr) (fun i=>(arr[a.off+i]?).getD undef) hblk hsp (by simpa using hl) hlc (by omega) ?_ ?_ ?_
    ·intro row hrow
     obtain⟨b,hb,rfl⟩:=List.mem_map.1 hrow
     exact hlen b hb
    ·intro i hi
     rw[List.length_map] at hi
     have hq:i / k<l.length:=Nat.div_lt_of_lt_mul (by rw[Nat.mul_comm];exact hi)
     obtain⟨v,hv,_⟩:=hget (i / k) (i % k) l[i / k] (List.getElem?_eq_getElem hq) (Nat.mod_lt _ h0)
     have:i / k*k+i % k=i:=by rw[Nat.mul_comm];exact Nat.div_add_mod i k
     rw[this] at hv
     simp[hv]
    ·intro i j row c hrow hc
     rw[List.getElem?_map,Option.map_eq_some_iff] at hrow
     obtain⟨b,hb,rfl⟩:=hrow
     have hj:j<k:=by
      have:=(List.getElem?_eq_some_iff.1 hc).1
      rw[hlen b (List.mem_iff_getElem?.2 ⟨i,hb⟩)] at this
      exact this
     obtain⟨v,hv,_,hcr⟩:=hget i j b hb hj
     simp only[hv,Option.getD_some]
     exact hcr c hc
  ·simp only[bulk]
   rw[bulkAll_map]
   have:=sum_le (l:=l) (sz:=sz) (g:=fun i=>bulk (D i)) fun i b hb=>(hp i b hb).1
   rw[hl] at this
   omega
  ·obtain⟨i,hi⟩:=List.mem_iff_getElem?.1 hb
   exact(hp i b hi).2.1
def FOpens(P:Program)(N:Nat)(fs:List (TypeId×Nat×Nat))(off:Nat)(e:α->List V)(sz:α->Nat)(ok:α->Prop):Prop:=
 ∀{H:Type} (enc:TypeId×Value->H) (w:World) (n:Nat) (cs:List Value) (xs:List (DataW H×List MemPlace)),cs.length=N->xs.length=fs.length->
  (∀(i:Nat) (f:TypeId×Nat×Nat),fs[i]? = some f->DataW.trod enc P w 0 (fun _=>true) true n f.1 ((cs.drop f.2.1).take f.2.2)=xs[i]?)->
  wOks P (fs.map (·.1)) (xs.map (·.1))->∃a:α,IRelL (memOf w) (e a) (cs.drop off)/\sz a<=bulkAll (xs.map (·.1))/\ok a
theorem fopens_nil{N:Nat}:FOpens P N [] N (fun _:Unit=>[]) (fun _=>0) (fun _=>True):=by
 intro H enc w n cs xs hN hx _ _
 refine⟨(),?_,by simp,trivial⟩
 rw[<-hN]
 simp[IRelL]
theorem fopens_cons{N k off:Nat}{ft:TypeId}{fs:List (TypeId×Nat×Nat)}{ea:α->List V}{eb:β->List V}{sa:α->Nat}{sb:β->Nat}{oa:α->Prop}{ob:β->Prop}
  (h:Opens P ft ea sa oa) (hr:FOpens P N fs (off+k) eb sb ob):FOpens P N ((ft,off,k)::fs) off (fun p:α×β=>ea p.1++eb p.2) (fun p=>sa p.1+sb p.2) (fun p=>oa p.1/\ob p.2):=by
 intro H enc w n cs xs hN hx hf hw
 match xs,hx with
 |x::xs,hx=>
  have h1:=hf 0 _ rfl
  simp only[List.getElem?_cons_zero] at h1
  have hw':=wOks_cons hw
  obtain⟨a,ha,hs,ho⟩:=h enc w n _ x h1 hw'.1
  have hb':=hr enc w n cs xs hN (by simpa using hx) fun i f hi=>by
   have:=hf (i+1) f (by simpa using hi)
   simpa using this
  obtain⟨b,hb,hs',ho'⟩:=hb' hw'.2
  refine⟨(a,b),?_,by simp only[List.map_cons,bulkAll];omega,ho,ho'⟩
  have:=ha.app hb
  rw[show(cs.drop off).take k++cs.drop (off+k)=cs.drop off by rw[<-List.drop_drop];exact List.take_append_drop _ _] at this
  exact this
def fieldsOf(P:Program)(t:TypeId):Option (List (TypeId×Nat×Nat)):=
 match P.underlying t with
 |some (.struct fs)=>some (fs.toList.map fun f=>(f.type,f.offset,P.cellsOf f.type))
 |_=>none
theorem opens_struct{N:Nat}{fs:List (TypeId×Nat×Nat)}{e:α->List V}{sz:α->Nat}{ok:α->Prop}(ht:fieldsOf P t=some fs)(hN:P.cellsOf t=N)(h:FOpens P N fs 0 e sz ok):
  Opens P t e (fun a=>sz a+1) ok:=by
 intro H enc w fuel cs x hx hw
 unfold fieldsOf at ht
 split at ht
 case h_2=>simp at ht
 rename_i gs hu
 simp only[Option.some.injEq] at ht
 subst ht
 obtain⟨xs,n,_,rfl,hl,hxl,hf⟩:=DataW.trod_struct hu hx
 have ha':=h enc w n cs xs (hl.trans hN) (by simpa using hxl) fun i f hi=>by
  rw[List.getElem?_map,Option.map_eq_some_iff] at hi
  obtain⟨g,hg,rfl⟩:=hi
  exact hf i g (by simpa using hg)
 obtain⟨a,h1,h2,h3⟩:=ha' (by
  unfold wOk at hw
  rw[DataW.weights] at hw
  simp only[hu] at hw
  unfold wOks
  rw[List.map_map]
  exact hw)
 exact⟨a,by simpa using h1,by simp only[bulk];omega,h3⟩
theorem opens_map{ea:α->List V}{eb:β->List V}{sa:α->Nat}{sb:β->Nat}{oa:α->Prop}{ob:β->Prop}(h:Opens P t ea sa oa)(g:α->β)
  (he:∀a,eb (g a)=ea a) (hs:∀a,sb (g a)=sa a) (ho:∀a,oa a->ob (g a)):Opens P t eb sb ob:=by
 intro H enc w fuel cs x hx hw
 obtain⟨a,h1,h2,h3⟩:=h enc w fuel cs x hx hw
 exact⟨g a,by rw[he];exact h1,by rw[hs];exact h2,ho a h3⟩
def OpensV(P:Program)(t:TypeId)(e:α->V)(sz:α->Nat)(ok:α->Prop):Prop:=
 ∀{H:Type} (enc:TypeId×Value->H) (w:World) (base:Nat) (v:Value) (d:DataW H) (p:List MemPlace),
  Value.okWide P w .any base t v->DataW.Trod enc P w 0 (fun _=>true) true t v d p->wOk P t d->∃a:α,IRel (memOf w) (e a) v/\sz a<=bulk d/\ok a
theorem opensV_agg{fs:List (TypeId×Nat×Nat)}{e:α->List V}{sz:α->Nat}{ok:α->Prop}(ht:fieldsOf P t=some fs)(h:Opens P t e sz ok):OpensV P t (fun a=>.agg (e a)) sz ok:=by
 intro H enc w base v d p hv ⟨n,hd⟩ hw
 unfold fieldsOf at ht
 split at ht
 case h_2=>simp at ht
 rename_i gs hu
 obtain⟨cs,rfl,_⟩:=okWide_struct hu hv
 obtain⟨a,h1,h2,h3⟩:=h enc w n _ _ hd hw
 exact⟨a,.agg (by simpa[Value.cells] using h1.1) (fun i c v' hc hv'=>h1.2 i c v' hc (by simpa[Value.cells] using hv')),h2,h3⟩
theorem sameAt_of{w w':World}(h:∀b,b<w.heap.size->w'.heap[b]? = w.heap[b]?){p:MemPlace}(hp:p.block<w.heap.size):w.sameAt w' p:=by
 cases p with
 |cell b o=>simp only[World.sameAt,World.cell?];rw[h b hp]
 |map b=>exact h b hp
theorem trodAll_stays{H:Type}{enc:TypeId×Value->H}(hl:laidOutB P=true){w w':World}{sp:Nat->Bool}(hh:∀b,b<w.heap.size->w'.heap[b]? = w.heap[b]?)
  (hs:∀b,b<w.heap.size->sp b=true):∀{ts:List TypeId} {vs:List Value} {ds:List (DataW H)} {ps:List MemPlace},
  (ts.all fun t=>P.readableRec t&&decide (t<P.types.size))=true->DataW.TrodAll enc P w 0 (fun _=>true) true ts vs ds ps->(∀p∈ps,p.block<w.heap.size)->DataW.TrodAll enc P w' 0 sp true ts vs ds ps
 |[],[],[],_,_,h,_=>h
 |t::ts,v::vs,d::ds,_,hr,⟨p,q,h1,h2,e⟩,hlt=>by
  subst e
  simp only[List.all_cons,Bool.and_eq_true,decide_eq_true_eq] at hr
  exact⟨p,q,WideElems.Trod_stays hl hr.1.1 hr.1.2 h1 (fun x hx=>sameAt_of hh (hlt x (List.mem_append_left _ hx))) (fun x hx=>hs _ (hlt x (List.mem_append_left _ hx))),
   trodAll_stays hl hh hs (by simpa using hr.2) h2 (fun x hx=>hlt x (List.mem_append_right _ hx)),rfl⟩
theorem kept_of{w w':World}(hs:Same w w')(hh:∀b,b<w.heap.size->w'.heap[b]? = w.heap[b]?)(may:MemPlace->Prop):w.keptBut w' may:=by
 refine⟨hs.os,hs.output,fun i hi=>?_⟩
 rw[hh i hi]
 split<;>first|exact⟨rfl,rfl,rfl,fun _ _=>rfl⟩|exact .inr ⟨rfl,rfl⟩|rfl|skip
 all_goals simp_all
theorem law_post{H:Type}{enc:TypeId×Value->H}{f:Func}{s:ChangeSpec}{apart fresh handsOn:Bool}{w w':World}{args:Array Value}{v:Value}{ds gs:List (DataW H)}{before:List MemPlace}{m m':Mem}{tb:TypeId}
  (hl:laidOutB P=true) (hts:(f.params.toList.all fun t=>P.readableRec t&&decide (t<P.types.size))=true) (hv:s.vars=[]) (hfn:∀gs',gs'=[]->s.fn H (ds++gs')={ results:=[.lit (.bool true)],args:=ds })
  (hres:f.resultTypes=#[tb]) (hb:P.underlying tb=some .bool) (hW:DataW.Whole enc P f.params.toList s.vars apart w args.toList ds gs before) (h:IRel m' (bV true) v) (hg:Grew m m' w w'):
  s.post enc P f apart fresh handsOn false w args v w':=by
 have hW0:=hW
 obtain⟨p,q,hA,hV,rfl,hfz,hnd⟩:=hW0
 cases h
 rw[hv] at hV
 cases gs with
 |cons _ _=>simp[DataW.TrodVars] at hV
 |nil=>
 have hq:q=[]:=hV
 subst hq
 refine⟨ds,[],p++[],[],p,[],hW,?_,?_,?_,kept_of hg.same hg.heap _,fun h=>by simp at h⟩
 ·rw[hfn _ rfl,hres]
  exact trodAll_cons_mk (RowKit.shut_bool hb _) trodAll_mk0
 ·rw[hfn _ rfl]
  exact trodAll_stays hl hg.heap (fun b hb=>by simpa using hb) hts hA (DataW.TrodAll.lt hA)
 ·rw[hv,hfn _ rfl]
  rfl
theorem args_nil{H:Type}{enc:TypeId×Value->H}{w:World}{args:Array Value}{f:Func}{s:ChangeSpec}{apart:Bool}{ds gs:List (DataW H)}{before:List MemPlace}
  (hW:DataW.Whole enc P f.params.toList s.vars apart w args.toList ds gs before):∃p,DataW.TrodAll enc P w 0 (fun _=>true) true f.params.toList args.toList ds p:=by
 obtain⟨p,q,hA,_⟩:=hW
 exact⟨p,hA⟩
end
def factsA(P:Program)(f:FuncId)(fn:Func)(s:ChangeSpec)(c:OpenClaim):Bool:=
 c.wf (OpenSpec.ofChange s)&&laidOutB P&&mapsRowed P &&
 fn.params.all (P.readableRec ·)&&namedTie P c.named s.vars &&
 (c.stops==[])&&(P.stops==[])&&(c.knobs==[])&&(P.stopKnobs==[]) &&
 (c.inPlace==P.inPlace f)&&(c.unfollowed==P.unfollowed f)&&(c.recurses==P.recurses f)&&(c.named==P.varsNamed f) &&
 (c.maps==(fn.params.toList++s.plain.varTypes P).any (P.mapsRec ·))&&(c.ifaces==(fn.params.toList++s.plain.varTypes P).any (P.ifacesRec ·))&&(c.mapsOut==P.mapsAmong fn.resultTypes.toList) &&
 (c.loops==(fn.params.toList++s.plain.varTypes P).any (P.loopsFrom ·))&&(c.wideKeys==(fn.params.toList++s.plain.varTypes P++fn.resultTypes.toList).any (P.wideKeysFrom ·)) &&
 s.vars.all (P.varReadable ·)&&fn.resultTypes.all (fun t=>P.readableRec t&&decide (t<P.types.size))&&(c.ifacesOut==fn.resultTypes.toList.any (P.ifacesRec ·))&&(c.loopsOut==fn.resultTypes.toList.any (P.loopsFrom ·))&&(c.plainKeys==P.plainKeys)&&c.shortTexts.isNone&&P.stopsHeard
def factsB(P:Program)(c:OpenClaim):Bool:=P.mayEnter&&(c.lifted==P.liftsFinal)&&(P.make==some c.make)
def factsC(P:Program)(fn:Func)(s:ChangeSpec)(c:OpenClaim):Bool:=
 (c.kinds==(if c.domain.isEmpty then [] else fn.params.toList.map fun t=>match P.underlying t with|some (.int k)=>some k|_=>none))&&(c.pinned==c.pinnedBy) &&
 (c.veiled==(fn.params.toList++s.plain.varTypes P++fn.resultTypes.toList).any (P.veiledRec ·))&&c.veiledFits P fn.params.toList (fn.params.toList++s.plain.varTypes P++fn.resultTypes.toList)
theorem facts_join{P:Program}{f:FuncId}{fn:Func}{s:ChangeSpec}{c:OpenClaim}(h1:factsA P f fn s c=true)(h2:factsB P c=true)(h3:factsC P fn s c=true):joinedFacts P f fn s c=true:=by
 unfold factsA at h1
 unfold factsB at h2
 unfold factsC at h3
 have e:∀a b c d b1 b2 b3 c1 c2 c3:Bool,a=true->(b1&&b2&&b3)=true->(b&&c&&d&&c1)=true->(a&&b1&&b2&&b3&&b&&c&&d&&c1)=true:=by
  intro a b c d b1 b2 b3 c1 c2 c3 h h' h''
  simp only[Bool.and_eq_true] at *
  simp_all
 exact e _ _ _ _ _ _ _ _ true true h1 h2 h3
end Go.Pv
namespace Go.Proofs.YtjofofmllnpkpaaGreatDoor
open Go Go.Pv
set_option linter.unusedVariables false
set_option maxRecDepth 100000
theorem opens_9:Opens Tryz.prog 9 (fun x=>[sV x]) (fun x:(List UInt8)=>(x.length+1)) (fun x:(List UInt8)=>(x.length<=maxLen)):=opens_string (show Tryz.prog.underlying 9=some (.string) by kernel_rfl)
theorem opens_25:Opens Tryz.prog 25 (fun l=>[V.lst 1 (l.map encS)]) (fun x:(List (List UInt8))=>((x.map (fun x:(List UInt8)=>(x.length+1))).sum+1)) (fun x:(List (List UInt8))=>((∀a,a∈x->(fun x:(List UInt8)=>(x.length<=maxLen)) a)/\x.length<=maxLen)):=opens_slice (show Tryz.prog.underlying 25=some (.slice 9) by kernel_rfl) (by kernel_rfl) (by decide) opens_9
def szTIface(x:TIface):Nat:=(x.Name.length+1)+(((x.Methods.map (fun x:(List UInt8)=>(x.length+1))).sum+1)+0)+1
def okTIface(x:TIface):Prop:=(x.Name.length<=maxLen)/\(((∀a,a∈x.Methods->(fun x:(List UInt8)=>(x.length<=maxLen)) a)/\x.Methods.length<=maxLen)/\True)
theorem opens_56:Opens Tryz.prog 56 encTIface szTIface okTIface:=opens_map (opens_struct (fs:=[(9,0,1),(25,1,1)]) (by kernel_rfl) (by kernel_rfl) (fopens_cons opens_9 (fopens_cons opens_25 fopens_nil))) (fun p=>TIface.mk p.1 p.2.1) (fun _=>rfl) (fun _=>rfl) (fun _ h=>h)
theorem opens_22:Opens Tryz.prog 22 (fun l=>[V.lst 2 (l.map encTIface)]) (fun x:(List TIface)=>((x.map (fun x:TIface=>(szTIface x))).sum+1)) (fun x:(List TIface)=>((∀a,a∈x->(fun x:TIface=>(okTIface x)) a)/\x.length<=maxLen)):=opens_slice (show Tryz.prog.underlying 22=some (.slice 56) by kernel_rfl) (by kernel_rfl) (by decide) opens_56
def szTMethod(x:TMethod):Nat:=(x.Name.length+1)+((x.Func.length+1)+0)+1
def okTMethod(x:TMethod):Prop:=(x.Name.length<=maxLen)/\((x.Func.length<=maxLen)/\True)
theorem opens_64:Opens Tryz.prog 64 encTMethod szTMethod okTMethod:=opens_map (opens_struct (fs:=[(9,0,1),(9,1,1)]) (by kernel_rfl) (by kernel_rfl) (fopens_cons opens_9 (fopens_cons opens_9 fopens_nil))) (fun p=>TMethod.mk p.1 p.2.1) (fun _=>rfl) (fun _=>rfl) (fun _ h=>h)
theorem opens_59:Opens Tryz.prog 59 (fun l=>[V.lst 2 (l.map encTMethod)]) (fun x:(List TMethod)=>((x.map (fun x:TMethod=>(szTMethod x))).sum+1)) (fun x:(List TMethod)=>((∀a,a∈x->(fun x:TMethod=>(okTMethod x)) a)/\x.length<=maxLen)):=opens_slice (show Tryz.prog.underlying 59=some (.slice 64) by kernel_rfl) (by kernel_rfl) (by decide) opens_64
def szTType(x:TType):Nat:=(x.Name.length+1)+(((x.Methods.map (fun x:TMethod=>(szTMethod x))).sum+1)+0)+1
def okTType(x:TType):Prop:=(x.Name.length<=maxLen)/\(((∀a,a∈x.Methods->(fun x:TMethod=>(okTMethod x)) a)/\x.Methods.length<=maxLen)/\True)
theorem opens_61:Opens Tryz.prog 61 encTType szTType okTType:=opens_map (opens_struct (fs:=[(9,0,1),(59,1,1)]) (by kernel_rfl) (by kernel_rfl) (fopens_cons opens_9 (fopens_cons opens_59 fopens_nil))) (fun p=>TType.mk p.1 p.2.1) (fun _=>rfl) (fun _=>rfl) (fun _ h=>h)
theorem opens_23:Opens Tryz.prog 23 (fun l=>[V.lst 2 (l.map encTType)]) (fun x:(List TType)=>((x.map (fun x:TType=>(szTType x))).sum+1)) (fun x:(List TType)=>((∀a,a∈x->(fun x:TType=>(okTType x)) a)/\x.length<=maxLen)):=opens_slice (show Tryz.prog.underlying 23=some (.slice 61) by kernel_rfl) (by kernel_rfl) (by decide) opens_61
theorem opens_3:Opens Tryz.prog 3 (fun x=>[V.con (.int .i64 x)]) (fun x:Int=>1) (fun x:Int=>((IntKind.i64).min<=x/\x<=(IntKind.i64).max)):=opens_int (show Tryz.prog.underlying 3=some (.int .i64) by kernel_rfl)
def szTCall(x:TCall):Nat:=1+((x.Target.length+1)+((x.Method.length+1)+((x.Feature.length+1)+0)))+1
def okTCall(x:TCall):Prop:=((IntKind.i64).min<=x.Kind/\x.Kind<=(IntKind.i64).max)/\((x.Target.length<=maxLen)/\((x.Method.length<=maxLen)/\((x.Feature.length<=maxLen)/\True)))
theorem opens_74:Opens Tryz.prog 74 encTCall szTCall okTCall:=opens_map (opens_struct (fs:=[(3,0,1),(9,1,1),(9,2,1),(9,3,1)]) (by kernel_rfl) (by kernel_rfl) (fopens_cons opens_3 (fopens_cons opens_9 (fopens_cons opens_9 (fopens_cons opens_9 fopens_nil))))) (fun p=>TCall.mk p.1 p.2.1 p.2.2.1 p.2.2.2.1) (fun _=>rfl) (fun _=>rfl) (fun _ h=>h)
theorem opens_69:Opens Tryz.prog 69 (fun l=>[V.lst 4 (l.map encTCall)]) (fun x:(List TCall)=>((x.map (fun x:TCall=>(szTCall x))).sum+1)) (fun x:(List TCall)=>((∀a,a∈x->(fun x:TCall=>(okTCall x)) a)/\x.length<=maxLen)):=opens_slice (show Tryz.prog.underlying 69=some (.slice 74) by kernel_rfl) (by kernel_rfl) (by decide) opens_74
def szTFunc(x:TFunc):Nat:=(x.Name.length+1)+((x.Component.length+1)+(((x.Calls.map (fun x:TCall=>(szTCall x))).sum+1)+(((x.Makes.map (fun x:(List UInt8)=>(x.length+1))).sum+1)+0)))+1
def okTFunc(x:TFunc):Prop:=(x.Name.length<=maxLen)/\((x.Component.length<=maxLen)/\(((∀a,a∈x.Calls->(fun x:TCall=>(okTCall x)) a)/\x.Calls.length<=maxLen)/\(((∀a,a∈x.Makes->(fun x:(List UInt8)=>(x.length<=maxLen)) a)/\x.Makes.length<=maxLen)/\True)))
theorem opens_71:Opens Tryz.prog 71 encTFunc szTFunc okTFunc:=opens_map (opens_struct (fs:=[(9,0,1),(9,1,1),(69,2,1),(25,3,1)]) (by kernel_rfl) (by kernel_rfl) (fopens_cons opens_9 (fopens_cons opens_9 (fopens_cons opens_69 (fopens_cons opens_25 fopens_nil))))) (fun p=>TFunc.mk p.1 p.2.1 p.2.2.1 p.2.2.2.1) (fun _=>rfl) (fun _=>rfl) (fun _ h=>h)
theorem opens_24:Opens Tryz.prog 24 (fun l=>[V.lst 4 (l.map encTFunc)]) (fun x:(List TFunc)=>((x.map (fun x:TFunc=>(szTFunc x))).sum+1)) (fun x:(List TFunc)=>((∀a,a∈x->(fun x:TFunc=>(okTFunc x)) a)/\x.length<=maxLen)):=opens_slice (show Tryz.prog.underlying 24=some (.slice 71) by kernel_rfl) (by kernel_rfl) (by decide) opens_71
def szTGraph(x:TGraph):Nat:=((x.Ifaces.map (fun x:TIface=>(szTIface x))).sum+1)+(((x.Types.map (fun x:TType=>(szTType x))).sum+1)+(((x.Funcs.map (fun x:TFunc=>(szTFunc x))).sum+1)+(((x.Entries.map (fun x:(List UInt8)=>(x.length+1))).sum+1)+0)))+1
def okTGraph(x:TGraph):Prop:=((∀a,a∈x.Ifaces->(fun x:TIface=>(okTIface x)) a)/\x.Ifaces.length<=maxLen)/\(((∀a,a∈x.Types->(fun x:TType=>(okTType x)) a)/\x.Types.length<=maxLen)/\(((∀a,a∈x.Funcs->(fun x:TFunc=>(okTFunc x)) a)/\x.Funcs.length<=maxLen)/\(((∀a,a∈x.Entries->(fun x:(List UInt8)=>(x.length<=maxLen)) a)/\x.Entries.length<=maxLen)/\True)))
theorem opens_27:Opens Tryz.prog 27 encTGraph szTGraph okTGraph:=opens_map (opens_struct (fs:=[(22,0,1),(23,1,1),(24,2,1),(25,3,1)]) (by kernel_rfl) (by kernel_rfl) (fopens_cons opens_22 (fopens_cons opens_23 (fopens_cons opens_24 (fopens_cons opens_25 fopens_nil))))) (fun p=>TGraph.mk p.1 p.2.1 p.2.2.1 p.2.2.2.1) (fun _=>rfl) (fun _=>rfl) (fun _ h=>h)
theorem opensV_27:OpensV Tryz.prog 27 (fun x=>V.agg (encTGraph x)) szTGraph okTGraph:=opensV_agg (fs:=[(22,0,1),(23,1,1),(24,2,1),(25,3,1)]) (by kernel_rfl) opens_27
end Go.Proofs.YtjofofmllnpkpaaGreatDoor
