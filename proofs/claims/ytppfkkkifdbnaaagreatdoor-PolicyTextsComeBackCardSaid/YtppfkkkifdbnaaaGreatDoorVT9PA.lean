/- Part of the proof. -/
import Derived.Test.YtppfkkkifdbnaaaGreatDoorVT9M
import Derived.MakeChecks
set_option linter.unusedSimpArgs false
set_option linter.unusedVariables false
namespace Go.Pv
open Go Go.ChangeShapes Go.WideShapes
mutual
def bulk{H:Type}:DataW H->Nat
 | .lit (.string bytes)=>bytes.length+1
 | .lit _=>1
 | .nil=>1
 | .ptr d=>bulk d+1
 | .slice elems spare=>bulkAll elems+bulkAll spare+1
 | .agg parts=>bulkAll parts+1
 | .iface _ d=>bulk d+1
 | .map entries=>bulkEnts entries+1
 | .held _=>1
def bulkAll{H:Type}:List (DataW H)->Nat
 |[]=>0
 |d::r=>bulk d+bulkAll r
def bulkEnts{H:Type}:List (Lit×DataW H)->Nat
 |[]=>0
 |x::r=>bulkEnt x+bulkEnts r
def bulkEnt{H:Type}:Lit×DataW H->Nat
 |(.string bytes,d)=>bytes.length+bulk d+1
 |(_,d)=>bulk d+1
end
def memOf(w:World):Mem:=fun b=>w.heap[b]?
def IRelL(m:Mem)(ds:List V)(cs:List Value):Prop:=
 ds.length=cs.length/\∀(i:Nat) (c:V) (v:Value),ds[i]? = some c->cs[i]? = some v->IRel m c v
theorem IRelL.one{m:Mem}{d:V}{c:Value}(h:IRel m d c):IRelL m [d] [c]:=
 ⟨rfl,fun i d' c' hd hc=>by
  grind⟩
theorem IRelL.app{m:Mem}{a b:List V}{x y:List Value}(h:IRelL m a x)(h':IRelL m b y):IRelL m (a++b) (x++y):=by
 refine⟨by simp[h.1,h'.1],fun i c v hc hv=>?_⟩
 by_cases hi:i<a.length
 ·rw[ao9 hi] at hc
  rw[ao9 (by rw[<-h.1];exact hi)] at hv
  exact h.2 i c v hc hv
 ·rw[ao8 (by omega)] at hc
  rw[ao8 (by rw[<-h.1];omega),<-h.1] at hv
  exact h'.2 _ c v hc hv
section
variable{P:Program}{t e:TypeId}{α β:Type}
def wOk{H:Type}(P:Program)(t:TypeId)(d:DataW H):Prop:=(d.weights P t).all (·<=reachBytes)=true
def wOks{H:Type}(P:Program)(ts:List TypeId)(ds:List (DataW H)):Prop:=(DataW.weightsEach P ts ds).all (·<=reachBytes)=true
theorem wOks_cons{H:Type}{P:Program}{t:TypeId}{ts:List TypeId}{d:DataW H}{ds:List (DataW H)}(h:wOks P (t::ts) (d::ds)):wOk P t d/\wOks P ts ds:=by
 simp_all[wOks,wOk,DataW.weightsEach]
theorem wAll{H:Type}{P:Program}{e:TypeId}:∀(l:List (DataW H)),(DataW.weightsAll P e l).all (·<=reachBytes)=true->∀d,d∈l->wOk P e d
 |[],_,d,hd=>by simp at hd
 |x::l,h,d,hd=>by
  rw[DataW.weightsAll,bv9,al9] at h
  rcases am8.1 hd with rfl|hd
  ·exact h.1
  ·exact wAll l h.2 d hd
def Opens(P:Program)(t:TypeId)(e:α->List V)(sz:α->Nat)(ok:α->Prop):Prop:=
 ∀{H:Type} (enc:TypeId×Value->H) (w:World) (fuel:Nat) (cs:List Value) (x:DataW H×List MemPlace),
  DataW.trod enc P w 0 (fun _=>true) true fuel t cs=some x->wOk P t x.1->∃a:α,IRelL (memOf w) (e a) cs/\sz a<=bulk x.1/\ok a
theorem opens_int{k:IntKind}(ht:P.underlying t=some (.int k)):Opens P t (fun n:Int=>[V.con (.int k n)]) (fun _=>1) (fun n=>k.min<=n/\n<=k.max):=by
 intro H enc w fuel cs x h hw
 obtain⟨n,rfl,rfl,hw'⟩:=DataW.trod_int ht h
 simp only[Lit.wf,al9,decide_eq_true_eq] at hw'
 exact⟨n,IRelL.one (.con _),by simp[bulk],hw'⟩
theorem opens_stringW(ht:P.underlying t=some .string):Opens P t (fun s:List UInt8=>[sV s]) (fun s=>s.length+1) (fun s=>s.length<=140737488351232):=by
 intro H enc w fuel cs x h hw
 obtain⟨s,rfl,rfl,hs⟩:=DataW.trod_string ht h
 refine⟨s.data.toList,IRelL.one ?_,by simp[bulk],?_⟩
 ·have:str s.data.toList=.string s:=by simp[str]
  unfold sV
  rw[this]
  exact .con _
 ·unfold wOk at hw
  rw[DataW.weights,ae9,al9] at hw
  have:=of_decide_eq_true hw.1
  simp_all[reachBytes]
theorem list_of{p:Nat->α->Prop}:∀{n:Nat},(∀i,i<n->∃a,p i a)->∃l:List α,l.length=n/\∀i a,l[i]? = some a->p i a
 |0,_=>⟨[],rfl,by simp⟩
 |n+1,h=>by
  obtain⟨l,hl,hp⟩:=list_of (n:=n) fun i hi=>h i (by omega)
  obtain⟨a,ha⟩:=h n (by omega)
  refine⟨l++[a],by simp[hl],fun i b hb=>?_⟩
  by_cases hi:i<l.length
  ·rw[ao9 hi] at hb;exact hp i b hb
  ·rw[ao8 (by omega)] at hb
   have:i - l.length=0:=by
    have:=(aw8.1 hb).1
    simp at this;omega
   rw[this] at hb
   simp at hb
   subst hb
   rw[show i=n by omega];exact ha
theorem bulkAll_map{H:Type}{n:Nat}(D:Nat->DataW H):bulkAll ((List.range n).map D)=((List.range n).map fun i=>bulk (D i)).sum:=by
 generalize List.range n=l
 induction l<;>simp_all[bulkAll]
theorem sum_le{l:List α}{sz:α->Nat}{g:Nat->Nat}(h:∀i a,l[i]? = some a->sz a<=g i):(l.map sz).sum<=((List.range l.length).map g).sum:=by
 induction l generalizing g with
 |nil=>simp
 |cons a l ih=>
  rw[bl8,List.range_succ_eq_map]
  simp only[bd8,List.sum_cons,ax8]
  have h0:=h 0 a rfl
  grind
theorem opens_slice{k:Nat}{ee:α->List V}{sz:α->Nat}{ok:α->Prop}(ht:P.underlying t=some (.slice e))(hk:P.cellsOf e=k)(h0:0<k)(he:Opens P e ee sz ok):
  Opens P t (fun l:List α=>[V.lst k (l.map ee)]) (fun l=>(l.map sz).sum+1) (fun l=>(∀a,a∈l->ok a)/\l.length<=maxLen):=by
 intro H enc w fuel cs x h hw
 rcases Deep.open_slice ht h with ⟨rfl,rfl⟩|⟨a,len,cap,m,n,D,Pl,rfl,_,hlc,hcm,hm,rfl,hel⟩
 ·exact⟨[],IRelL.one (.nil _ _ _),by simp[bulk],by simp⟩
 ·simp only[if_true] at hm
  subst hm
  obtain⟨l,hl,hp⟩:=list_of (n:=len) (p:=fun i (b:α)=>sz b<=bulk (D i)/\ok b/\∃cs',w.cells? 0 (a.add (i*P.cellsOf e)) (P.cellsOf e)=some cs'/\IRelL (memOf w) (ee b) cs') (by
   intro i hi
   obtain⟨cs',hc,hd⟩:=hel i (by omega)
   obtain⟨b,h1,h2,h3⟩:=he _ _ _ _ _ hd (by
    unfold wOk at hw
    rw[DataW.weights] at hw
    simp only[ht,ae9,bv9,al9] at hw
    grind [wAll])
   grind)
  refine⟨l,IRelL.one ?_,?_,fun b hb=>?_,by omega⟩
  ·by_cases hz:len=0
   ·subst hz
    have:l=[]:=as9.1 hl
    subst this
    exact .nil _ _ _
   ·have hcell:∀i j b,l[i]? = some b->j<k->∃v,w.cell? ((a.add (i*k)).add j)=some v/\(∃c,(ee b)[j]? = some c)/\∀c,(ee b)[j]? = some c->IRel (memOf w) c v:=by
     intro i j b hb hj
     obtain⟨_,_,cs',hc,hr⟩:=hp i b hb
     rw[hk] at hc
     obtain⟨_,hn,hcs⟩:=World.cells?_some hc
     have hj':j<cs'.length:=by omega
     have hv:cs'[j]? = some cs'[j]:=as8 hj'
     have hj2:j<(ee b).length:=by rw[hr.1];exact hj'
     exact⟨cs'[j],(hcs j hj).trans hv,⟨(ee b)[j],as8 hj2⟩,fun c hcc=>hr.2 j c _ hcc hv⟩
    have hlen:∀b,b∈l->(ee b).length=k:=by
     intro b hb
     obtain⟨i,hi⟩:=ak9.1 hb
     obtain⟨_,_,cs',hc,hr⟩:=hp i b hi
     rw[hk] at hc
     rw[hr.1,(World.cells?_some hc).2.1]
    have hb0:∃b,l[0]? = some b:=⟨l[0]'(by omega),as8 _⟩
    obtain⟨b0,hb0⟩:=hb0
    obtain⟨v0,hv0,_⟩:=hcell 0 0 b0 hb0 h0
    have hadd0:(a.add (0*k)).add 0=a:=by simp[Addr.add]
    rw[hadd0] at hv0
    unfold World.cell? at hv0
    split at hv0
    case h_2=>simp at hv0
    rename_i arr T fr hblk
    have hsp:a.spot=none:=by
     cases hs:a.spot with
     |none=>rfl
     |some s=>grind
    have hget:∀i j b,l[i]? = some b->j<k->∃v,arr[a.off+(i*k+j)]? = some v/\(∃c,(ee b)[j]? = some c)/\∀c,(ee b)[j]? = some c->IRel (memOf w) c v:=by
     intro i j b hb hj
     obtain⟨v,hv,hc⟩:=hcell i j b hb hj
     rw[Deep.add_add] at hv
     unfold World.cell? at hv
     have hbk:(a.add (i*k+j)).block=a.block:=by unfold Addr.add;grind
     have hso:(a.add (i*k+j)).spot=none:=by unfold Addr.add;grind
     have hof:(a.add (i*k+j)).off=a.off+(i*k+j):=by unfold Addr.add;grind
     rw[hbk,hblk] at hv
     simp only[hso,hof] at hv
     exact⟨v,by grind,hc⟩
    refine IRel.lst (arr:=arr) (T:=T) (fr:=fr) (fun i=>(arr[a.off+i]?).getD undef) hblk hsp (by grind) hlc (by omega) ?_ ?_ ?_
    ·grind
    ·intro i hi
     rw[bb8] at hi
     have hq:i / k<l.length:=Nat.div_lt_of_lt_mul (by grind)
     obtain⟨v,hv,_⟩:=hget (i / k) (i % k) l[i / k] (as8 hq) (aj8 _ h0)<;>simp_all[Nat.mul_comm,Nat.div_add_mod]
    grind
  ·simp only[bulk]
   rw[bulkAll_map]
   have:=sum_le (l:=l) (sz:=sz) (g:=fun i=>bulk (D i)) fun i b hb=>(hp i b hb).1
   grind
  ·obtain⟨i,hi⟩:=ak9.1 hb<;>grind
def FOpens(P:Program)(N:Nat)(fs:List (TypeId×Nat×Nat))(off:Nat)(e:α->List V)(sz:α->Nat)(ok:α->Prop):Prop:=
 ∀{H:Type} (enc:TypeId×Value->H) (w:World) (n:Nat) (cs:List Value) (xs:List (DataW H×List MemPlace)),cs.length=N->xs.length=fs.length->
  (∀(i:Nat) (f:TypeId×Nat×Nat),fs[i]? = some f->DataW.trod enc P w 0 (fun _=>true) true n f.1 ((cs.drop f.2.1).take f.2.2)=xs[i]?)->
  wOks P (fs.map (·.1)) (xs.map (·.1))->∃a:α,IRelL (memOf w) (e a) (cs.drop off)/\sz a<=bulkAll (xs.map (·.1))/\ok a
theorem fopens_nil{N:Nat}:FOpens P N [] N (fun _:Unit=>[]) (fun _=>0) (fun _=>True):=by
 intro H enc w n cs xs hN hx _ _
 refine⟨(),?_,by simp,trivial⟩
 rw[<-hN]
 simp[IRelL]
theorem fopens_cons{N k off:Nat}{ft:TypeId}{fs:List (TypeId×Nat×Nat)}{ea:α->List V}{eb:β->List V}{sa:α->Nat}{sb:β->Nat}{oa:α->Prop}{ob:β->Prop}
  (h:Opens P ft ea sa oa) (hr:FOpens P N fs (off+k) eb sb ob):FOpens P N ((ft,off,k)::fs) off (fun p:α×β=>ea p.1++eb p.2) (fun p=>sa p.1+sb p.2) (fun p=>oa p.1/\ob p.2):=by
 intro H enc w n cs xs hN hx hf hw
 match xs,hx with
 |x::xs,hx=>
  have h1:=hf 0 _ rfl
  simp only[bf9] at h1
  have hw':=wOks_cons hw
  obtain⟨a,ha,hs,ho⟩:=h enc w n _ x h1 hw'.1
  have hb':=hr enc w n cs xs hN (by simpa using hx) fun i f hi=>by
   have:=hf (i+1) f (by simpa using hi)
   simpa using this
  obtain⟨b,hb,hs',ho'⟩:=hb' hw'.2
  refine⟨(a,b),?_,by simp only[bd8,bulkAll];omega,ho,ho'⟩
  have:=ha.app hb
  rw[show(cs.drop off).take k++cs.drop (off+k)=cs.drop off by rw[<-bu8];exact bw9 _ _] at this
  exact this
def fieldsOf(P:Program)(t:TypeId):Option (List (TypeId×Nat×Nat)):=
 match P.underlying t with
 |some (.struct fs)=>some (fs.toList.map fun f=>(f.type,f.offset,P.cellsOf f.type))
 |_=>none
theorem opens_struct{N:Nat}{fs:List (TypeId×Nat×Nat)}{e:α->List V}{sz:α->Nat}{ok:α->Prop}(ht:fieldsOf P t=some fs)(hN:P.cellsOf t=N)(h:FOpens P N fs 0 e sz ok):
  Opens P t e (fun a=>sz a+1) ok:=by
 intro H enc w fuel cs x hx hw
 unfold fieldsOf at ht
 split at ht
 case h_2=>simp at ht
 rename_i gs hu
 simp only[aq8] at ht
 subst ht
 obtain⟨xs,n,_,rfl,hl,hxl,hf⟩:=DataW.trod_struct hu hx
 have ha':=h enc w n cs xs (hl.trans hN) (by simpa using hxl) fun i f hi=>by
  rw[at9,Option.map_eq_some_iff] at hi
  obtain⟨g,hg,rfl⟩:=hi
  exact hf i g (by simpa using hg)
 obtain⟨a,h1,h2,h3⟩:=ha' (by
  unfold wOk at hw
  rw[DataW.weights] at hw
  simp only[hu] at hw
  unfold wOks
  rw[ax8]
  exact hw)
 exact⟨a,by simpa using h1,by simp only[bulk];omega,h3⟩
theorem opens_map{ea:α->List V}{eb:β->List V}{sa:α->Nat}{sb:β->Nat}{oa:α->Prop}{ob:β->Prop}(h:Opens P t ea sa oa)(g:α->β)
  (he:∀a,eb (g a)=ea a) (hs:∀a,sb (g a)=sa a) (ho:∀a,oa a->ob (g a)):Opens P t eb sb ob:=by
 intro H enc w fuel cs x hx hw
 obtain⟨a,h1,h2,h3⟩:=h enc w fuel cs x hx hw
 exact⟨g a,by rw[he];exact h1,by rw[hs];exact h2,ho a h3⟩
def OpensV(P:Program)(t:TypeId)(e:α->V)(sz:α->Nat)(ok:α->Prop):Prop:=
 ∀{H:Type} (enc:TypeId×Value->H) (w:World) (base:Nat) (v:Value) (d:DataW H) (p:List MemPlace),
  Value.okWide P w .any base t v->DataW.Trod enc P w 0 (fun _=>true) true t v d p->wOk P t d->∃a:α,IRel (memOf w) (e a) v/\sz a<=bulk d/\ok a
theorem opensV_agg{fs:List (TypeId×Nat×Nat)}{e:α->List V}{sz:α->Nat}{ok:α->Prop}(ht:fieldsOf P t=some fs)(h:Opens P t e sz ok):OpensV P t (fun a=>.agg (e a)) sz ok:=by
 intro H enc w base v d p hv ⟨n,hd⟩ hw
 unfold fieldsOf at ht
 split at ht
 case h_2=>simp at ht
 rename_i gs hu
 obtain⟨cs,rfl,_⟩:=okWide_struct hu hv
 obtain⟨a,h1,h2,h3⟩:=h enc w n _ _ hd hw
 exact⟨a,.agg (by simpa[Value.cells] using h1.1) (fun i c v' hc hv'=>h1.2 i c v' hc (by simp_all[Value.cells])),h2,h3⟩
theorem sameAt_of{w w':World}(h:∀b,b<w.heap.size->w'.heap[b]? = w.heap[b]?){p:MemPlace}(hp:p.block<w.heap.size):w.sameAt w' p:=by
 cases p with
 |cell b o=>simp only[World.sameAt,World.cell?];rw[h b hp]
 |map b=>exact h b hp
theorem trodAll_stays{H:Type}{enc:TypeId×Value->H}(hl:laidOutB P=true){w w':World}{sp:Nat->Bool}(hh:∀b,b<w.heap.size->w'.heap[b]? = w.heap[b]?)
  (hs:∀b,b<w.heap.size->sp b=true):∀{ts:List TypeId} {vs:List Value} {ds:List (DataW H)} {ps:List MemPlace},
  (ts.all fun t=>P.readableRec t&&decide (t<P.types.size))=true->DataW.TrodAll enc P w 0 (fun _=>true) true ts vs ds ps->(∀p∈ps,p.block<w.heap.size)->DataW.TrodAll enc P w' 0 sp true ts vs ds ps
 |[],[],[],_,_,h,_=>h
 |t::ts,v::vs,d::ds,_,hr,⟨p,q,h1,h2,e⟩,hlt=>by
  subst e
  simp only[ae9,al9,decide_eq_true_eq] at hr
  exact⟨p,q,WideElems.Trod_stays hl hr.1.1 hr.1.2 h1 (fun x hx=>sameAt_of hh (hlt x (List.mem_append_left _ hx))) (fun x hx=>hs _ (hlt x (List.mem_append_left _ hx))),
   trodAll_stays hl hh hs (by grind) h2 (fun x hx=>hlt x (List.mem_append_right _ hx)),rfl⟩
theorem kept_of{w w':World}(hs:Same w w')(hh:∀b,b<w.heap.size->w'.heap[b]? = w.heap[b]?)(may:MemPlace->Prop):w.keptBut w' may:=by
 refine⟨hs.os,hs.output,fun i hi=>?_⟩
 grind
theorem law_post{H:Type}{enc:TypeId×Value->H}{f:Func}{s:ChangeSpec}{apart fresh handsOn:Bool}{w w':World}{args:Array Value}{v:Value}{ds gs:List (DataW H)}{before:List MemPlace}{m m':Mem}{tb:TypeId}
  (hl:laidOutB P=true) (hts:(f.params.toList.all fun t=>P.readableRec t&&decide (t<P.types.size))=true) (hv:s.vars=[]) (hfn:∀gs',gs'=[]->s.fn H (ds++gs')={ results:=[.lit (.bool true)],args:=ds })
  (hres:f.resultTypes=#[tb]) (hb:P.underlying tb=some .bool) (hW:DataW.Whole enc P f.params.toList s.vars apart w args.toList ds gs before) (h:IRel m' (bV true) v) (hg:Grew m m' w w'):
  s.post enc P f apart fresh handsOn false w args v w':=by
 have hW0:=hW
 obtain⟨p,q,hA,hV,rfl,hfz,hnd⟩:=hW0
 cases h
 rw[hv] at hV
 cases gs with
 |cons _ _=>simp[DataW.TrodVars] at hV
 |nil=>
 have hq:q=[]:=hV
 subst hq
 refine⟨ds,[],p++[],[],p,[],hW,?_,?_,?_,kept_of hg.same hg.heap _,fun h=>by simp at h⟩
 ·rw[hfn _ rfl,hres]
  exact trodAll_cons_mk (RowKit.shut_bool hb _) trodAll_mk0
 ·rw[hfn _ rfl]
  exact trodAll_stays hl hg.heap (fun b hb=>by grind) hts hA (DataW.TrodAll.lt hA)
 ·rw[hv,hfn _ rfl]
  rfl
theorem args_nil{H:Type}{enc:TypeId×Value->H}{w:World}{args:Array Value}{f:Func}{s:ChangeSpec}{apart:Bool}{ds gs:List (DataW H)}{before:List MemPlace}
  (hW:DataW.Whole enc P f.params.toList s.vars apart w args.toList ds gs before):∃p,DataW.TrodAll enc P w 0 (fun _=>true) true f.params.toList args.toList ds p:=by
 obtain⟨p,q,hA,_⟩:=hW<;>grind
end
def factsA(P:Program)(f:FuncId)(fn:Func)(s:ChangeSpec)(c:OpenClaim):Bool:=
 c.wf (OpenSpec.ofChange s)&&laidOutB P&&mapsRowed P &&
 fn.params.all (P.readableRec ·)&&namedTie P c.named s.vars &&
 (c.stops==[])&&(P.stops==[])&&(c.knobs==[])&&(P.stopKnobs==[]) &&
 (c.inPlace==P.inPlace f)&&(c.unfollowed==P.unfollowed f)&&(c.recurses==P.recurses f)&&(c.named==P.varsNamed f) &&
 (c.maps==(fn.params.toList++s.plain.varTypes P).any (P.mapsRec ·))&&(c.ifaces==(fn.params.toList++s.plain.varTypes P).any (P.ifacesRec ·))&&(c.mapsOut==P.mapsAmong fn.resultTypes.toList) &&
 (c.loops==(fn.params.toList++s.plain.varTypes P).any (P.loopsFrom ·))&&(c.wideKeys==(fn.params.toList++s.plain.varTypes P++fn.resultTypes.toList).any (P.wideKeysFrom ·)) &&
 s.vars.all (P.varReadable ·)&&fn.resultTypes.all (fun t=>P.readableRec t&&decide (t<P.types.size))&&(c.ifacesOut==fn.resultTypes.toList.any (P.ifacesRec ·))&&(c.loopsOut==fn.resultTypes.toList.any (P.loopsFrom ·))&&(c.plainKeys==P.plainKeys)&&c.shortTexts.isNone&&P.stopsHeard
def factsB(P:Program)(c:OpenClaim):Bool:=P.mayEnter&&(c.lifted==P.liftsFinal)&&(P.make==some c.make)
def factsC(P:Program)(fn:Func)(s:ChangeSpec)(c:OpenClaim):Bool:=
 (c.kinds==(if c.domain.isEmpty then [] else fn.params.toList.map fun t=>match P.underlying t with|some (.int k)=>some k|_=>none))&&(c.pinned==c.pinnedBy) &&
 (c.veiled==(fn.params.toList++s.plain.varTypes P++fn.resultTypes.toList).any (P.veiledRec ·))&&c.veiledFits P fn.params.toList (fn.params.toList++s.plain.varTypes P++fn.resultTypes.toList)
theorem facts_join{P:Program}{f:FuncId}{fn:Func}{s:ChangeSpec}{c:OpenClaim}(h1:factsA P f fn s c=true)(h2:factsB P c=true)(h3:factsC P fn s c=true):joinedFacts P f fn s c=true:=by
 unfold factsA at h1
 unfold factsB at h2
 unfold factsC at h3
 have e:∀a b c d b1 b2 b3 c1 c2 c3:Bool,a=true->(b1&&b2&&b3)=true->(b&&c&&d&&c1)=true->(a&&b1&&b2&&b3&&b&&c&&d&&c1)=true:=by
  intro a b c d b1 b2 b3 c1 c2 c3 h h' h''
  simp only[al9] at *
  simp_all
 exact e _ _ _ _ _ _ _ _ true true h1 h2 h3
section
variable{P:Program}{t e:TypeId}{α β:Type}
def OpensB(b:Nat)(P:Program)(t:TypeId)(e:α->List V)(sz:α->Nat)(ok:α->Prop):Prop:=
 ∀{H:Type} (enc:TypeId×Value->H) (w:World) (fuel:Nat) (cs:List Value) (x:DataW H×List MemPlace),
  DataW.trod enc P w 0 (fun _=>true) true fuel t cs=some x->wOk P t x.1->bulk x.1<=b->∃a:α,IRelL (memOf w) (e a) cs/\sz a<=bulk x.1/\ok a
theorem Opens.at{ee:α->List V}{sz:α->Nat}{ok:α->Prop}(h:Opens P t ee sz ok)(b:Nat):OpensB b P t ee sz ok:=fun enc w fuel cs x ht hw _=>h enc w fuel cs x ht hw
theorem OpensB.mono{b b':Nat}{ee:α->List V}{sz:α->Nat}{ok:α->Prop}(h:OpensB b P t ee sz ok)(hb:b'<=b):OpensB b' P t ee sz ok:=fun enc w fuel cs x ht hw hl=>h enc w fuel cs x ht hw (bk8 hl hb)
theorem bulk_pos{H:Type}(d:DataW H):0<bulk d:=by
 cases d with
 |lit l=>cases l<;>simp[bulk]
 |_=>simp[bulk]
theorem opensB_zero{ee:α->List V}{sz:α->Nat}{ok:α->Prop}:OpensB 0 P t ee sz ok:=fun enc w fuel cs x ht hw hl=>absurd hl (by grind [bulk_pos])
theorem bulk_mem{H:Type}{n i:Nat}(D:Nat->DataW H)(hi:i<n):bulk (D i)<=((List.range n).map fun i=>bulk (D i)).sum:=by
 have:bulk (D i)∈(List.range n).map fun i=>bulk (D i):=ax9.2 ⟨i,bz8.2 hi,rfl⟩
 generalize (List.range n).map (fun i=>bulk (D i))=l at this
 induction l<;>grind
theorem opensB_slice{b k:Nat}{ee:α->List V}{sz:α->Nat}{ok:α->Prop}(ht:P.underlying t=some (.slice e))(hk:P.cellsOf e=k)(h0:0<k)(he:OpensB b P e ee sz ok):
  OpensB (b+1) P t (fun l:List α=>[V.lst k (l.map ee)]) (fun l=>(l.map sz).sum+1) (fun l=>(∀a,a∈l->ok a)/\l.length<=maxLen):=by
 intro H enc w fuel cs x h hw hlt
 rcases Deep.open_slice ht h with ⟨rfl,rfl⟩|⟨a,len,cap,m,n,D,Pl,rfl,_,hlc,hcm,hm,rfl,hel⟩
 ·exact⟨[],IRelL.one (.nil _ _ _),by simp[bulk],by simp⟩
 ·simp only[if_true] at hm
  subst hm
  obtain⟨l,hl,hp⟩:=list_of (n:=len) (p:=fun i (b:α)=>sz b<=bulk (D i)/\ok b/\∃cs',w.cells? 0 (a.add (i*P.cellsOf e)) (P.cellsOf e)=some cs'/\IRelL (memOf w) (ee b) cs') (by
   intro i hi
   obtain⟨cs',hc,hd⟩:=hel i (by omega)
   obtain⟨b,h1,h2,h3⟩:=he _ _ _ _ _ hd (by
    unfold wOk at hw
    rw[DataW.weights] at hw
    simp only[ht,ae9,bv9,al9] at hw
    grind [wAll]) (by
    simp only[bulk] at hlt
    rw[bulkAll_map] at hlt
    have:=bulk_mem D hi;grind)
   grind)
  refine⟨l,IRelL.one ?_,?_,fun b hb=>?_,by omega⟩
  ·by_cases hz:len=0
   ·subst hz
    have:l=[]:=as9.1 hl
    subst this
    exact .nil _ _ _
   ·have hcell:∀i j b,l[i]? = some b->j<k->∃v,w.cell? ((a.add (i*k)).add j)=some v/\(∃c,(ee b)[j]? = some c)/\∀c,(ee b)[j]? = some c->IRel (memOf w) c v:=by
     intro i j b hb hj
     obtain⟨_,_,cs',hc,hr⟩:=hp i b hb
     rw[hk] at hc
     obtain⟨_,hn,hcs⟩:=World.cells?_some hc
     have hj':j<cs'.length:=by omega
     have hv:cs'[j]? = some cs'[j]:=as8 hj'
     have hj2:j<(ee b).length:=by rw[hr.1];exact hj'
     exact⟨cs'[j],(hcs j hj).trans hv,⟨(ee b)[j],as8 hj2⟩,fun c hcc=>hr.2 j c _ hcc hv⟩
    have hlen:∀b,b∈l->(ee b).length=k:=by
     intro b hb
     obtain⟨i,hi⟩:=ak9.1 hb
     obtain⟨_,_,cs',hc,hr⟩:=hp i b hi
     rw[hk] at hc
     rw[hr.1,(World.cells?_some hc).2.1]
    have hb0:∃b,l[0]? = some b:=⟨l[0]'(by omega),as8 _⟩
    obtain⟨b0,hb0⟩:=hb0
    obtain⟨v0,hv0,_⟩:=hcell 0 0 b0 hb0 h0
    have hadd0:(a.add (0*k)).add 0=a:=by simp[Addr.add]
    rw[hadd0] at hv0
    unfold World.cell? at hv0
    split at hv0
    case h_2=>simp at hv0
    rename_i arr T fr hblk
    have hsp:a.spot=none:=by
     cases hs:a.spot with
     |none=>rfl
     |some s=>grind
    have hget:∀i j b,l[i]? = some b->j<k->∃v,arr[a.off+(i*k+j)]? = some v/\(∃c,(ee b)[j]? = some c)/\∀c,(ee b)[j]? = some c->IRel (memOf w) c v:=by
     intro i j b hb hj
     obtain⟨v,hv,hc⟩:=hcell i j b hb hj
     rw[Deep.add_add] at hv
     unfold World.cell? at hv
     have hbk:(a.add (i*k+j)).block=a.block:=by unfold Addr.add;grind
     have hso:(a.add (i*k+j)).spot=none:=by unfold Addr.add;grind
     have hof:(a.add (i*k+j)).off=a.off+(i*k+j):=by unfold Addr.add;grind
     rw[hbk,hblk] at hv
     simp only[hso,hof] at hv
     exact⟨v,by grind,hc⟩
    refine IRel.lst (arr:=arr) (T:=T) (fr:=fr) (fun i=>(arr[a.off+i]?).getD undef) hblk hsp (by grind) hlc (by omega) ?_ ?_ ?_
    ·grind
    ·intro i hi
     rw[bb8] at hi
     have hq:i / k<l.length:=Nat.div_lt_of_lt_mul (by grind)
     obtain⟨v,hv,_⟩:=hget (i / k) (i % k) l[i / k] (as8 hq) (aj8 _ h0)<;>simp_all[Nat.mul_comm,Nat.div_add_mod]
    grind
  ·simp only[bulk]
   rw[bulkAll_map]
   have:=sum_le (l:=l) (sz:=sz) (g:=fun i=>bulk (D i)) fun i b hb=>(hp i b hb).1
   grind
  ·obtain⟨i,hi⟩:=ak9.1 hb<;>grind
def FOpensB(b0:Nat)(P:Program)(N:Nat)(fs:List (TypeId×Nat×Nat))(off:Nat)(e:α->List V)(sz:α->Nat)(ok:α->Prop):Prop:=
 ∀{H:Type} (enc:TypeId×Value->H) (w:World) (n:Nat) (cs:List Value) (xs:List (DataW H×List MemPlace)),cs.length=N->xs.length=fs.length->
  (∀(i:Nat) (f:TypeId×Nat×Nat),fs[i]? = some f->DataW.trod enc P w 0 (fun _=>true) true n f.1 ((cs.drop f.2.1).take f.2.2)=xs[i]?)->
  wOks P (fs.map (·.1)) (xs.map (·.1))->bulkAll (xs.map (·.1))<=b0->∃a:α,IRelL (memOf w) (e a) (cs.drop off)/\sz a<=bulkAll (xs.map (·.1))/\ok a
theorem fopensB_nil{b0 N:Nat}:FOpensB b0 P N [] N (fun _:Unit=>[]) (fun _=>0) (fun _=>True):=by
 intro H enc w n cs xs hN hx _ _ _
 simp_all[IRelL]
theorem fopensB_cons{b0 N k off:Nat}{ft:TypeId}{fs:List (TypeId×Nat×Nat)}{ea:α->List V}{eb:β->List V}{sa:α->Nat}{sb:β->Nat}{oa:α->Prop}{ob:β->Prop}
  (h:OpensB b0 P ft ea sa oa) (hr:FOpensB b0 P N fs (off+k) eb sb ob):FOpensB b0 P N ((ft,off,k)::fs) off (fun p:α×β=>ea p.1++eb p.2) (fun p=>sa p.1+sb p.2) (fun p=>oa p.1/\ob p.2):=by
 intro H enc w n cs xs hN hx hf hw hb0
 match xs,hx with
 |x::xs,hx=>
  have h1:=hf 0 _ rfl
  simp only[bf9] at h1
  have hw':=wOks_cons hw
  simp only[bd8,bulkAll] at hb0
  obtain⟨a,ha,hs,ho⟩:=h enc w n _ x h1 hw'.1 (by omega)
  have hb':=hr enc w n cs xs hN (by grind) fun i f hi=>by
   have:=hf (i+1) f (by grind)
   grind
  obtain⟨b,hb,hs',ho'⟩:=hb' hw'.2 (by omega)
  refine⟨(a,b),?_,by grind [bulkAll],ho,ho'⟩
  have:=ha.app hb
  grind [List.drop_drop,List.take_append_drop]
theorem opensB_struct{b0 N:Nat}{fs:List (TypeId×Nat×Nat)}{e:α->List V}{sz:α->Nat}{ok:α->Prop}(ht:fieldsOf P t=some fs)(hN:P.cellsOf t=N)(h:FOpensB b0 P N fs 0 e sz ok):
  OpensB (b0+1) P t e (fun a=>sz a+1) ok:=by
 intro H enc w fuel cs x hx hw hlt
 unfold fieldsOf at ht
 split at ht
 case h_2=>simp at ht
 rename_i gs hu
 simp only[aq8] at ht
 subst ht
 obtain⟨xs,n,_,rfl,hl,hxl,hf⟩:=DataW.trod_struct hu hx
 have ha':=h enc w n cs xs (hl.trans hN) (by grind) fun i f hi=>by
  grind
 obtain⟨a,h1,h2,h3⟩:=ha' (by
  unfold wOk at hw
  rw[DataW.weights] at hw
  simp only[hu] at hw
  unfold wOks
  rw[ax8]
  exact hw) (by simp_all[bulk])
 grind [bulk]
end
end Go.Pv
namespace Go.Pv
open Go
theorem w64_id{n:Int}(h : -9223372036854775808<=n)(h':n<=9223372036854775807):w64 n=n:=by
 have:w64 n=if n % 18446744073709551616>=9223372036854775808 then n % 18446744073709551616 - 18446744073709551616 else n % 18446744073709551616:=by
  simp[w64,IntKind.wrap,IntKind.signed,IntKind.bits]
 grind
theorem jn_def{α β:Type}(k:α)(b:α->β):jn k b=b k:=rfl
theorem idx_nat{α:Type}{xs:List α}{j:Nat}(h:j<xs.length):idx xs (j:Int)=some xs[j]:=by
 simp[idx,h]
theorem mget_mput{α β:Type}[DecidableEq α](xs:List (α×β))(k k':α)(v:β):mget (mput xs k v) k'=if k=k' then some v else mget xs k':=by
 induction xs with
 |nil=>simp[mput,mget]
 |cons p r ih=>
  simp only[mput]
  split
  ·simp_all[mget]
  ·rename_i h
   simp only[mget]
   grind
theorem idxL{α:Type}{g:List α->Int->Option Int}{k:Option Int}(p:α->Bool)(h0:∀n,g [] n=k)(h1:∀x l n,g (x::l) n=if p x=true then some n else g l (n+1)):
  ∀l (n:Nat),g l n=if l.any p=true then some ((n+l.findIdx p:Nat):Int) else k
 |[],n=>by simp[h0]
 |x::l,n=>by
  have e:((n:Int)+1)=((n+1:Nat):Int):=rfl
  rw[h1,e,idxL p h0 h1 l (n+1)]
  grind
theorem bytesL{β:Type}{g:Nat->Int->Option β}{k:Option β}{f:β}(s:List UInt8)(p:UInt8->Bool)(h0:∀n,g 0 n=k)
  (h1:∀m n,g (m+1) n=(idx s n).bind fun c=>if p c=true then g m (n+1) else some f):
  ∀(m n:Nat),n+m=s.length->g m n=if (s.drop n).all p=true then k else some f
 |0,n,h=>by grind
 |m+1,n,h=>by
  have hn:n<s.length:=by omega
  have e:((n:Int)+1)=((n+1:Nat):Int):=rfl
  rw[h1,idx_nat hn,bn9,e,bytesL s p h0 h1 m (n+1) (by omega),bj8 hn,ae9]
  grind
end Go.Pv
namespace Go.Proofs.YtppfkkkifdbnaaaGreatDoor
open Go Go.Pv
set_option maxRecDepth 100000
inductive Tr where
 |mk (Kind:Int) (Name:List UInt8) (Texts:List (List UInt8)) (Op N:Int) (Kids:List Tr)
noncomputable section
mutual
def Tr.toT:Tr->TTest
 | .mk a b c d e ks=>⟨a,b,c,d,e,Tr.toKs ks⟩
def Tr.toKs:List Tr->List KRow
 |[]=>[]
 |t::r=>⟨encTTest t.toT,imms_encTTest _,one_encTTest _⟩::Tr.toKs r
end
def okI(n:Int):Prop:=(IntKind.i64).min<=n/\n<=(IntKind.i64).max
def okS(s:List UInt8):Prop:=s.length<=140737488351232
mutual
def Tr.ok:Tr->Prop
 | .mk a b c d e ks=>okI a/\okS b/\((∀s,s∈c->okS s)/\c.length<=maxLen)/\okI d/\okI e/\Tr.oks ks/\ks.length<=maxLen
def Tr.oks:List Tr->Prop
 |[]=>True
 |t::r=>t.ok/\Tr.oks r
end
end
theorem Tr.toKs_row:∀ks:List Tr,(Tr.toKs ks).map KRow.row=ks.map fun t=>encTTest t.toT
 |[]=>by simp[Tr.toKs]
 |t::r=>by simp[Tr.toKs,Tr.toKs_row r]
theorem Tr.oks_of:∀ks:List Tr,(∀t,t∈ks->t.ok)->Tr.oks ks
 |[],_=>by simp[Tr.oks]
 |t::r,h=>by rw[Tr.oks];exact⟨h t (by simp),Tr.oks_of r fun u hu=>h u (by simp[hu])⟩
theorem Tr.toKs_len:∀ks:List Tr,(Tr.toKs ks).length=ks.length
 |[]=>by simp[Tr.toKs]
 |t::r=>by simp[Tr.toKs,Tr.toKs_len r]
theorem sV_inj{a b:List UInt8}(h:sV a=sV b):a=b:=by
 unfold sV str at h
 simp only[V.con.injEq,Value.string.injEq] at h
 have:=congrArg (fun b=>b.data.toList) h
 simpa using this
theorem encS_inj{a b:List UInt8}(h:encS a=encS b):a=b:=sV_inj (by simpa[encS] using h)
theorem mapS_inj{a b:List (List UInt8)}(h:a.map encS=b.map encS):a=b:=List.map_inj_right (fun x y h=>encS_inj h) |>.1 h
theorem mapK_inj{a b:List KRow}(h:a.map KRow.row=b.map KRow.row):a=b:=List.map_inj_right (fun x y h=>KRow.ext' h) |>.1 h
theorem encTTest_inj(a b:TTest)(h:encTTest a=encTTest b):a=b:=by
 obtain⟨a1,a2,a3,a4,a5,a6⟩:=a
 obtain⟨b1,b2,b3,b4,b5,b6⟩:=b
 simp only[encTTest,List.cons.injEq,and_true] at h
 obtain⟨h1,h2,h3,h4,h5,h6⟩:=h
 have e1:a1=b1:=by injection h1 with h;injection h
 have e4:a4=b4:=by injection h4 with h;injection h
 have e5:a5=b5:=by injection h5 with h;injection h
 have e2:=sV_inj h2
 have e3:a3=b3:=mapS_inj (by injection h3)
 have e6:a6=b6:=mapK_inj (by injection h6)
 subst e1 e2 e3 e4 e5 e6;rfl
theorem kdec_toK(t:Tr):kdec encTTest ⟨encTTest t.toT,imms_encTTest _,one_encTTest _⟩=some t.toT:=kdec_eq encTTest_inj rfl
def szTTest(x:TTest):Nat:=0
def okTTest(x:TTest):Prop:=∃t:Tr,x=t.toT/\t.ok
theorem opensB_42:∀b,OpensB b Tryz.prog 42 (fun t:Tr=>encTTest t.toT) (fun _=>0) Tr.ok
 |0=>opensB_zero
 |b+1=>by
  have hi:Opens Tryz.prog 3 (fun x=>[V.con (.int .i64 x)]) (fun _=>1) (fun x:Int=>(IntKind.i64).min<=x/\x<=(IntKind.i64).max):=opens_int (show Tryz.prog.underlying 3=some (.int .i64) by kernel_rfl)
  have hs:Opens Tryz.prog 9 (fun x=>[sV x]) (fun s=>s.length+1) (fun s=>s.length<=140737488351232):=opens_stringW (show Tryz.prog.underlying 9=some (.string) by kernel_rfl)
  intro enc w fuel cs x hx hw hl
  obtain⟨a,h1,h2,h3⟩:=opensB_struct (P:=Tryz.prog) (t:=42) (b0:=b) (fs:=[(3,0,1),(9,1,1),(39,2,1),(3,3,1),(3,4,1),(40,5,1)]) (by kernel_rfl) (by kernel_rfl)
   (fopensB_cons (Opens.at hi b) (fopensB_cons (Opens.at hs b) (fopensB_cons (Opens.at (opens_slice (k:=1) (t:=39) (e:=9) (by kernel_rfl) (by kernel_rfl) (by decide) hs) b) (fopensB_cons (Opens.at hi b) (fopensB_cons (Opens.at hi b)
    (fopensB_cons (OpensB.mono (opensB_slice (k:=6) (t:=40) (e:=42) (by kernel_rfl) (by kernel_rfl) (by decide) (opensB_42 b)) (ah8 b)) fopensB_nil)))))) enc w fuel cs x hx hw hl
  refine⟨Tr.mk a.1 a.2.1 a.2.2.1 a.2.2.2.1 a.2.2.2.2.1 a.2.2.2.2.2.1,?_,af8 _,?_⟩
  ·simp only[Tr.toT,encTTest,Tr.toKs_row]
   exact h1
  ·simp only[Tr.ok]
   exact⟨h3.1,h3.2.1,h3.2.2.1,h3.2.2.2.1,h3.2.2.2.2.1,Tr.oks_of _ h3.2.2.2.2.2.1.1,h3.2.2.2.2.2.1.2⟩
theorem opens_42:Opens Tryz.prog 42 encTTest szTTest okTTest:=by
 intro H enc w fuel cs x hx hw
 obtain⟨t,h1,h2,h3⟩:=opensB_42 _ enc w fuel cs x hx hw (ab8 _)
 exact⟨t.toT,h1,af8 _,t,rfl,h3⟩
end Go.Proofs.YtppfkkkifdbnaaaGreatDoor
namespace Go.Proofs.YtppfkkkifdbnaaaGreatDoor
open Go Go.Pv
set_option maxRecDepth 100000
theorem opens_9:Opens Tryz.prog 9 (fun x=>[sV x]) (fun x:(List UInt8)=>(x.length+1)) (fun x:(List UInt8)=>(x.length<=140737488351232)):=opens_stringW (show Tryz.prog.underlying 9=some (.string) by kernel_rfl)
theorem opens_3:Opens Tryz.prog 3 (fun x=>[V.con (.int .i64 x)]) (fun x:Int=>1) (fun x:Int=>((IntKind.i64).min<=x/\x<=(IntKind.i64).max)):=opens_int (show Tryz.prog.underlying 3=some (.int .i64) by kernel_rfl)
def szTPolicyRule(x:TPolicyRule):Nat:=(x.Name.length+1)+((x.About.length+1)+((szTTest x.When)+(1+0)))+1
def okTPolicyRule(x:TPolicyRule):Prop:=(x.Name.length<=140737488351232)/\((x.About.length<=140737488351232)/\((okTTest x.When)/\(((IntKind.i64).min<=x.Level/\x.Level<=(IntKind.i64).max)/\True)))
theorem opens_44:Opens Tryz.prog 44 encTPolicyRule szTPolicyRule okTPolicyRule:=opens_map (opens_struct (fs:=[(9,0,1),(9,1,1),(42,2,6),(3,8,1)]) (by kernel_rfl) (by kernel_rfl) (fopens_cons opens_9 (fopens_cons opens_9 (fopens_cons opens_42 (fopens_cons opens_3 fopens_nil))))) (fun p=>TPolicyRule.mk p.1 p.2.1 p.2.2.1 p.2.2.2.1) (fun _=>rfl) (fun _=>rfl) (fun _ h=>h)
theorem opens_22:Opens Tryz.prog 22 (fun l=>[V.lst 9 (l.map encTPolicyRule)]) (fun x:(List TPolicyRule)=>((x.map (fun x:TPolicyRule=>(szTPolicyRule x))).sum+1)) (fun x:(List TPolicyRule)=>((∀a,a∈x->(fun x:TPolicyRule=>(okTPolicyRule x)) a)/\x.length<=maxLen)):=opens_slice (show Tryz.prog.underlying 22=some (.slice 44) by kernel_rfl) (by kernel_rfl) (by decide) opens_44
def szTWaiver(x:TWaiver):Nat:=(x.Rule.length+1)+((x.Subject.length+1)+(1+(1+((x.Owner.length+1)+(1+0)))))+1
def okTWaiver(x:TWaiver):Prop:=(x.Rule.length<=140737488351232)/\((x.Subject.length<=140737488351232)/\(((IntKind.i64).min<=x.From/\x.From<=(IntKind.i64).max)/\(((IntKind.i64).min<=x.To/\x.To<=(IntKind.i64).max)/\((x.Owner.length<=140737488351232)/\(((IntKind.i64).min<=x.Level/\x.Level<=(IntKind.i64).max)/\True)))))
theorem opens_52:Opens Tryz.prog 52 encTWaiver szTWaiver okTWaiver:=opens_map (opens_struct (fs:=[(9,0,1),(9,1,1),(3,2,1),(3,3,1),(9,4,1),(3,5,1)]) (by kernel_rfl) (by kernel_rfl) (fopens_cons opens_9 (fopens_cons opens_9 (fopens_cons opens_3 (fopens_cons opens_3 (fopens_cons opens_9 (fopens_cons opens_3 fopens_nil))))))) (fun p=>TWaiver.mk p.1 p.2.1 p.2.2.1 p.2.2.2.1 p.2.2.2.2.1 p.2.2.2.2.2.1) (fun _=>rfl) (fun _=>rfl) (fun _ h=>h)
theorem opens_23:Opens Tryz.prog 23 (fun l=>[V.lst 6 (l.map encTWaiver)]) (fun x:(List TWaiver)=>((x.map (fun x:TWaiver=>(szTWaiver x))).sum+1)) (fun x:(List TWaiver)=>((∀a,a∈x->(fun x:TWaiver=>(okTWaiver x)) a)/\x.length<=maxLen)):=opens_slice (show Tryz.prog.underlying 23=some (.slice 52) by kernel_rfl) (by kernel_rfl) (by decide) opens_52
def szTPolicy(x:TPolicy):Nat:=((x.Rules.map (fun x:TPolicyRule=>(szTPolicyRule x))).sum+1)+(((x.Waivers.map (fun x:TWaiver=>(szTWaiver x))).sum+1)+0)+1
def okTPolicy(x:TPolicy):Prop:=((∀a,a∈x.Rules->(fun x:TPolicyRule=>(okTPolicyRule x)) a)/\x.Rules.length<=maxLen)/\(((∀a,a∈x.Waivers->(fun x:TWaiver=>(okTWaiver x)) a)/\x.Waivers.length<=maxLen)/\True)
theorem opens_25:Opens Tryz.prog 25 encTPolicy szTPolicy okTPolicy:=opens_map (opens_struct (fs:=[(22,0,1),(23,1,1)]) (by kernel_rfl) (by kernel_rfl) (fopens_cons opens_22 (fopens_cons opens_23 fopens_nil))) (fun p=>TPolicy.mk p.1 p.2.1) (fun _=>rfl) (fun _=>rfl) (fun _ h=>h)
theorem opensV_25:OpensV Tryz.prog 25 (fun x=>V.agg (encTPolicy x)) szTPolicy okTPolicy:=opensV_agg (fs:=[(22,0,1),(23,1,1)]) (by kernel_rfl) opens_25
end Go.Proofs.YtppfkkkifdbnaaaGreatDoor
namespace Go.Pv
open Go
theorem laidVars_mem{P:Program}{w:World}{name:String}{d:DataW Unit}:∀{laid:List (String×DataW Unit)} {ps:List MemPlace},DataW.LaidVars P w laid ps->(name,d)∈laid->
  ∃g t cs fuel p,P.globalNamed name=some g/\(P.globals[g]?).map (·.type)=some t/\w.var? P name=some cs/\DataW.trod (fun _=>()) P w 0 (fun _=>true) false fuel t cs.toList=some (d,p)
 |[],_,_,h=>by simp at h
 |(n,d')::r,ps,hl,h=>by
  obtain⟨g,t,cs,fuel,p,q,hg,ht,hv,hd,hr,_⟩:=hl
  rcases am8.1 h with h|h
  ·cases h
   exact⟨g,t,cs,fuel,p,hg,ht,hv,hd⟩
  ·exact laidVars_mem hr h
theorem laid_tab{P:Program}{w:World}{laid:List (String×DataW Unit)}(hL:laidMet P laid w){name:String}{vals:List Int}{k:IntKind}{g t n e:Nat}
  (hin:(name,DataW.agg (vals.map fun v=>.lit (.int k v)))∈laid) (hg:P.globalNamed name=some g) (ht:(P.globals[g]?).map (·.type)=some t) (hu:P.underlying t=some (.array n e))
  (he:P.underlying e=some (.int k)) (hc:P.cellsOf e=1) (hcs:P.cellsOf t=n):GlAt (memOf w) g (vals.map fun v=>V.con (.int k v)):=by
 obtain⟨ps,hl,_⟩:=hL
 obtain⟨g',t',cs,fuel,p,hg',ht',hv,hd⟩:=laidVars_mem hl hin
 obtain rfl:=ae8 (hg.symm.trans hg')
 obtain rfl:=ae8 (ht.symm.trans ht')
 obtain⟨xs,m,_,hx,hlen,hn,hel⟩:=DataW.trod_array hu hd
 simp only[Prod.mk.injEq,DataW.agg.injEq] at hx
 have hlx:xs.length=vals.length:=by
  have:=congrArg List.length hx.1
  simpa using this.symm
 have hcell:∀(i:Nat) (v:Int),vals[i]? = some v->cs.toList[i]? = some (.int k v):=by
  intro i v hv'
  have hi:i<vals.length:=(aw8.1 hv').1
  have hE:=hel i (by omega)
  rw[hc,Nat.mul_one,as8 (by omega)] at hE
  obtain⟨z,e1,e2,_⟩:=DataW.trod_int he hE
  have e4:(xs.map (·.1))[i]? = (vals.map fun v=>(DataW.lit (.int k v):DataW Unit))[i]?:=by rw[hx.1]
  rw[at9,at9,as8 (by omega:i<xs.length),hv',e2] at e4
  simp only[au9,aq8,DataW.lit.injEq,Lit.int.injEq,true_and] at e4
  subst e4
  have h0:((cs.toList.drop i).take 1)[0]? = some (.int k z):=by rw[e1];rfl
  simpa using h0
 unfold World.var? at hv
 rw[hg,bn9] at hv
 split at hv
 case h_2=>simp at hv
 rename_i cs' T fr hblk
 simp only[aq8] at hv
 subst hv
 have hsz:cs'.size=n:=by
  have:=hd
  have hlen':=hlen
  exact hlen'.trans hcs
 refine⟨?_,cs',T,fr,hblk,by rw[hsz,bb8,<-hlx,hn]⟩
 refine IRel.iptr (arr:=cs') (T:=T) (fr:=fr) (fun i=>(cs'[i]?).getD undef) 0 hblk rfl rfl ?_ ?_
 ·intro i hi
  have hi':i<vals.length:=by simpa using hi
  have:=hcell i vals[i] (as8 hi')
  rw[ac9] at this
  rw[br9,this];rfl
 ·intro j c hj
  rw[at9,Option.map_eq_some_iff] at hj
  obtain⟨v,hv',rfl⟩:=hj
  have:=hcell j v hv'
  rw[ac9] at this
  simp only[this,bm9]
  exact .con _
theorem GlOk.cons{m:Mem}{gl:Gl}{g:Nat}{row:List V}(h:GlAt m g row)(hr:GlOk gl m):GlOk ((g,row)::gl) m:=by
 intro g' row' hg
 rw[glk] at hg
 cases hb:Nat.beq g g' with
 |true=>
  simp_all
 |false=>
  rw[hb] at hg
  exact hr g' row' hg
end Go.Pv
namespace Go.Proofs.YtppfkkkifdbnaaaGreatDoor
open Go Go.Pv
theorem gl_of {W:World} {laid:List (String×DataW Unit)} (hL:laidMet Tryz.prog laid W) (hin:("internal/strconv.uint64pow10",DataW.agg (((List.range 20).map tab0).map fun v=>.lit (.int .u64 v)))∈laid):GlOk gl (memOf W):=
 GlOk.cons (laid_tab hL (k:=.u64) (g:=0) (t:=194) (n:=20) (e:=159) hin (by kernel_rfl) (by kernel_rfl) (by kernel_rfl) (by kernel_rfl) (by kernel_rfl) (by kernel_rfl)) GlOk.nil
set_option maxRecDepth 100000
def words:List (List UInt8):=[([114,117,108,101]:List UInt8),([97,98,111,117,116]:List UInt8),([119,104,101,110]:List UInt8),([119,97,105,118,101]:List UInt8),([102,111,114]:List UInt8),([102,114,111,109]:List UInt8),([116,111]:List UInt8),([98,121]:List UInt8),([97,115]:List UInt8),([112,97,115,115]:List UInt8),([110,111,116,101]:List UInt8),([119,97,114,110]:List UInt8),([100,101,110,121]:List UInt8),([111,114]:List UInt8),([97,110,100]:List UInt8),([116,114,117,101]:List UInt8),([105,115]:List UInt8),([98,101,103,105,110,115]:List UInt8),([104,97,115]:List UInt8),([110,111,116]:List UInt8)]
def wordB(s:List UInt8):Bool:=words.any fun w=>s==w
theorem orS{b c:Bool}{x:Option Bool}(h:x=some c):(if b=true then (if b=true then some true else some false) else x)=some (b||c):=by cases b<;>simp[h]
theorem orL{b:Bool}:(if b=true then some true else some false)=some (b||false):=by cases b<;>rfl
theorem M59_eq(F:Nat)(s:List UInt8):M59 F s=some (wordB s):=by
 unfold M59
 simp only[jn_def]
 show _=some (words.any fun w=>s==w)
 simp only[words,bs8,List.any_nil]
 repeat (first|exact orL|apply orS)
theorem beqC(a b:List UInt8):(a==b)=(b==a):=by
 by_cases h:a=b
 ·subst h;rfl
 ·rw[beq_false_of_ne h,beq_false_of_ne (Ne.symm h)]
theorem M103_L1_eq(F:Nat)(a:List UInt8)(k:Option Bool):∀(m n:Nat),n+m=20->M103_L1 F a k m n=if ((words.drop n).any fun w=>a==w)=true then some true else k
 |0,n,h=>by
  obtain rfl:n=20:=by omega
  simp[M103_L1,words]
 |m+1,n,h=>by
  have hn:n<words.length:=by simp[words];omega
  have e:((n:Int)+1)=((n+1:Nat):Int):=rfl
  rw[M103_L1,if_pos ⟨by omega,by omega⟩,e,M103_L1_eq F a k m (n+1) (by omega),bj8 hn,bs8]
  have h2:(arrOf ([]:List UInt8) words n)=words[n]:=by simp[arrOf,List.getD,as8 hn]
  have h3:((n:Int)).toNat=n:=by omega
  rw[h3]
  show(if (arrOf ([]:List UInt8) words n==a)=true then some true else _)=_
  rw[h2,beqC]
  cases h:a==words[n]
  ·simp only[by9,if_false,bt8]
  ·simp only[if_true,Bool.true_or]
theorem M103_eq(F:Nat)(s:List UInt8):M103 F s=some (wordB s):=by
 unfold M103
 rw[jn_def,if_pos (by omega)]
 have:=M103_L1_eq F s (some false) 20 0 rfl
 rw[show((0:Nat):Int)=0 from rfl] at this
 rw[show(20:Int).toNat=20 from rfl,this]
 rw[bi8]
 unfold wordB
 cases words.any fun w=>s==w<;>rfl
def run(c:UInt8):Bool:=(decide (97<=c.toNat)&&decide (c.toNat<=122))||(decide (48<=c.toNat)&&decide (c.toNat<=57))||(c.toNat==45)
def lower(c:UInt8):Bool:=decide (97<=c.toNat)&&decide (c.toNat<=122)
theorem M104_eq(F:Nat)(c:UInt8):M104 F (c.toNat:Int)=some (run c):=by
 unfold M104 run
 have h1:((c.toNat:Int)==45)=(c.toNat==45):=by
  by_cases h:c.toNat=45
  ·simp[h]
  ·have:(c.toNat:Int)≠45:=by omega
   rw[beq_false_of_ne h,beq_false_of_ne this]
 by_cases a1:97<=c.toNat<;>by_cases a2:c.toNat<=122<;>by_cases a3:48<=c.toNat<;>by_cases a4:c.toNat<=57 <;>
  simp only[h1,a1,a2,a3,a4,show((c.toNat:Int)>=97)<->97<=c.toNat by omega,show((c.toNat:Int)<=122)<->c.toNat<=122 by omega,show((c.toNat:Int)>=48)<->48<=c.toNat by omega,show((c.toNat:Int)<=57)<->c.toNat<=57 by omega,decide_true,decide_false,if_true,if_false,by9,Bool.and_true,Bool.and_false,Bool.or_true,Bool.true_or,bt8,Bool.or_false,Bool.and_self]
def nameB(s:List UInt8):Bool:=match s with|[]=>false|c::r=>decide ((c::r).length<=40)&&!wordB (c::r)&&lower c&&r.all run
theorem nm_step{c:UInt8}{k:Option Bool} :
    (if (decide ((c.toNat:Int)>=97))=true then if (decide ((c.toNat:Int)<=122))=true then k
 else if (decide ((c.toNat:Int)>=48))=true then if (decide ((c.toNat:Int)<=57))=true then k
 else if (!((c.toNat:Int)==45))=true then some false
 else k
 else if (!((c.toNat:Int)==45))=true then some false
 else k
 else if (decide ((c.toNat:Int)>=48))=true then if (decide ((c.toNat:Int)<=57))=true then k
 else if (!((c.toNat:Int)==45))=true then some false
 else k
 else if (!((c.toNat:Int)==45))=true then some false
 else k)=if run c=true then k else some false:=by
  unfold run
  have h1:((c.toNat:Int)==45)=(c.toNat==45):=by
    by_cases h:c.toNat=45
    · simp[h]
    · have:(c.toNat:Int)≠45:=by omega
      rw[beq_false_of_ne h,beq_false_of_ne this]
  by_cases a1:97<=c.toNat<;>by_cases a2:c.toNat<=122<;>by_cases a3:48<=c.toNat<;>by_cases a4:c.toNat<=57<;>cases h5:(c.toNat==45) <;>
    simp only[h1,h5,a1,a2,a3,a4,show((c.toNat:Int)>=97)<->97<=c.toNat by omega,show((c.toNat:Int)<=122)<->c.toNat<=122 by omega,show((c.toNat:Int)>=48)<->48<=c.toNat by omega,show((c.toNat:Int)<=57)<->c.toNat<=57 by omega,decide_true,decide_false,if_true,if_false,by9,Bool.and_true,Bool.and_false,Bool.or_true,Bool.true_or,bt8,Bool.or_false,Bool.and_self,bk9,bl9]
theorem M30_tail(F:Nat)(s:List UInt8)(k:Option Bool):∀(m n:Nat),0<n->n+m=s.length->M30_L1 F s k m n=if (s.drop n).all run=true then k else some false
 |0,n,_,h=>by rw[M30_L1,ai9 (by omega)];simp
 |m+1,n,h0,h=>by
  have hn:n<s.length:=by omega
  have e:((n:Int)+1)=((n+1:Nat):Int):=rfl
  have h3:decide ((n:Int)>0)=true:=decide_eq_true (by omega)
  rw[M30_L1,jn_def,idx_nat hn,bn9,e,M30_tail F s k m (n+1) (by omega) (by omega),bj8 hn,ae9]
  simp only[h3,if_true]
  rw[nm_step]
  cases h:run s[n]
  ·simp only[bv8,by9,if_false]
  ·simp only[Bool.true_and,if_true]
theorem maxI{n:Nat}(h:n<=140737488351232):(n:Int)<=9223372036854775807:=by omega
theorem M30_eq(F:Nat)(s:List UInt8)(hs:okS s):M30 F s=some (nameB s):=by
 unfold okS at hs
 unfold M30
 rw[jn_def,if_pos (maxI hs),show((s.length:Int):Int).toNat=s.length by omega]
 cases s with
 |nil=>rfl
 |cons c r=>
  rw[bl8,M30_L1,jn_def,show idx (c::r) 0=some c from rfl,bn9]
  have e:((0:Int)+1)=((1:Nat):Int):=rfl
  rw[e,M30_tail F (c::r) _ r.length 1 (by omega) (by simp;omega)]
  simp only[List.drop_succ_cons,bi8,M59_eq,bn9,nameB,lower,show decide ((0:Int)>0)=false from rfl,by9,if_false,bl8]
  have h40:decide (((r.length+1:Nat):Int)<=40)=decide (r.length+1<=40):=by
   by_cases h:r.length+1<=40
   ·rw[decide_eq_true h,decide_eq_true (by omega)]
   ·rw[decide_eq_false h,decide_eq_false (by omega)]
  have hne:(!(c::r==([]:List UInt8)))=true:=rfl
  rw[h40,hne]
  by_cases a1:97<=c.toNat<;>by_cases a2:c.toNat<=122 <;>
   simp only[a1,a2,show((c.toNat:Int)>=97)<->97<=c.toNat by omega,show((c.toNat:Int)<=122)<->c.toNat<=122 by omega,decide_true,decide_false,if_true,if_false,by9,Bool.and_true,Bool.and_false,bv8]
  cases r.all run<;>cases decide (r.length+1<=40)<;>cases wordB (c::r)<;>rfl
theorem M71_L1_eq(F:Nat)(s:List UInt8)(k:Option Bool)(m n:Nat)(h:n+m=s.length):M71_L1 F s k m n=if (s.drop n).all run=true then k else some false:=
 bytesL s run (fun n=>rfl) (fun m n=>by
  rw[M71_L1]
  cases idx s n with
  |none=>rfl
  |some c=>simp only[bn9,M104_eq];cases run c<;>rfl) m n h
theorem M71_eq(F:Nat)(s:List UInt8)(hs:okS s):M71 F s=some (nameB s):=by
 unfold okS at hs
 unfold M71
 rw[jn_def,if_pos (maxI hs),show((s.length:Int):Int).toNat=s.length by omega]
 have hl:=M71_L1_eq F s (some true) s.length 0 (by omega)
 rw[show((0:Nat):Int)=0 from rfl,bi8] at hl
 rw[hl]
 cases s with
 |nil=>rfl
 |cons c r=>
  rw[show idx (c::r) 0=some c from rfl]
  simp only[M103_eq,bn9,nameB,lower,bl8,ae9,show((c::r==([]:List UInt8)))=false from rfl,by9,if_false]
  have h40:decide (((r.length+1:Nat):Int)>40) = !decide (r.length+1<=40):=by
   by_cases h:r.length+1<=40
   ·rw[decide_eq_true h,decide_eq_false (by omega)];rfl
   ·rw[decide_eq_false h,decide_eq_true (by omega)];rfl
  rw[h40]
  by_cases a1:97<=c.toNat<;>by_cases a2:c.toNat<=122 <;>
   simp only[a1,a2,show((c.toNat:Int)<97)<->¬(97<=c.toNat) by omega,show((c.toNat:Int)>122)<->¬(c.toNat<=122) by omega,not_true_eq_false,not_false_eq_true,decide_true,decide_false,if_true,if_false,by9,Bool.and_true,Bool.and_false,bv8]
  ·have:run c=true:=by simp[run,a1,a2]
   simp only[this,Bool.true_and]
   cases r.all run<;>cases decide (r.length+1<=40)<;>cases wordB (c::r)<;>rfl
  all_goals (cases decide (r.length+1<=40)<;>rfl)
def valC(c:UInt8):Bool:=decide (32<=c.toNat)&&decide (c.toNat<=126)
def valB(s:List UInt8):Bool:=decide (s.length<=1000)&&s.all valC
theorem val_step{β:Type}{s:List UInt8}{n:Int}{k f:Option β}:((idx s n).bind fun c6=>if (decide ((c6.toNat:Int)<32))=true then f
 else (idx s n).bind fun c9=>if (decide ((c9.toNat:Int)>126))=true then f else k)=(idx s n).bind fun c=>if valC c=true then k else f:=by
  cases idx s n with
  |none=>rfl
  |some c=>
    simp only[bn9,valC]
    by_cases a1:32<=c.toNat<;>by_cases a2:c.toNat<=126 <;>
      simp only[a1,a2,show((c.toNat:Int)<32)<->¬(32<=c.toNat) by omega,show((c.toNat:Int)>126)<->¬(c.toNat<=126) by omega,not_true_eq_false,not_false_eq_true,decide_true,decide_false,if_true,if_false,by9,Bool.and_true,Bool.and_false,bv8]
theorem M65_eq(F:Nat)(s:List UInt8)(hs:okS s):M65 F s=some (valB s):=by
 unfold okS at hs
 unfold M65
 rw[jn_def,if_pos (maxI hs),show((s.length:Int):Int).toNat=s.length by omega]
 have hl:=bytesL (g:=M65_L1 F s (some (decide ((s.length:Int)<=1000)))) (f:=false) s valC (fun n=>rfl) (fun m n=>by rw[M65_L1];exact val_step) s.length 0 (by omega)
 rw[show((0:Nat):Int)=0 from rfl,bi8] at hl
 rw[hl,valB,show decide ((s.length:Int)<=1000)=decide (s.length<=1000) from decide_eq_decide.2 (by omega)]
 cases s.all valC<;>simp
theorem M75_eq(F:Nat)(s:List UInt8)(hs:okS s):M75 F s=some (valB s):=by
 unfold okS at hs
 unfold M75
 rw[jn_def,if_pos (maxI hs),show((s.length:Int):Int).toNat=s.length by omega]
 have hl:=bytesL (g:=M75_L1 F s (some true)) (f:=false) s valC (fun n=>rfl) (fun m n=>by rw[M75_L1];exact val_step) s.length 0 (by omega)
 rw[show((0:Nat):Int)=0 from rfl,bi8] at hl
 rw[hl,valB,show decide ((s.length:Int)>1000) = !decide (s.length<=1000) by
  by_cases h:s.length<=1000
  ·rw[decide_eq_true h,decide_eq_false (by omega)];rfl
  ·rw[decide_eq_false h,decide_eq_true (by omega)];rfl]
 cases s.all valC<;>cases decide (s.length<=1000)<;>rfl
end Go.Proofs.YtppfkkkifdbnaaaGreatDoor
