/- Part of the proof. -/
import Derived.ProofKit
import Derived.OpenShut
import Derived.Test.YtelmfadihfcgnaaGreatDoorHD8M
set_option linter.unusedSimpArgs false
set_option linter.unusedVariables false
namespace Go.Pv
open Go Go.ChangeShapes Go.WideShapes
mutual
def ff{H:Type}:DataW H->Nat
 | .lit (.string bytes)=>bytes.length+1
 | .lit _=>1
 | .nil=>1
 | .ptr d=>ff d+1
 | .slice elems spare=>fh elems+fh spare+1
 | .agg parts=>fh parts+1
 | .iface _ d=>ff d+1
 | .map entries=>yT entries+1
 | .held _=>1
def fh{H:Type}:List (DataW H)->Nat
 |[]=>0
 |d::r=>ff d+fh r
def yT{H:Type}:List (Lit×DataW H)->Nat
 |[]=>0
 |x::r=>IQ x+yT r
def IQ{H:Type}:Lit×DataW H->Nat
 |(.string bytes,d)=>bytes.length+ff d+1
 |(_,d)=>ff d+1
end
def jW(w:World):bB:=fun b=>w.heap[b]?
def dj(m:bB)(ds:List V)(cs:List Value):Prop:=
 ds.length=cs.length/\∀(i:Nat) (c:V) (v:Value),ds[i]? = some c->cs[i]? = some v->bN m c v
theorem dj.one{m:bB}{d:V}{c:Value}(h:bN m d c):dj m [d] [c]:=
 ⟨rfl,fun i d' c' hd hc=>by
  grind⟩
theorem dj.app{m:bB}{a b:List V}{x y:List Value}(h:dj m a x)(h':dj m b y):dj m (a++b) (x++y):=by
 refine⟨by simp[h.1,h'.1],fun i c v hc hv=>?_⟩;by_cases hi:i<a.length
 ·rw[at8 hi] at hc;rw[at8 (by rw[<-h.1];exact hi)] at hv;exact h.2 i c v hc hv
 ·rw[au9 (by omega)] at hc;rw[au9 (by rw[<-h.1];omega),<-h.1] at hv;exact h'.2 _ c v hc hv
section
variable{P:Program}{t e:TypeId}{α β:Type}
def DB{H:Type}(P:Program)(t:TypeId)(d:DataW H):Prop:=(d.weights P t).all (·<=reachBytes)=true
def xH{H:Type}(P:Program)(ts:List TypeId)(ds:List (DataW H)):Prop:=(DataW.weightsEach P ts ds).all (·<=reachBytes)=true
theorem jM{H:Type}{P:Program}{t:TypeId}{ts:List TypeId}{d:DataW H}{ds:List (DataW H)}(h:xH P (t::ts) (d::ds)):DB P t d/\xH P ts ds:=by
 simp_all[xH,DB,DataW.weightsEach]
theorem Kj{H:Type}{P:Program}{e:TypeId}:∀(l:List (DataW H)),(DataW.weightsAll P e l).all (·<=reachBytes)=true->∀d,d∈l->DB P e d
 |[],_,d,hd=>by simp at hd
 |x::l,h,d,hd=>by
  rw[DataW.weightsAll,cg8,aq9] at h;rcases as9.1 hd with rfl|hd
  ·exact h.1
  ·exact Kj l h.2 d hd
def dE(P:Program)(t:TypeId)(e:α->List V)(sz:α->Nat)(ok:α->Prop):Prop:=
 ∀{H:Type} (enc:TypeId×Value->H) (w:World) (fuel:Nat) (cs:List Value) (x:DataW H×List MemPlace),
  DataW.trod enc P w 0 (fun _=>true) true fuel t cs=some x->DB P t x.1->∃a:α,dj (jW w) (e a) cs/\sz a<=ff x.1/\ok a
theorem uI{k:IntKind}(ht:P.underlying t=some (.int k)):dE P t (fun n:Int=>[V.con (.int k n)]) (fun _=>1) (fun n=>k.min<=n/\n<=k.max):=by
 intro H enc w fuel cs x h hw;obtain⟨n,rfl,rfl,hw'⟩:=DataW.trod_int ht h;simp only[Lit.wf,aq9,decide_eq_true_eq] at hw';exact⟨n,dj.one (.con _),by simp[ff],hw'⟩
theorem na(ht:P.underlying t=some .string):dE P t (fun s:B8=>[sV s]) (fun s=>s.length+1) (fun s=>s.length<=140737488351232):=by
 intro H enc w fuel cs x h hw;obtain⟨s,rfl,rfl,hs⟩:=DataW.trod_string ht h;refine⟨s.data.toList,dj.one ?_,by simp[ff],?_⟩
 ·have:str s.data.toList=.string s:=by simp[str]
  unfold sV;rw[this];exact .con _
 ·unfold DB at hw;rw[DataW.weights,ag8,aq9] at hw;have:=of_decide_eq_true hw.1
  simp_all[reachBytes]
theorem wi{p:Nat->α->Prop}:∀{n:Nat},(∀i,i<n->∃a,p i a)->∃l:List α,l.length=n/\∀i a,l[i]? = some a->p i a
 |0,_=>⟨[],rfl,by simp⟩
 |n+1,h=>by
  obtain⟨l,hl,hp⟩:=wi (n:=n) fun i hi=>h i (by omega);obtain⟨a,ha⟩:=h n (by omega);refine⟨l++[a],by simp[hl],fun i b hb=>?_⟩;by_cases hi:i<l.length
  ·rw[at8 hi] at hb;exact hp i b hb
  ·rw[au9 (by omega)] at hb
   have:i - l.length=0:=by
    have:=(bd9.1 hb).1;simp at this;omega
   rw[this] at hb;simp at hb;subst hb;rw[show i=n by omega];exact ha
theorem lV{H:Type}{n:Nat}(D:Nat->DataW H):fh ((List.range n).map D)=((List.range n).map fun i=>ff (D i)).sum:=by
 generalize List.range n=l
 induction l<;>simp_all[fh]
theorem EG{l:List α}{sz:α->Nat}{g:Nat->Nat}(h:∀i a,l[i]? = some a->sz a<=g i):(l.map sz).sum<=((List.range l.length).map g).sum:=by
 induction l generalizing g with
 |nil=>simp
 |cons a l ih=>
  rw[bx9,List.range_succ_eq_map];simp only[bm9,List.sum_cons,bf8];have h0:=h 0 a rfl
  grind
theorem lB{k:Nat}{ee:α->List V}{sz:α->Nat}{ok:α->Prop}(ht:P.underlying t=some (.slice e))(hk:P.cellsOf e=k)(h0:0<k)(he:dE P e ee sz ok):
  dE P t (fun l:List α=>[V.lst k (l.map ee)]) (fun l=>(l.map sz).sum+1) (fun l=>(∀a,a∈l->ok a)/\l.length<=maxLen):=by
 intro H enc w fuel cs x h hw;rcases Deep.open_slice ht h with ⟨rfl,rfl⟩|⟨a,len,cap,m,n,D,Pl,rfl,_,hlc,hcm,hm,rfl,hel⟩
 ·exact⟨[],dj.one (.nil _ _ _),by simp[ff],by simp⟩
 ·simp only[if_true] at hm;subst hm
  obtain⟨l,hl,hp⟩:=wi (n:=len) (p:=fun i (b:α)=>sz b<=ff (D i)/\ok b/\∃cs',w.cells? 0 (a.add (i*P.cellsOf e)) (P.cellsOf e)=some cs'/\dj (jW w) (ee b) cs') (by
   intro i hi;obtain⟨cs',hc,hd⟩:=hel i (by omega)
   obtain⟨b,h1,h2,h3⟩:=he _ _ _ _ _ hd (by
    unfold DB at hw;rw[DataW.weights] at hw;simp only[ht,ag8,cg8,aq9] at hw
    grind [Kj])
   grind)
  refine⟨l,dj.one ?_,?_,fun b hb=>?_,by omega⟩
  ·by_cases hz:len=0
   ·subst hz;have:l=[]:=ay8.1 hl;subst this;exact .nil _ _ _
   ·have hcell:∀i j b,l[i]? = some b->j<k->∃v,w.cell? ((a.add (i*k)).add j)=some v/\(∃c,(ee b)[j]? = some c)/\∀c,(ee b)[j]? = some c->bN (jW w) c v:=by
     intro i j b hb hj;obtain⟨_,_,cs',hc,hr⟩:=hp i b hb;rw[hk] at hc;obtain⟨_,hn,hcs⟩:=World.cells?_some hc;have hj':j<cs'.length:=by omega
     have hv:cs'[j]? = some cs'[j]:=az9 hj';have hj2:j<(ee b).length:=by rw[hr.1];exact hj'
     exact⟨cs'[j],(hcs j hj).trans hv,⟨(ee b)[j],az9 hj2⟩,fun c hcc=>hr.2 j c _ hcc hv⟩
    have hlen:∀b,b∈l->(ee b).length=k:=by
     intro b hb;obtain⟨i,hi⟩:=ap9.1 hb;obtain⟨_,_,cs',hc,hr⟩:=hp i b hi;rw[hk] at hc;rw[hr.1,(World.cells?_some hc).2.1]
    have hb0:∃b,l[0]? = some b:=⟨l[0]'(by omega),az9 _⟩;obtain⟨b0,hb0⟩:=hb0;obtain⟨v0,hv0,_⟩:=hcell 0 0 b0 hb0 h0;have hadd0:(a.add (0*k)).add 0=a:=by simp[Addr.add]
    rw[hadd0] at hv0;unfold World.cell? at hv0;split at hv0
    case h_2=>simp at hv0
    rename_i arr T fr hblk
    have hsp:a.spot=none:=by
     cases hs:a.spot with
     |none=>rfl
     |some s=>grind
    have ak:∀i j b,l[i]? = some b->j<k->∃v,arr[a.off+(i*k+j)]? = some v/\(∃c,(ee b)[j]? = some c)/\∀c,(ee b)[j]? = some c->bN (jW w) c v:=by
     intro i j b hb hj;obtain⟨v,hv,hc⟩:=hcell i j b hb hj;rw[Deep.add_add] at hv;unfold World.cell? at hv;have hbk:(a.add (i*k+j)).block=a.block:=by unfold Addr.add;grind
     have hso:(a.add (i*k+j)).spot=none:=by unfold Addr.add;grind
     have hof:(a.add (i*k+j)).off=a.off+(i*k+j):=by unfold Addr.add;grind
     rw[hbk,hblk] at hv;simp only[hso,hof] at hv;exact⟨v,by grind,hc⟩
    refine bN.lst (arr:=arr) (T:=T) (fr:=fr) (fun i=>(arr[a.off+i]?).getD undef) hblk hsp (by grind) hlc (by omega) ?_ ?_ ?_
    ·grind
    ·intro i hi;rw[bj9] at hi;have hq:i / k<l.length:=be9 (by grind);obtain⟨v,hv,_⟩:=ak (i / k) (i % k) l[i / k] (az9 hq) (an8 _ h0)<;>simp_all[ao9,ao8]
    grind
  ·simp only[ff];rw[lV];have:=EG (l:=l) (sz:=sz) (g:=fun i=>ff (D i)) fun i b hb=>(hp i b hb).1
   grind
  ·obtain⟨i,hi⟩:=ap9.1 hb<;>grind
def xx(P:Program)(N:Nat)(fs:List (TypeId×Nat×Nat))(off:Nat)(e:α->List V)(sz:α->Nat)(ok:α->Prop):Prop:=
 ∀{H:Type} (enc:TypeId×Value->H) (w:World) (n:Nat) (cs:List Value) (xs:List (DataW H×List MemPlace)),cs.length=N->xs.length=fs.length->
  (∀(i:Nat) (f:TypeId×Nat×Nat),fs[i]? = some f->DataW.trod enc P w 0 (fun _=>true) true n f.1 ((cs.drop f.2.1).take f.2.2)=xs[i]?)->
  xH P (fs.map (·.1)) (xs.map (·.1))->∃a:α,dj (jW w) (e a) (cs.drop off)/\sz a<=fh (xs.map (·.1))/\ok a
theorem nK{N:Nat}:xx P N [] N (fun _:Unit=>[]) (fun _=>0) (fun _=>True):=by
 intro H enc w n cs xs hN hx _ _;refine⟨(),?_,by simp,trivial⟩;rw[<-hN];simp[dj]
theorem dL{N k off:Nat}{ft:TypeId}{fs:List (TypeId×Nat×Nat)}{ea:α->List V}{eb:β->List V}{sa:α->Nat}{sb:β->Nat}{oa:α->Prop}{ob:β->Prop}
  (h:dE P ft ea sa oa) (hr:xx P N fs (off+k) eb sb ob):xx P N ((ft,off,k)::fs) off (fun p:α×β=>ea p.1++eb p.2) (fun p=>sa p.1+sb p.2) (fun p=>oa p.1/\ob p.2):=by
 intro H enc w n cs xs hN hx hf hw
 match xs,hx with
 |x::xs,hx=>
  have h1:=hf 0 _ rfl;simp only[bo9] at h1;have hw':=jM hw;obtain⟨a,ha,hs,ho⟩:=h enc w n _ x h1 hw'.1
  have hb':=hr enc w n cs xs hN (by simpa using hx) fun i f hi=>by
   have:=hf (i+1) f (by simpa using hi)
   simpa using this
  obtain⟨b,hb,hs',ho'⟩:=hb' hw'.2;refine⟨(a,b),?_,by simp only[bm9,fh];omega,ho,ho'⟩;have:=ha.app hb;rw[show(cs.drop off).take k++cs.drop (off+k)=cs.drop off by rw[<-cg9];exact ch9 _ _] at this;exact this
def fieldsOf(P:Program)(t:TypeId):Option (List (TypeId×Nat×Nat)):=
 match P.underlying t with
 |some (.struct fs)=>some (fs.toList.map fun f=>(f.type,f.offset,P.cellsOf f.type))
 |_=>none
theorem kh{N:Nat}{fs:List (TypeId×Nat×Nat)}{e:α->List V}{sz:α->Nat}{ok:α->Prop}(ht:fieldsOf P t=some fs)(hN:P.cellsOf t=N)(h:xx P N fs 0 e sz ok):
  dE P t e (fun a=>sz a+1) ok:=by
 intro H enc w fuel cs x hx hw;unfold fieldsOf at ht;split at ht
 case h_2=>simp at ht
 rename_i gs hu;simp only[ax9] at ht;subst ht;obtain⟨xs,n,_,rfl,hl,hxl,hf⟩:=DataW.trod_struct hu hx
 have ha':=h enc w n cs xs (hl.trans hN) (by simpa using hxl) fun i f hi=>by
  rw[az8,ad8] at hi;obtain⟨g,hg,rfl⟩:=hi;exact hf i g (by simpa using hg)
 obtain⟨a,h1,h2,h3⟩:=ha' (by
  unfold DB at hw;rw[DataW.weights] at hw;simp only[hu] at hw;unfold xH;rw[bf8];exact hw)
 exact⟨a,by simpa using h1,by simp only[ff];omega,h3⟩
theorem pq{ea:α->List V}{eb:β->List V}{sa:α->Nat}{sb:β->Nat}{oa:α->Prop}{ob:β->Prop}(h:dE P t ea sa oa)(g:α->β)
  (he:∀a,eb (g a)=ea a) (hs:∀a,sb (g a)=sa a) (ho:∀a,oa a->ob (g a)):dE P t eb sb ob:=by
 intro H enc w fuel cs x hx hw;obtain⟨a,h1,h2,h3⟩:=h enc w fuel cs x hx hw;exact⟨g a,by rw[he];exact h1,by rw[hs];exact h2,ho a h3⟩
def AV(P:Program)(t:TypeId)(e:α->V)(sz:α->Nat)(ok:α->Prop):Prop:=
 ∀{H:Type} (enc:TypeId×Value->H) (w:World) (base:Nat) (v:Value) (d:DataW H) (p:List MemPlace),
  Value.okWide P w .any base t v->DataW.Trod enc P w 0 (fun _=>true) true t v d p->DB P t d->∃a:α,bN (jW w) (e a) v/\sz a<=ff d/\ok a
theorem sh{fs:List (TypeId×Nat×Nat)}{e:α->List V}{sz:α->Nat}{ok:α->Prop}(ht:fieldsOf P t=some fs)(h:dE P t e sz ok):AV P t (fun a=>.agg (e a)) sz ok:=by
 intro H enc w base v d p hv ⟨n,hd⟩ hw;unfold fieldsOf at ht;split at ht
 case h_2=>simp at ht
 rename_i gs hu;obtain⟨cs,rfl,_⟩:=okWide_struct hu hv;obtain⟨a,h1,h2,h3⟩:=h enc w n _ _ hd hw;exact⟨a,.agg (by simpa[Value.cells] using h1.1) (fun i c v' hc hv'=>h1.2 i c v' hc (by simp_all[Value.cells])),h2,h3⟩
theorem Cz{w w':World}(h:∀b,b<w.heap.size->w'.heap[b]? = w.heap[b]?){p:MemPlace}(hp:p.block<w.heap.size):w.sameAt w' p:=by
 cases p with
 |cell b o=>simp only[World.sameAt,World.cell?];rw[h b hp]
 |map b=>exact h b hp
theorem m9{H:Type}{enc:TypeId×Value->H}(hl:laidOutB P=true){w w':World}{sp:Nat->Bool}(hh:∀b,b<w.heap.size->w'.heap[b]? = w.heap[b]?)
  (hs:∀b,b<w.heap.size->sp b=true):∀{ts:List TypeId} {vs:List Value} {ds:List (DataW H)} {ps:List MemPlace},
  (ts.all fun t=>P.readableRec t&&decide (t<P.types.size))=true->DataW.TrodAll enc P w 0 (fun _=>true) true ts vs ds ps->(∀p∈ps,p.block<w.heap.size)->DataW.TrodAll enc P w' 0 sp true ts vs ds ps
 |[],[],[],_,_,h,_=>h
 |t::ts,v::vs,d::ds,_,hr,⟨p,q,h1,h2,e⟩,hlt=>by
  subst e;simp only[ag8,aq9,decide_eq_true_eq] at hr
  exact⟨p,q,WideElems.Trod_stays hl hr.1.1 hr.1.2 h1 (fun x hx=>Cz hh (hlt x (ch8 _ hx))) (fun x hx=>hs _ (hlt x (ch8 _ hx))),
   m9 hl hh hs (by grind) h2 (fun x hx=>hlt x (List.mem_append_right _ hx)),rfl⟩
theorem Il{w w':World}(hs:pL w w')(hh:∀b,b<w.heap.size->w'.heap[b]? = w.heap[b]?)(may:MemPlace->Prop):w.keptBut w' may:=by
 refine⟨hs.os,hs.output,fun i hi=>?_⟩
 grind
theorem FV{H:Type}{enc:TypeId×Value->H}{f:Func}{s:ChangeSpec}{apart fresh handsOn:Bool}{w w':World}{args:Array Value}{v:Value}{ds gs:List (DataW H)}{before:List MemPlace}{m m':bB}{tb:TypeId}
  (hl:laidOutB P=true) (hts:(f.params.toList.all fun t=>P.readableRec t&&decide (t<P.types.size))=true) (hv:s.vars=[]) (hfn:∀gs',gs'=[]->s.fn H (ds++gs')={ results:=[.lit (.bool true)],args:=ds })
  (hres:f.resultTypes=#[tb]) (hb:P.underlying tb=some .bool) (hW:DataW.Whole enc P f.params.toList s.vars apart w args.toList ds gs before) (h:bN m' (bV true) v) (hg:ur m m' w w'):
  s.post enc P f apart fresh handsOn false w args v w':=by
 have hW0:=hW;obtain⟨p,q,hA,hV,rfl,hfz,hnd⟩:=hW0;cases h;rw[hv] at hV;cases gs with
 |cons _ _=>simp[DataW.TrodVars] at hV
 |nil=>
 have hq:q=[]:=hV;subst hq;refine⟨ds,[],p++[],[],p,[],hW,?_,?_,?_,Il hg.same hg.heap _,fun h=>by simp at h⟩
 ·rw[hfn _ rfl,hres];exact trodAll_cons_mk (RowKit.shut_bool hb _) trodAll_mk0
 ·rw[hfn _ rfl];exact m9 hl hg.heap (fun b hb=>by grind) hts hA (DataW.TrodAll.lt hA)
 ·rw[hv,hfn _ rfl];rfl
theorem GU{H:Type}{enc:TypeId×Value->H}{w:World}{args:Array Value}{f:Func}{s:ChangeSpec}{apart:Bool}{ds gs:List (DataW H)}{before:List MemPlace}
  (hW:DataW.Whole enc P f.params.toList s.vars apart w args.toList ds gs before):∃p,DataW.TrodAll enc P w 0 (fun _=>true) true f.params.toList args.toList ds p:=by
 obtain⟨p,q,hA,_⟩:=hW<;>grind
end
def AF(P:Program)(f:FuncId)(fn:Func)(s:ChangeSpec)(c:OpenClaim):Bool:=
 c.wf (OpenSpec.ofChange s)&&laidOutB P&&mapsRowed P &&
 fn.params.all (P.readableRec ·)&&namedTie P c.named s.vars &&
 (c.stops==[])&&(P.stops==[])&&(c.knobs==[])&&(P.stopKnobs==[]) &&
 (c.inPlace==P.inPlace f)&&(c.unfollowed==P.unfollowed f)&&(c.recurses==P.recurses f)&&(c.named==P.varsNamed f) &&
 (c.maps==(fn.params.toList++s.plain.varTypes P).any (P.mapsRec ·))&&(c.ifaces==(fn.params.toList++s.plain.varTypes P).any (P.ifacesRec ·))&&(c.mapsOut==P.mapsAmong fn.resultTypes.toList) &&
 (c.loops==(fn.params.toList++s.plain.varTypes P).any (P.loopsFrom ·))&&(c.wideKeys==(fn.params.toList++s.plain.varTypes P++fn.resultTypes.toList).any (P.wideKeysFrom ·)) &&
 s.vars.all (P.varReadable ·)&&fn.resultTypes.all (fun t=>P.readableRec t&&decide (t<P.types.size))&&(c.ifacesOut==fn.resultTypes.toList.any (P.ifacesRec ·))&&(c.loopsOut==fn.resultTypes.toList.any (P.loopsFrom ·))&&(c.plainKeys==P.plainKeys)&&c.shortTexts.isNone&&P.stopsHeard
def AE(P:Program)(c:OpenClaim):Bool:=P.mayEnter&&(c.lifted==P.liftsFinal)&&(P.make==some c.make)
def AD(P:Program)(fn:Func)(s:ChangeSpec)(c:OpenClaim):Bool:=
 (c.kinds==(if c.domain.isEmpty then [] else fn.params.toList.map fun t=>match P.underlying t with|some (.int k)=>some k|_=>none))&&(c.pinned==c.pinnedBy) &&
 (c.veiled==(fn.params.toList++s.plain.varTypes P++fn.resultTypes.toList).any (P.veiledRec ·))&&c.veiledFits P fn.params.toList (fn.params.toList++s.plain.varTypes P++fn.resultTypes.toList)
theorem AB{P:Program}{f:FuncId}{fn:Func}{s:ChangeSpec}{c:OpenClaim}(h1:AF P f fn s c=true)(h2:AE P c=true)(h3:AD P fn s c=true):joinedFacts P f fn s c=true:=by
 unfold AF at h1;unfold AE at h2;unfold AD at h3
 have e:∀a b c d b1 b2 b3 c1 c2 c3:Bool,a=true->(b1&&b2&&b3)=true->(b&&c&&d&&c1)=true->(a&&b1&&b2&&b3&&b&&c&&d&&c1)=true:=by
  intro a b c d b1 b2 b3 c1 c2 c3 h h' h'';simp only[aq9] at *
  simp_all
 exact e _ _ _ _ _ _ _ _ true true h1 h2 h3
section
variable{P:Program}{t e:TypeId}{α β:Type}
def iZ(b:Nat)(P:Program)(t:TypeId)(e:α->List V)(sz:α->Nat)(ok:α->Prop):Prop:=
 ∀{H:Type} (enc:TypeId×Value->H) (w:World) (fuel:Nat) (cs:List Value) (x:DataW H×List MemPlace),
  DataW.trod enc P w 0 (fun _=>true) true fuel t cs=some x->DB P t x.1->ff x.1<=b->∃a:α,dj (jW w) (e a) cs/\sz a<=ff x.1/\ok a
theorem dE.at{ee:α->List V}{sz:α->Nat}{ok:α->Prop}(h:dE P t ee sz ok)(b:Nat):iZ b P t ee sz ok:=fun enc w fuel cs x ht hw _=>h enc w fuel cs x ht hw
theorem iZ.mono{b b':Nat}{ee:α->List V}{sz:α->Nat}{ok:α->Prop}(h:iZ b P t ee sz ok)(hb:b'<=b):iZ b' P t ee sz ok:=fun enc w fuel cs x ht hw hl=>h enc w fuel cs x ht hw (bw9 hl hb)
theorem GI{H:Type}(d:DataW H):0<ff d:=by
 cases d with
 |lit l=>cases l<;>simp[ff]
 |_=>simp[ff]
theorem yc{ee:α->List V}{sz:α->Nat}{ok:α->Prop}:iZ 0 P t ee sz ok:=fun enc w fuel cs x ht hw hl=>absurd hl (by grind [GI])
theorem GJ{H:Type}{n i:Nat}(D:Nat->DataW H)(hi:i<n):ff (D i)<=((List.range n).map fun i=>ff (D i)).sum:=by
 have:ff (D i)∈(List.range n).map fun i=>ff (D i):=bf9.2 ⟨i,cl8.2 hi,rfl⟩;generalize (List.range n).map (fun i=>ff (D i))=l at this
 induction l<;>grind
theorem vY{b k:Nat}{ee:α->List V}{sz:α->Nat}{ok:α->Prop}(ht:P.underlying t=some (.slice e))(hk:P.cellsOf e=k)(h0:0<k)(he:iZ b P e ee sz ok):
  iZ (b+1) P t (fun l:List α=>[V.lst k (l.map ee)]) (fun l=>(l.map sz).sum+1) (fun l=>(∀a,a∈l->ok a)/\l.length<=maxLen):=by
 intro H enc w fuel cs x h hw hlt;rcases Deep.open_slice ht h with ⟨rfl,rfl⟩|⟨a,len,cap,m,n,D,Pl,rfl,_,hlc,hcm,hm,rfl,hel⟩
 ·exact⟨[],dj.one (.nil _ _ _),by simp[ff],by simp⟩
 ·simp only[if_true] at hm;subst hm
  obtain⟨l,hl,hp⟩:=wi (n:=len) (p:=fun i (b:α)=>sz b<=ff (D i)/\ok b/\∃cs',w.cells? 0 (a.add (i*P.cellsOf e)) (P.cellsOf e)=some cs'/\dj (jW w) (ee b) cs') (by
   intro i hi;obtain⟨cs',hc,hd⟩:=hel i (by omega)
   obtain⟨b,h1,h2,h3⟩:=he _ _ _ _ _ hd (by
    unfold DB at hw;rw[DataW.weights] at hw;simp only[ht,ag8,cg8,aq9] at hw
    grind [Kj]) (by
    simp only[ff] at hlt;rw[lV] at hlt;have:=GJ D hi;grind)
   grind)
  refine⟨l,dj.one ?_,?_,fun b hb=>?_,by omega⟩
  ·by_cases hz:len=0
   ·subst hz;have:l=[]:=ay8.1 hl;subst this;exact .nil _ _ _
   ·have hcell:∀i j b,l[i]? = some b->j<k->∃v,w.cell? ((a.add (i*k)).add j)=some v/\(∃c,(ee b)[j]? = some c)/\∀c,(ee b)[j]? = some c->bN (jW w) c v:=by
     intro i j b hb hj;obtain⟨_,_,cs',hc,hr⟩:=hp i b hb;rw[hk] at hc;obtain⟨_,hn,hcs⟩:=World.cells?_some hc;have hj':j<cs'.length:=by omega
     have hv:cs'[j]? = some cs'[j]:=az9 hj';have hj2:j<(ee b).length:=by rw[hr.1];exact hj'
     exact⟨cs'[j],(hcs j hj).trans hv,⟨(ee b)[j],az9 hj2⟩,fun c hcc=>hr.2 j c _ hcc hv⟩
    have hlen:∀b,b∈l->(ee b).length=k:=by
     intro b hb;obtain⟨i,hi⟩:=ap9.1 hb;obtain⟨_,_,cs',hc,hr⟩:=hp i b hi;rw[hk] at hc;rw[hr.1,(World.cells?_some hc).2.1]
    have hb0:∃b,l[0]? = some b:=⟨l[0]'(by omega),az9 _⟩;obtain⟨b0,hb0⟩:=hb0;obtain⟨v0,hv0,_⟩:=hcell 0 0 b0 hb0 h0;have hadd0:(a.add (0*k)).add 0=a:=by simp[Addr.add]
    rw[hadd0] at hv0;unfold World.cell? at hv0;split at hv0
    case h_2=>simp at hv0
    rename_i arr T fr hblk
    have hsp:a.spot=none:=by
     cases hs:a.spot with
     |none=>rfl
     |some s=>grind
    have ak:∀i j b,l[i]? = some b->j<k->∃v,arr[a.off+(i*k+j)]? = some v/\(∃c,(ee b)[j]? = some c)/\∀c,(ee b)[j]? = some c->bN (jW w) c v:=by
     intro i j b hb hj;obtain⟨v,hv,hc⟩:=hcell i j b hb hj;rw[Deep.add_add] at hv;unfold World.cell? at hv;have hbk:(a.add (i*k+j)).block=a.block:=by unfold Addr.add;grind
     have hso:(a.add (i*k+j)).spot=none:=by unfold Addr.add;grind
     have hof:(a.add (i*k+j)).off=a.off+(i*k+j):=by unfold Addr.add;grind
     rw[hbk,hblk] at hv;simp only[hso,hof] at hv;exact⟨v,by grind,hc⟩
    refine bN.lst (arr:=arr) (T:=T) (fr:=fr) (fun i=>(arr[a.off+i]?).getD undef) hblk hsp (by grind) hlc (by omega) ?_ ?_ ?_
    ·grind
    ·intro i hi;rw[bj9] at hi;have hq:i / k<l.length:=be9 (by grind);obtain⟨v,hv,_⟩:=ak (i / k) (i % k) l[i / k] (az9 hq) (an8 _ h0)<;>simp_all[ao9,ao8]
    grind
  ·simp only[ff];rw[lV];have:=EG (l:=l) (sz:=sz) (g:=fun i=>ff (D i)) fun i b hb=>(hp i b hb).1
   grind
  ·obtain⟨i,hi⟩:=ap9.1 hb<;>grind
def rI(b0:Nat)(P:Program)(N:Nat)(fs:List (TypeId×Nat×Nat))(off:Nat)(e:α->List V)(sz:α->Nat)(ok:α->Prop):Prop:=
 ∀{H:Type} (enc:TypeId×Value->H) (w:World) (n:Nat) (cs:List Value) (xs:List (DataW H×List MemPlace)),cs.length=N->xs.length=fs.length->
  (∀(i:Nat) (f:TypeId×Nat×Nat),fs[i]? = some f->DataW.trod enc P w 0 (fun _=>true) true n f.1 ((cs.drop f.2.1).take f.2.2)=xs[i]?)->
  xH P (fs.map (·.1)) (xs.map (·.1))->fh (xs.map (·.1))<=b0->∃a:α,dj (jW w) (e a) (cs.drop off)/\sz a<=fh (xs.map (·.1))/\ok a
theorem yL{b0 N:Nat}:rI b0 P N [] N (fun _:Unit=>[]) (fun _=>0) (fun _=>True):=by
 intro H enc w n cs xs hN hx _ _ _
 simp_all[dj]
theorem eM{b0 N k off:Nat}{ft:TypeId}{fs:List (TypeId×Nat×Nat)}{ea:α->List V}{eb:β->List V}{sa:α->Nat}{sb:β->Nat}{oa:α->Prop}{ob:β->Prop}
  (h:iZ b0 P ft ea sa oa) (hr:rI b0 P N fs (off+k) eb sb ob):rI b0 P N ((ft,off,k)::fs) off (fun p:α×β=>ea p.1++eb p.2) (fun p=>sa p.1+sb p.2) (fun p=>oa p.1/\ob p.2):=by
 intro H enc w n cs xs hN hx hf hw hb0
 match xs,hx with
 |x::xs,hx=>
  have h1:=hf 0 _ rfl;simp only[bo9] at h1;have hw':=jM hw;simp only[bm9,fh] at hb0;obtain⟨a,ha,hs,ho⟩:=h enc w n _ x h1 hw'.1 (by omega)
  have hb':=hr enc w n cs xs hN (by grind) fun i f hi=>by
   have:=hf (i+1) f (by grind)
   grind
  obtain⟨b,hb,hs',ho'⟩:=hb' hw'.2 (by omega);refine⟨(a,b),?_,by grind [fh],ho,ho'⟩;have:=ha.app hb
  grind [List.drop_drop,List.take_append_drop]
theorem tZ{b0 N:Nat}{fs:List (TypeId×Nat×Nat)}{e:α->List V}{sz:α->Nat}{ok:α->Prop}(ht:fieldsOf P t=some fs)(hN:P.cellsOf t=N)(h:rI b0 P N fs 0 e sz ok):
  iZ (b0+1) P t e (fun a=>sz a+1) ok:=by
 intro H enc w fuel cs x hx hw hlt;unfold fieldsOf at ht;split at ht
 case h_2=>simp at ht
 rename_i gs hu;simp only[ax9] at ht;subst ht;obtain⟨xs,n,_,rfl,hl,hxl,hf⟩:=DataW.trod_struct hu hx
 have ha':=h enc w n cs xs (hl.trans hN) (by grind) fun i f hi=>by
  grind
 obtain⟨a,h1,h2,h3⟩:=ha' (by
  unfold DB at hw;rw[DataW.weights] at hw;simp only[hu] at hw;unfold xH;rw[bf8];exact hw) (by simp_all[ff])
 grind [ff]
end
end Go.Pv
namespace Go.Pv
open Go
theorem cS{n:Int}(h : -9223372036854775808<=n)(h':n<=9223372036854775807):bE n=n:=by
 have:bE n=if n % 18446744073709551616>=9223372036854775808 then n % 18446744073709551616 - 18446744073709551616 else n % 18446744073709551616:=by
  simp[bE,IntKind.wrap,IntKind.signed,IntKind.bits]
 grind
theorem aH{α β:Type}(k:α)(b:α->β):jn k b=b k:=rfl
theorem bQ{α:Type}{xs:List α}{j:Nat}(h:j<xs.length):ct xs (j:Int)=some xs[j]:=by
 simp[ct,h]
theorem cL{α β:Type}[DecidableEq α](xs:List (α×β))(k k':α)(v:β):aG (bM xs k v) k'=if k=k' then some v else aG xs k':=by
 induction xs with
 |nil=>simp[bM,aG]
 |cons p r ih=>
  simp only[bM];split
  ·simp_all[aG]
  ·rename_i h;simp only[aG]
   grind
theorem rA(x:UInt8)(a:B8)(y:UInt8)(b:B8):Op.bytesLess (x::a) (y::b)=(decide (x<y)||(x==y&&Op.bytesLess a b)):=by
 rw[Op.bytesLess]
theorem iA:∀a:B8,Op.bytesLess a a=false
 |[]=>by simp[Op.bytesLess]
 |x::a=>by rw[rA,iA a];simp
theorem fM:∀{a b c:B8},Op.bytesLess a b=true->Op.bytesLess b c=true->Op.bytesLess a c=true
 |[],[],_,h,_=>by grind
 |[],y::b,[],_,h=>by simp[Op.bytesLess] at h
 |[],y::b,z::c,_,_=>by simp[Op.bytesLess]
 |x::a,[],_,h,_=>by simp[Op.bytesLess] at h
 |x::a,y::b,[],_,h=>by simp[Op.bytesLess] at h
 |x::a,y::b,z::c,h,g=>by
  rw[rA] at *;simp only[ar8,decide_eq_true_eq,aq9,beq_iff_eq,UInt8.lt_iff_toNat_lt] at *;rcases h with h|⟨rfl,h⟩<;>rcases g with g|⟨rfl,g⟩
  ·exact .inl (by omega)
  ·exact .inl h
  ·exact .inl g
  ·exact .inr ⟨Y,fM h g⟩
theorem pH:∀a b:B8,Op.bytesLess a b=true\/a=b\/Op.bytesLess b a=true
 |[],[]=>by simp
 |[],y::b=>by simp[Op.bytesLess]
 |x::a,[]=>by simp[Op.bytesLess]
 |x::a,y::b=>by
  rw[rA,rA];simp only[ar8,decide_eq_true_eq,aq9,beq_iff_eq,UInt8.lt_iff_toNat_lt,ca8];rcases Nat.lt_trichotomy x.toNat y.toNat with h|h|h
  ·grind
  ·have:=UInt8.toNat_inj.1 h
   simp_all[pH]
  grind
theorem oP{a b:B8}(h:Op.bytesLess a b=true):Op.bytesLess b a=false:=by
 grind [fM,iA]
theorem nr{a b:B8}(h:Op.bytesLess a b=true):a≠b:=by grind [iA]
theorem NK(a b:B8):(!(Op.bytesLess a b||a==b))=Op.bytesLess b a:=by
 rcases pH a b with h|h|h
 ·rw[h,oP h];simp
 ·subst h;simp[iA]
 ·rw[h,oP h];simp;exact fun e=>nr h e.symm
theorem Ir{α:Type}{g:List α->Int->Option Int}{k:Option Int}(p:α->Bool)(h0:∀n,g [] n=k)(h1:∀x l n,g (x::l) n=if p x=true then some n else g l (n+1)):
  ∀l (n:Nat),g l n=if l.any p=true then some ((n+l.findIdx p:Nat):Int) else k
 |[],n=>by simp[h0]
 |x::l,n=>by
  have e:((n:Int)+1)=((n+1:Nat):Int):=rfl;rw[h1,e,Ir p h0 h1 l (n+1)]
  grind
theorem wN{β:Type}{g:Nat->Int->Option β}{k:Option β}{f:β}(s:B8)(p:UInt8->Bool)(h0:∀n,g 0 n=k)
  (h1:∀m n,g (m+1) n=(ct s n).bind fun c=>if p c=true then g m (n+1) else some f):
  ∀(m n:Nat),n+m=s.length->g m n=if (s.drop n).all p=true then k else some f
 |0,n,h=>by grind
 |m+1,n,h=>by
  have hn:n<s.length:=by omega
  have e:((n:Int)+1)=((n+1:Nat):Int):=rfl;rw[h1,bQ hn,by8,e,wN s p h0 h1 m (n+1) (by omega),bu8 hn,ag8]
  grind
end Go.Pv
namespace Go.Proofs.YtelmfadihfcgnaaGreatDoor
open Go Go.Pv
set_option maxRecDepth 100000
inductive Tr where
 |mk (Kind:Int) (Name:B8) (Texts:List B8) (Op N:Int) (Kids:List Tr)
noncomputable section
mutual
def Tr.toT:Tr->aV
 | .mk a b c d e ks=>⟨a,b,c,d,e,Tr.toKs ks⟩
def Tr.toKs:List Tr->List aU
 |[]=>[]
 |t::r=>⟨ar t.toT,cH _,gX _⟩::Tr.toKs r
end
def M9(n:Int):Prop:=(IntKind.i64).min<=n/\n<=(IntKind.i64).max
def uL(s:B8):Prop:=s.length<=140737488351232
mutual
def Tr.ok:Tr->Prop
 | .mk a b c d e ks=>M9 a/\uL b/\((∀s,s∈c->uL s)/\c.length<=maxLen)/\M9 d/\M9 e/\Tr.oks ks/\ks.length<=maxLen
def Tr.oks:List Tr->Prop
 |[]=>True
 |t::r=>t.ok/\Tr.oks r
end
end
theorem Tr.toKs_row:∀ks:List Tr,(Tr.toKs ks).map aU.row=ks.map fun t=>ar t.toT
 |[]=>by simp[Tr.toKs]
 |t::r=>by simp[Tr.toKs,Tr.toKs_row r]
theorem Tr.oks_of:∀ks:List Tr,(∀t,t∈ks->t.ok)->Tr.oks ks
 |[],_=>by simp[Tr.oks]
 |t::r,h=>by rw[Tr.oks];exact⟨h t (by simp),Tr.oks_of r fun u hu=>h u (by simp[hu])⟩
theorem Tr.toKs_len:∀ks:List Tr,(Tr.toKs ks).length=ks.length
 |[]=>by simp[Tr.toKs]
 |t::r=>by simp[Tr.toKs,Tr.toKs_len r]
theorem K0{a b:B8}(h:sV a=sV b):a=b:=by
 grind
theorem Gt{a b:B8}(h:ap a=ap b):a=b:=K0 (by grind [ap])
theorem su{a b:List B8}(h:a.map ap=b.map ap):a=b:=List.map_inj_right (fun x y h=>Gt h) |>.1 h
theorem FM{a b:List aU}(h:a.map aU.row=b.map aU.row):a=b:=List.map_inj_right (fun x y h=>aU.ext' h) |>.1 h
theorem oI(a b:aV)(h:ar a=ar b):a=b:=by
 obtain⟨a1,a2,a3,a4,a5,a6⟩:=a;obtain⟨b1,b2,b3,b4,b5,b6⟩:=b;simp only[ar,ca8,and_true] at h
 grind [su,FM]
theorem FY(t:Tr):er ar ⟨ar t.toT,cH _,gX _⟩=some t.toT:=BM oI rfl
def Bs(x:aV):Nat:=0
def v7(x:aV):Prop:=∃t:Tr,x=t.toT/\t.ok
theorem uK:∀b,iZ b Tryz.prog 25 (fun t:Tr=>ar t.toT) (fun _=>0) Tr.ok
 |0=>yc
 |b+1=>by
  have hi:dE Tryz.prog 3 (fun x=>[V.con (.int .i64 x)]) (fun _=>1) (fun x:Int=>(IntKind.i64).min<=x/\x<=(IntKind.i64).max):=uI (show Tryz.prog.underlying 3=some (.int .i64) by kernel_rfl);have hs:dE Tryz.prog 9 (fun x=>[sV x]) (fun s=>s.length+1) (fun s=>s.length<=140737488351232):=na (show Tryz.prog.underlying 9=some (.string) by kernel_rfl);intro enc w fuel cs x hx hw hl
  obtain⟨a,h1,h2,h3⟩:=tZ (P:=Tryz.prog) (t:=25) (b0:=b) (fs:=[(3,0,1),(9,1,1),(22,2,1),(3,3,1),(3,4,1),(23,5,1)]) (by kernel_rfl) (by kernel_rfl)
   (eM (dE.at hi b) (eM (dE.at hs b) (eM (dE.at (lB (k:=1) (t:=22) (e:=9) (by kernel_rfl) (by kernel_rfl) (by decide) hs) b) (eM (dE.at hi b) (eM (dE.at hi b)
    (eM (iZ.mono (vY (k:=6) (t:=23) (e:=25) (by kernel_rfl) (by kernel_rfl) (by decide) (uK b)) (al9 b)) yL)))))) enc w fuel cs x hx hw hl
  refine⟨Tr.mk a.1 a.2.1 a.2.2.1 a.2.2.2.1 a.2.2.2.2.1 a.2.2.2.2.2.1,?_,ai8 _,?_⟩
  ·simp only[Tr.toT,ar,Tr.toKs_row];exact h1
  ·simp only[Tr.ok];exact⟨h3.1,h3.2.1,h3.2.2.1,h3.2.2.2.1,h3.2.2.2.2.1,Tr.oks_of _ h3.2.2.2.2.2.1.1,h3.2.2.2.2.2.1.2⟩
theorem Fe:dE Tryz.prog 25 ar Bs v7:=by
 intro H enc w fuel cs x hx hw;obtain⟨t,h1,h2,h3⟩:=uK _ enc w fuel cs x hx hw (ae9 _);exact⟨t.toT,h1,ai8 _,t,Y,h3⟩
theorem CF:AV Tryz.prog 25 (fun x=>V.agg (ar x)) Bs v7:=sh (fs:=[(3,0,1),(9,1,1),(22,2,1),(3,3,1),(3,4,1),(23,5,1)]) (by kernel_rfl) Fe
end Go.Proofs.YtelmfadihfcgnaaGreatDoor
namespace Go.Pv
open Go Go.ChangeShapes Go.WideShapes Go.ChangeAt Go.RowKit
variable{P:Program}{α:Type}
theorem ox{t e k:Nat}{ee:α->List V}{sz:List α->Nat}{ok:List α->Prop}(ht:P.underlying t=some (.slice e))(he:dE P t (fun l:List α=>[V.lst k (l.map ee)]) sz ok):
  dE P t (fun l:List α=>[V.lst k (l.map ee)]) sz (fun l=>ok l/\l.length*P.bytesOf e<=reachBytes):=by
 intro H enc w fuel cs x h hw;obtain⟨l,r1,r2,r3⟩:=he enc w fuel cs x h hw;refine⟨l,r1,r2,r3,?_⟩;rcases Deep.open_slice ht h with ⟨rfl,rfl⟩|⟨a,len,cap,m,n,D,Pl,rfl,_,hlc,hcm,hm,rfl,hel⟩
 ·have:=r1.2 0 _ _ rfl rfl
  have hl:l=[]:=by
   generalize hr:l.map ee=rows at this;cases this with
   |nil=>simpa using hr
  subst hl;simp
 ·simp only[if_true] at hm;subst hm
  have hl:l.length=len:=by
   have:=r1.2 0 _ _ rfl rfl;generalize hr:l.map ee=rows at this;cases this with
   |nil=>have:l=[]:=(by simpa using hr);subst this;rfl
   |lst f h1 h2 h3=>rw[<-h3,<-hr];simp
  unfold DB at hw;rw[DataW.weights] at hw;simp only[ht,ag8,cg8,aq9,decide_eq_true_eq,bj9,List.length_range] at hw;have:=hw.1;rw[hl];exact bw9 (bg9 _ (by omega)) this
end Go.Pv
namespace Go.Proofs.YtelmfadihfcgnaaGreatDoor
open Go Go.Pv
set_option maxRecDepth 100000
theorem oy:dE Tryz.prog 9 (fun x=>[sV x]) (fun x:B8=>(x.length+1)) (fun x:B8=>(x.length<=140737488351232)):=na (show Tryz.prog.underlying 9=some (.string) by kernel_rfl)
def vR(x:bC):Nat:=(x.Name.length+1)+((x.Value.length+1)+0)+1
def v8(x:bC):Prop:=(x.Name.length<=140737488351232)/\((x.Value.length<=140737488351232)/\True)
theorem E9:dE Tryz.prog 39 bu vR v8:=pq (kh (fs:=[(9,0,1),(9,1,1)]) (by kernel_rfl) (by kernel_rfl) (dL oy (dL oy nK))) (fun p=>bC.mk p.1 p.2.1) (fun _=>rfl) (fun _=>rfl) (fun _ h=>h)
theorem Fc:dE Tryz.prog 26 (fun l=>[V.lst 2 (l.map bu)]) (fun x:(List bC)=>((x.map (fun x:bC=>(vR x))).sum+1)) (fun x:(List bC)=>(((∀a,a∈x->(fun x:bC=>(v8 x)) a)/\x.length<=maxLen)/\x.length*Tryz.prog.bytesOf 39<=reachBytes)):=ox (show Tryz.prog.underlying 26=some (.slice 39) by kernel_rfl) (lB (show Tryz.prog.underlying 26=some (.slice 39) by kernel_rfl) (by kernel_rfl) (by decide) E9)
theorem H6:dE Tryz.prog 3 (fun x=>[V.con (.int .i64 x)]) (fun x:Int=>1) (fun x:Int=>((IntKind.i64).min<=x/\x<=(IntKind.i64).max)):=uI (show Tryz.prog.underlying 3=some (.int .i64) by kernel_rfl)
def pk(x:aT):Nat:=(x.Name.length+1)+(1+0)+1
def pr(x:aT):Prop:=(x.Name.length<=140737488351232)/\(((IntKind.i64).min<=x.N/\x.N<=(IntKind.i64).max)/\True)
theorem E8:dE Tryz.prog 41 bj pk pr:=pq (kh (fs:=[(9,0,1),(3,1,1)]) (by kernel_rfl) (by kernel_rfl) (dL oy (dL H6 nK))) (fun p=>aT.mk p.1 p.2.1) (fun _=>rfl) (fun _=>rfl) (fun _ h=>h)
theorem Fb:dE Tryz.prog 27 (fun l=>[V.lst 2 (l.map bj)]) (fun x:(List aT)=>((x.map (fun x:aT=>(pk x))).sum+1)) (fun x:(List aT)=>(((∀a,a∈x->(fun x:aT=>(pr x)) a)/\x.length<=maxLen)/\x.length*Tryz.prog.bytesOf 41<=reachBytes)):=ox (show Tryz.prog.underlying 27=some (.slice 41) by kernel_rfl) (lB (show Tryz.prog.underlying 27=some (.slice 41) by kernel_rfl) (by kernel_rfl) (by decide) E8)
def Bt(x:aZ):Nat:=(x.Kind.length+1)+((x.Subject.length+1)+(((x.Texts.map (fun x:bC=>(vR x))).sum+1)+(((x.Numbers.map (fun x:aT=>(pk x))).sum+1)+0)))+1
def mE(x:aZ):Prop:=(x.Kind.length<=140737488351232)/\((x.Subject.length<=140737488351232)/\((((∀a,a∈x.Texts->(fun x:bC=>(v8 x)) a)/\x.Texts.length<=maxLen)/\x.Texts.length*Tryz.prog.bytesOf 39<=reachBytes)/\((((∀a,a∈x.Numbers->(fun x:aT=>(pr x)) a)/\x.Numbers.length<=maxLen)/\x.Numbers.length*Tryz.prog.bytesOf 41<=reachBytes)/\True)))
theorem Fa:dE Tryz.prog 29 aS Bt mE:=pq (kh (fs:=[(9,0,1),(9,1,1),(26,2,1),(27,3,1)]) (by kernel_rfl) (by kernel_rfl) (dL oy (dL oy (dL Fc (dL Fb nK))))) (fun p=>aZ.mk p.1 p.2.1 p.2.2.1 p.2.2.2.1) (fun _=>rfl) (fun _=>rfl) (fun _ h=>h)
theorem uJ:AV Tryz.prog 29 (fun x=>V.agg (aS x)) Bt mE:=sh (fs:=[(9,0,1),(9,1,1),(26,2,1),(27,3,1)]) (by kernel_rfl) Fa
def m6:List B8:=[([114,117,108,101]:B8),([97,98,111,117,116]:B8),([119,104,101,110]:B8),([119,97,105,118,101]:B8),([102,111,114]:B8),([102,114,111,109]:B8),([116,111]:B8),([98,121]:B8),([97,115]:B8),([112,97,115,115]:B8),([110,111,116,101]:B8),([119,97,114,110]:B8),([100,101,110,121]:B8),([111,114]:B8),([97,110,100]:B8),([116,114,117,101]:B8),([105,115]:B8),([98,101,103,105,110,115]:B8),([104,97,115]:B8),([110,111,116]:B8)]
def Bb(s:B8):Bool:=m6.any fun w=>s==w
theorem orS{b c:Bool}{x:Option Bool}(h:x=some c):(if b=true then (if b=true then some true else some false) else x)=some (b||c):=by grind
theorem orL{b:Bool}:(if b=true then some true else some false)=some (b||false):=by grind
theorem L4(F:Nat)(s:B8):Oi F s=some (Bb s):=by
 unfold Oi;simp only[aH]
 show _=some (m6.any fun w=>s==w)
 simp only[m6,List.any_cons,List.any_nil]
 repeat (first|exact orL|apply orS)
theorem vj(F:Nat)(a:B8)(k:Option Bool):∀(m n:Nat),n+m=20->mg F a k m n=if ((m6.drop n).any fun w=>a==w)=true then some true else k
 |0,n,h=>by
  simp_all[mg,m6]
 |m+1,n,h=>by
  have hn:n<m6.length:=by simp[m6];omega
  have e:((n:Int)+1)=((n+1:Nat):Int):=rfl;rw[mg,if_pos ⟨by omega,by omega⟩,e,vj F a k m (n+1) (by omega),bu8 hn,List.any_cons];have h2:(tg ([]:B8) m6 n)=m6[n]:=by simp[tg,List.getD,az9 hn]
  have h3:((n:Int)).toNat=n:=by omega
  rw[h3]
  show(if (tg ([]:B8) m6 n==a)=true then some true else _)=_
  grind
theorem L2(F:Nat)(s:B8):Og F s=some (Bb s):=by
 unfold Og;rw[aH,if_pos (by omega)];have:=vj F s (some false) 20 0 rfl
 grind [Bb]
def run(c:UInt8):Bool:=(decide (97<=c.toNat)&&decide (c.toNat<=122))||(decide (48<=c.toNat)&&decide (c.toNat<=57))||(c.toNat==45)
def FO(c:UInt8):Bool:=decide (97<=c.toNat)&&decide (c.toNat<=122)
theorem L1(F:Nat)(c:UInt8):Of F (c.toNat:Int)=some (run c):=by
 unfold Of run
 have h1:((c.toNat:Int)==45)=(c.toNat==45):=by
  by_cases h:c.toNat=45
  ·simp[h]
  ·grind
 grind
def fd(s:B8):Bool:=match s with|[]=>false|c::r=>decide ((c::r).length<=40)&&!Bb (c::r)&&FO c&&r.all run
theorem H9{c:UInt8}{k:Option Bool} :
    (if (decide ((c.toNat:Int)>=97))=true then if (decide ((c.toNat:Int)<=122))=true then k
 else if (decide ((c.toNat:Int)>=48))=true then if (decide ((c.toNat:Int)<=57))=true then k
 else if (!((c.toNat:Int)==45))=true then some false
 else k
 else if (!((c.toNat:Int)==45))=true then some false
 else k
 else if (decide ((c.toNat:Int)>=48))=true then if (decide ((c.toNat:Int)<=57))=true then k
 else if (!((c.toNat:Int)==45))=true then some false
 else k
 else if (!((c.toNat:Int)==45))=true then some false
 else k)=if run c=true then k else some false:=by
  unfold run
  grind
theorem zr(F:Nat)(s:B8)(k:Option Bool):∀(m n:Nat),0<n->n+m=s.length->kJ F s k m n=if (s.drop n).all run=true then k else some false
 |0,n,_,h=>by simp_all[kJ]
 |m+1,n,h0,h=>by
  have hn:n<s.length:=by omega
  have e:((n:Int)+1)=((n+1:Nat):Int):=rfl;have h3:decide ((n:Int)>0)=true:=decide_eq_true (by omega);rw[kJ,aH,bQ hn,by8,e,zr F s k m (n+1) (by omega) (by omega),bu8 hn,ag8];simp only[h3,if_true];rw[H9]
  grind
theorem Ic{n:Nat}(h:n<=140737488351232):(n:Int)<=9223372036854775807:=by omega
theorem xl(F:Nat)(s:B8)(hs:uL s):Kg F s=some (fd s):=by
 unfold uL at hs;unfold Kg;rw[aH,if_pos (Ic hs),show((s.length:Int):Int).toNat=s.length by omega];cases s with
 |nil=>rfl
 |cons c r=>
  rw[bx9,kJ,aH,show ct (c::r) 0=some c from rfl,by8];have e:((0:Int)+1)=((1:Nat):Int):=rfl;rw[e,zr F (c::r) _ r.length 1 (by omega) (by simp;omega)];simp only[List.drop_succ_cons,bt8,L4,by8,fd,FO,show decide ((0:Int)>0)=false from rfl,cj8,if_false,bx9]
  grind
theorem Dq(F:Nat)(s:B8)(k:Option Bool)(m n:Nat)(h:n+m=s.length):nY F s k m n=if (s.drop n).all run=true then k else some false:=
 wN s run (fun n=>rfl) (fun m n=>by
  grind [nY,L1]) m n h
theorem AZ(F:Nat)(s:B8)(hs:uL s):Mj F s=some (fd s):=by
 unfold uL at hs;unfold Mj;rw[aH,if_pos (Ic hs),show((s.length:Int):Int).toNat=s.length by omega];have hl:=Dq F s (some true) s.length 0 (by omega);rw[show((0:Nat):Int)=0 from rfl,bt8] at hl;rw[hl];cases s with
 |nil=>rfl
 |cons c r=>
  rw[show ct (c::r) 0=some c from rfl];simp only[L2,by8,fd,FO,bx9,ag8,show((c::r==([]:B8)))=false from rfl,cj8,if_false]
  have h40:decide (((r.length+1:Nat):Int)>40) = !decide (r.length+1<=40):=by
   by_cases h:r.length+1<=40
   ·grind
   ·grind
  rw[h40]
  by_cases a1:97<=c.toNat<;>by_cases a2:c.toNat<=122 <;>
   simp only[a1,a2,show((c.toNat:Int)<97)<->¬(97<=c.toNat) by omega,show((c.toNat:Int)>122)<->¬(c.toNat<=122) by omega,not_true_eq_false,not_false_eq_true,decide_true,decide_false,if_true,if_false,cj8,Bool.and_true,Bool.and_false,Bool.false_and]
  ·have:run c=true:=by simp[run,a1,a2]
   grind
  all_goals grind
def Cs(c:UInt8):Bool:=decide (32<=c.toNat)&&decide (c.toNat<=126)
def kc(s:B8):Bool:=decide (s.length<=1000)&&s.all Cs
theorem xJ{β:Type}{s:B8}{n:Int}{k f:Option β}:((ct s n).bind fun c6=>if (decide ((c6.toNat:Int)<32))=true then f
 else (ct s n).bind fun c9=>if (decide ((c9.toNat:Int)>126))=true then f else k)=(ct s n).bind fun c=>if Cs c=true then k else f:=by
  cases ct s n with
  |none=>rfl
  |some c=>
    simp only[by8,Cs]
    grind
theorem xw(F:Nat)(s:B8)(hs:uL s):Ba F s=some (kc s):=by
 unfold uL at hs;unfold Ba;rw[aH,if_pos (Ic hs),show((s.length:Int):Int).toNat=s.length by omega];have hl:=wN (g:=kQ F s (some (decide ((s.length:Int)<=1000)))) (f:=false) s Cs (fun n=>rfl) (fun m n=>by rw[kQ];exact xJ) s.length 0 (by omega)
 grind [kc]
theorem AY(F:Nat)(s:B8)(hs:uL s):ML F s=some (kc s):=by
 unfold uL at hs;unfold ML;rw[aH,if_pos (Ic hs),show((s.length:Int):Int).toNat=s.length by omega];have hl:=wN (g:=nU F s (some true)) (f:=false) s Cs (fun n=>rfl) (fun m n=>by rw[nU];exact xJ) s.length 0 (by omega)
 grind [kc]
def JL(a:List B8):List B8->Nat->Int
 |[],_=>0
 |x::l,n=>if (!kc x)=true then 2 else if (decide (0<n)&&(Op.bytesLess x (a.getD (n - 1) [])||x==a.getD (n - 1) []))=true then 10 else JL a l (n+1)
theorem lJ{α:Type}{a:List α}{n:Nat}{d:α}(h0:0<n)(h:n<=a.length)(hl:a.length<=maxLen):ct a (bE ((n:Int) - 1))=some (a.getD (n - 1) d):=by
 grind [maxLen,cS,bQ]
theorem OX{g:List B8->Int->Option Int}{k:Option Int}{a:List B8}(hl:a.length<=maxLen)(h0:∀n,g [] n=k)
  (h1:∀x l (n:Nat),a[n]? = some x->x∈a->g (x::l) n=if (!kc x)=true then some 2 else if decide ((n:Int)>0)=true then (ct a (bE ((n:Int) - 1))).bind fun y=>if (Op.bytesLess x y||x==y)=true then some 10 else g l (n+1) else g l (n+1)):
  ∀(l:List B8) (n:Nat),a.drop n=l->g l n=if (JL a l n != 0)=true then some (JL a l n) else k
 |[],n,_=>by simp[h0,JL]
 |x::l,n,h=>by
  have hn:n<a.length:=by
   rcases bs8 n a.length with h2|h2
   ·exact h2
   ·simp_all[al8]
  rw[bu8 hn] at h
  injection h with hx hd
  have e:((n:Int)+1)=((n+1:Nat):Int):=rfl;rw[h1 x l n (by grind) (by grind),e,OX hl h0 h1 l (n+1) hd];rw[JL];cases kc x
  ·simp
  ·simp only[bv9,cj8,if_false];by_cases h2:0<n
   ·rw[if_pos (decide_eq_true (by omega)),lJ (d:=[]) h2 (by omega) hl,by8,decide_eq_true h2]
    grind
   grind
def JK(a:List B8):Int:=if a.length=0 then 13 else if 50<a.length then 3 else JL a a 0
def okX(x:aV):Prop:=uL x.Name/\(∀s,s∈x.Texts->uL s)/\x.Texts.length<=maxLen/\x.Kids.length<=maxLen
theorem Jw(F:Nat)(a:List B8)(ha:∀s,s∈a->uL s)(hl:a.length<=maxLen):Hl F a=some (JK a):=by
 unfold Hl JK
 have h:=OX (g:=kN F a (some 0)) (k:=some 0) hl (fun n=>rfl) (fun x l n h1 h2=>by
  simp_all[kN,xw,aH]) a 0 rfl
 rw[show((0:Nat):Int)=0 from rfl] at h;rw[aH,h]
 grind
theorem JD(F:Nat)(n:Int):tO F n=some (decide (-1000000000000<=n)&&decide (n<=1000000000000)):=by
 grind [tO]
theorem Md(F:Nat)(a b c:Int):MK F a b c=some (decide (a<b)||decide (a>c)):=by
 grind [MK]
local macro "tx68" f:term:term=>`(fun(F:Nat) (x:aV) (k:Option Int) (hx:okX x)=>OX (g := $f F x k) (k:=k) hx.2.2.1 (fun n=>rfl) (fun y l n h1 h2=>by
  have hn:n<x.Texts.length:=(bd9.1 h1).1;have hi:ct x.Texts (n:Int)=some y:=by rw[bQ hn];exact(az9 hn).symm.trans h1
  show jn _ _=_
  rw[aH,AY F y (hx.2.1 y h2),by8,hi];cases kc y<;>rfl) x.Texts 0 rfl)
def sf(n:Int):Bool:=decide (n < -1000000000000)||decide (n>1000000000000)
theorem Oj(F:Nat)(n:Int):MK F n (-1000000000000) 1000000000000=some (sf n):=Md F n _ _
theorem Hp(F:Nat)(n:Int):tO F n=some (!sf n):=by
 rw[JD,sf,Bool.not_or,<-decide_not,<-decide_not]
 grind
def cV(x:aV):Int:=
 if x.Kind<1\/8<x.Kind then 7
 else if !(decide (2<=x.Kind)&&decide (x.Kind<=5))&&!(x.Name==[])||!(x.Kind==2||x.Kind==3)&&decide (0<x.Texts.length)||!(x.Kind==5)&&(x.Op != 0||x.N != 0) ||
  !(if x.Kind=6 then x.Kids.length==1 else if 7<=x.Kind then decide (2<=x.Kids.length) else x.Kids.length==0) then 2
 else if (decide (2<=x.Kind)&&decide (x.Kind<=5))&&!fd x.Name then 8
 else if x.Kind=2\/x.Kind=3 then JK x.Texts
 else if x.Kind=5 then (if x.Op<1\/5<x.Op then 7 else if sf x.N=true then 9 else 0)
 else 0
theorem Pc{n:Nat}:(((n:Nat):Int)==1)=(n==1):=by
 grind
theorem gt0{n:Nat}:decide (((n:Nat):Int)>0)=decide (0<n):=decide_eq_decide.2 (by omega)
theorem ge2{n:Nat}:decide (((n:Nat):Int)>=2)=decide (2<=n):=decide_eq_decide.2 (by omega)
noncomputable def eO:Nat->bL:=(Dv 0).get rfl
theorem Cl(F:Nat):Dv F=some eO:=rfl
theorem Ks:eO 1=⟨false,false,false,0⟩:=rfl
theorem Kr:eO 2=⟨true,true,false,0⟩:=rfl
theorem Kq:eO 3=⟨true,true,false,0⟩:=rfl
theorem Kp:eO 4=⟨true,false,false,0⟩:=rfl
theorem Ko:eO 5=⟨true,false,true,0⟩:=rfl
theorem Kn:eO 6=⟨false,false,false,1⟩:=rfl
theorem Km:eO 7=⟨false,false,false,-1⟩:=rfl
theorem Kl:eO 8=⟨false,false,false,-1⟩:=rfl
def fm(u:bL)(x:aV):Bool:=(u.name||(x.Name==[]))&&(u.texts||!decide (0<x.Texts.length))&&(u.number||((x.Op==0)&&(x.N==0)))&&(if u.kids<0 then decide (2<=x.Kids.length) else (((x.Kids.length:Nat):Int)==u.kids))
theorem Jx(F:Nat)(x:aV)(h:0<=x.Kind/\x.Kind.toNat<9):Hn F x=some (fm (eO x.Kind.toNat) x):=by
 unfold Hn fm;rw[Cl,by8,if_pos h];generalize eO x.Kind.toNat=u;simp only[gt0,ge2]
 grind
def fF(u:bL)(x:aV):Int:=if !fm u x then 2 else if u.name&&!fd x.Name then 8 else if u.texts&&JK x.Texts != 0 then JK x.Texts else if u.number&&(decide (x.Op<1)||decide (x.Op>5)) then 7 else if u.number&&sf x.N then 9 else 0
theorem I8(F:Nat)(R:aV->Option Int)(x:aV)(hx:okX x)(h:1<=x.Kind/\x.Kind<=8):qu R F x=if (fF (eO x.Kind.toNat) x != 0)=true then some (fF (eO x.Kind.toNat) x) else jF R F (some 0) x.Kids:=by
 have h9:0<=x.Kind/\x.Kind.toNat<9:=by omega
 unfold qu fF;rw[Jx F x h9,Cl,by8,if_pos h9,by8,xl F x.Name hx.1,Jw F x.Texts hx.2.1 hx.2.2.1,Hp,decide_eq_false (show ¬x.Kind<1 by omega),decide_eq_false (show ¬x.Kind>8 by omega)];simp only[aH,by8]
 grind [fm,JK]
theorem Fu{nm:B8}{tx:List B8}{op n:Int}{ks:List aU}:fF (eO 1) ⟨1,nm,tx,op,n,ks⟩=cV ⟨1,nm,tx,op,n,ks⟩:=by
 simp_all[Ks,fF,fm,cV]
theorem Ft{nm:B8}{tx:List B8}{op n:Int}{ks:List aU}:fF (eO 2) ⟨2,nm,tx,op,n,ks⟩=cV ⟨2,nm,tx,op,n,ks⟩:=by
 grind [Kr,fF,fm,cV]
theorem Fs{nm:B8}{tx:List B8}{op n:Int}{ks:List aU}:fF (eO 3) ⟨3,nm,tx,op,n,ks⟩=cV ⟨3,nm,tx,op,n,ks⟩:=by
 grind [Kq,fF,fm,cV]
theorem Fr{nm:B8}{tx:List B8}{op n:Int}{ks:List aU}:fF (eO 4) ⟨4,nm,tx,op,n,ks⟩=cV ⟨4,nm,tx,op,n,ks⟩:=by
 simp_all[Kp,fF,fm,cV]
theorem Fq{nm:B8}{tx:List B8}{op n:Int}{ks:List aU}:fF (eO 5) ⟨5,nm,tx,op,n,ks⟩=cV ⟨5,nm,tx,op,n,ks⟩:=by
 simp_all[Ko,fF,fm,cV]
theorem Fp{nm:B8}{tx:List B8}{op n:Int}{ks:List aU}:fF (eO 6) ⟨6,nm,tx,op,n,ks⟩=cV ⟨6,nm,tx,op,n,ks⟩:=by
 simp_all[Kn,fF,fm,cV,Pc]
theorem Fo{nm:B8}{tx:List B8}{op n:Int}{ks:List aU}:fF (eO 7) ⟨7,nm,tx,op,n,ks⟩=cV ⟨7,nm,tx,op,n,ks⟩:=by
 simp_all[Km,fF,fm,cV]
theorem Fm{nm:B8}{tx:List B8}{op n:Int}{ks:List aU}:fF (eO 8) ⟨8,nm,tx,op,n,ks⟩=cV ⟨8,nm,tx,op,n,ks⟩:=by
 simp_all[Kl,fF,fm,cV]
theorem Fv(x:aV)(h:1<=x.Kind/\x.Kind<=8):fF (eO x.Kind.toNat) x=cV x:=by
 obtain⟨kd,nm,tx,op,n,ks⟩:=x;simp only at h;have hk':kd=1\/kd=2\/kd=3\/kd=4\/kd=5\/kd=6\/kd=7\/kd=8:=by omega
 grind [Fu,Ft,Fs,Fr,Fq,Fp,Fo,Fm]
theorem G6(F:Nat)(R:aV->Option Int)(x:aV)(hx:okX x):qu R F x=if (cV x != 0)=true then some (cV x) else jF R F (some 0) x.Kids:=by
 by_cases h:1<=x.Kind/\x.Kind<=8
 ·simp_all[I8,Fv]
 ·have h7:cV x=7:=by unfold cV;grind
  simp_all[qu]
end Go.Proofs.YtelmfadihfcgnaaGreatDoor
namespace Go.Proofs.YtelmfadihfcgnaaGreatDoor
open Go Go.Pv
set_option maxRecDepth 100000
mutual
theorem Tr.ind{P:Tr->Prop}(h:∀a b c d e ks,(∀t,t∈ks->P t)->P (.mk a b c d e ks)):∀t:Tr,P t
 | .mk a b c d e ks=>h a b c d e ks (Tr.inds h ks)
theorem Tr.inds{P:Tr->Prop}(h:∀a b c d e ks,(∀t,t∈ks->P t)->P (.mk a b c d e ks)):∀(ks:List Tr) (t:Tr),t∈ks->P t
 |[],_,hu=>absurd hu (by simp)
 |t::r,u,hu=>by
  rcases as9.1 hu with e|hu
  ·rw[e];exact Tr.ind h t
  ·exact Tr.inds h r u hu
end
noncomputable section
mutual
def Tr.fu:Tr->Nat
 | .mk a b c d e ks=>c.length+ks.length+2+Tr.fus ks
def Tr.fus:List Tr->Nat
 |[]=>0
 |t::r=>t.fu+Tr.fus r
end
mutual
def Tr.cnt:Tr->Nat
 | .mk a b c d e ks=>1+Tr.cnts ks
def Tr.cnts:List Tr->Nat
 |[]=>0
 |t::r=>t.cnt+Tr.cnts r
end
mutual
def Tr.dep:Tr->Nat
 | .mk a b c d e ks=>1+Tr.deps ks
def Tr.deps:List Tr->Nat
 |[]=>0
 |t::r=>max t.dep (Tr.deps r)
end
mutual
def Tr.flt:Tr->Int
 | .mk a b c d e ks=>if cV ⟨a,b,c,d,e,Tr.toKs ks⟩=0 then Tr.flts ks else cV ⟨a,b,c,d,e,Tr.toKs ks⟩
def Tr.flts:List Tr->Int
 |[]=>0
 |t::r=>if t.flt=0 then Tr.flts r else t.flt
end
def Tr.toK(t:Tr):aU:=⟨ar t.toT,cH _,gX _⟩
end
theorem Tr.dec(t:Tr):er ar t.toK=some t.toT:=FY t
theorem Tr.toKs_map:∀ks:List Tr,Tr.toKs ks=ks.map Tr.toK
 |[]=>by simp[Tr.toKs]
 |t::r=>by rw[Tr.toKs,Tr.toKs_map r];rfl
theorem gF{ks:List Tr}{n:Nat}(h:n<ks.length):ct (Tr.toKs ks) (n:Int)=some (ks[n].toK):=by
 simp_all[Tr.toKs_map,bQ]
theorem Tr.fu_mem:∀{ks:List Tr} {t:Tr},t∈ks->t.fu<=Tr.fus ks
 |u::r,t,h=>by
  rw[Tr.fus];rcases as9.1 h with e|h
  ·grind
  ·have:=Tr.fu_mem h;omega
theorem Tr.oks_mem:∀{ks:List Tr} {t:Tr},Tr.oks ks->t∈ks->t.ok
 |u::r,t,ho,h=>by
  rw[Tr.oks] at ho;rcases as9.1 h with e|h
  ·subst e;exact ho.1
  ·exact Tr.oks_mem ho.2 h
theorem iy:maxLen=9223372036854775807:=by decide
theorem Tr.okX{a b c d e ks}(h:(Tr.mk a b c d e ks).ok):okX ⟨a,b,c,d,e,Tr.toKs ks⟩:=by
 rw[Tr.ok] at h;exact⟨h.2.1,h.2.2.1.1,h.2.2.1.2,by simp_all[Tr.toKs_len]⟩
theorem Tr.okks{a b c d e ks}(h:(Tr.mk a b c d e ks).ok):Tr.oks ks/\ks.length<=9223372036854775807:=by
 simp_all[Tr.ok,iy]
theorem Tr.cnt_mem:∀{ks:List Tr} {t:Tr},t∈ks->t.cnt<=Tr.cnts ks
 |u::r,t,h=>by
  rw[Tr.cnts];rcases as9.1 h with e|h
  ·grind
  ·have:=Tr.cnt_mem h;omega
theorem IH(t:Tr):1<=t.cnt:=by cases t;rw[Tr.cnt];omega
theorem yr:∀ks:List Tr,ks.length<=Tr.cnts ks
 |[]=>by grind
 |t::r=>by rw[Tr.cnts];have:=yr r;have:=IH t;simp;omega
theorem L5:∀t:Tr,t.ok->∀F,t.fu<=F->Kd F t.toT=some t.flt:=Tr.ind fun a b c d e ks ih ok F hF=>by
 rw[Tr.fu] at hF;obtain⟨F,rfl⟩:∃G,F=G+1:=⟨F - 1,by omega⟩
 show qu (Kd F) F (Tr.mk a b c d e ks).toT=_
 rw[Tr.toT,G6 F _ _ (Tr.okX ok),Tr.flt]
 have hl:∀l:List Tr,(∀t,t∈l->t∈ks)->jF (Kd F) F (some 0) (Tr.toKs l)=some (Tr.flts l):=by
  intro l
  induction l with
  |nil=>simp_all[Tr.toKs,jF,Tr.flts]
  |cons t r ihr=>
   intro hm;have ht:=hm t (by simp);rw[Tr.toKs_map,bm9,jF,Tr.dec,by8,ih t ht (Tr.oks_mem (Tr.okks ok).1 ht) F (by have:=Tr.fu_mem ht;omega),by8,<-Tr.toKs_map,ihr fun u hu=>hm u (by simp[hu]),Tr.flts]
   grind
 grind
theorem L8:∀t:Tr,t.ok->∀F,t.fu<=F->∀lvl:Int,1<=lvl->lvl<=13->∃a b:Int,Ke F t.toT lvl=some (a,b)/\1<=a/\a<=61/\lvl<=b/\b<=13/\(12<b<->12<lvl+t.dep - 1)/\(b<=12->a=min (t.cnt:Int) 61):=Tr.ind fun a b c d e ks ih ok F hF lvl h1 h13=>by
 rw[Tr.fu] at hF;obtain⟨F,rfl⟩:∃G,F=G+1:=⟨F - 1,by omega⟩
 show ∃p q:Int,zm (Ke F) F (Tr.mk a b c d e ks).toT lvl=some (p,q)/\_
 rw[Tr.toT,zm,Tr.dep,Tr.cnt];by_cases hq:lvl>12
 ·rw[if_pos (decide_eq_true hq)]
  grind
 ·rw[if_neg (by grind),aH]
  have hl:∀l:List Tr,(∀t,t∈l->t∈ks)->∀n q:Int,1<=n->n<=61->lvl<=q->q<=13->∃p r:Int,mh (Ke F) F lvl (fun n5 n6=>some (n5,n6)) (Tr.toKs l) n q=some (p,r)/\1<=p/\p<=61/\lvl<=r/\r<=13/\(12<r<->12<q\/12<lvl+Tr.deps l)/\(r<=12->p=min (n+(Tr.cnts l:Nat)) 61):=by
   intro l
   induction l with
   |nil=>
    intro _ n q g1 g2 g3 g4;refine⟨n,q,by simp only[Tr.toKs,mh],g1,g2,g3,g4,?_,?_⟩
    ·rw[Tr.deps];omega
    grind [Tr.cnts]
   |cons t r ihr=>
    intro hm n q g1 g2 g3 g4;have ht:=hm t (by simp);obtain⟨p',q',e1,e2,e3,e4,e5,e6,e7⟩:=ih t ht (Tr.oks_mem (Tr.okks ok).1 ht) F (by have:=Tr.fu_mem ht;omega) (lvl+1) (by omega) (by omega);rw[Tr.toKs_map,bm9,mh,Tr.dec,by8,cS (by omega) (by omega),e1,by8,<-Tr.toKs_map];dsimp only;rw[cS (by omega) (by omega)];obtain⟨p,s,f1,f2,f3,f4,f5,f6,f7⟩:=ihr (fun u hu=>hm u (by simp[hu])) (if 61<n+p' then 61 else n+p') (if q'>q then q' else q) (by grind) (by grind) (by grind) (by grind);refine⟨p,s,f1,f2,f3,f4,f5,?_,?_⟩
    ·rw[f6,Tr.deps];omega
    ·intro hs;have h7:=f7 hs;have hq':¬12<s:=by omega
     rw[f6] at hq';have:q'<=12:=by grind
     have h8:=e7 this;rw[h7,Tr.cnts];omega
  obtain⟨p,r,e1,e2,e3,e4,e5,e6,e7⟩:=hl ks (fun _ h=>h) 1 lvl (by omega) (by omega) (by omega) (by omega)<;>grind
noncomputable def vT(t:Tr):Int:=if 60<t.cnt\/12<t.dep then 3 else t.flt
theorem tD(t:Tr)(ok:t.ok)(F:Nat)(hF:t.fu<=F):MO F t.toT=some (vT t):=by
 obtain⟨a,b,e1,e2,e3,e4,e5,e6,e7⟩:=L8 t ok F hF 1 (by omega) (by omega);unfold MO;rw[e1,by8];dsimp only;unfold vT;by_cases hb:12<b
 ·grind
 ·have h7:=e7 (by omega);have hd:¬(12<t.dep):=fun h=>hb (e6.2 (by omega));by_cases hc:60<t.cnt
  ·grind
  ·rw[if_neg (by simp;omega),if_neg (by simp;omega),if_neg (by omega),L5 t ok F hF];rfl
end Go.Proofs.YtelmfadihfcgnaaGreatDoor
namespace Go.Proofs.YtelmfadihfcgnaaGreatDoor
open Go Go.Pv
set_option maxRecDepth 100000
def okTFact'(f:aZ):Prop:=uL f.Kind/\uL f.Subject/\(∀p,p∈f.Texts->uL p.Name/\uL p.Value)/\f.Texts.length<=maxLen/\(∀p,p∈f.Numbers->uL p.Name)/\f.Numbers.length<=maxLen
def JT(a b:B8):Bool:=Op.bytesLess a b||a==b
def xU(a:List bC):List bC->Nat->Int
 |[],_=>0
 |x::l,n=>if fd x.Name=false then 8 else if kc x.Value=false then 2 else if (decide (0<n)&&JT x.Name (a.getD (n - 1) ⟨[],[]⟩).Name)=true then 10 else xU a l (n+1)
def zB(a:List aT):List aT->Nat->Int
 |[],_=>0
 |x::l,n=>if fd x.Name=false then 8 else if sf x.N=true then 9 else if (decide (0<n)&&JT x.Name (a.getD (n - 1) ⟨[],0⟩).Name)=true then 10 else zB a l (n+1)
theorem iz{α:Type}{a:List α}{x:α}{l:List α}{n:Nat}(h:a.drop n=x::l):n<a.length/\ct a (n:Int)=some x/\x∈a/\a.drop (n+1)=l:=by
 have hn:n<a.length:=by
  rcases bs8 n a.length with h2|h2
  ·exact h2
  ·rw[al8 h2] at h;cases h
 rw[bu8 hn] at h
 injection h with hx hd
 exact⟨hn,by rw[bQ hn,hx],hx ▸ bc9 _,hd⟩
theorem vq(F:Nat)(f:aZ)(hf:okTFact' f)(k:Option Int):∀(l:List bC) (n:Nat),f.Texts.drop n=l->mr F f k l (n:Int)=if xU f.Texts l n=0 then k else some (xU f.Texts l n)
 |[],n,_=>by simp[mr,xU]
 |x::l,n,h=>by
  obtain⟨hn,hi,hm,hd⟩:=iz h;have hx:=hf.2.2.1 x hm;rw[mr,xl F _ hx.1,by8,aH,show((n:Int)+1)=((n+1:Nat):Int) from rfl,vq F f hf k l (n+1) hd,xw F _ hx.2,xU];cases fd x.Name
  ·simp
  ·simp only[bv9,cj8,if_false,by8];cases kc x.Value
   ·simp
   ·simp only[bv9,cj8,if_false];by_cases h0:0<n
    ·rw[if_pos (decide_eq_true (by omega)),lJ (d:=⟨[],[]⟩) h0 (by omega) hf.2.2.2.1,by8,decide_eq_true h0];simp only[ah9,JT];cases (Op.bytesLess x.Name (f.Texts.getD (n - 1) ⟨[],[]⟩).Name||x.Name==(f.Texts.getD (n - 1) ⟨[],[]⟩).Name)<;>simp
    ·rw[if_neg (by simp;omega),decide_eq_false h0];simp
theorem vp(F:Nat)(f:aZ)(hf:okTFact' f)(k:Option Int):∀(l:List aT) (n:Nat),f.Numbers.drop n=l->mq F f k l (n:Int)=if zB f.Numbers l n=0 then k else some (zB f.Numbers l n)
 |[],n,_=>by simp[mq,zB]
 |x::l,n,h=>by
  obtain⟨hn,hi,hm,hd⟩:=iz h;have hx:=hf.2.2.2.2.1 x hm;rw[mq,xl F _ hx,by8,aH,show((n:Int)+1)=((n+1:Nat):Int) from rfl,vp F f hf k l (n+1) hd,Hp,zB];cases fd x.Name
  ·simp
  ·simp only[bv9,cj8,if_false,by8];cases sf x.N
   ·simp only[bv9,bw8,cj8,if_false];by_cases h0:0<n
    ·rw[if_pos (decide_eq_true (by omega)),lJ (d:=⟨[],0⟩) h0 (by omega) hf.2.2.2.2.2,by8,decide_eq_true h0];simp only[ah9,JT];cases (Op.bytesLess x.Name (f.Numbers.getD (n - 1) ⟨[],0⟩).Name||x.Name==(f.Numbers.getD (n - 1) ⟨[],0⟩).Name)<;>simp
    ·rw[if_neg (by simp;omega),decide_eq_false h0];simp
   ·simp
def vF(f:aZ):Int:=if fd f.Kind=false then 8 else if kc f.Subject=false then 2 else if 30<f.Texts.length then 3 else if xU f.Texts f.Texts 0=0 then (if 30<f.Numbers.length then 3 else zB f.Numbers f.Numbers 0) else xU f.Texts f.Texts 0
theorem xk(F:Nat)(f:aZ)(hf:okTFact' f):MN F f=some (vF f):=by
 unfold MN vF;have h1:=fun k=>vq F f hf k f.Texts 0 rfl;have h2:=vp F f hf (some 0) f.Numbers 0 rfl;rw[show((0:Nat):Int)=0 from rfl] at h1 h2;rw[xl F _ hf.1,xw F _ hf.2.1];simp only[aH,h1,h2,by8,show decide (((f.Texts.length:Nat):Int)>30)=decide (30<f.Texts.length) from decide_eq_decide.2 (by omega),show decide (((f.Numbers.length:Nat):Int)>30)=decide (30<f.Numbers.length) from decide_eq_decide.2 (by omega)];by_cases a1:fd f.Kind=true<;>by_cases a2:kc f.Subject=true<;>by_cases a3:30<f.Texts.length<;>by_cases a4:xU f.Texts f.Texts 0=0<;>by_cases a5:30<f.Numbers.length<;>by_cases a6:zB f.Numbers f.Numbers 0=0<;>simp[a1,a2,a3,a4,a5,a6]
def fT(nm:B8):List bC->Bool×B8->Bool×B8
 |[],p=>p
 |x::l,p=>if (x.Name==nm)=true then fT nm l (true,x.Value) else fT nm l p
def fN(nm:B8):List aT->Bool×Int->Bool×Int
 |[],p=>p
 |x::l,p=>if (x.Name==nm)=true then fN nm l (true,x.N) else fN nm l p
def jJ(f:aZ)(nm:B8):ab:=⟨(fT nm f.Texts (false,[])).1,(fN nm f.Numbers (false,0)).1,(fT nm f.Texts (false,[])).2,(fN nm f.Numbers (false,0)).2⟩
def zV:aa:=⟨false,false,[],0⟩
def gV(m:List (B8×aa))(nm:B8):aa:=(aG m nm).getD zV
def Mz:List bC->List (B8×aa)->List (B8×aa)
 |[],m=>m
 |x::l,m=>Mz l (bM m x.Name ⟨true,(gV m x.Name).hasNumber,x.Value,(gV m x.Name).number⟩)
def MA:List aT->List (B8×aa)->List (B8×aa)
 |[],m=>m
 |x::l,m=>MA l (bM m x.Name ⟨(gV m x.Name).hasText,true,(gV m x.Name).text,x.N⟩)
def eV(f:aZ):aq:=⟨MA f.Numbers (Mz f.Texts []),none⟩
theorem Gf(m:List (B8×aa))(k nm:B8)(v:aa):gV (bM m k v) nm=if k=nm then v else gV m nm:=by
 unfold gV;rw[cL];split<;>rfl
theorem Bf(nm:B8):∀(l:List bC) (m:List (B8×aa)),gV (Mz l m) nm=⟨(fT nm l ((gV m nm).hasText,(gV m nm).text)).1,(gV m nm).hasNumber,(fT nm l ((gV m nm).hasText,(gV m nm).text)).2,(gV m nm).number⟩
 |[],m=>by rw[Mz,fT]
 |x::l,m=>by
  rw[Mz,Bf nm l,Gf,fT];by_cases h:x.Name=nm
  ·subst h;rw[if_pos rfl,if_pos (by simp)]
  ·rw[if_neg h,if_neg (by simp[h])]
theorem Bg(nm:B8):∀(l:List aT) (m:List (B8×aa)),gV (MA l m) nm=⟨(gV m nm).hasText,(fN nm l ((gV m nm).hasNumber,(gV m nm).number)).1,(gV m nm).text,(fN nm l ((gV m nm).hasNumber,(gV m nm).number)).2⟩
 |[],m=>by rw[MA,fN]
 |x::l,m=>by
  rw[MA,Bg nm l,Gf,fN];by_cases h:x.Name=nm
  ·subst h;rw[if_pos rfl,if_pos (by simp)]
  ·rw[if_neg h,if_neg (by simp[h])]
theorem xI(f:aZ)(nm:B8):gV (eV f).by_ nm=⟨(jJ f nm).isText,(jJ f nm).isNumber,(jJ f nm).text,(jJ f nm).number⟩:=by
 unfold eV jJ;dsimp only;rw[Bg,Bf];rfl
theorem vo(F:Nat)(k:List (B8×aa)->Option aq):∀(l:List bC) m,nX F k l m=k (Mz l m)
 |[],m=>rfl
 |x::l,m=>by rw[nX,vo F k l];rfl
theorem vn(F:Nat)(k:List (B8×aa)->Option aq):∀(l:List aT) m,nW F k l m=k (MA l m)
 |[],m=>rfl
 |x::l,m=>by rw[nW,vn F k l];rfl
theorem Ha(F:Nat)(f:aZ):MM F f=some (eV f):=by
 unfold MM;simp only[aH,vo,vn];rfl
theorem vu(F:Nat)(f:aZ)(hf:okTFact' f)(k:Option Int):∀(l:List bC) (n:Nat),f.Texts.drop n=l->mw F f k l (n:Int)=if xU f.Texts l n=0 then k else some (xU f.Texts l n)
 |[],n,_=>by simp[mw,xU]
 |x::l,n,h=>by
  obtain⟨hn,hi,hm,hd⟩:=iz h;have hx:=hf.2.2.1 x hm;rw[mw,AZ F _ hx.1,by8,aH,show((n:Int)+1)=((n+1:Nat):Int) from rfl,vu F f hf k l (n+1) hd,hi,by8,AY F _ hx.2,xU];cases fd x.Name
  ·simp
  ·simp only[bv9,cj8,if_false,by8];cases kc x.Value
   ·simp
   ·simp only[bv9,cj8,if_false];by_cases h0:0<n
    ·rw[if_pos (decide_eq_true (by omega)),lJ (d:=⟨[],[]⟩) h0 (by omega) hf.2.2.2.1,by8,decide_eq_true h0];simp only[ah9,JT];cases (Op.bytesLess x.Name (f.Texts.getD (n - 1) ⟨[],[]⟩).Name||x.Name==(f.Texts.getD (n - 1) ⟨[],[]⟩).Name)<;>simp
    ·rw[if_neg (by simp;omega),decide_eq_false h0];simp
theorem vt(F:Nat)(f:aZ)(hf:okTFact' f)(k:Option Int):∀(l:List aT) (n:Nat),f.Numbers.drop n=l->mu F f k l (n:Int)=if zB f.Numbers l n=0 then k else some (zB f.Numbers l n)
 |[],n,_=>by simp[mu,zB]
 |x::l,n,h=>by
  obtain⟨hn,hi,hm,hd⟩:=iz h;have hx:=hf.2.2.2.2.1 x hm;rw[mu,AZ F _ hx,by8,aH,show((n:Int)+1)=((n+1:Nat):Int) from rfl,vt F f hf k l (n+1) hd,hi,by8,Oj,zB];cases fd x.Name
  ·simp
  ·simp only[bv9,cj8,if_false,by8];cases sf x.N
   ·simp only[bv9,bw8,cj8,if_false];by_cases h0:0<n
    ·rw[if_pos (decide_eq_true (by omega)),lJ (d:=⟨[],0⟩) h0 (by omega) hf.2.2.2.2.2,by8,decide_eq_true h0];simp only[ah9,JT];cases (Op.bytesLess x.Name (f.Numbers.getD (n - 1) ⟨[],0⟩).Name||x.Name==(f.Numbers.getD (n - 1) ⟨[],0⟩).Name)<;>simp
    ·rw[if_neg (by simp;omega),decide_eq_false h0];simp
   ·simp
theorem Mu(F:Nat)(f:aZ)(hf:okTFact' f):Oq F f=some (vF f):=by
 unfold Oq vF;have h1:=fun k=>vu F f hf k f.Texts 0 rfl;have h2:=vt F f hf (some 0) f.Numbers 0 rfl;rw[show((0:Nat):Int)=0 from rfl] at h1 h2;rw[AZ F _ hf.1,AY F _ hf.2.1];simp only[aH,h1,h2,by8,show decide (((f.Texts.length:Nat):Int)>30)=decide (30<f.Texts.length) from decide_eq_decide.2 (by omega),show decide (((f.Numbers.length:Nat):Int)>30)=decide (30<f.Numbers.length) from decide_eq_decide.2 (by omega)];by_cases a1:fd f.Kind=true<;>by_cases a2:kc f.Subject=true<;>by_cases a3:30<f.Texts.length<;>by_cases a4:xU f.Texts f.Texts 0=0<;>by_cases a5:30<f.Numbers.length<;>by_cases a6:zB f.Numbers f.Numbers 0=0<;>simp[a1,a2,a3,a4,a5,a6]
theorem pQ(F:Nat)(f:aZ)(nm:B8)(k:Bool->B8->Option ab):∀(m n:Nat) (b:Bool) (s:B8),n+m=f.Texts.length->mj F f nm k m (n:Int) b s=k (fT nm (f.Texts.drop n) (b,s)).1 (fT nm (f.Texts.drop n) (b,s)).2
 |0,n,b,s,h=>by rw[mj,al8 (by omega),fT]
 |m+1,n,b,s,h=>by
  have hn:n<f.Texts.length:=by omega
  rw[mj,bQ hn,by8,aH,bu8 hn,fT];by_cases h0:(f.Texts[n].Name==nm)=true
  ·rw[if_pos h0,if_pos h0,by8];exact pQ F f nm k m (n+1) true _ (by omega)
  ·rw[if_neg h0,if_neg h0];exact pQ F f nm k m (n+1) b s (by omega)
theorem pP(F:Nat)(f:aZ)(nm:B8)(k:Bool->Int->Option ab):∀(m n:Nat) (b:Bool) (s:Int),n+m=f.Numbers.length->mi F f nm k m (n:Int) b s=k (fN nm (f.Numbers.drop n) (b,s)).1 (fN nm (f.Numbers.drop n) (b,s)).2
 |0,n,b,s,h=>by rw[mi,al8 (by omega),fN]
 |m+1,n,b,s,h=>by
  have hn:n<f.Numbers.length:=by omega
  rw[mi,bQ hn,by8,aH,bu8 hn,fN];by_cases h0:(f.Numbers[n].Name==nm)=true
  ·rw[if_pos h0,if_pos h0,by8];exact pP F f nm k m (n+1) true _ (by omega)
  ·rw[if_neg h0,if_neg h0];exact pP F f nm k m (n+1) b s (by omega)
theorem G7(F:Nat)(f:aZ)(nm:B8)(hf:okTFact' f):MJ F f nm=some (jJ f nm):=by
 have h1:=hf.2.2.2.1;have h2:=hf.2.2.2.2.2;rw[iy] at h1 h2;unfold MJ;simp only[aH];rw[if_pos (by omega),show(((f.Texts.length:Nat):Int)).toNat=f.Texts.length by omega,show(((f.Numbers.length:Nat):Int)).toNat=f.Numbers.length by omega];have e1:=fun k=>pQ F f nm k f.Texts.length 0 false [] (by omega);have e2:=fun k=>pP F f nm k f.Numbers.length 0 false 0 (by omega);simp only[show((0:Nat):Int)=0 from rfl,bt8] at e1 e2;rw[e1,if_pos (by omega),e2];rfl
end Go.Proofs.YtelmfadihfcgnaaGreatDoor
