/- Part of the proof. -/
import Derived.ProofKit
import Derived.OpenShut
import Derived.Test.YtelmfadihfcgnaaGreatDoorGD4M
set_option linter.unusedSimpArgs false
set_option linter.unusedVariables false
namespace Go.Pv
open Go Go.ChangeShapes Go.WideShapes
mutual
def eX{H:Type}:DataW H->Nat
 | .lit (.string bytes)=>bytes.length+1
 | .lit _=>1
 | .nil=>1
 | .ptr d=>eX d+1
 | .slice elems spare=>eZ elems+eZ spare+1
 | .agg parts=>eZ parts+1
 | .iface _ d=>eX d+1
 | .map entries=>yy entries+1
 | .held _=>1
def eZ{H:Type}:List (DataW H)->Nat
 |[]=>0
 |d::r=>eX d+eZ r
def yy{H:Type}:List (Lit×DataW H)->Nat
 |[]=>0
 |x::r=>Ik x+yy r
def Ik{H:Type}:Lit×DataW H->Nat
 |(.string bytes,d)=>bytes.length+eX d+1
 |(_,d)=>eX d+1
end
def jL(w:World):bA:=fun b=>w.heap[b]?
def dL(m:bA)(ds:List V)(cs:List Value):Prop:=
 ds.length=cs.length/\∀(i:Nat) (c:V) (v:Value),ds[i]? = some c->cs[i]? = some v->bT m c v
theorem dL.one{m:bA}{d:V}{c:Value}(h:bT m d c):dL m [d] [c]:=
 ⟨rfl,fun i d' c' hd hc=>by
  grind⟩
theorem dL.app{m:bA}{a b:List V}{x y:List Value}(h:dL m a x)(h':dL m b y):dL m (a++b) (x++y):=by
 refine⟨by simp[h.1,h'.1],fun i c v hc hv=>?_⟩;by_cases hi:i<a.length
 ·rw[as9 hi] at hc;rw[as9 (by rw[<-h.1];exact hi)] at hv;exact h.2 i c v hc hv
 ·rw[as8 (by omega)] at hc;rw[as8 (by rw[<-h.1];omega),<-h.1] at hv;exact h'.2 _ c v hc hv
section
variable{P:Program}{t e:TypeId}{α β:Type}
def Dv{H:Type}(P:Program)(t:TypeId)(d:DataW H):Prop:=(d.weights P t).all (·<=reachBytes)=true
def xp{H:Type}(P:Program)(ts:List TypeId)(ds:List (DataW H)):Prop:=(DataW.weightsEach P ts ds).all (·<=reachBytes)=true
theorem ms{H:Type}{P:Program}{t:TypeId}{ts:List TypeId}{d:DataW H}{ds:List (DataW H)}(h:xp P (t::ts) (d::ds)):Dv P t d/\xp P ts ds:=by
 simp_all[xp,Dv,DataW.weightsEach]
theorem J0{H:Type}{P:Program}{e:TypeId}:∀(l:List (DataW H)),(DataW.weightsAll P e l).all (·<=reachBytes)=true->∀d,d∈l->Dv P e d
 |[],_,d,hd=>by simp at hd
 |x::l,h,d,hd=>by
  rw[DataW.weightsAll,ce8,ap9] at h;rcases aq8.1 hd with rfl|hd
  ·exact h.1
  ·exact J0 l h.2 d hd
def dK(P:Program)(t:TypeId)(e:α->List V)(sz:α->Nat)(ok:α->Prop):Prop:=
 ∀{H:Type} (enc:TypeId×Value->H) (w:World) (fuel:Nat) (cs:List Value) (x:DataW H×List MemPlace),
  DataW.trod enc P w 0 (fun _=>true) true fuel t cs=some x->Dv P t x.1->∃a:α,dL (jL w) (e a) cs/\sz a<=eX x.1/\ok a
theorem ur{k:IntKind}(ht:P.underlying t=some (.int k)):dK P t (fun n:Int=>[V.con (.int k n)]) (fun _=>1) (fun n=>k.min<=n/\n<=k.max):=by
 intro H enc w fuel cs x h hw;obtain⟨n,rfl,rfl,hw'⟩:=DataW.trod_int ht h;simp only[Lit.wf,ap9,decide_eq_true_eq] at hw';exact⟨n,dL.one (.con _),by simp[eX],hw'⟩
theorem mZ(ht:P.underlying t=some .string):dK P t (fun s:B8=>[sV s]) (fun s=>s.length+1) (fun s=>s.length<=140737488351232):=by
 intro H enc w fuel cs x h hw;obtain⟨s,rfl,rfl,hs⟩:=DataW.trod_string ht h;refine⟨s.data.toList,dL.one ?_,by simp[eX],?_⟩
 ·have:str s.data.toList=.string s:=by simp[str]
  unfold sV;rw[this];exact .con _
 ·unfold Dv at hw;rw[DataW.weights,ag9,ap9] at hw;have:=of_decide_eq_true hw.1
  simp_all[reachBytes]
theorem vR{p:Nat->α->Prop}:∀{n:Nat},(∀i,i<n->∃a,p i a)->∃l:List α,l.length=n/\∀i a,l[i]? = some a->p i a
 |0,_=>⟨[],rfl,by simp⟩
 |n+1,h=>by
  obtain⟨l,hl,hp⟩:=vR (n:=n) fun i hi=>h i (by omega);obtain⟨a,ha⟩:=h n (by omega);refine⟨l++[a],by simp[hl],fun i b hb=>?_⟩;by_cases hi:i<l.length
  ·rw[as9 hi] at hb;exact hp i b hb
  ·rw[as8 (by omega)] at hb
   have:i - l.length=0:=by
    have:=(bb8.1 hb).1;simp at this;omega
   rw[this] at hb;simp at hb;subst hb;rw[show i=n by omega];exact ha
theorem lN{H:Type}{n:Nat}(D:Nat->DataW H):eZ ((List.range n).map D)=((List.range n).map fun i=>eX (D i)).sum:=by
 generalize List.range n=l
 induction l<;>simp_all[eZ]
theorem Em{l:List α}{sz:α->Nat}{g:Nat->Nat}(h:∀i a,l[i]? = some a->sz a<=g i):(l.map sz).sum<=((List.range l.length).map g).sum:=by
 induction l generalizing g with
 |nil=>simp
 |cons a l ih=>
  rw[bu8,List.range_succ_eq_map];simp only[bi8,List.sum_cons,List.map_map];have h0:=h 0 a rfl
  grind
theorem lv{k:Nat}{ee:α->List V}{sz:α->Nat}{ok:α->Prop}(ht:P.underlying t=some (.slice e))(hk:P.cellsOf e=k)(h0:0<k)(he:dK P e ee sz ok):
  dK P t (fun l:List α=>[V.lst k (l.map ee)]) (fun l=>(l.map sz).sum+1) (fun l=>(∀a,a∈l->ok a)/\l.length<=maxLen):=by
 intro H enc w fuel cs x h hw;rcases Deep.open_slice ht h with ⟨rfl,rfl⟩|⟨a,len,cap,m,n,D,Pl,rfl,_,hlc,hcm,hm,rfl,hel⟩
 ·exact⟨[],dL.one (.nil _ _ _),by simp[eX],by simp⟩
 ·simp only[if_true] at hm;subst hm
  obtain⟨l,hl,hp⟩:=vR (n:=len) (p:=fun i (b:α)=>sz b<=eX (D i)/\ok b/\∃cs',w.cells? 0 (a.add (i*P.cellsOf e)) (P.cellsOf e)=some cs'/\dL (jL w) (ee b) cs') (by
   intro i hi;obtain⟨cs',hc,hd⟩:=hel i (by omega)
   obtain⟨b,h1,h2,h3⟩:=he _ _ _ _ _ hd (by
    unfold Dv at hw;rw[DataW.weights] at hw;simp only[ht,ag9,ce8,ap9] at hw
    grind [J0])
   grind)
  refine⟨l,dL.one ?_,?_,fun b hb=>?_,by omega⟩
  ·by_cases hz:len=0
   ·subst hz;have:l=[]:=ax9.1 hl;subst this;exact .nil _ _ _
   ·have hcell:∀i j b,l[i]? = some b->j<k->∃v,w.cell? ((a.add (i*k)).add j)=some v/\(∃c,(ee b)[j]? = some c)/\∀c,(ee b)[j]? = some c->bT (jL w) c v:=by
     intro i j b hb hj;obtain⟨_,_,cs',hc,hr⟩:=hp i b hb;rw[hk] at hc;obtain⟨_,hn,hcs⟩:=World.cells?_some hc;have hj':j<cs'.length:=by omega
     have hv:cs'[j]? = some cs'[j]:=ax8 hj';have hj2:j<(ee b).length:=by rw[hr.1];exact hj'
     exact⟨cs'[j],(hcs j hj).trans hv,⟨(ee b)[j],ax8 hj2⟩,fun c hcc=>hr.2 j c _ hcc hv⟩
    have hlen:∀b,b∈l->(ee b).length=k:=by
     intro b hb;obtain⟨i,hi⟩:=ao9.1 hb;obtain⟨_,_,cs',hc,hr⟩:=hp i b hi;rw[hk] at hc;rw[hr.1,(World.cells?_some hc).2.1]
    have hb0:∃b,l[0]? = some b:=⟨l[0]'(by omega),ax8 _⟩;obtain⟨b0,hb0⟩:=hb0;obtain⟨v0,hv0,_⟩:=hcell 0 0 b0 hb0 h0;have hadd0:(a.add (0*k)).add 0=a:=by simp[Addr.add]
    rw[hadd0] at hv0;unfold World.cell? at hv0;split at hv0
    case h_2=>simp at hv0
    rename_i arr T fr hblk
    have hsp:a.spot=none:=by
     cases hs:a.spot with
     |none=>rfl
     |some s=>grind
    have ao:∀i j b,l[i]? = some b->j<k->∃v,arr[a.off+(i*k+j)]? = some v/\(∃c,(ee b)[j]? = some c)/\∀c,(ee b)[j]? = some c->bT (jL w) c v:=by
     intro i j b hb hj;obtain⟨v,hv,hc⟩:=hcell i j b hb hj;rw[Deep.add_add] at hv;unfold World.cell? at hv;have hbk:(a.add (i*k+j)).block=a.block:=by unfold Addr.add;grind
     have hso:(a.add (i*k+j)).spot=none:=by unfold Addr.add;grind
     have hof:(a.add (i*k+j)).off=a.off+(i*k+j):=by unfold Addr.add;grind
     rw[hbk,hblk] at hv;simp only[hso,hof] at hv;exact⟨v,by grind,hc⟩
    refine bT.lst (arr:=arr) (T:=T) (fr:=fr) (fun i=>(arr[a.off+i]?).getD undef) hblk hsp (by grind) hlc (by omega) ?_ ?_ ?_
    ·grind
    ·intro i hi;rw[bf8] at hi;have hq:i / k<l.length:=Nat.div_lt_of_lt_mul (by grind);obtain⟨v,hv,_⟩:=ao (i / k) (i % k) l[i / k] (ax8 hq) (an9 _ h0)<;>simp_all[an8,Nat.div_add_mod]
    grind
  ·simp only[eX];rw[lN];have:=Em (l:=l) (sz:=sz) (g:=fun i=>eX (D i)) fun i b hb=>(hp i b hb).1
   grind
  ·obtain⟨i,hi⟩:=ao9.1 hb<;>grind
def xg(P:Program)(N:Nat)(fs:List (TypeId×Nat×Nat))(off:Nat)(e:α->List V)(sz:α->Nat)(ok:α->Prop):Prop:=
 ∀{H:Type} (enc:TypeId×Value->H) (w:World) (n:Nat) (cs:List Value) (xs:List (DataW H×List MemPlace)),cs.length=N->xs.length=fs.length->
  (∀(i:Nat) (f:TypeId×Nat×Nat),fs[i]? = some f->DataW.trod enc P w 0 (fun _=>true) true n f.1 ((cs.drop f.2.1).take f.2.2)=xs[i]?)->
  xp P (fs.map (·.1)) (xs.map (·.1))->∃a:α,dL (jL w) (e a) (cs.drop off)/\sz a<=eZ (xs.map (·.1))/\ok a
theorem nB{N:Nat}:xg P N [] N (fun _:Unit=>[]) (fun _=>0) (fun _=>True):=by
 intro H enc w n cs xs hN hx _ _;refine⟨(),?_,by simp,trivial⟩;rw[<-hN];simp[dL]
theorem dJ{N k off:Nat}{ft:TypeId}{fs:List (TypeId×Nat×Nat)}{ea:α->List V}{eb:β->List V}{sa:α->Nat}{sb:β->Nat}{oa:α->Prop}{ob:β->Prop}
  (h:dK P ft ea sa oa) (hr:xg P N fs (off+k) eb sb ob):xg P N ((ft,off,k)::fs) off (fun p:α×β=>ea p.1++eb p.2) (fun p=>sa p.1+sb p.2) (fun p=>oa p.1/\ob p.2):=by
 intro H enc w n cs xs hN hx hf hw
 match xs,hx with
 |x::xs,hx=>
  have h1:=hf 0 _ rfl;simp only[bk8] at h1;have hw':=ms hw;obtain⟨a,ha,hs,ho⟩:=h enc w n _ x h1 hw'.1
  have hb':=hr enc w n cs xs hN (by simpa using hx) fun i f hi=>by
   have:=hf (i+1) f (by simpa using hi)
   simpa using this
  obtain⟨b,hb,hs',ho'⟩:=hb' hw'.2;refine⟨(a,b),?_,by simp only[bi8,eZ];omega,ho,ho'⟩;have:=ha.app hb;rw[show(cs.drop off).take k++cs.drop (off+k)=cs.drop off by rw[<-ce9];exact cf9 _ _] at this;exact this
def fieldsOf(P:Program)(t:TypeId):Option (List (TypeId×Nat×Nat)):=
 match P.underlying t with
 |some (.struct fs)=>some (fs.toList.map fun f=>(f.type,f.offset,P.cellsOf f.type))
 |_=>none
theorem j5{N:Nat}{fs:List (TypeId×Nat×Nat)}{e:α->List V}{sz:α->Nat}{ok:α->Prop}(ht:fieldsOf P t=some fs)(hN:P.cellsOf t=N)(h:xg P N fs 0 e sz ok):
  dK P t e (fun a=>sz a+1) ok:=by
 intro H enc w fuel cs x hx hw;unfold fieldsOf at ht;split at ht
 case h_2=>simp at ht
 rename_i gs hu;simp only[av8] at ht;subst ht;obtain⟨xs,n,_,rfl,hl,hxl,hf⟩:=DataW.trod_struct hu hx
 have ha':=h enc w n cs xs (hl.trans hN) (by simpa using hxl) fun i f hi=>by
  rw[ay9,ad8] at hi;obtain⟨g,hg,rfl⟩:=hi;exact hf i g (by simpa using hg)
 obtain⟨a,h1,h2,h3⟩:=ha' (by
  unfold Dv at hw;rw[DataW.weights] at hw;simp only[hu] at hw;unfold xp;rw[List.map_map];exact hw)
 exact⟨a,by simpa using h1,by simp only[eX];omega,h3⟩
theorem pg{ea:α->List V}{eb:β->List V}{sa:α->Nat}{sb:β->Nat}{oa:α->Prop}{ob:β->Prop}(h:dK P t ea sa oa)(g:α->β)
  (he:∀a,eb (g a)=ea a) (hs:∀a,sb (g a)=sa a) (ho:∀a,oa a->ob (g a)):dK P t eb sb ob:=by
 intro H enc w fuel cs x hx hw;obtain⟨a,h1,h2,h3⟩:=h enc w fuel cs x hx hw;exact⟨g a,by rw[he];exact h1,by rw[hs];exact h2,ho a h3⟩
def AB(P:Program)(t:TypeId)(e:α->V)(sz:α->Nat)(ok:α->Prop):Prop:=
 ∀{H:Type} (enc:TypeId×Value->H) (w:World) (base:Nat) (v:Value) (d:DataW H) (p:List MemPlace),
  Value.okWide P w .any base t v->DataW.Trod enc P w 0 (fun _=>true) true t v d p->Dv P t d->∃a:α,bT (jL w) (e a) v/\sz a<=eX d/\ok a
theorem rO{fs:List (TypeId×Nat×Nat)}{e:α->List V}{sz:α->Nat}{ok:α->Prop}(ht:fieldsOf P t=some fs)(h:dK P t e sz ok):AB P t (fun a=>.agg (e a)) sz ok:=by
 intro H enc w base v d p hv ⟨n,hd⟩ hw;unfold fieldsOf at ht;split at ht
 case h_2=>simp at ht
 rename_i gs hu;obtain⟨cs,rfl,_⟩:=okWide_struct hu hv;obtain⟨a,h1,h2,h3⟩:=h enc w n _ _ hd hw;exact⟨a,.agg (by simpa[Value.cells] using h1.1) (fun i c v' hc hv'=>h1.2 i c v' hc (by simp_all[Value.cells])),h2,h3⟩
theorem Ce{w w':World}(h:∀b,b<w.heap.size->w'.heap[b]? = w.heap[b]?){p:MemPlace}(hp:p.block<w.heap.size):w.sameAt w' p:=by
 cases p with
 |cell b o=>simp only[World.sameAt,World.cell?];rw[h b hp]
 |map b=>exact h b hp
theorem mY{H:Type}{enc:TypeId×Value->H}(hl:laidOutB P=true){w w':World}{sp:Nat->Bool}(hh:∀b,b<w.heap.size->w'.heap[b]? = w.heap[b]?)
  (hs:∀b,b<w.heap.size->sp b=true):∀{ts:List TypeId} {vs:List Value} {ds:List (DataW H)} {ps:List MemPlace},
  (ts.all fun t=>P.readableRec t&&decide (t<P.types.size))=true->DataW.TrodAll enc P w 0 (fun _=>true) true ts vs ds ps->(∀p∈ps,p.block<w.heap.size)->DataW.TrodAll enc P w' 0 sp true ts vs ds ps
 |[],[],[],_,_,h,_=>h
 |t::ts,v::vs,d::ds,_,hr,⟨p,q,h1,h2,e⟩,hlt=>by
  subst e;simp only[ag9,ap9,decide_eq_true_eq] at hr
  exact⟨p,q,WideElems.Trod_stays hl hr.1.1 hr.1.2 h1 (fun x hx=>Ce hh (hlt x (cf8 _ hx))) (fun x hx=>hs _ (hlt x (cf8 _ hx))),
   mY hl hh hs (by grind) h2 (fun x hx=>hlt x (List.mem_append_right _ hx)),rfl⟩
theorem HW{w w':World}(hs:py w w')(hh:∀b,b<w.heap.size->w'.heap[b]? = w.heap[b]?)(may:MemPlace->Prop):w.keptBut w' may:=by
 refine⟨hs.os,hs.output,fun i hi=>?_⟩
 grind
theorem Fw{H:Type}{enc:TypeId×Value->H}{f:Func}{s:ChangeSpec}{apart fresh handsOn:Bool}{w w':World}{args:Array Value}{v:Value}{ds gs:List (DataW H)}{before:List MemPlace}{m m':bA}{tb:TypeId}
  (hl:laidOutB P=true) (hts:(f.params.toList.all fun t=>P.readableRec t&&decide (t<P.types.size))=true) (hv:s.vars=[]) (hfn:∀gs',gs'=[]->s.fn H (ds++gs')={ results:=[.lit (.bool true)],args:=ds })
  (hres:f.resultTypes=#[tb]) (hb:P.underlying tb=some .bool) (hW:DataW.Whole enc P f.params.toList s.vars apart w args.toList ds gs before) (h:bT m' (bV true) v) (hg:tZ m m' w w'):
  s.post enc P f apart fresh handsOn false w args v w':=by
 have hW0:=hW;obtain⟨p,q,hA,hV,rfl,hfz,hnd⟩:=hW0;cases h;rw[hv] at hV;cases gs with
 |cons _ _=>simp[DataW.TrodVars] at hV
 |nil=>
 have hq:q=[]:=hV;subst hq;refine⟨ds,[],p++[],[],p,[],hW,?_,?_,?_,HW hg.same hg.heap _,fun h=>by simp at h⟩
 ·rw[hfn _ rfl,hres];exact trodAll_cons_mk (RowKit.shut_bool hb _) trodAll_mk0
 ·rw[hfn _ rfl];exact mY hl hg.heap (fun b hb=>by grind) hts hA (DataW.TrodAll.lt hA)
 ·rw[hv,hfn _ rfl];rfl
theorem Gt{H:Type}{enc:TypeId×Value->H}{w:World}{args:Array Value}{f:Func}{s:ChangeSpec}{apart:Bool}{ds gs:List (DataW H)}{before:List MemPlace}
  (hW:DataW.Whole enc P f.params.toList s.vars apart w args.toList ds gs before):∃p,DataW.TrodAll enc P w 0 (fun _=>true) true f.params.toList args.toList ds p:=by
 obtain⟨p,q,hA,_⟩:=hW<;>grind
end
def Al(P:Program)(f:FuncId)(fn:Func)(s:ChangeSpec)(c:OpenClaim):Bool:=
 c.wf (OpenSpec.ofChange s)&&laidOutB P&&mapsRowed P &&
 fn.params.all (P.readableRec ·)&&namedTie P c.named s.vars &&
 (c.stops==[])&&(P.stops==[])&&(c.knobs==[])&&(P.stopKnobs==[]) &&
 (c.inPlace==P.inPlace f)&&(c.unfollowed==P.unfollowed f)&&(c.recurses==P.recurses f)&&(c.named==P.varsNamed f) &&
 (c.maps==(fn.params.toList++s.plain.varTypes P).any (P.mapsRec ·))&&(c.ifaces==(fn.params.toList++s.plain.varTypes P).any (P.ifacesRec ·))&&(c.mapsOut==P.mapsAmong fn.resultTypes.toList) &&
 (c.loops==(fn.params.toList++s.plain.varTypes P).any (P.loopsFrom ·))&&(c.wideKeys==(fn.params.toList++s.plain.varTypes P++fn.resultTypes.toList).any (P.wideKeysFrom ·)) &&
 s.vars.all (P.varReadable ·)&&fn.resultTypes.all (fun t=>P.readableRec t&&decide (t<P.types.size))&&(c.ifacesOut==fn.resultTypes.toList.any (P.ifacesRec ·))&&(c.loopsOut==fn.resultTypes.toList.any (P.loopsFrom ·))&&(c.plainKeys==P.plainKeys)&&c.shortTexts.isNone&&P.stopsHeard
def Ak(P:Program)(c:OpenClaim):Bool:=P.mayEnter&&(c.lifted==P.liftsFinal)&&(P.make==some c.make)
def Aj(P:Program)(fn:Func)(s:ChangeSpec)(c:OpenClaim):Bool:=
 (c.kinds==(if c.domain.isEmpty then [] else fn.params.toList.map fun t=>match P.underlying t with|some (.int k)=>some k|_=>none))&&(c.pinned==c.pinnedBy) &&
 (c.veiled==(fn.params.toList++s.plain.varTypes P++fn.resultTypes.toList).any (P.veiledRec ·))&&c.veiledFits P fn.params.toList (fn.params.toList++s.plain.varTypes P++fn.resultTypes.toList)
theorem Ai{P:Program}{f:FuncId}{fn:Func}{s:ChangeSpec}{c:OpenClaim}(h1:Al P f fn s c=true)(h2:Ak P c=true)(h3:Aj P fn s c=true):joinedFacts P f fn s c=true:=by
 unfold Al at h1;unfold Ak at h2;unfold Aj at h3
 have e:∀a b c d b1 b2 b3 c1 c2 c3:Bool,a=true->(b1&&b2&&b3)=true->(b&&c&&d&&c1)=true->(a&&b1&&b2&&b3&&b&&c&&d&&c1)=true:=by
  intro a b c d b1 b2 b3 c1 c2 c3 h h' h'';simp only[ap9] at *
  simp_all
 exact e _ _ _ _ _ _ _ _ true true h1 h2 h3
section
variable{P:Program}{t e:TypeId}{α β:Type}
def iQ(b:Nat)(P:Program)(t:TypeId)(e:α->List V)(sz:α->Nat)(ok:α->Prop):Prop:=
 ∀{H:Type} (enc:TypeId×Value->H) (w:World) (fuel:Nat) (cs:List Value) (x:DataW H×List MemPlace),
  DataW.trod enc P w 0 (fun _=>true) true fuel t cs=some x->Dv P t x.1->eX x.1<=b->∃a:α,dL (jL w) (e a) cs/\sz a<=eX x.1/\ok a
theorem dK.at{ee:α->List V}{sz:α->Nat}{ok:α->Prop}(h:dK P t ee sz ok)(b:Nat):iQ b P t ee sz ok:=fun enc w fuel cs x ht hw _=>h enc w fuel cs x ht hw
theorem iQ.mono{b b':Nat}{ee:α->List V}{sz:α->Nat}{ok:α->Prop}(h:iQ b P t ee sz ok)(hb:b'<=b):iQ b' P t ee sz ok:=fun enc w fuel cs x ht hw hl=>h enc w fuel cs x ht hw (bt8 hl hb)
theorem Gg{H:Type}(d:DataW H):0<eX d:=by
 cases d with
 |lit l=>cases l<;>simp[eX]
 |_=>simp[eX]
theorem xL{ee:α->List V}{sz:α->Nat}{ok:α->Prop}:iQ 0 P t ee sz ok:=fun enc w fuel cs x ht hw hl=>absurd hl (by grind [Gg])
theorem Gh{H:Type}{n i:Nat}(D:Nat->DataW H)(hi:i<n):eX (D i)<=((List.range n).map fun i=>eX (D i)).sum:=by
 have:eX (D i)∈(List.range n).map fun i=>eX (D i):=bc9.2 ⟨i,cj8.2 hi,rfl⟩;generalize (List.range n).map (fun i=>eX (D i))=l at this
 induction l<;>grind
theorem vI{b k:Nat}{ee:α->List V}{sz:α->Nat}{ok:α->Prop}(ht:P.underlying t=some (.slice e))(hk:P.cellsOf e=k)(h0:0<k)(he:iQ b P e ee sz ok):
  iQ (b+1) P t (fun l:List α=>[V.lst k (l.map ee)]) (fun l=>(l.map sz).sum+1) (fun l=>(∀a,a∈l->ok a)/\l.length<=maxLen):=by
 intro H enc w fuel cs x h hw hlt;rcases Deep.open_slice ht h with ⟨rfl,rfl⟩|⟨a,len,cap,m,n,D,Pl,rfl,_,hlc,hcm,hm,rfl,hel⟩
 ·exact⟨[],dL.one (.nil _ _ _),by simp[eX],by simp⟩
 ·simp only[if_true] at hm;subst hm
  obtain⟨l,hl,hp⟩:=vR (n:=len) (p:=fun i (b:α)=>sz b<=eX (D i)/\ok b/\∃cs',w.cells? 0 (a.add (i*P.cellsOf e)) (P.cellsOf e)=some cs'/\dL (jL w) (ee b) cs') (by
   intro i hi;obtain⟨cs',hc,hd⟩:=hel i (by omega)
   obtain⟨b,h1,h2,h3⟩:=he _ _ _ _ _ hd (by
    unfold Dv at hw;rw[DataW.weights] at hw;simp only[ht,ag9,ce8,ap9] at hw
    grind [J0]) (by
    simp only[eX] at hlt;rw[lN] at hlt;have:=Gh D hi;grind)
   grind)
  refine⟨l,dL.one ?_,?_,fun b hb=>?_,by omega⟩
  ·by_cases hz:len=0
   ·subst hz;have:l=[]:=ax9.1 hl;subst this;exact .nil _ _ _
   ·have hcell:∀i j b,l[i]? = some b->j<k->∃v,w.cell? ((a.add (i*k)).add j)=some v/\(∃c,(ee b)[j]? = some c)/\∀c,(ee b)[j]? = some c->bT (jL w) c v:=by
     intro i j b hb hj;obtain⟨_,_,cs',hc,hr⟩:=hp i b hb;rw[hk] at hc;obtain⟨_,hn,hcs⟩:=World.cells?_some hc;have hj':j<cs'.length:=by omega
     have hv:cs'[j]? = some cs'[j]:=ax8 hj';have hj2:j<(ee b).length:=by rw[hr.1];exact hj'
     exact⟨cs'[j],(hcs j hj).trans hv,⟨(ee b)[j],ax8 hj2⟩,fun c hcc=>hr.2 j c _ hcc hv⟩
    have hlen:∀b,b∈l->(ee b).length=k:=by
     intro b hb;obtain⟨i,hi⟩:=ao9.1 hb;obtain⟨_,_,cs',hc,hr⟩:=hp i b hi;rw[hk] at hc;rw[hr.1,(World.cells?_some hc).2.1]
    have hb0:∃b,l[0]? = some b:=⟨l[0]'(by omega),ax8 _⟩;obtain⟨b0,hb0⟩:=hb0;obtain⟨v0,hv0,_⟩:=hcell 0 0 b0 hb0 h0;have hadd0:(a.add (0*k)).add 0=a:=by simp[Addr.add]
    rw[hadd0] at hv0;unfold World.cell? at hv0;split at hv0
    case h_2=>simp at hv0
    rename_i arr T fr hblk
    have hsp:a.spot=none:=by
     cases hs:a.spot with
     |none=>rfl
     |some s=>grind
    have ao:∀i j b,l[i]? = some b->j<k->∃v,arr[a.off+(i*k+j)]? = some v/\(∃c,(ee b)[j]? = some c)/\∀c,(ee b)[j]? = some c->bT (jL w) c v:=by
     intro i j b hb hj;obtain⟨v,hv,hc⟩:=hcell i j b hb hj;rw[Deep.add_add] at hv;unfold World.cell? at hv;have hbk:(a.add (i*k+j)).block=a.block:=by unfold Addr.add;grind
     have hso:(a.add (i*k+j)).spot=none:=by unfold Addr.add;grind
     have hof:(a.add (i*k+j)).off=a.off+(i*k+j):=by unfold Addr.add;grind
     rw[hbk,hblk] at hv;simp only[hso,hof] at hv;exact⟨v,by grind,hc⟩
    refine bT.lst (arr:=arr) (T:=T) (fr:=fr) (fun i=>(arr[a.off+i]?).getD undef) hblk hsp (by grind) hlc (by omega) ?_ ?_ ?_
    ·grind
    ·intro i hi;rw[bf8] at hi;have hq:i / k<l.length:=Nat.div_lt_of_lt_mul (by grind);obtain⟨v,hv,_⟩:=ao (i / k) (i % k) l[i / k] (ax8 hq) (an9 _ h0)<;>simp_all[an8,Nat.div_add_mod]
    grind
  ·simp only[eX];rw[lN];have:=Em (l:=l) (sz:=sz) (g:=fun i=>eX (D i)) fun i b hb=>(hp i b hb).1
   grind
  ·obtain⟨i,hi⟩:=ao9.1 hb<;>grind
def rl(b0:Nat)(P:Program)(N:Nat)(fs:List (TypeId×Nat×Nat))(off:Nat)(e:α->List V)(sz:α->Nat)(ok:α->Prop):Prop:=
 ∀{H:Type} (enc:TypeId×Value->H) (w:World) (n:Nat) (cs:List Value) (xs:List (DataW H×List MemPlace)),cs.length=N->xs.length=fs.length->
  (∀(i:Nat) (f:TypeId×Nat×Nat),fs[i]? = some f->DataW.trod enc P w 0 (fun _=>true) true n f.1 ((cs.drop f.2.1).take f.2.2)=xs[i]?)->
  xp P (fs.map (·.1)) (xs.map (·.1))->eZ (xs.map (·.1))<=b0->∃a:α,dL (jL w) (e a) (cs.drop off)/\sz a<=eZ (xs.map (·.1))/\ok a
theorem yo{b0 N:Nat}:rl b0 P N [] N (fun _:Unit=>[]) (fun _=>0) (fun _=>True):=by
 intro H enc w n cs xs hN hx _ _ _
 simp_all[dL]
theorem eF{b0 N k off:Nat}{ft:TypeId}{fs:List (TypeId×Nat×Nat)}{ea:α->List V}{eb:β->List V}{sa:α->Nat}{sb:β->Nat}{oa:α->Prop}{ob:β->Prop}
  (h:iQ b0 P ft ea sa oa) (hr:rl b0 P N fs (off+k) eb sb ob):rl b0 P N ((ft,off,k)::fs) off (fun p:α×β=>ea p.1++eb p.2) (fun p=>sa p.1+sb p.2) (fun p=>oa p.1/\ob p.2):=by
 intro H enc w n cs xs hN hx hf hw hb0
 match xs,hx with
 |x::xs,hx=>
  have h1:=hf 0 _ rfl;simp only[bk8] at h1;have hw':=ms hw;simp only[bi8,eZ] at hb0;obtain⟨a,ha,hs,ho⟩:=h enc w n _ x h1 hw'.1 (by omega)
  have hb':=hr enc w n cs xs hN (by grind) fun i f hi=>by
   have:=hf (i+1) f (by grind)
   grind
  obtain⟨b,hb,hs',ho'⟩:=hb' hw'.2 (by omega);refine⟨(a,b),?_,by grind [eZ],ho,ho'⟩;have:=ha.app hb
  grind [List.drop_drop,List.take_append_drop]
theorem tI{b0 N:Nat}{fs:List (TypeId×Nat×Nat)}{e:α->List V}{sz:α->Nat}{ok:α->Prop}(ht:fieldsOf P t=some fs)(hN:P.cellsOf t=N)(h:rl b0 P N fs 0 e sz ok):
  iQ (b0+1) P t e (fun a=>sz a+1) ok:=by
 intro H enc w fuel cs x hx hw hlt;unfold fieldsOf at ht;split at ht
 case h_2=>simp at ht
 rename_i gs hu;simp only[av8] at ht;subst ht;obtain⟨xs,n,_,rfl,hl,hxl,hf⟩:=DataW.trod_struct hu hx
 have ha':=h enc w n cs xs (hl.trans hN) (by grind) fun i f hi=>by
  grind
 obtain⟨a,h1,h2,h3⟩:=ha' (by
  unfold Dv at hw;rw[DataW.weights] at hw;simp only[hu] at hw;unfold xp;rw[List.map_map];exact hw) (by simp_all[eX])
 grind [eX]
end
end Go.Pv
namespace Go.Pv
open Go
theorem cm{n:Int}(h : -9223372036854775808<=n)(h':n<=9223372036854775807):bh n=n:=by
 have:bh n=if n % 18446744073709551616>=9223372036854775808 then n % 18446744073709551616 - 18446744073709551616 else n % 18446744073709551616:=by
  simp[bh,IntKind.wrap,IntKind.signed,IntKind.bits]
 grind
theorem aF{α β:Type}(k:α)(b:α->β):jn k b=b k:=rfl
theorem bF{α:Type}{xs:List α}{j:Nat}(h:j<xs.length):cn xs (j:Int)=some xs[j]:=by
 simp[cn,h]
theorem cL{α β:Type}[DecidableEq α](xs:List (α×β))(k k':α)(v:β):aH (bI xs k v) k'=if k=k' then some v else aH xs k':=by
 induction xs with
 |nil=>simp[bI,aH]
 |cons p r ih=>
  simp only[bI];split
  ·simp_all[aH]
  ·rename_i h;simp only[aH]
   grind
theorem qX(x:UInt8)(a:B8)(y:UInt8)(b:B8):Op.bytesLess (x::a) (y::b)=(decide (x<y)||(x==y&&Op.bytesLess a b)):=by
 rw[Op.bytesLess]
theorem mK:∀a:B8,Op.bytesLess a a=false
 |[]=>by simp[Op.bytesLess]
 |x::a=>by rw[qX,mK a];simp
theorem jS:∀{a b c:B8},Op.bytesLess a b=true->Op.bytesLess b c=true->Op.bytesLess a c=true
 |[],[],_,h,_=>by grind
 |[],y::b,[],_,h=>by simp[Op.bytesLess] at h
 |[],y::b,z::c,_,_=>by simp[Op.bytesLess]
 |x::a,[],_,h,_=>by simp[Op.bytesLess] at h
 |x::a,y::b,[],_,h=>by simp[Op.bytesLess] at h
 |x::a,y::b,z::c,h,g=>by
  rw[qX] at *;simp only[aq9,decide_eq_true_eq,ap9,beq_iff_eq,UInt8.lt_iff_toNat_lt] at *;rcases h with h|⟨rfl,h⟩<;>rcases g with g|⟨rfl,g⟩
  ·exact .inl (by omega)
  ·exact .inl h
  ·exact .inl g
  ·exact .inr ⟨Y,jS h g⟩
theorem wy:∀a b:B8,Op.bytesLess a b=true\/a=b\/Op.bytesLess b a=true
 |[],[]=>by simp
 |[],y::b=>by simp[Op.bytesLess]
 |x::a,[]=>by simp[Op.bytesLess]
 |x::a,y::b=>by
  rw[qX,qX];simp only[aq9,decide_eq_true_eq,ap9,beq_iff_eq,UInt8.lt_iff_toNat_lt,by9];rcases Nat.lt_trichotomy x.toNat y.toNat with h|h|h
  ·grind
  ·have:=UInt8.toNat_inj.1 h
   simp_all[wy]
  grind
theorem yz{a b:B8}(h:Op.bytesLess a b=true):Op.bytesLess b a=false:=by
 grind [jS,mK]
theorem uU{a b:B8}(h:Op.bytesLess a b=true):a≠b:=by grind [mK]
theorem HZ{α:Type}{g:List α->Int->Option Int}{k:Option Int}(p:α->Bool)(h0:∀n,g [] n=k)(h1:∀x l n,g (x::l) n=if p x=true then some n else g l (n+1)):
  ∀l (n:Nat),g l n=if l.any p=true then some ((n+l.findIdx p:Nat):Int) else k
 |[],n=>by simp[h0]
 |x::l,n=>by
  have e:((n:Int)+1)=((n+1:Nat):Int):=rfl;rw[h1,e,HZ p h0 h1 l (n+1)]
  grind
theorem ww{β:Type}{g:Nat->Int->Option β}{k:Option β}{f:β}(s:B8)(p:UInt8->Bool)(h0:∀n,g 0 n=k)
  (h1:∀m n,g (m+1) n=(cn s n).bind fun c=>if p c=true then g m (n+1) else some f):
  ∀(m n:Nat),n+m=s.length->g m n=if (s.drop n).all p=true then k else some f
 |0,n,h=>by grind
 |m+1,n,h=>by
  have hn:n<s.length:=by omega
  have e:((n:Int)+1)=((n+1:Nat):Int):=rfl;rw[h1,bF hn,bw9,e,ww s p h0 h1 m (n+1) (by omega),br8 hn,ag9]
  grind
end Go.Pv
namespace Go.Proofs.YtelmfadihfcgnaaGreatDoor
open Go Go.Pv
set_option maxRecDepth 100000
inductive Tr where
 |mk (Kind:Int) (Name:B8) (Texts:List B8) (Op N:Int) (Kids:List Tr)
noncomputable section
mutual
def Tr.toT:Tr->aC
 | .mk a b c d e ks=>⟨a,b,c,d,e,Tr.toKs ks⟩
def Tr.toKs:List Tr->List aM
 |[]=>[]
 |t::r=>⟨ah t.toT,cv _,gS _⟩::Tr.toKs r
end
def MF(n:Int):Prop:=(IntKind.i64).min<=n/\n<=(IntKind.i64).max
def uu(s:B8):Prop:=s.length<=140737488351232
mutual
def Tr.ok:Tr->Prop
 | .mk a b c d e ks=>MF a/\uu b/\((∀s,s∈c->uu s)/\c.length<=maxLen)/\MF d/\MF e/\Tr.oks ks/\ks.length<=maxLen
def Tr.oks:List Tr->Prop
 |[]=>True
 |t::r=>t.ok/\Tr.oks r
end
end
theorem Tr.toKs_row:∀ks:List Tr,(Tr.toKs ks).map aM.row=ks.map fun t=>ah t.toT
 |[]=>by simp[Tr.toKs]
 |t::r=>by simp[Tr.toKs,Tr.toKs_row r]
theorem Tr.oks_of:∀ks:List Tr,(∀t,t∈ks->t.ok)->Tr.oks ks
 |[],_=>by simp[Tr.oks]
 |t::r,h=>by rw[Tr.oks];exact⟨h t (by simp),Tr.oks_of r fun u hu=>h u (by simp[hu])⟩
theorem Tr.toKs_len:∀ks:List Tr,(Tr.toKs ks).length=ks.length
 |[]=>by simp[Tr.toKs]
 |t::r=>by simp[Tr.toKs,Tr.toKs_len r]
theorem KC{a b:B8}(h:sV a=sV b):a=b:=by
 grind
theorem F2{a b:B8}(h:ap a=ap b):a=b:=KC (by grind [ap])
theorem rW{a b:List B8}(h:a.map ap=b.map ap):a=b:=List.map_inj_right (fun x y h=>F2 h) |>.1 h
theorem Fp{a b:List aM}(h:a.map aM.row=b.map aM.row):a=b:=List.map_inj_right (fun x y h=>aM.ext' h) |>.1 h
theorem oz(a b:aC)(h:ah a=ah b):a=b:=by
 obtain⟨a1,a2,a3,a4,a5,a6⟩:=a;obtain⟨b1,b2,b3,b4,b5,b6⟩:=b;simp only[ah,by9,and_true] at h
 grind [rW,Fp]
theorem Fz(t:Tr):dD ah ⟨ah t.toT,cv _,gS _⟩=some t.toT:=Bx oz rfl
def Ba(x:aC):Nat:=0
def vL(x:aC):Prop:=∃t:Tr,x=t.toT/\t.ok
theorem ut:∀b,iQ b Tryz.prog 25 (fun t:Tr=>ah t.toT) (fun _=>0) Tr.ok
 |0=>xL
 |b+1=>by
  have hi:dK Tryz.prog 3 (fun x=>[V.con (.int .i64 x)]) (fun _=>1) (fun x:Int=>(IntKind.i64).min<=x/\x<=(IntKind.i64).max):=ur (show Tryz.prog.underlying 3=some (.int .i64) by kernel_rfl);have hs:dK Tryz.prog 9 (fun x=>[sV x]) (fun s=>s.length+1) (fun s=>s.length<=140737488351232):=mZ (show Tryz.prog.underlying 9=some (.string) by kernel_rfl);intro enc w fuel cs x hx hw hl
  obtain⟨a,h1,h2,h3⟩:=tI (P:=Tryz.prog) (t:=25) (b0:=b) (fs:=[(3,0,1),(9,1,1),(22,2,1),(3,3,1),(3,4,1),(23,5,1)]) (by kernel_rfl) (by kernel_rfl)
   (eF (dK.at hi b) (eF (dK.at hs b) (eF (dK.at (lv (k:=1) (t:=22) (e:=9) (by kernel_rfl) (by kernel_rfl) (by decide) hs) b) (eF (dK.at hi b) (eF (dK.at hi b)
    (eF (iQ.mono (vI (k:=6) (t:=23) (e:=25) (by kernel_rfl) (by kernel_rfl) (by decide) (ut b)) (ak8 b)) yo)))))) enc w fuel cs x hx hw hl
  refine⟨Tr.mk a.1 a.2.1 a.2.2.1 a.2.2.2.1 a.2.2.2.2.1 a.2.2.2.2.2.1,?_,ai9 _,?_⟩
  ·simp only[Tr.toT,ah,Tr.toKs_row];exact h1
  ·simp only[Tr.ok];exact⟨h3.1,h3.2.1,h3.2.2.1,h3.2.2.2.1,h3.2.2.2.2.1,Tr.oks_of _ h3.2.2.2.2.2.1.1,h3.2.2.2.2.2.1.2⟩
theorem EO:dK Tryz.prog 25 ah Ba vL:=by
 intro H enc w fuel cs x hx hw;obtain⟨t,h1,h2,h3⟩:=ut _ enc w fuel cs x hx hw (ae9 _);exact⟨t.toT,h1,ai9 _,t,Y,h3⟩
theorem Cm:AB Tryz.prog 25 (fun x=>V.agg (ah x)) Ba vL:=rO (fs:=[(3,0,1),(9,1,1),(22,2,1),(3,3,1),(3,4,1),(23,5,1)]) (by kernel_rfl) EO
end Go.Proofs.YtelmfadihfcgnaaGreatDoor
namespace Go.Proofs.YtelmfadihfcgnaaGreatDoor
open Go Go.Pv
set_option maxRecDepth 100000
theorem ol:dK Tryz.prog 9 (fun x=>[sV x]) (fun x:B8=>(x.length+1)) (fun x:B8=>(x.length<=140737488351232)):=mZ (show Tryz.prog.underlying 9=some (.string) by kernel_rfl)
def vC(x:dB):Nat:=(x.Name.length+1)+((x.Value.length+1)+0)+1
def vM(x:dB):Prop:=(x.Name.length<=140737488351232)/\((x.Value.length<=140737488351232)/\True)
theorem EH:dK Tryz.prog 39 eV vC vM:=pg (j5 (fs:=[(9,0,1),(9,1,1)]) (by kernel_rfl) (by kernel_rfl) (dJ ol (dJ ol nB))) (fun p=>dB.mk p.1 p.2.1) (fun _=>rfl) (fun _=>rfl) (fun _ h=>h)
theorem EN:dK Tryz.prog 26 (fun l=>[V.lst 2 (l.map eV)]) (fun x:(List dB)=>((x.map (fun x:dB=>(vC x))).sum+1)) (fun x:(List dB)=>((∀a,a∈x->(fun x:dB=>(vM x)) a)/\x.length<=maxLen)):=lv (show Tryz.prog.underlying 26=some (.slice 39) by kernel_rfl) (by kernel_rfl) (by decide) EH
theorem HJ:dK Tryz.prog 3 (fun x=>[V.con (.int .i64 x)]) (fun x:Int=>1) (fun x:Int=>((IntKind.i64).min<=x/\x<=(IntKind.i64).max)):=ur (show Tryz.prog.underlying 3=some (.int .i64) by kernel_rfl)
def pb(x:cp):Nat:=(x.Name.length+1)+(1+0)+1
def ph(x:cp):Prop:=(x.Name.length<=140737488351232)/\(((IntKind.i64).min<=x.N/\x.N<=(IntKind.i64).max)/\True)
theorem EG:dK Tryz.prog 41 du pb ph:=pg (j5 (fs:=[(9,0,1),(3,1,1)]) (by kernel_rfl) (by kernel_rfl) (dJ ol (dJ HJ nB))) (fun p=>cp.mk p.1 p.2.1) (fun _=>rfl) (fun _=>rfl) (fun _ h=>h)
theorem EL:dK Tryz.prog 27 (fun l=>[V.lst 2 (l.map du)]) (fun x:(List cp)=>((x.map (fun x:cp=>(pb x))).sum+1)) (fun x:(List cp)=>((∀a,a∈x->(fun x:cp=>(ph x)) a)/\x.length<=maxLen)):=lv (show Tryz.prog.underlying 27=some (.slice 41) by kernel_rfl) (by kernel_rfl) (by decide) EG
def Bb(x:bC):Nat:=(x.Kind.length+1)+((x.Subject.length+1)+(((x.Texts.map (fun x:dB=>(vC x))).sum+1)+(((x.Numbers.map (fun x:cp=>(pb x))).sum+1)+0)))+1
def qL(x:bC):Prop:=(x.Kind.length<=140737488351232)/\((x.Subject.length<=140737488351232)/\(((∀a,a∈x.Texts->(fun x:dB=>(vM x)) a)/\x.Texts.length<=maxLen)/\(((∀a,a∈x.Numbers->(fun x:cp=>(ph x)) a)/\x.Numbers.length<=maxLen)/\True)))
theorem EJ:dK Tryz.prog 29 bj Bb qL:=pg (j5 (fs:=[(9,0,1),(9,1,1),(26,2,1),(27,3,1)]) (by kernel_rfl) (by kernel_rfl) (dJ ol (dJ ol (dJ EN (dJ EL nB))))) (fun p=>bC.mk p.1 p.2.1 p.2.2.1 p.2.2.2.1) (fun _=>rfl) (fun _=>rfl) (fun _ h=>h)
theorem Cl:AB Tryz.prog 29 (fun x=>V.agg (bj x)) Bb qL:=rO (fs:=[(9,0,1),(9,1,1),(26,2,1),(27,3,1)]) (by kernel_rfl) EJ
def mW:List B8:=[([114,117,108,101]:B8),([97,98,111,117,116]:B8),([119,104,101,110]:B8),([119,97,105,118,101]:B8),([102,111,114]:B8),([102,114,111,109]:B8),([116,111]:B8),([98,121]:B8),([97,115]:B8),([112,97,115,115]:B8),([110,111,116,101]:B8),([119,97,114,110]:B8),([100,101,110,121]:B8),([111,114]:B8),([97,110,100]:B8),([116,114,117,101]:B8),([105,115]:B8),([98,101,103,105,110,115]:B8),([104,97,115]:B8),([110,111,116]:B8)]
def AX(s:B8):Bool:=mW.any fun w=>s==w
theorem orS{b c:Bool}{x:Option Bool}(h:x=some c):(if b=true then (if b=true then some true else some false) else x)=some (b||c):=by grind
theorem orL{b:Bool}:(if b=true then some true else some false)=some (b||false):=by grind
theorem LI(F:Nat)(s:B8):NK F s=some (AX s):=by
 unfold NK;simp only[aF]
 show _=some (mW.any fun w=>s==w)
 simp only[mW,cc8,List.any_nil]
 repeat (first|exact orL|apply orS)
theorem uZ(F:Nat)(a:B8)(k:Option Bool):∀(m n:Nat),n+m=20->lZ F a k m n=if ((mW.drop n).any fun w=>a==w)=true then some true else k
 |0,n,h=>by
  simp_all[lZ,mW]
 |m+1,n,h=>by
  have hn:n<mW.length:=by simp[mW];omega
  have e:((n:Int)+1)=((n+1:Nat):Int):=rfl;rw[lZ,if_pos ⟨by omega,by omega⟩,e,uZ F a k m (n+1) (by omega),br8 hn,cc8];have h2:(sN ([]:B8) mW n)=mW[n]:=by simp[sN,List.getD,ax8 hn]
  have h3:((n:Int)).toNat=n:=by omega
  rw[h3]
  show(if (sN ([]:B8) mW n==a)=true then some true else _)=_
  grind
theorem LC(F:Nat)(s:B8):NI F s=some (AX s):=by
 unfold NI;rw[aF,if_pos (by omega)];have:=uZ F s (some false) 20 0 rfl
 grind [AX]
def run(c:UInt8):Bool:=(decide (97<=c.toNat)&&decide (c.toNat<=122))||(decide (48<=c.toNat)&&decide (c.toNat<=57))||(c.toNat==45)
def Fr(c:UInt8):Bool:=decide (97<=c.toNat)&&decide (c.toNat<=122)
theorem LB(F:Nat)(c:UInt8):NH F (c.toNat:Int)=some (run c):=by
 unfold NH run
 have h1:((c.toNat:Int)==45)=(c.toNat==45):=by
  by_cases h:c.toNat=45
  ·simp[h]
  ·grind
 grind
def cV(s:B8):Bool:=match s with|[]=>false|c::r=>decide ((c::r).length<=40)&&!AX (c::r)&&Fr c&&r.all run
theorem HL{c:UInt8}{k:Option Bool} :
    (if (decide ((c.toNat:Int)>=97))=true then if (decide ((c.toNat:Int)<=122))=true then k
 else if (decide ((c.toNat:Int)>=48))=true then if (decide ((c.toNat:Int)<=57))=true then k
 else if (!((c.toNat:Int)==45))=true then some false
 else k
 else if (!((c.toNat:Int)==45))=true then some false
 else k
 else if (decide ((c.toNat:Int)>=48))=true then if (decide ((c.toNat:Int)<=57))=true then k
 else if (!((c.toNat:Int)==45))=true then some false
 else k
 else if (!((c.toNat:Int)==45))=true then some false
 else k)=if run c=true then k else some false:=by
  unfold run
  grind
theorem yY(F:Nat)(s:B8)(k:Option Bool):∀(m n:Nat),0<n->n+m=s.length->kC F s k m n=if (s.drop n).all run=true then k else some false
 |0,n,_,h=>by simp_all[kC]
 |m+1,n,h0,h=>by
  have hn:n<s.length:=by omega
  have e:((n:Int)+1)=((n+1:Nat):Int):=rfl;have h3:decide ((n:Int)>0)=true:=decide_eq_true (by omega);rw[kC,aF,bF hn,bw9,e,yY F s k m (n+1) (by omega) (by omega),br8 hn,ag9];simp only[h3,if_true];rw[HL]
  grind
theorem HO{n:Nat}(h:n<=140737488351232):(n:Int)<=9223372036854775807:=by omega
theorem w5(F:Nat)(s:B8)(hs:uu s):JY F s=some (cV s):=by
 unfold uu at hs;unfold JY;rw[aF,if_pos (HO hs),show((s.length:Int):Int).toNat=s.length by omega];cases s with
 |nil=>rfl
 |cons c r=>
  rw[bu8,kC,aF,show cn (c::r) 0=some c from rfl,bw9];have e:((0:Int)+1)=((1:Nat):Int):=rfl;rw[e,yY F (c::r) _ r.length 1 (by omega) (by simp;omega)];simp only[List.drop_succ_cons,bq9,LI,bw9,cV,Fr,show decide ((0:Int)>0)=false from rfl,ch8,if_false,bu8]
  grind
theorem C9(F:Nat)(s:B8)(k:Option Bool)(m n:Nat)(h:n+m=s.length):nQ F s k m n=if (s.drop n).all run=true then k else some false:=
 ww s run (fun n=>rfl) (fun m n=>by
  grind [nQ,LB]) m n h
theorem wY(F:Nat)(s:B8)(hs:uu s):zm F s=some (cV s):=by
 unfold uu at hs;unfold zm;rw[aF,if_pos (HO hs),show((s.length:Int):Int).toNat=s.length by omega];have hl:=C9 F s (some true) s.length 0 (by omega);rw[show((0:Nat):Int)=0 from rfl,bq9] at hl;rw[hl];cases s with
 |nil=>rfl
 |cons c r=>
  rw[show cn (c::r) 0=some c from rfl];simp only[LC,bw9,cV,Fr,bu8,ag9,show((c::r==([]:B8)))=false from rfl,ch8,if_false]
  have h40:decide (((r.length+1:Nat):Int)>40) = !decide (r.length+1<=40):=by
   by_cases h:r.length+1<=40
   ·grind
   ·grind
  rw[h40]
  by_cases a1:97<=c.toNat<;>by_cases a2:c.toNat<=122 <;>
   simp only[a1,a2,show((c.toNat:Int)<97)<->¬(97<=c.toNat) by omega,show((c.toNat:Int)>122)<->¬(c.toNat<=122) by omega,not_true_eq_false,not_false_eq_true,decide_true,decide_false,if_true,if_false,ch8,Bool.and_true,Bool.and_false,Bool.false_and]
  ·have:run c=true:=by simp[run,a1,a2]
   grind
  all_goals grind
def B9(c:UInt8):Bool:=decide (32<=c.toNat)&&decide (c.toNat<=126)
def jZ(s:B8):Bool:=decide (s.length<=1000)&&s.all B9
theorem xr{β:Type}{s:B8}{n:Int}{k f:Option β}:((cn s n).bind fun c6=>if (decide ((c6.toNat:Int)<32))=true then f
 else (cn s n).bind fun c9=>if (decide ((c9.toNat:Int)>126))=true then f else k)=(cn s n).bind fun c=>if B9 c=true then k else f:=by
  cases cn s n with
  |none=>rfl
  |some c=>
    simp only[bw9,B9]
    grind
theorem xf(F:Nat)(s:B8)(hs:uu s):AU F s=some (jZ s):=by
 unfold uu at hs;unfold AU;rw[aF,if_pos (HO hs),show((s.length:Int):Int).toNat=s.length by omega];have hl:=ww (g:=kJ F s (some (decide ((s.length:Int)<=1000)))) (f:=false) s B9 (fun n=>rfl) (fun m n=>by rw[kJ];exact xr) s.length 0 (by omega)
 grind [jZ]
theorem AG(F:Nat)(s:B8)(hs:uu s):LQ F s=some (jZ s):=by
 unfold uu at hs;unfold LQ;rw[aF,if_pos (HO hs),show((s.length:Int):Int).toNat=s.length by omega];have hl:=ww (g:=nN F s (some true)) (f:=false) s B9 (fun n=>rfl) (fun m n=>by rw[nN];exact xr) s.length 0 (by omega)
 grind [jZ]
def zf(a:List B8):List B8->Nat->Int
 |[],_=>0
 |x::l,n=>if (!jZ x)=true then 2 else if (decide (0<n)&&(Op.bytesLess x (a.getD (n - 1) [])||x==a.getD (n - 1) []))=true then 10 else zf a l (n+1)
theorem lE{α:Type}{a:List α}{n:Nat}{d:α}(h0:0<n)(h:n<=a.length)(hl:a.length<=maxLen):cn a (bh ((n:Int) - 1))=some (a.getD (n - 1) d):=by
 grind [maxLen,cm,bF]
theorem Oq{g:List B8->Int->Option Int}{k:Option Int}{a:List B8}(hl:a.length<=maxLen)(h0:∀n,g [] n=k)
  (h1:∀x l (n:Nat),a[n]? = some x->x∈a->g (x::l) n=if (!jZ x)=true then some 2 else if decide ((n:Int)>0)=true then (cn a (bh ((n:Int) - 1))).bind fun y=>if (Op.bytesLess x y||x==y)=true then some 10 else g l (n+1) else g l (n+1)):
  ∀(l:List B8) (n:Nat),a.drop n=l->g l n=if (zf a l n != 0)=true then some (zf a l n) else k
 |[],n,_=>by simp[h0,zf]
 |x::l,n,h=>by
  have hn:n<a.length:=by
   rcases bp9 n a.length with h2|h2
   ·exact h2
   ·simp_all[al9]
  rw[br8 hn] at h
  injection h with hx hd
  have e:((n:Int)+1)=((n+1:Nat):Int):=rfl;rw[h1 x l n (by grind) (by grind),e,Oq hl h0 h1 l (n+1) hd];rw[zf];cases jZ x
  ·simp
  ·simp only[bs9,ch8,if_false];by_cases h2:0<n
   ·rw[if_pos (decide_eq_true (by omega)),lE (d:=[]) h2 (by omega) hl,bw9,decide_eq_true h2]
    grind
   grind
def G9(a:List B8):Int:=if a.length=0 then 13 else if 50<a.length then 3 else zf a a 0
def okX(x:aC):Prop:=uu x.Name/\(∀s,s∈x.Texts->uu s)/\x.Texts.length<=maxLen/\x.Kids.length<=maxLen
theorem Jd(F:Nat)(a:List B8)(ha:∀s,s∈a->uu s)(hl:a.length<=maxLen):GY F a=some (G9 a):=by
 unfold GY G9
 have h:=Oq (g:=kG F a (some 0)) (k:=some 0) hl (fun n=>rfl) (fun x l n h1 h2=>by
  simp_all[kG,xf,aF]) a 0 rfl
 rw[show((0:Nat):Int)=0 from rfl] at h;rw[aF,h]
 grind
theorem Jk(F:Nat)(n:Int):tr F n=some (decide (-1000000000000<=n)&&decide (n<=1000000000000)):=by
 grind [tr]
theorem AF(F:Nat)(a b c:Int):tX F a b c=some (decide (a<b)||decide (a>c)):=by
 grind [tX]
local macro "tx68" f:term:term=>`(fun(F:Nat) (x:aC) (k:Option Int) (hx:okX x)=>Oq (g := $f F x k) (k:=k) hx.2.2.1 (fun n=>rfl) (fun y l n h1 h2=>by
  have hn:n<x.Texts.length:=(bb8.1 h1).1;have hi:cn x.Texts (n:Int)=some y:=by rw[bF hn];exact(ax8 hn).symm.trans h1
  show jn _ _=_
  rw[aF,AG F y (hx.2.1 y h2),bw9,hi];cases jZ y<;>rfl) x.Texts 0 rfl)
theorem ti:∀(F:Nat) (x:aC) (k:Option Int) (hx:okX x),co F x k x.Texts ((0:Nat):Int)=if (zf x.Texts x.Texts 0 != 0)=true then some (zf x.Texts x.Texts 0) else k:=tx68 co
def pf(n:Int):Bool:=decide (n < -1000000000000)||decide (n>1000000000000)
theorem nl(F:Nat)(n:Int):tX F n (-1000000000000) 1000000000000=some (pf n):=AF F n _ _
theorem kz(F:Nat)(n:Int):tX F n 1 8=some (decide (n<1)||decide (n>8)):=AF F n _ _
theorem kA(F:Nat)(n:Int):tX F n 1 5=some (decide (n<1)||decide (n>5)):=AF F n _ _
theorem G1(F:Nat)(n:Int):tr F n=some (!pf n):=by
 rw[Jk,pf,Bool.not_or,<-decide_not,<-decide_not]
 grind
def cc(x:aC):Int:=
 if x.Kind<1\/8<x.Kind then 7
 else if !(decide (2<=x.Kind)&&decide (x.Kind<=5))&&!(x.Name==[])||!(x.Kind==2||x.Kind==3)&&decide (0<x.Texts.length)||!(x.Kind==5)&&(x.Op != 0||x.N != 0) ||
  !(if x.Kind=6 then x.Kids.length==1 else if 7<=x.Kind then decide (2<=x.Kids.length) else x.Kids.length==0) then 2
 else if (decide (2<=x.Kind)&&decide (x.Kind<=5))&&!cV x.Name then 8
 else if x.Kind=2\/x.Kind=3 then G9 x.Texts
 else if x.Kind=5 then (if x.Op<1\/5<x.Op then 7 else if pf x.N=true then 9 else 0)
 else 0
theorem CD{n:Nat}:(((n:Nat):Int)==0)=(n==0):=by
 grind
theorem MM{n:Nat}:(((n:Nat):Int)==1)=(n==1):=by
 grind
theorem JC{n:Nat}:decide (((n:Nat):Int)>0)=decide (0<n):=decide_eq_decide.2 (by omega)
theorem OK{n:Nat}:decide (((n:Nat):Int)>=2)=decide (2<=n):=decide_eq_decide.2 (by omega)
theorem Aa{n:Nat}:decide (((n:Nat):Int)>50)=decide (50<n):=decide_eq_decide.2 (by omega)
noncomputable def eJ:Nat->bH:=(Dd 0).get rfl
theorem BY(F:Nat):Dd F=some eJ:=rfl
theorem J9:eJ 1=⟨false,false,false,0⟩:=rfl
theorem J8:eJ 2=⟨true,true,false,0⟩:=rfl
theorem J7:eJ 3=⟨true,true,false,0⟩:=rfl
theorem J6:eJ 4=⟨true,false,false,0⟩:=rfl
theorem J5:eJ 5=⟨true,false,true,0⟩:=rfl
theorem J4:eJ 6=⟨false,false,false,1⟩:=rfl
theorem J3:eJ 7=⟨false,false,false,-1⟩:=rfl
theorem J2:eJ 8=⟨false,false,false,-1⟩:=rfl
def fm(u:bH)(x:aC):Bool:=(u.name||(x.Name==[]))&&(u.texts||!decide (0<x.Texts.length))&&(u.number||((x.Op==0)&&(x.N==0)))&&(if u.kids<0 then decide (2<=x.Kids.length) else (((x.Kids.length:Nat):Int)==u.kids))
theorem Je(F:Nat)(x:aC)(h:0<=x.Kind/\x.Kind.toNat<9):GZ F x=some (fm (eJ x.Kind.toNat) x):=by
 unfold GZ fm;rw[BY,bw9,if_pos h];generalize eJ x.Kind.toNat=u;simp only[JC,OK]
 grind
def fA(u:bH)(x:aC):Int:=if !fm u x then 2 else if u.name&&!cV x.Name then 8 else if u.texts&&G9 x.Texts != 0 then G9 x.Texts else if u.number&&(decide (x.Op<1)||decide (x.Op>5)) then 7 else if u.number&&pf x.N then 9 else 0
theorem ID(F:Nat)(R:aC->Option Int)(x:aC)(hx:okX x)(h:1<=x.Kind/\x.Kind<=8):qe R F x=if (fA (eJ x.Kind.toNat) x != 0)=true then some (fA (eJ x.Kind.toNat) x) else jt R F (some 0) x.Kids:=by
 have h9:0<=x.Kind/\x.Kind.toNat<9:=by omega
 unfold qe fA;rw[Je F x h9,BY,bw9,if_pos h9,bw9,w5 F x.Name hx.1,Jd F x.Texts hx.2.1 hx.2.2.1,G1,decide_eq_false (show ¬x.Kind<1 by omega),decide_eq_false (show ¬x.Kind>8 by omega)];simp only[aF,bw9]
 grind [fm,G9]
theorem I9{F:Nat}{nm:B8}{tx:List B8}{op n:Int}{ks:List aM}(hn:zm F nm=some (cV nm)):jw F ⟨1,nm,tx,op,n,ks⟩=some (cc ⟨1,nm,tx,op,n,ks⟩):=by
 have e4:tx=[]<->tx.length=0:=ax9.symm;have e5:ks=[]<->ks.length=0:=ax9.symm;simp only[jw,pI,kz,kA,nl,aF,cc,JC,Aa,CD,hn];by_cases a1:nm=[]<;>by_cases a2:0<tx.length<;>by_cases a3:op=0<;>by_cases a4:n=0<;>by_cases a5:ks.length=0<;>grind
theorem E8{nm:B8}{tx:List B8}{op n:Int}{ks:List aM}:fA (eJ 1) ⟨1,nm,tx,op,n,ks⟩=cc ⟨1,nm,tx,op,n,ks⟩:=by
 simp_all[J9,fA,fm,cc]
theorem I8{F:Nat}{nm:B8}{tx:List B8}{op n:Int}{ks:List aM}(hn:zm F nm=some (cV nm))(h1:∀k,co F ⟨2,nm,tx,op,n,ks⟩ k tx 0=if (zf tx tx 0 != 0)=true then some (zf tx tx 0) else k):jw F ⟨2,nm,tx,op,n,ks⟩=some (cc ⟨2,nm,tx,op,n,ks⟩):=by
 have e4:tx=[]<->tx.length=0:=ax9.symm;have e5:ks=[]<->ks.length=0:=ax9.symm;simp only[jw,pI,kz,kA,nl,aF,cc,JC,Aa,CD,hn,h1,G9];by_cases a1:cV nm=true<;>by_cases a2:tx.length=0<;>by_cases a3:50<tx.length<;>by_cases a4:op=0<;>by_cases a5:n=0<;>by_cases a6:ks.length=0<;>by_cases a7:zf tx tx 0=0<;>grind
theorem E7{nm:B8}{tx:List B8}{op n:Int}{ks:List aM}:fA (eJ 2) ⟨2,nm,tx,op,n,ks⟩=cc ⟨2,nm,tx,op,n,ks⟩:=by
 grind [J8,fA,fm,cc]
theorem I7{F:Nat}{nm:B8}{tx:List B8}{op n:Int}{ks:List aM}(hn:zm F nm=some (cV nm))(h1:∀k,co F ⟨3,nm,tx,op,n,ks⟩ k tx 0=if (zf tx tx 0 != 0)=true then some (zf tx tx 0) else k):jw F ⟨3,nm,tx,op,n,ks⟩=some (cc ⟨3,nm,tx,op,n,ks⟩):=by
 have e4:tx=[]<->tx.length=0:=ax9.symm;have e5:ks=[]<->ks.length=0:=ax9.symm;simp only[jw,pI,kz,kA,nl,aF,cc,JC,Aa,CD,hn,h1,G9];by_cases a1:cV nm=true<;>by_cases a2:tx.length=0<;>by_cases a3:50<tx.length<;>by_cases a4:op=0<;>by_cases a5:n=0<;>by_cases a6:ks.length=0<;>by_cases a7:zf tx tx 0=0<;>grind
theorem E6{nm:B8}{tx:List B8}{op n:Int}{ks:List aM}:fA (eJ 3) ⟨3,nm,tx,op,n,ks⟩=cc ⟨3,nm,tx,op,n,ks⟩:=by
 grind [J7,fA,fm,cc]
theorem I6{F:Nat}{nm:B8}{tx:List B8}{op n:Int}{ks:List aM}(hn:zm F nm=some (cV nm)):jw F ⟨4,nm,tx,op,n,ks⟩=some (cc ⟨4,nm,tx,op,n,ks⟩):=by
 have e4:tx=[]<->tx.length=0:=ax9.symm;have e5:ks=[]<->ks.length=0:=ax9.symm;simp only[jw,pI,kz,kA,nl,aF,cc,JC,Aa,CD,hn];by_cases a1:cV nm=true<;>by_cases a2:0<tx.length<;>by_cases a3:op=0<;>by_cases a4:n=0<;>by_cases a5:ks.length=0<;>grind
theorem E5{nm:B8}{tx:List B8}{op n:Int}{ks:List aM}:fA (eJ 4) ⟨4,nm,tx,op,n,ks⟩=cc ⟨4,nm,tx,op,n,ks⟩:=by
 simp_all[J6,fA,fm,cc]
theorem IQ{F:Nat}{nm:B8}{tx:List B8}{op n:Int}{ks:List aM}:pI F ⟨5,nm,tx,op,n,ks⟩=some (if decide (0<tx.length)=true then 2 else if (ks.length==0)=true then 0 else 2):=by
 grind [pI,kz,aF]
theorem I5{F:Nat}{nm:B8}{tx:List B8}{op n:Int}{ks:List aM}(hn:zm F nm=some (cV nm)):jw F ⟨5,nm,tx,op,n,ks⟩=some (cc ⟨5,nm,tx,op,n,ks⟩):=by
 have hv:cc ⟨5,nm,tx,op,n,ks⟩=if (if decide (0<tx.length)=true then (2:Int) else if (ks.length==0)=true then 0 else 2)=2 then 2 else if cV nm=false then 8 else if (decide (op<1)||decide (op>5))=true then 7 else if pf n=true then 9 else 0:=by
  simp only[cc];generalize pf n=c1
  grind
 rw[hv];unfold jw;rw[IQ,bw9]
 have hz:(if decide (0<tx.length)=true then (2:Int) else if (ks.length==0)=true then 0 else 2)=0\/(if decide (0<tx.length)=true then (2:Int) else if (ks.length==0)=true then 0 else 2)=2:=by
  split
  ·grind
  ·grind
 generalize (if decide (0<tx.length)=true then (2:Int) else if (ks.length==0)=true then 0 else 2)=z at hz ⊢
 clear hv
 rcases hz with rfl|rfl
 ·rw[if_neg (show ¬((0:Int) != 0)=true by decide),if_neg (show ¬(0:Int)=2 by decide)];dsimp only;rw[if_pos (show decide ((5:Int)>=2)=true from rfl),if_pos (show decide ((5:Int)<=5)=true from rfl),hn,bw9];cases cV nm
  ·rfl
  ·rw[if_neg (show ¬(!true)=true by decide),if_neg (show ¬((5:Int)==2)=true by decide),if_neg (show ¬true=false by decide)];simp only[aF];rw[if_neg (show ¬((5:Int)==3)=true by decide),if_pos (show((5:Int)==5)=true from rfl),kA,bw9,nl,bw9]
   grind
 ·rfl
theorem E4{nm:B8}{tx:List B8}{op n:Int}{ks:List aM}:fA (eJ 5) ⟨5,nm,tx,op,n,ks⟩=cc ⟨5,nm,tx,op,n,ks⟩:=by
 simp_all[J5,fA,fm,cc]
theorem I4{F:Nat}{nm:B8}{tx:List B8}{op n:Int}{ks:List aM}(hn:zm F nm=some (cV nm)):jw F ⟨6,nm,tx,op,n,ks⟩=some (cc ⟨6,nm,tx,op,n,ks⟩):=by
 have e4:tx=[]<->tx.length=0:=ax9.symm;have e5:ks=[]<->ks.length=0:=ax9.symm;simp only[jw,pI,kz,kA,nl,aF,cc,JC,Aa,MM,hn];by_cases a1:nm=[]<;>by_cases a2:0<tx.length<;>by_cases a3:op=0<;>by_cases a4:n=0<;>by_cases a5:ks.length=1<;>grind
theorem E3{nm:B8}{tx:List B8}{op n:Int}{ks:List aM}:fA (eJ 6) ⟨6,nm,tx,op,n,ks⟩=cc ⟨6,nm,tx,op,n,ks⟩:=by
 simp_all[J4,fA,fm,cc,MM]
theorem I3{F:Nat}{nm:B8}{tx:List B8}{op n:Int}{ks:List aM}(hn:zm F nm=some (cV nm)):jw F ⟨7,nm,tx,op,n,ks⟩=some (cc ⟨7,nm,tx,op,n,ks⟩):=by
 have e4:tx=[]<->tx.length=0:=ax9.symm;have e5:ks=[]<->ks.length=0:=ax9.symm;simp only[jw,pI,kz,kA,nl,aF,cc,JC,Aa,CD,OK,hn];by_cases a1:nm=[]<;>by_cases a2:0<tx.length<;>by_cases a3:op=0<;>by_cases a4:n=0<;>by_cases a5:2<=ks.length<;>grind
theorem EZ{nm:B8}{tx:List B8}{op n:Int}{ks:List aM}:fA (eJ 7) ⟨7,nm,tx,op,n,ks⟩=cc ⟨7,nm,tx,op,n,ks⟩:=by
 simp_all[J3,fA,fm,cc]
theorem I1{F:Nat}{nm:B8}{tx:List B8}{op n:Int}{ks:List aM}(hn:zm F nm=some (cV nm)):jw F ⟨8,nm,tx,op,n,ks⟩=some (cc ⟨8,nm,tx,op,n,ks⟩):=by
 have e4:tx=[]<->tx.length=0:=ax9.symm;have e5:ks=[]<->ks.length=0:=ax9.symm;simp only[jw,pI,kz,kA,nl,aF,cc,JC,Aa,CD,OK,hn];by_cases a1:nm=[]<;>by_cases a2:0<tx.length<;>by_cases a3:op=0<;>by_cases a4:n=0<;>by_cases a5:2<=ks.length<;>grind
theorem EY{nm:B8}{tx:List B8}{op n:Int}{ks:List aM}:fA (eJ 8) ⟨8,nm,tx,op,n,ks⟩=cc ⟨8,nm,tx,op,n,ks⟩:=by
 simp_all[J2,fA,fm,cc]
theorem Ja(F:Nat)(x:aC)(hx:okX x):jw F x=some (cc x):=by
 have h1:∀k,_:=fun k=>ti F x k hx;have h2:∀k,_:=fun k=>ti F x k hx;rw[show((0:Nat):Int)=0 from rfl] at h1 h2;have hn:=wY F x.Name hx.1;obtain⟨kd,nm,tx,op,n,ks⟩:=x;by_cases hk:kd<1\/8<kd
 ·have:(decide (kd<1)||decide (kd>8))=true:=by simp;omega
  simp only[jw,pI,kz,kA,nl,this,bw9,if_true,cc,if_pos hk];rfl
 ·have hk':kd=1\/kd=2\/kd=3\/kd=4\/kd=5\/kd=6\/kd=7\/kd=8:=by omega
  grind [I9,I8,I7,I6,I5,I4,I3,I1]
theorem E9(x:aC)(h:1<=x.Kind/\x.Kind<=8):fA (eJ x.Kind.toNat) x=cc x:=by
 obtain⟨kd,nm,tx,op,n,ks⟩:=x;simp only at h;have hk':kd=1\/kd=2\/kd=3\/kd=4\/kd=5\/kd=6\/kd=7\/kd=8:=by omega
 grind [E8,E7,E6,E5,E4,E3,EZ,EY]
theorem GJ(F:Nat)(R:aC->Option Int)(x:aC)(hx:okX x):qe R F x=if (cc x != 0)=true then some (cc x) else jt R F (some 0) x.Kids:=by
 by_cases h:1<=x.Kind/\x.Kind<=8
 ·simp_all[ID,E9]
 ·have h7:cc x=7:=by unfold cc;grind
  simp_all[qe]
end Go.Proofs.YtelmfadihfcgnaaGreatDoor
namespace Go.Proofs.YtelmfadihfcgnaaGreatDoor
open Go Go.Pv
set_option maxRecDepth 100000
mutual
theorem Tr.ind{P:Tr->Prop}(h:∀a b c d e ks,(∀t,t∈ks->P t)->P (.mk a b c d e ks)):∀t:Tr,P t
 | .mk a b c d e ks=>h a b c d e ks (Tr.inds h ks)
theorem Tr.inds{P:Tr->Prop}(h:∀a b c d e ks,(∀t,t∈ks->P t)->P (.mk a b c d e ks)):∀(ks:List Tr) (t:Tr),t∈ks->P t
 |[],_,hu=>absurd hu (by simp)
 |t::r,u,hu=>by
  rcases aq8.1 hu with e|hu
  ·rw[e];exact Tr.ind h t
  ·exact Tr.inds h r u hu
end
noncomputable section
mutual
def Tr.fu:Tr->Nat
 | .mk a b c d e ks=>c.length+ks.length+2+Tr.fus ks
def Tr.fus:List Tr->Nat
 |[]=>0
 |t::r=>t.fu+Tr.fus r
end
mutual
def Tr.cnt:Tr->Nat
 | .mk a b c d e ks=>1+Tr.cnts ks
def Tr.cnts:List Tr->Nat
 |[]=>0
 |t::r=>t.cnt+Tr.cnts r
end
mutual
def Tr.dep:Tr->Nat
 | .mk a b c d e ks=>1+Tr.deps ks
def Tr.deps:List Tr->Nat
 |[]=>0
 |t::r=>max t.dep (Tr.deps r)
end
mutual
def Tr.flt:Tr->Int
 | .mk a b c d e ks=>if cc ⟨a,b,c,d,e,Tr.toKs ks⟩=0 then Tr.flts ks else cc ⟨a,b,c,d,e,Tr.toKs ks⟩
def Tr.flts:List Tr->Int
 |[]=>0
 |t::r=>if t.flt=0 then Tr.flts r else t.flt
end
def Tr.toK(t:Tr):aM:=⟨ah t.toT,cv _,gS _⟩
end
theorem Tr.dec(t:Tr):dD ah t.toK=some t.toT:=Fz t
theorem Tr.toKs_map:∀ks:List Tr,Tr.toKs ks=ks.map Tr.toK
 |[]=>by simp[Tr.toKs]
 |t::r=>by rw[Tr.toKs,Tr.toKs_map r];rfl
theorem ep{ks:List Tr}{n:Nat}(h:n<ks.length):cn (Tr.toKs ks) (n:Int)=some (ks[n].toK):=by
 simp_all[Tr.toKs_map,bF]
theorem Tr.fu_mem:∀{ks:List Tr} {t:Tr},t∈ks->t.fu<=Tr.fus ks
 |u::r,t,h=>by
  rw[Tr.fus];rcases aq8.1 h with e|h
  ·grind
  ·have:=Tr.fu_mem h;omega
theorem Tr.oks_mem:∀{ks:List Tr} {t:Tr},Tr.oks ks->t∈ks->t.ok
 |u::r,t,ho,h=>by
  rw[Tr.oks] at ho;rcases aq8.1 h with e|h
  ·subst e;exact ho.1
  ·exact Tr.oks_mem ho.2 h
theorem mz:maxLen=9223372036854775807:=by decide
theorem Tr.okX{a b c d e ks}(h:(Tr.mk a b c d e ks).ok):okX ⟨a,b,c,d,e,Tr.toKs ks⟩:=by
 rw[Tr.ok] at h;exact⟨h.2.1,h.2.2.1.1,h.2.2.1.2,by simp_all[Tr.toKs_len]⟩
theorem Tr.okks{a b c d e ks}(h:(Tr.mk a b c d e ks).ok):Tr.oks ks/\ks.length<=9223372036854775807:=by
 simp_all[Tr.ok,mz]
theorem Tr.cnt_mem:∀{ks:List Tr} {t:Tr},t∈ks->t.cnt<=Tr.cnts ks
 |u::r,t,h=>by
  rw[Tr.cnts];rcases aq8.1 h with e|h
  ·grind
  ·have:=Tr.cnt_mem h;omega
theorem If(t:Tr):1<=t.cnt:=by cases t;rw[Tr.cnt];omega
theorem xY:∀ks:List Tr,ks.length<=Tr.cnts ks
 |[]=>by grind
 |t::r=>by rw[Tr.cnts];have:=xY r;have:=If t;simp;omega
theorem wq:∀(ks:List Tr),(∀t,t∈ks->t.dep<=t.cnt)->Tr.deps ks<=Tr.cnts ks
 |[],_=>by simp[Tr.deps]
 |t::r,h=>by
  rw[Tr.deps,Tr.cnts];have h1:=h t (by simp);have h2:=wq r fun u hu=>h u (by simp[hu]);omega
theorem Lg:∀t:Tr,t.dep<=t.cnt:=Tr.ind fun a b c d e ks ih=>by simp_all[Tr.dep,Tr.cnt,wq]
theorem LJ:∀t:Tr,t.ok->∀F,t.fu<=F->JT F t.toT=some t.flt:=Tr.ind fun a b c d e ks ih ok F hF=>by
 rw[Tr.fu] at hF;obtain⟨F,rfl⟩:∃G,F=G+1:=⟨F - 1,by omega⟩
 show qe (JT F) F (Tr.mk a b c d e ks).toT=_
 rw[Tr.toT,GJ F _ _ (Tr.okX ok),Tr.flt]
 have hl:∀l:List Tr,(∀t,t∈l->t∈ks)->jt (JT F) F (some 0) (Tr.toKs l)=some (Tr.flts l):=by
  intro l
  induction l with
  |nil=>simp_all[Tr.toKs,jt,Tr.flts]
  |cons t r ihr=>
   intro hm;have ht:=hm t (by simp);rw[Tr.toKs_map,bi8,jt,Tr.dec,bw9,ih t ht (Tr.oks_mem (Tr.okks ok).1 ht) F (by have:=Tr.fu_mem ht;omega),bw9,<-Tr.toKs_map,ihr fun u hu=>hm u (by simp[hu]),Tr.flts]
   grind
 grind
theorem LD:∀t:Tr,t.ok->∀F,t.fu<=F->JQ F t.toT=some t.flt:=Tr.ind fun a b c d e ks ih ok F hF=>by
 rw[Tr.fu] at hF;obtain⟨F,rfl⟩:∃G,F=G+1:=⟨F - 1,by omega⟩
 show yP (JQ F) F (Tr.mk a b c d e ks).toT=_
 rw[Tr.toT,yP,Ja F _ (Tr.okX ok),bw9,Tr.flt,aF];have hk:=(Tr.okks ok).2;have hlen:(aC.mk a b c d e (Tr.toKs ks)).Kids.length=ks.length:=Tr.toKs_len ks;rw[hlen,if_pos (show((ks.length:Nat):Int)<=9223372036854775807 by omega),show(((ks.length:Nat):Int)).toNat=ks.length by omega]
 have hl:∀m n:Nat,n+m=ks.length->l0 (JQ F) F ⟨a,b,c,d,e,Tr.toKs ks⟩ (some 0) m (n:Int)=some (Tr.flts (ks.drop n)):=by
  intro m
  induction m with
  |zero=>simp_all[l0,Tr.flts]
  |succ m ihm=>
   intro n h;have hn:n<ks.length:=by omega
   have ht:ks[n]∈ks:=ba8 _;rw[l0,ep hn,bw9,Tr.dec,bw9,ih _ ht (Tr.oks_mem (Tr.okks ok).1 ht) F (by have:=Tr.fu_mem ht;omega),bw9,show((n:Int)+1)=((n+1:Nat):Int) from rfl,ihm (n+1) (by omega),br8 hn,Tr.flts]
   grind
 have:=hl ks.length 0 (by omega)
 grind
theorem LG:∀t:Tr,t.ok->∀F,t.fu<=F->∀most:Nat,most<=60->JS F t.toT (most:Int)=some ((min t.cnt (most+1):Nat):Int):=Tr.ind fun a b c d e ks ih ok F hF most hmost=>by
 rw[Tr.fu] at hF;obtain⟨F,rfl⟩:∃G,F=G+1:=⟨F - 1,by omega⟩
 show yR (JS F) F (Tr.mk a b c d e ks).toT (most:Int)=_
 rw[Tr.toT,yR,aF,Tr.cnt];have hk:=(Tr.okks ok).2
 have hl:∀fuel n j:Nat,ks.length<fuel+j->j<=ks.length->n<=most+1->nM (JS F) F ⟨a,b,c,d,e,Tr.toKs ks⟩ (most:Int) (fun n4=>some n4) fuel (n:Int) (j:Int)=some ((min (n+Tr.cnts (ks.drop j)) (most+1):Nat):Int):=by
  intro fuel
  induction fuel with
  |zero=>grind
  |succ fuel ihf=>
   intro n j h1 h2 h3;rw[nM];have hlen:(aC.mk a b c d e (Tr.toKs ks)).Kids.length=ks.length:=Tr.toKs_len ks;rw[hlen];by_cases hj:j<ks.length
   ·rw[if_pos (decide_eq_true (by omega))];by_cases hn:n<=most
    ·have ht:ks[j]∈ks:=ba8 _
     rw[if_pos (decide_eq_true (by omega)),ep hj,bw9,Tr.dec,bw9,cm (by omega) (by omega),show((most:Int) - (n:Int))=((most - n:Nat):Int) by omega,
      ih _ ht (Tr.oks_mem (Tr.okks ok).1 ht) F (by have:=Tr.fu_mem ht;omega) (most - n) (by omega),bw9,cm (by omega) (by omega),cm (by omega) (by omega)]
     have:=ihf (n+min ks[j].cnt (most - n+1)) (j+1) (by omega) (by omega) (by omega);rw[show((n:Int)+((min ks[j].cnt (most - n+1):Nat):Int))=((n+min ks[j].cnt (most - n+1):Nat):Int) by omega,show((j:Int)+1)=((j+1:Nat):Int) from rfl,this,br8 hj,Tr.cnts]
     grind
    grind
   ·rw[if_neg (by simp;omega),al9 (by omega),Tr.cnts]
    grind
 have:=hl F 1 0 (by omega) (by omega) (by omega)
 grind
theorem LF:∀t:Tr,t.ok->∀F,t.fu<=F->t.cnt<=60->JR F t.toT=some (t.dep:Int):=Tr.ind fun a b c d e ks ih ok F hF hc=>by
 rw[Tr.fu] at hF;rw[Tr.cnt] at hc;obtain⟨F,rfl⟩:∃G,F=G+1:=⟨F - 1,by omega⟩
 show yQ (JR F) F (Tr.mk a b c d e ks).toT=_
 have hlen:(aC.mk a b c d e (Tr.toKs ks)).Kids.length=ks.length:=Tr.toKs_len ks;have hk:=(Tr.okks ok).2;rw[Tr.toT,yQ,aF,hlen,if_pos (by omega),show(((ks.length:Nat):Int)).toNat=ks.length by omega,Tr.dep]
 have hl:∀m n q:Nat,n+m=ks.length->ma (JR F) F ⟨a,b,c,d,e,Tr.toKs ks⟩ (fun n3=>some (bh (n3+1))) m (n:Int) (q:Int)=some (bh (((max q (Tr.deps (ks.drop n)):Nat):Int)+1)):=by
  intro m
  induction m with
  |zero=>simp_all[ma,Tr.deps]
  |succ m ihm=>
   intro n q h;have hn:n<ks.length:=by omega
   have ht:ks[n]∈ks:=ba8 _;rw[ma,ep hn,bw9,Tr.dec,bw9,ih _ ht (Tr.oks_mem (Tr.okks ok).1 ht) F (by have:=Tr.fu_mem ht;omega) (by have:=Tr.cnt_mem ht;omega),bw9];rw[show(if (ks[n].dep:Int)>(q:Int) then (ks[n].dep:Int) else (q:Int))=((max q ks[n].dep:Nat):Int) by grind,show((n:Int)+1)=((n+1:Nat):Int) from rfl,ihm (n+1) _ (by omega),br8 hn,Tr.deps,Nat.max_assoc]
 have:=hl ks.length 0 0 (by omega);rw[bq9] at this;rw[show((0:Nat):Int)=0 from rfl] at this;rw[this];have h1:=wq ks fun t _=>Lg t;rw[cm (by omega) (by omega)]
 grind
theorem LK:∀t:Tr,t.ok->∀F,t.fu<=F->∀lvl:Int,1<=lvl->lvl<=13->∃a b:Int,JU F t.toT lvl=some (a,b)/\1<=a/\a<=61/\lvl<=b/\b<=13/\(12<b<->12<lvl+t.dep - 1)/\(b<=12->a=min (t.cnt:Int) 61):=Tr.ind fun a b c d e ks ih ok F hF lvl h1 h13=>by
 rw[Tr.fu] at hF;obtain⟨F,rfl⟩:∃G,F=G+1:=⟨F - 1,by omega⟩
 show ∃p q:Int,yS (JU F) F (Tr.mk a b c d e ks).toT lvl=some (p,q)/\_
 rw[Tr.toT,yS,Tr.dep,Tr.cnt];by_cases hq:lvl>12
 ·rw[if_pos (decide_eq_true hq)]
  grind
 ·rw[if_neg (by grind),aF]
  have hl:∀l:List Tr,(∀t,t∈l->t∈ks)->∀n q:Int,1<=n->n<=61->lvl<=q->q<=13->∃p r:Int,mb (JU F) F lvl (fun n5 n6=>some (n5,n6)) (Tr.toKs l) n q=some (p,r)/\1<=p/\p<=61/\lvl<=r/\r<=13/\(12<r<->12<q\/12<lvl+Tr.deps l)/\(r<=12->p=min (n+(Tr.cnts l:Nat)) 61):=by
   intro l
   induction l with
   |nil=>
    intro _ n q g1 g2 g3 g4;refine⟨n,q,by simp only[Tr.toKs,mb],g1,g2,g3,g4,?_,?_⟩
    ·rw[Tr.deps];omega
    grind [Tr.cnts]
   |cons t r ihr=>
    intro hm n q g1 g2 g3 g4;have ht:=hm t (by simp);obtain⟨p',q',e1,e2,e3,e4,e5,e6,e7⟩:=ih t ht (Tr.oks_mem (Tr.okks ok).1 ht) F (by have:=Tr.fu_mem ht;omega) (lvl+1) (by omega) (by omega);rw[Tr.toKs_map,bi8,mb,Tr.dec,bw9,cm (by omega) (by omega),e1,bw9,<-Tr.toKs_map];dsimp only;rw[cm (by omega) (by omega)];obtain⟨p,s,f1,f2,f3,f4,f5,f6,f7⟩:=ihr (fun u hu=>hm u (by simp[hu])) (if 61<n+p' then 61 else n+p') (if q'>q then q' else q) (by grind) (by grind) (by grind) (by grind);refine⟨p,s,f1,f2,f3,f4,f5,?_,?_⟩
    ·rw[f6,Tr.deps];omega
    ·intro hs;have h7:=f7 hs;have hq':¬12<s:=by omega
     rw[f6] at hq';have:q'<=12:=by grind
     have h8:=e7 this;rw[h7,Tr.cnts];omega
  obtain⟨p,r,e1,e2,e3,e4,e5,e6,e7⟩:=hl ks (fun _ h=>h) 1 lvl (by omega) (by omega) (by omega) (by omega)<;>grind
noncomputable def vT(t:Tr):Int:=if 60<t.cnt\/12<t.dep then 3 else t.flt
theorem w6(t:Tr)(ok:t.ok)(F:Nat)(hF:t.fu<=F):NS F t.toT=some (vT t):=by
 obtain⟨a,b,e1,e2,e3,e4,e5,e6,e7⟩:=LK t ok F hF 1 (by omega) (by omega);unfold NS;rw[e1,bw9];dsimp only;unfold vT;by_cases hb:12<b
 ·grind
 ·have h7:=e7 (by omega);have hd:¬(12<t.dep):=fun h=>hb (e6.2 (by omega));by_cases hc:60<t.cnt
  ·grind
  ·rw[if_neg (by simp;omega),if_neg (by simp;omega),if_neg (by omega),LJ t ok F hF];rfl
theorem wZ(t:Tr)(ok:t.ok)(F:Nat)(hF:t.fu<=F):NQ F t.toT=some (vT t):=by
 have h:=LG t ok F hF 60 (by omega);rw[show((60:Nat):Int)=60 from rfl] at h;unfold NQ vT;rw[h,bw9];by_cases hc:60<t.cnt
 ·grind
 ·rw[if_neg (by simp;omega),LF t ok F hF (by omega),bw9];by_cases hd:12<t.dep
  ·grind
  ·rw[if_neg (by simp;omega),if_neg (by omega),LD t ok F hF];rfl
end Go.Proofs.YtelmfadihfcgnaaGreatDoor
