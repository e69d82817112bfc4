/- Part of the proof: K, KT, Q, X, D6Tr, D6O, D6PA, D6PB. -/
import Derived.Test.YtelmfadihfcgnaaGreatDoorEPvS
import Derived.WideKeyArgs
import Derived.Deep.Slices
import Derived.ProofKit
import Derived.OpenShut
import Derived.JoinedCond
import Derived.Test.YtelmfadihfcgnaaGreatDoorEPvW
import Derived.Test.YtelmfadihfcgnaaGreatDoorED6T
import Derived.Test.YtelmfadihfcgnaaGreatDoorED6M
import Derived.KernelRfl
set_option linter.unusedSimpArgs false
set_option linter.unusedVariables false
namespace Go.Pv
open Go Go.ChangeShapes Go.WideShapes
mutual
def eV{H:Type}:DataW H->Nat
 | .lit (.string bytes)=>bytes.length+1
 | .lit _=>1
 | .nil=>1
 | .ptr d=>eV d+1
 | .slice elems spare=>eY elems+eY spare+1
 | .agg parts=>eY parts+1
 | .iface _ d=>eV d+1
 | .map entries=>yC entries+1
 | .held _=>1
def eY{H:Type}:List (DataW H)->Nat
 |[]=>0
 |d::r=>eV d+eY r
def yC{H:Type}:List (Lit×DataW H)->Nat
 |[]=>0
 |x::r=>Ih x+yC r
def Ih{H:Type}:Lit×DataW H->Nat
 |(.string bytes,d)=>bytes.length+eV d+1
 |(_,d)=>eV d+1
end
def jI(w:World):bF:=fun b=>w.heap[b]?
def eI(m:bF)(ds:List V)(cs:List Value):Prop:=
 ds.length=cs.length/\∀(i:Nat) (c:V) (v:Value),ds[i]? = some c->cs[i]? = some v->bX m c v
theorem eI.one{m:bF}{d:V}{c:Value}(h:bX m d c):eI m [d] [c]:=
 ⟨rfl,fun i d' c' hd hc=>by
  grind⟩
theorem eI.app{m:bF}{a b:List V}{x y:List Value}(h:eI m a x)(h':eI m b y):eI m (a++b) (x++y):=by
 refine⟨by simp[h.1,h'.1],fun i c v hc hv=>?_⟩;by_cases hi:i<a.length
 ·rw[as9 hi] at hc;rw[as9 (by rw[<-h.1];exact hi)] at hv;exact h.2 i c v hc hv
 ·rw[as8 (by omega)] at hc;rw[as8 (by rw[<-h.1];omega),<-h.1] at hv;exact h'.2 _ c v hc hv
section
variable{P:Program}{t e:TypeId}{α β:Type}
def Di{H:Type}(P:Program)(t:TypeId)(d:DataW H):Prop:=(d.weights P t).all (·<=reachBytes)=true
def xo{H:Type}(P:Program)(ts:List TypeId)(ds:List (DataW H)):Prop:=(DataW.weightsEach P ts ds).all (·<=reachBytes)=true
theorem py{H:Type}{P:Program}{t:TypeId}{ts:List TypeId}{d:DataW H}{ds:List (DataW H)}(h:xo P (t::ts) (d::ds)):Di P t d/\xo P ts ds:=by
 simp_all[xo,Di,DataW.weightsEach]
theorem J1{H:Type}{P:Program}{e:TypeId}:∀(l:List (DataW H)),(DataW.weightsAll P e l).all (·<=reachBytes)=true->∀d,d∈l->Di P e d
 |[],_,d,hd=>by simp at hd
 |x::l,h,d,hd=>by
  rw[DataW.weightsAll,ce9,ap9] at h;rcases aq8.1 hd with rfl|hd
  ·exact h.1
  ·exact J1 l h.2 d hd
def dK(P:Program)(t:TypeId)(e:α->List V)(sz:α->Nat)(ok:α->Prop):Prop:=
 ∀{H:Type} (enc:TypeId×Value->H) (w:World) (fuel:Nat) (cs:List Value) (x:DataW H×List MemPlace),
  DataW.trod enc P w 0 (fun _=>true) true fuel t cs=some x->Di P t x.1->∃a:α,eI (jI w) (e a) cs/\sz a<=eV x.1/\ok a
theorem uA{k:IntKind}(ht:P.underlying t=some (.int k)):dK P t (fun n:Int=>[V.con (.int k n)]) (fun _=>1) (fun n=>k.min<=n/\n<=k.max):=by
 intro H enc w fuel cs x h hw;obtain⟨n,rfl,rfl,hw'⟩:=DataW.trod_int ht h;simp only[Lit.wf,ap9,decide_eq_true_eq] at hw';exact⟨n,eI.one (.con _),by simp[eV],hw'⟩
theorem nh(ht:P.underlying t=some .string):dK P t (fun s:B8=>[sV s]) (fun s=>s.length+1) (fun s=>s.length<=140737488351232):=by
 intro H enc w fuel cs x h hw;obtain⟨s,rfl,rfl,hs⟩:=DataW.trod_string ht h;refine⟨s.data.toList,eI.one ?_,by simp[eV],?_⟩
 ·have:str s.data.toList=.string s:=by simp[str]
  unfold sV;rw[this];exact .con _
 ·unfold Di at hw;rw[DataW.weights,ag8,ap9] at hw;have:=of_decide_eq_true hw.1
  simp_all[reachBytes]
theorem v6{p:Nat->α->Prop}:∀{n:Nat},(∀i,i<n->∃a,p i a)->∃l:List α,l.length=n/\∀i a,l[i]? = some a->p i a
 |0,_=>⟨[],rfl,by simp⟩
 |n+1,h=>by
  obtain⟨l,hl,hp⟩:=v6 (n:=n) fun i hi=>h i (by omega);obtain⟨a,ha⟩:=h n (by omega);refine⟨l++[a],by simp[hl],fun i b hb=>?_⟩;by_cases hi:i<l.length
  ·rw[as9 hi] at hb;exact hp i b hb
  ·rw[as8 (by omega)] at hb
   have:i - l.length=0:=by
    have:=(bb9.1 hb).1;simp at this;omega
   rw[this] at hb;simp at hb;subst hb;rw[show i=n by omega];exact ha
theorem lV{H:Type}{n:Nat}(D:Nat->DataW H):eY ((List.range n).map D)=((List.range n).map fun i=>eV (D i)).sum:=by
 generalize List.range n=l
 induction l<;>simp_all[eY]
theorem Ea{l:List α}{sz:α->Nat}{g:Nat->Nat}(h:∀i a,l[i]? = some a->sz a<=g i):(l.map sz).sum<=((List.range l.length).map g).sum:=by
 induction l generalizing g with
 |nil=>simp
 |cons a l ih=>
  rw[bt8,List.range_succ_eq_map];simp only[bi9,List.sum_cons,bc9];have h0:=h 0 a rfl
  grind
theorem lE{k:Nat}{ee:α->List V}{sz:α->Nat}{ok:α->Prop}(ht:P.underlying t=some (.slice e))(hk:P.cellsOf e=k)(h0:0<k)(he:dK P e ee sz ok):
  dK P t (fun l:List α=>[V.lst k (l.map ee)]) (fun l=>(l.map sz).sum+1) (fun l=>(∀a,a∈l->ok a)/\l.length<=maxLen):=by
 intro H enc w fuel cs x h hw;rcases Deep.open_slice ht h with ⟨rfl,rfl⟩|⟨a,len,cap,m,n,D,Pl,rfl,_,hlc,hcm,hm,rfl,hel⟩
 ·exact⟨[],eI.one (.nil _ _ _),by simp[eV],by simp⟩
 ·simp only[if_true] at hm;subst hm
  obtain⟨l,hl,hp⟩:=v6 (n:=len) (p:=fun i (b:α)=>sz b<=eV (D i)/\ok b/\∃cs',w.cells? 0 (a.add (i*P.cellsOf e)) (P.cellsOf e)=some cs'/\eI (jI w) (ee b) cs') (by
   intro i hi;obtain⟨cs',hc,hd⟩:=hel i (by omega)
   obtain⟨b,h1,h2,h3⟩:=he _ _ _ _ _ hd (by
    unfold Di at hw;rw[DataW.weights] at hw;simp only[ht,ag8,ce9,ap9] at hw
    grind [J1])
   grind)
  refine⟨l,eI.one ?_,?_,fun b hb=>?_,by omega⟩
  ·by_cases hz:len=0
   ·subst hz;have:l=[]:=ax9.1 hl;subst this;exact .nil _ _ _
   ·have hcell:∀i j b,l[i]? = some b->j<k->∃v,w.cell? ((a.add (i*k)).add j)=some v/\(∃c,(ee b)[j]? = some c)/\∀c,(ee b)[j]? = some c->bX (jI w) c v:=by
     intro i j b hb hj;obtain⟨_,_,cs',hc,hr⟩:=hp i b hb;rw[hk] at hc;obtain⟨_,hn,hcs⟩:=World.cells?_some hc;have hj':j<cs'.length:=by omega
     have hv:cs'[j]? = some cs'[j]:=ax8 hj';have hj2:j<(ee b).length:=by rw[hr.1];exact hj'
     exact⟨cs'[j],(hcs j hj).trans hv,⟨(ee b)[j],ax8 hj2⟩,fun c hcc=>hr.2 j c _ hcc hv⟩
    have hlen:∀b,b∈l->(ee b).length=k:=by
     intro b hb;obtain⟨i,hi⟩:=ao9.1 hb;obtain⟨_,_,cs',hc,hr⟩:=hp i b hi;rw[hk] at hc;rw[hr.1,(World.cells?_some hc).2.1]
    have hb0:∃b,l[0]? = some b:=⟨l[0]'(by omega),ax8 _⟩;obtain⟨b0,hb0⟩:=hb0;obtain⟨v0,hv0,_⟩:=hcell 0 0 b0 hb0 h0;have hadd0:(a.add (0*k)).add 0=a:=by simp[Addr.add]
    rw[hadd0] at hv0;unfold World.cell? at hv0;split at hv0
    case h_2=>simp at hv0
    rename_i arr T fr hblk
    have hsp:a.spot=none:=by
     cases hs:a.spot with
     |none=>rfl
     |some s=>grind
    have ap:∀i j b,l[i]? = some b->j<k->∃v,arr[a.off+(i*k+j)]? = some v/\(∃c,(ee b)[j]? = some c)/\∀c,(ee b)[j]? = some c->bX (jI w) c v:=by
     intro i j b hb hj;obtain⟨v,hv,hc⟩:=hcell i j b hb hj;rw[Deep.add_add] at hv;unfold World.cell? at hv;have hbk:(a.add (i*k+j)).block=a.block:=by unfold Addr.add;grind
     have hso:(a.add (i*k+j)).spot=none:=by unfold Addr.add;grind
     have hof:(a.add (i*k+j)).off=a.off+(i*k+j):=by unfold Addr.add;grind
     rw[hbk,hblk] at hv;simp only[hso,hof] at hv;exact⟨v,by grind,hc⟩
    refine bX.lst (arr:=arr) (T:=T) (fr:=fr) (fun i=>(arr[a.off+i]?).getD undef) hblk hsp (by grind) hlc (by omega) ?_ ?_ ?_
    ·grind
    ·intro i hi;rw[bf9] at hi;have hq:i / k<l.length:=Nat.div_lt_of_lt_mul (by grind);obtain⟨v,hv,_⟩:=ap (i / k) (i % k) l[i / k] (ax8 hq) (an9 _ h0)<;>simp_all[an8,Nat.div_add_mod]
    grind
  ·simp only[eV];rw[lV];have:=Ea (l:=l) (sz:=sz) (g:=fun i=>eV (D i)) fun i b hb=>(hp i b hb).1
   grind
  ·obtain⟨i,hi⟩:=ao9.1 hb<;>grind
def xf(P:Program)(N:Nat)(fs:List (TypeId×Nat×Nat))(off:Nat)(e:α->List V)(sz:α->Nat)(ok:α->Prop):Prop:=
 ∀{H:Type} (enc:TypeId×Value->H) (w:World) (n:Nat) (cs:List Value) (xs:List (DataW H×List MemPlace)),cs.length=N->xs.length=fs.length->
  (∀(i:Nat) (f:TypeId×Nat×Nat),fs[i]? = some f->DataW.trod enc P w 0 (fun _=>true) true n f.1 ((cs.drop f.2.1).take f.2.2)=xs[i]?)->
  xo P (fs.map (·.1)) (xs.map (·.1))->∃a:α,eI (jI w) (e a) (cs.drop off)/\sz a<=eY (xs.map (·.1))/\ok a
theorem nP{N:Nat}:xf P N [] N (fun _:Unit=>[]) (fun _=>0) (fun _=>True):=by
 intro H enc w n cs xs hN hx _ _;refine⟨(),?_,by simp,trivial⟩;rw[<-hN];simp[eI]
theorem cS{N k off:Nat}{ft:TypeId}{fs:List (TypeId×Nat×Nat)}{ea:α->List V}{eb:β->List V}{sa:α->Nat}{sb:β->Nat}{oa:α->Prop}{ob:β->Prop}
  (h:dK P ft ea sa oa) (hr:xf P N fs (off+k) eb sb ob):xf P N ((ft,off,k)::fs) off (fun p:α×β=>ea p.1++eb p.2) (fun p=>sa p.1+sb p.2) (fun p=>oa p.1/\ob p.2):=by
 intro H enc w n cs xs hN hx hf hw
 match xs,hx with
 |x::xs,hx=>
  have h1:=hf 0 _ rfl;simp only[bk9] at h1;have hw':=py hw;obtain⟨a,ha,hs,ho⟩:=h enc w n _ x h1 hw'.1
  have hb':=hr enc w n cs xs hN (by simpa using hx) fun i f hi=>by
   have:=hf (i+1) f (by simpa using hi)
   simpa using this
  obtain⟨b,hb,hs',ho'⟩:=hb' hw'.2;refine⟨(a,b),?_,by simp only[bi9,eY];omega,ho,ho'⟩;have:=ha.app hb;rw[show(cs.drop off).take k++cs.drop (off+k)=cs.drop off by rw[<-cd8];exact cf9 _ _] at this;exact this
def fieldsOf(P:Program)(t:TypeId):Option (List (TypeId×Nat×Nat)):=
 match P.underlying t with
 |some (.struct fs)=>some (fs.toList.map fun f=>(f.type,f.offset,P.cellsOf f.type))
 |_=>none
theorem j4{N:Nat}{fs:List (TypeId×Nat×Nat)}{e:α->List V}{sz:α->Nat}{ok:α->Prop}(ht:fieldsOf P t=some fs)(hN:P.cellsOf t=N)(h:xf P N fs 0 e sz ok):
  dK P t e (fun a=>sz a+1) ok:=by
 intro H enc w fuel cs x hx hw;unfold fieldsOf at ht;split at ht
 case h_2=>simp at ht
 rename_i gs hu;simp only[av8] at ht;subst ht;obtain⟨xs,n,_,rfl,hl,hxl,hf⟩:=DataW.trod_struct hu hx
 have ha':=h enc w n cs xs (hl.trans hN) (by simpa using hxl) fun i f hi=>by
  rw[ay9,ae9] at hi;obtain⟨g,hg,rfl⟩:=hi;exact hf i g (by simpa using hg)
 obtain⟨a,h1,h2,h3⟩:=ha' (by
  unfold Di at hw;rw[DataW.weights] at hw;simp only[hu] at hw;unfold xo;rw[bc9];exact hw)
 exact⟨a,by simpa using h1,by simp only[eV];omega,h3⟩
theorem pI{ea:α->List V}{eb:β->List V}{sa:α->Nat}{sb:β->Nat}{oa:α->Prop}{ob:β->Prop}(h:dK P t ea sa oa)(g:α->β)
  (he:∀a,eb (g a)=ea a) (hs:∀a,sb (g a)=sa a) (ho:∀a,oa a->ob (g a)):dK P t eb sb ob:=by
 intro H enc w fuel cs x hx hw;obtain⟨a,h1,h2,h3⟩:=h enc w fuel cs x hx hw;exact⟨g a,by rw[he];exact h1,by rw[hs];exact h2,ho a h3⟩
def Gq(P:Program)(t:TypeId)(e:α->V)(sz:α->Nat)(ok:α->Prop):Prop:=
 ∀{H:Type} (enc:TypeId×Value->H) (w:World) (base:Nat) (v:Value) (d:DataW H) (p:List MemPlace),
  Value.okWide P w .any base t v->DataW.Trod enc P w 0 (fun _=>true) true t v d p->Di P t d->∃a:α,bX (jI w) (e a) v/\sz a<=eV d/\ok a
theorem zG{fs:List (TypeId×Nat×Nat)}{e:α->List V}{sz:α->Nat}{ok:α->Prop}(ht:fieldsOf P t=some fs)(h:dK P t e sz ok):Gq P t (fun a=>.agg (e a)) sz ok:=by
 intro H enc w base v d p hv ⟨n,hd⟩ hw;unfold fieldsOf at ht;split at ht
 case h_2=>simp at ht
 rename_i gs hu;obtain⟨cs,rfl,_⟩:=okWide_struct hu hv;obtain⟨a,h1,h2,h3⟩:=h enc w n _ _ hd hw;exact⟨a,.agg (by simpa[Value.cells] using h1.1) (fun i c v' hc hv'=>h1.2 i c v' hc (by simp_all[Value.cells])),h2,h3⟩
theorem BY{w w':World}(h:∀b,b<w.heap.size->w'.heap[b]? = w.heap[b]?){p:MemPlace}(hp:p.block<w.heap.size):w.sameAt w' p:=by
 cases p with
 |cell b o=>simp only[World.sameAt,World.cell?];rw[h b hp]
 |map b=>exact h b hp
theorem nf{H:Type}{enc:TypeId×Value->H}(hl:laidOutB P=true){w w':World}{sp:Nat->Bool}(hh:∀b,b<w.heap.size->w'.heap[b]? = w.heap[b]?)
  (hs:∀b,b<w.heap.size->sp b=true):∀{ts:List TypeId} {vs:List Value} {ds:List (DataW H)} {ps:List MemPlace},
  (ts.all fun t=>P.readableRec t&&decide (t<P.types.size))=true->DataW.TrodAll enc P w 0 (fun _=>true) true ts vs ds ps->(∀p∈ps,p.block<w.heap.size)->DataW.TrodAll enc P w' 0 sp true ts vs ds ps
 |[],[],[],_,_,h,_=>h
 |t::ts,v::vs,d::ds,_,hr,⟨p,q,h1,h2,e⟩,hlt=>by
  subst e;simp only[ag8,ap9,decide_eq_true_eq] at hr
  exact⟨p,q,WideElems.Trod_stays hl hr.1.1 hr.1.2 h1 (fun x hx=>BY hh (hlt x (cf8 _ hx))) (fun x hx=>hs _ (hlt x (cf8 _ hx))),
   nf hl hh hs (by grind) h2 (fun x hx=>hlt x (List.mem_append_right _ hx)),rfl⟩
theorem HV{w w':World}(hs:pW w w')(hh:∀b,b<w.heap.size->w'.heap[b]? = w.heap[b]?)(may:MemPlace->Prop):w.keptBut w' may:=by
 refine⟨hs.os,hs.output,fun i hi=>?_⟩
 grind
theorem Ff{H:Type}{enc:TypeId×Value->H}{f:Func}{s:ChangeSpec}{apart fresh handsOn:Bool}{w w':World}{args:Array Value}{v:Value}{ds gs:List (DataW H)}{before:List MemPlace}{m m':bF}{tb:TypeId}
  (hl:laidOutB P=true) (hts:(f.params.toList.all fun t=>P.readableRec t&&decide (t<P.types.size))=true) (hv:s.vars=[]) (hfn:∀gs',gs'=[]->s.fn H (ds++gs')={ results:=[.lit (.bool true)],args:=ds })
  (hres:f.resultTypes=#[tb]) (hb:P.underlying tb=some .bool) (hW:DataW.Whole enc P f.params.toList s.vars apart w args.toList ds gs before) (h:bX m' (bV true) v) (hg:ui m m' w w'):
  s.post enc P f apart fresh handsOn false w args v w':=by
 have hW0:=hW;obtain⟨p,q,hA,hV,rfl,hfz,hnd⟩:=hW0;cases h;rw[hv] at hV;cases gs with
 |cons _ _=>simp[DataW.TrodVars] at hV
 |nil=>
 have hq:q=[]:=hV;subst hq;refine⟨ds,[],p++[],[],p,[],hW,?_,?_,?_,HV hg.same hg.heap _,fun h=>by simp at h⟩
 ·rw[hfn _ rfl,hres];exact trodAll_cons_mk (RowKit.shut_bool hb _) trodAll_mk0
 ·rw[hfn _ rfl];exact nf hl hg.heap (fun b hb=>by grind) hts hA (DataW.TrodAll.lt hA)
 ·rw[hv,hfn _ rfl];rfl
theorem Gg{H:Type}{enc:TypeId×Value->H}{w:World}{args:Array Value}{f:Func}{s:ChangeSpec}{apart:Bool}{ds gs:List (DataW H)}{before:List MemPlace}
  (hW:DataW.Whole enc P f.params.toList s.vars apart w args.toList ds gs before):∃p,DataW.TrodAll enc P w 0 (fun _=>true) true f.params.toList args.toList ds p:=by
 obtain⟨p,q,hA,_⟩:=hW<;>grind
end
def Af(P:Program)(f:FuncId)(fn:Func)(s:ChangeSpec)(c:OpenClaim):Bool:=
 c.wf (OpenSpec.ofChange s)&&laidOutB P&&mapsRowed P &&
 fn.params.all (P.readableRec ·)&&namedTie P c.named s.vars &&
 (c.stops==[])&&(P.stops==[])&&(c.knobs==[])&&(P.stopKnobs==[]) &&
 (c.inPlace==P.inPlace f)&&(c.unfollowed==P.unfollowed f)&&(c.recurses==P.recurses f)&&(c.named==P.varsNamed f) &&
 (c.maps==(fn.params.toList++s.plain.varTypes P).any (P.mapsRec ·))&&(c.ifaces==(fn.params.toList++s.plain.varTypes P).any (P.ifacesRec ·))&&(c.mapsOut==P.mapsAmong fn.resultTypes.toList) &&
 (c.loops==(fn.params.toList++s.plain.varTypes P).any (P.loopsFrom ·))&&(c.wideKeys==(fn.params.toList++s.plain.varTypes P++fn.resultTypes.toList).any (P.wideKeysFrom ·)) &&
 s.vars.all (P.varReadable ·)&&fn.resultTypes.all (fun t=>P.readableRec t&&decide (t<P.types.size))&&(c.ifacesOut==fn.resultTypes.toList.any (P.ifacesRec ·))&&(c.loopsOut==fn.resultTypes.toList.any (P.loopsFrom ·))&&(c.plainKeys==P.plainKeys)&&c.shortTexts.isNone&&P.stopsHeard
def Ae(P:Program)(c:OpenClaim):Bool:=P.mayEnter&&(c.lifted==P.liftsFinal)&&(P.make==some c.make)
def Ad(P:Program)(fn:Func)(s:ChangeSpec)(c:OpenClaim):Bool:=
 (c.kinds==(if c.domain.isEmpty then [] else fn.params.toList.map fun t=>match P.underlying t with|some (.int k)=>some k|_=>none))&&(c.pinned==c.pinnedBy) &&
 (c.veiled==(fn.params.toList++s.plain.varTypes P++fn.resultTypes.toList).any (P.veiledRec ·))&&c.veiledFits P fn.params.toList (fn.params.toList++s.plain.varTypes P++fn.resultTypes.toList)
theorem Ac{P:Program}{f:FuncId}{fn:Func}{s:ChangeSpec}{c:OpenClaim}(h1:Af P f fn s c=true)(h2:Ae P c=true)(h3:Ad P fn s c=true):joinedFacts P f fn s c=true:=by
 unfold Af at h1;unfold Ae at h2;unfold Ad at h3
 have e:∀a b c d b1 b2 b3 c1 c2 c3:Bool,a=true->(b1&&b2&&b3)=true->(b&&c&&d&&c1)=true->(a&&b1&&b2&&b3&&b&&c&&d&&c1)=true:=by
  intro a b c d b1 b2 b3 c1 c2 c3 h h' h'';simp only[ap9] at *
  simp_all
 exact e _ _ _ _ _ _ _ _ true true h1 h2 h3
section
variable{P:Program}{t e:TypeId}{α β:Type}
def iK(b:Nat)(P:Program)(t:TypeId)(e:α->List V)(sz:α->Nat)(ok:α->Prop):Prop:=
 ∀{H:Type} (enc:TypeId×Value->H) (w:World) (fuel:Nat) (cs:List Value) (x:DataW H×List MemPlace),
  DataW.trod enc P w 0 (fun _=>true) true fuel t cs=some x->Di P t x.1->eV x.1<=b->∃a:α,eI (jI w) (e a) cs/\sz a<=eV x.1/\ok a
theorem dK.at{ee:α->List V}{sz:α->Nat}{ok:α->Prop}(h:dK P t ee sz ok)(b:Nat):iK b P t ee sz ok:=fun enc w fuel cs x ht hw _=>h enc w fuel cs x ht hw
theorem iK.mono{b b':Nat}{ee:α->List V}{sz:α->Nat}{ok:α->Prop}(h:iK b P t ee sz ok)(hb:b'<=b):iK b' P t ee sz ok:=fun enc w fuel cs x ht hw hl=>h enc w fuel cs x ht hw (bs8 hl hb)
theorem F4{H:Type}(d:DataW H):0<eV d:=by
 cases d with
 |lit l=>cases l<;>simp[eV]
 |_=>simp[eV]
theorem xN{ee:α->List V}{sz:α->Nat}{ok:α->Prop}:iK 0 P t ee sz ok:=fun enc w fuel cs x ht hw hl=>absurd hl (by grind [F4])
theorem F5{H:Type}{n i:Nat}(D:Nat->DataW H)(hi:i<n):eV (D i)<=((List.range n).map fun i=>eV (D i)).sum:=by
 have:eV (D i)∈(List.range n).map fun i=>eV (D i):=bb8.2 ⟨i,cj8.2 hi,rfl⟩;generalize (List.range n).map (fun i=>eV (D i))=l at this
 induction l<;>grind
theorem vU{b k:Nat}{ee:α->List V}{sz:α->Nat}{ok:α->Prop}(ht:P.underlying t=some (.slice e))(hk:P.cellsOf e=k)(h0:0<k)(he:iK b P e ee sz ok):
  iK (b+1) P t (fun l:List α=>[V.lst k (l.map ee)]) (fun l=>(l.map sz).sum+1) (fun l=>(∀a,a∈l->ok a)/\l.length<=maxLen):=by
 intro H enc w fuel cs x h hw hlt;rcases Deep.open_slice ht h with ⟨rfl,rfl⟩|⟨a,len,cap,m,n,D,Pl,rfl,_,hlc,hcm,hm,rfl,hel⟩
 ·exact⟨[],eI.one (.nil _ _ _),by simp[eV],by simp⟩
 ·simp only[if_true] at hm;subst hm
  obtain⟨l,hl,hp⟩:=v6 (n:=len) (p:=fun i (b:α)=>sz b<=eV (D i)/\ok b/\∃cs',w.cells? 0 (a.add (i*P.cellsOf e)) (P.cellsOf e)=some cs'/\eI (jI w) (ee b) cs') (by
   intro i hi;obtain⟨cs',hc,hd⟩:=hel i (by omega)
   obtain⟨b,h1,h2,h3⟩:=he _ _ _ _ _ hd (by
    unfold Di at hw;rw[DataW.weights] at hw;simp only[ht,ag8,ce9,ap9] at hw
    grind [J1]) (by
    simp only[eV] at hlt;rw[lV] at hlt;have:=F5 D hi;grind)
   grind)
  refine⟨l,eI.one ?_,?_,fun b hb=>?_,by omega⟩
  ·by_cases hz:len=0
   ·subst hz;have:l=[]:=ax9.1 hl;subst this;exact .nil _ _ _
   ·have hcell:∀i j b,l[i]? = some b->j<k->∃v,w.cell? ((a.add (i*k)).add j)=some v/\(∃c,(ee b)[j]? = some c)/\∀c,(ee b)[j]? = some c->bX (jI w) c v:=by
     intro i j b hb hj;obtain⟨_,_,cs',hc,hr⟩:=hp i b hb;rw[hk] at hc;obtain⟨_,hn,hcs⟩:=World.cells?_some hc;have hj':j<cs'.length:=by omega
     have hv:cs'[j]? = some cs'[j]:=ax8 hj';have hj2:j<(ee b).length:=by rw[hr.1];exact hj'
     exact⟨cs'[j],(hcs j hj).trans hv,⟨(ee b)[j],ax8 hj2⟩,fun c hcc=>hr.2 j c _ hcc hv⟩
    have hlen:∀b,b∈l->(ee b).length=k:=by
     intro b hb;obtain⟨i,hi⟩:=ao9.1 hb;obtain⟨_,_,cs',hc,hr⟩:=hp i b hi;rw[hk] at hc;rw[hr.1,(World.cells?_some hc).2.1]
    have hb0:∃b,l[0]? = some b:=⟨l[0]'(by omega),ax8 _⟩;obtain⟨b0,hb0⟩:=hb0;obtain⟨v0,hv0,_⟩:=hcell 0 0 b0 hb0 h0;have hadd0:(a.add (0*k)).add 0=a:=by simp[Addr.add]
    rw[hadd0] at hv0;unfold World.cell? at hv0;split at hv0
    case h_2=>simp at hv0
    rename_i arr T fr hblk
    have hsp:a.spot=none:=by
     cases hs:a.spot with
     |none=>rfl
     |some s=>grind
    have ap:∀i j b,l[i]? = some b->j<k->∃v,arr[a.off+(i*k+j)]? = some v/\(∃c,(ee b)[j]? = some c)/\∀c,(ee b)[j]? = some c->bX (jI w) c v:=by
     intro i j b hb hj;obtain⟨v,hv,hc⟩:=hcell i j b hb hj;rw[Deep.add_add] at hv;unfold World.cell? at hv;have hbk:(a.add (i*k+j)).block=a.block:=by unfold Addr.add;grind
     have hso:(a.add (i*k+j)).spot=none:=by unfold Addr.add;grind
     have hof:(a.add (i*k+j)).off=a.off+(i*k+j):=by unfold Addr.add;grind
     rw[hbk,hblk] at hv;simp only[hso,hof] at hv;exact⟨v,by grind,hc⟩
    refine bX.lst (arr:=arr) (T:=T) (fr:=fr) (fun i=>(arr[a.off+i]?).getD undef) hblk hsp (by grind) hlc (by omega) ?_ ?_ ?_
    ·grind
    ·intro i hi;rw[bf9] at hi;have hq:i / k<l.length:=Nat.div_lt_of_lt_mul (by grind);obtain⟨v,hv,_⟩:=ap (i / k) (i % k) l[i / k] (ax8 hq) (an9 _ h0)<;>simp_all[an8,Nat.div_add_mod]
    grind
  ·simp only[eV];rw[lV];have:=Ea (l:=l) (sz:=sz) (g:=fun i=>eV (D i)) fun i b hb=>(hp i b hb).1
   grind
  ·obtain⟨i,hi⟩:=ao9.1 hb<;>grind
def rD(b0:Nat)(P:Program)(N:Nat)(fs:List (TypeId×Nat×Nat))(off:Nat)(e:α->List V)(sz:α->Nat)(ok:α->Prop):Prop:=
 ∀{H:Type} (enc:TypeId×Value->H) (w:World) (n:Nat) (cs:List Value) (xs:List (DataW H×List MemPlace)),cs.length=N->xs.length=fs.length->
  (∀(i:Nat) (f:TypeId×Nat×Nat),fs[i]? = some f->DataW.trod enc P w 0 (fun _=>true) true n f.1 ((cs.drop f.2.1).take f.2.2)=xs[i]?)->
  xo P (fs.map (·.1)) (xs.map (·.1))->eY (xs.map (·.1))<=b0->∃a:α,eI (jI w) (e a) (cs.drop off)/\sz a<=eY (xs.map (·.1))/\ok a
theorem yq{b0 N:Nat}:rD b0 P N [] N (fun _:Unit=>[]) (fun _=>0) (fun _=>True):=by
 intro H enc w n cs xs hN hx _ _ _
 simp_all[eI]
theorem eD{b0 N k off:Nat}{ft:TypeId}{fs:List (TypeId×Nat×Nat)}{ea:α->List V}{eb:β->List V}{sa:α->Nat}{sb:β->Nat}{oa:α->Prop}{ob:β->Prop}
  (h:iK b0 P ft ea sa oa) (hr:rD b0 P N fs (off+k) eb sb ob):rD b0 P N ((ft,off,k)::fs) off (fun p:α×β=>ea p.1++eb p.2) (fun p=>sa p.1+sb p.2) (fun p=>oa p.1/\ob p.2):=by
 intro H enc w n cs xs hN hx hf hw hb0
 match xs,hx with
 |x::xs,hx=>
  have h1:=hf 0 _ rfl;simp only[bk9] at h1;have hw':=py hw;simp only[bi9,eY] at hb0;obtain⟨a,ha,hs,ho⟩:=h enc w n _ x h1 hw'.1 (by omega)
  have hb':=hr enc w n cs xs hN (by grind) fun i f hi=>by
   have:=hf (i+1) f (by grind)
   grind
  obtain⟨b,hb,hs',ho'⟩:=hb' hw'.2 (by omega);refine⟨(a,b),?_,by grind [eY],ho,ho'⟩;have:=ha.app hb
  grind [List.drop_drop,List.take_append_drop]
theorem tQ{b0 N:Nat}{fs:List (TypeId×Nat×Nat)}{e:α->List V}{sz:α->Nat}{ok:α->Prop}(ht:fieldsOf P t=some fs)(hN:P.cellsOf t=N)(h:rD b0 P N fs 0 e sz ok):
  iK (b0+1) P t e (fun a=>sz a+1) ok:=by
 intro H enc w fuel cs x hx hw hlt;unfold fieldsOf at ht;split at ht
 case h_2=>simp at ht
 rename_i gs hu;simp only[av8] at ht;subst ht;obtain⟨xs,n,_,rfl,hl,hxl,hf⟩:=DataW.trod_struct hu hx
 have ha':=h enc w n cs xs (hl.trans hN) (by grind) fun i f hi=>by
  grind
 obtain⟨a,h1,h2,h3⟩:=ha' (by
  unfold Di at hw;rw[DataW.weights] at hw;simp only[hu] at hw;unfold xo;rw[bc9];exact hw) (by simp_all[eV])
 grind [eV]
end
end Go.Pv
namespace Go.Pv
open Go
theorem cc{n:Int}(h : -9223372036854775808<=n)(h':n<=9223372036854775807):bh n=n:=by
 have:bh n=if n % 18446744073709551616>=9223372036854775808 then n % 18446744073709551616 - 18446744073709551616 else n % 18446744073709551616:=by
  simp[bh,IntKind.wrap,IntKind.signed,IntKind.bits]
 grind
theorem aA{α β:Type}(k:α)(b:α->β):jn k b=b k:=rfl
theorem bt{α:Type}{xs:List α}{j:Nat}(h:j<xs.length):cq xs (j:Int)=some xs[j]:=by
 simp[cq,h]
theorem dl{α β:Type}[DecidableEq α](xs:List (α×β))(k k':α)(v:β):aY (co xs k v) k'=if k=k' then some v else aY xs k':=by
 induction xs with
 |nil=>simp[co,aY]
 |cons p r ih=>
  simp only[co];split
  ·simp_all[aY]
  ·rename_i h;simp only[aY]
   grind
theorem ru(x:UInt8)(a:B8)(y:UInt8)(b:B8):Op.bytesLess (x::a) (y::b)=(decide (x<y)||(x==y&&Op.bytesLess a b)):=by
 rw[Op.bytesLess]
theorem pS:∀a:B8,Op.bytesLess a a=false
 |[]=>by simp[Op.bytesLess]
 |x::a=>by rw[ru,pS a];simp
theorem o8:∀{a b c:B8},Op.bytesLess a b=true->Op.bytesLess b c=true->Op.bytesLess a c=true
 |[],[],_,h,_=>by grind
 |[],y::b,[],_,h=>by simp[Op.bytesLess] at h
 |[],y::b,z::c,_,_=>by simp[Op.bytesLess]
 |x::a,[],_,h,_=>by simp[Op.bytesLess] at h
 |x::a,y::b,[],_,h=>by simp[Op.bytesLess] at h
 |x::a,y::b,z::c,h,g=>by
  rw[ru] at *;simp only[aq9,decide_eq_true_eq,ap9,beq_iff_eq,UInt8.lt_iff_toNat_lt] at *;rcases h with h|⟨rfl,h⟩<;>rcases g with g|⟨rfl,g⟩
  ·exact .inl (by omega)
  ·exact .inl h
  ·exact .inl g
  ·exact .inr ⟨Y,o8 h g⟩
theorem F6:∀a b:B8,Op.bytesLess a b=true\/a=b\/Op.bytesLess b a=true
 |[],[]=>by simp
 |[],y::b=>by simp[Op.bytesLess]
 |x::a,[]=>by simp[Op.bytesLess]
 |x::a,y::b=>by
  rw[ru,ru];simp only[aq9,decide_eq_true_eq,ap9,beq_iff_eq,UInt8.lt_iff_toNat_lt,bx9];rcases Nat.lt_trichotomy x.toNat y.toNat with h|h|h
  ·grind
  ·have:=UInt8.toNat_inj.1 h
   simp_all[F6]
  grind
theorem u4{a b:B8}(h:Op.bytesLess a b=true):a≠b:=by grind [pS]
theorem FL{α:Type}[DecidableEq α]{g:List α->Int->Option Bool}(b:List α)(k:Option Bool)
  (h0:∀n,g [] n=k) (h1:∀x l n,g (x::l) n=(cq b n).bind fun y=>if (!(decide (x=y)))=true then some false else g l (n+1)):
  ∀(l:List α) (n:Nat),n+l.length<=b.length->g l n=if l=(b.drop n).take l.length then k else some false
 |[],n,_=>by simp[h0]
 |x::l,n,h=>by
  have hn:n<b.length:=by simp at h;omega
  rw[h1,bt hn,bv9];have ih:=FL b k h0 h1 l (n+1) (by simp at h;omega);have e:((n:Int)+1)=((n+1:Nat):Int):=rfl;rw[e,ih,bq8 hn];simp only[bt8,List.take_succ_cons,bx9];by_cases hx:x=b[n]
  ·simp[hx]
  ·simp[hx]
theorem H7{α:Type}[DecidableEq α]{g:List α->Int->Option Bool}(b:List α)
  (h0:∀n,g [] n=some true) (h1:∀x l n,g (x::l) n=(cq b n).bind fun y=>if (!(decide (x=y)))=true then some false else g l (n+1)) (a:List α):
  (if (((a.length:Nat):Int) != ((b.length:Nat):Int))=true then some false else g a 0)=some (decide (a=b)):=by
 by_cases h:a.length=b.length
 ·rw[if_neg (by simp[h])];have:=FL b (some true) h0 h1 a 0 (by omega);rw[show((0:Nat):Int)=0 from rfl] at this;rw[this,bp9,List.take_of_length_le (by omega)];split<;>simp[*]
 ·rw[if_pos (by simp;omega)];have:a≠b:=fun e=>h (by rw[e]);simp[this]
theorem Ct{α:Type}{g:List α->Int->Option Int}{k:Option Int}(p:α->Bool)(h0:∀n,g [] n=k)(h1:∀x l n,g (x::l) n=if p x=true then some n else g l (n+1)):
  ∀l (n:Nat),g l n=if l.any p=true then some ((n+l.findIdx p:Nat):Int) else k
 |[],n=>by simp[h0]
 |x::l,n=>by
  have e:((n:Int)+1)=((n+1:Nat):Int):=rfl;rw[h1,e,Ct p h0 h1 l (n+1)]
  grind
theorem wz{β:Type}{g:Nat->Int->Option β}{k:Option β}{f:β}(s:B8)(p:UInt8->Bool)(h0:∀n,g 0 n=k)
  (h1:∀m n,g (m+1) n=(cq s n).bind fun c=>if p c=true then g m (n+1) else some f):
  ∀(m n:Nat),n+m=s.length->g m n=if (s.drop n).all p=true then k else some f
 |0,n,h=>by grind
 |m+1,n,h=>by
  have hn:n<s.length:=by omega
  have e:((n:Int)+1)=((n+1:Nat):Int):=rfl;rw[h1,bt hn,bv9,e,wz s p h0 h1 m (n+1) (by omega),bq8 hn,ag8]
  grind
end Go.Pv
namespace Go.Proofs.YtelmfadihfcgnaaGreatDoor
open Go Go.Pv
set_option maxRecDepth 100000
inductive Tr where
 |mk (Kind:Int) (Name:B8) (Texts:List B8) (Op N:Int) (Kids:List Tr)
noncomputable section
mutual
def Tr.toT:Tr->aG
 | .mk a b c d e ks=>⟨a,b,c,d,e,Tr.toKs ks⟩
def Tr.toKs:List Tr->List aw
 |[]=>[]
 |t::r=>⟨ah t.toT,ce _,gW _⟩::Tr.toKs r
end
def Ms(n:Int):Prop:=(IntKind.i64).min<=n/\n<=(IntKind.i64).max
def uC(s:B8):Prop:=s.length<=140737488351232
mutual
def Tr.ok:Tr->Prop
 | .mk a b c d e ks=>Ms a/\uC b/\((∀s,s∈c->uC s)/\c.length<=maxLen)/\Ms d/\Ms e/\Tr.oks ks/\ks.length<=maxLen
def Tr.oks:List Tr->Prop
 |[]=>True
 |t::r=>t.ok/\Tr.oks r
end
end
theorem Tr.toKs_row:∀ks:List Tr,(Tr.toKs ks).map aw.row=ks.map fun t=>ah t.toT
 |[]=>by simp[Tr.toKs]
 |t::r=>by simp[Tr.toKs,Tr.toKs_row r]
theorem Tr.oks_of:∀ks:List Tr,(∀t,t∈ks->t.ok)->Tr.oks ks
 |[],_=>by simp[Tr.oks]
 |t::r,h=>by rw[Tr.oks];exact⟨h t (by simp),Tr.oks_of r fun u hu=>h u (by simp[hu])⟩
theorem Tr.toKs_len:∀ks:List Tr,(Tr.toKs ks).length=ks.length
 |[]=>by simp[Tr.toKs]
 |t::r=>by simp[Tr.toKs,Tr.toKs_len r]
theorem pC{a b:B8}(h:sV a=sV b):a=b:=by
 unfold sV str at h;simp only[V.con.injEq,Value.string.injEq] at h;have:=congrArg (fun b=>b.data.toList) h
 simpa using this
theorem FM{a b:B8}(h:au a=au b):a=b:=pC (by simpa[au] using h)
theorem sq{a b:List B8}(h:a.map au=b.map au):a=b:=List.map_inj_right (fun x y h=>FM h) |>.1 h
theorem E5{a b:List aw}(h:a.map aw.row=b.map aw.row):a=b:=List.map_inj_right (fun x y h=>aw.ext' h) |>.1 h
theorem oV(a b:aG)(h:ah a=ah b):a=b:=by
 obtain⟨a1,a2,a3,a4,a5,a6⟩:=a;obtain⟨b1,b2,b3,b4,b5,b6⟩:=b;simp only[ah,bx9,and_true] at h;obtain⟨h1,h2,h3,h4,h5,h6⟩:=h;have e1:a1=b1:=by injection h1 with h;injection h
 have e4:a4=b4:=by injection h4 with h;injection h
 have e5:a5=b5:=by injection h5 with h;injection h
 have e2:=pC h2;have e3:a3=b3:=sq (by injection h3);have e6:a6=b6:=E5 (by injection h6);subst e1 e2 e3 e4 e5 e6;rfl
theorem Fi(t:Tr):dM ah ⟨ah t.toT,ce _,gW _⟩=some t.toT:=Bf oV rfl
def AQ(x:aG):Nat:=0
def oI(x:aG):Prop:=∃t:Tr,x=t.toT/\t.ok
theorem uB:∀b,iK b Tryz.prog 25 (fun t:Tr=>ah t.toT) (fun _=>0) Tr.ok
 |0=>xN
 |b+1=>by
  have hi:dK Tryz.prog 3 (fun x=>[V.con (.int .i64 x)]) (fun _=>1) (fun x:Int=>(IntKind.i64).min<=x/\x<=(IntKind.i64).max):=uA (show Tryz.prog.underlying 3=some (.int .i64) by kernel_rfl);have hs:dK Tryz.prog 9 (fun x=>[sV x]) (fun s=>s.length+1) (fun s=>s.length<=140737488351232):=nh (show Tryz.prog.underlying 9=some (.string) by kernel_rfl);intro enc w fuel cs x hx hw hl
  obtain⟨a,h1,h2,h3⟩:=tQ (P:=Tryz.prog) (t:=25) (b0:=b) (fs:=[(3,0,1),(9,1,1),(22,2,1),(3,3,1),(3,4,1),(23,5,1)]) (by kernel_rfl) (by kernel_rfl)
   (eD (dK.at hi b) (eD (dK.at hs b) (eD (dK.at (lE (k:=1) (t:=22) (e:=9) (by kernel_rfl) (by kernel_rfl) (by decide) hs) b) (eD (dK.at hi b) (eD (dK.at hi b)
    (eD (iK.mono (vU (k:=6) (t:=23) (e:=25) (by kernel_rfl) (by kernel_rfl) (by decide) (uB b)) (ak8 b)) yq)))))) enc w fuel cs x hx hw hl
  refine⟨Tr.mk a.1 a.2.1 a.2.2.1 a.2.2.2.1 a.2.2.2.2.1 a.2.2.2.2.2.1,?_,ai8 _,?_⟩
  ·simp only[Tr.toT,ah,Tr.toKs_row];exact h1
  ·simp only[Tr.ok];exact⟨h3.1,h3.2.1,h3.2.2.1,h3.2.2.2.1,h3.2.2.2.2.1,Tr.oks_of _ h3.2.2.2.2.2.1.1,h3.2.2.2.2.2.1.2⟩
theorem Ev:dK Tryz.prog 25 ah AQ oI:=by
 intro H enc w fuel cs x hx hw;obtain⟨t,h1,h2,h3⟩:=uB _ enc w fuel cs x hx hw (ae8 _);exact⟨t.toT,h1,ai8 _,t,Y,h3⟩
end Go.Proofs.YtelmfadihfcgnaaGreatDoor
namespace Go.Proofs.YtelmfadihfcgnaaGreatDoor
open Go Go.Pv
set_option maxRecDepth 100000
theorem oG:dK Tryz.prog 9 (fun x=>[sV x]) (fun x:B8=>(x.length+1)) (fun x:B8=>(x.length<=140737488351232)):=nh (show Tryz.prog.underlying 9=some (.string) by kernel_rfl)
theorem ri:dK Tryz.prog 3 (fun x=>[V.con (.int .i64 x)]) (fun x:Int=>1) (fun x:Int=>((IntKind.i64).min<=x/\x<=(IntKind.i64).max)):=uA (show Tryz.prog.underlying 3=some (.int .i64) by kernel_rfl)
def jf(x:ay):Nat:=(x.Name.length+1)+((x.About.length+1)+((AQ x.When)+(1+0)))+1
def jh(x:ay):Prop:=(x.Name.length<=140737488351232)/\((x.About.length<=140737488351232)/\((oI x.When)/\(((IntKind.i64).min<=x.Level/\x.Level<=(IntKind.i64).max)/\True)))
theorem Er:dK Tryz.prog 58 aZ jf jh:=pI (j4 (fs:=[(9,0,1),(9,1,1),(25,2,6),(3,8,1)]) (by kernel_rfl) (by kernel_rfl) (cS oG (cS oG (cS Ev (cS ri nP))))) (fun p=>ay.mk p.1 p.2.1 p.2.2.1 p.2.2.2.1) (fun _=>rfl) (fun _=>rfl) (fun _ h=>h)
theorem Eu:dK Tryz.prog 46 (fun l=>[V.lst 9 (l.map aZ)]) (fun x:(List ay)=>((x.map (fun x:ay=>(jf x))).sum+1)) (fun x:(List ay)=>((∀a,a∈x->(fun x:ay=>(jh x)) a)/\x.length<=maxLen)):=lE (show Tryz.prog.underlying 46=some (.slice 58) by kernel_rfl) (by kernel_rfl) (by decide) Er
def pB(x:cB):Nat:=(x.Rule.length+1)+((x.Subject.length+1)+(1+(1+((x.Owner.length+1)+(1+0)))))+1
def jG(x:cB):Prop:=(x.Rule.length<=140737488351232)/\((x.Subject.length<=140737488351232)/\(((IntKind.i64).min<=x.From/\x.From<=(IntKind.i64).max)/\(((IntKind.i64).min<=x.To/\x.To<=(IntKind.i64).max)/\((x.Owner.length<=140737488351232)/\(((IntKind.i64).min<=x.Level/\x.Level<=(IntKind.i64).max)/\True)))))
theorem B9:dK Tryz.prog 185 cO pB jG:=pI (j4 (fs:=[(9,0,1),(9,1,1),(3,2,1),(3,3,1),(9,4,1),(3,5,1)]) (by kernel_rfl) (by kernel_rfl) (cS oG (cS oG (cS ri (cS ri (cS oG (cS ri nP))))))) (fun p=>cB.mk p.1 p.2.1 p.2.2.1 p.2.2.2.1 p.2.2.2.2.1 p.2.2.2.2.2.1) (fun _=>rfl) (fun _=>rfl) (fun _ h=>h)
theorem Et:dK Tryz.prog 47 (fun l=>[V.lst 6 (l.map cO)]) (fun x:(List cB)=>((x.map (fun x:cB=>(pB x))).sum+1)) (fun x:(List cB)=>((∀a,a∈x->(fun x:cB=>(jG x)) a)/\x.length<=maxLen)):=lE (show Tryz.prog.underlying 47=some (.slice 185) by kernel_rfl) (by kernel_rfl) (by decide) B9
def um(x:aW):Nat:=((x.Rules.map (fun x:ay=>(jf x))).sum+1)+(((x.Waivers.map (fun x:cB=>(pB x))).sum+1)+0)+1
def cY(x:aW):Prop:=((∀a,a∈x.Rules->(fun x:ay=>(jh x)) a)/\x.Rules.length<=maxLen)/\(((∀a,a∈x.Waivers->(fun x:cB=>(jG x)) a)/\x.Waivers.length<=maxLen)/\True)
theorem Es:dK Tryz.prog 49 aP um cY:=pI (j4 (fs:=[(46,0,1),(47,1,1)]) (by kernel_rfl) (by kernel_rfl) (cS Eu (cS Et nP))) (fun p=>aW.mk p.1 p.2.1) (fun _=>rfl) (fun _=>rfl) (fun _ h=>h)
theorem Ca:Gq Tryz.prog 49 (fun x=>V.agg (aP x)) um cY:=zG (fs:=[(46,0,1),(47,1,1)]) (by kernel_rfl) Es
def kR:List B8:=[([114,117,108,101]:B8),([97,98,111,117,116]:B8),([119,104,101,110]:B8),([119,97,105,118,101]:B8),([102,111,114]:B8),([102,114,111,109]:B8),([116,111]:B8),([98,121]:B8),([97,115]:B8),([112,97,115,115]:B8),([110,111,116,101]:B8),([119,97,114,110]:B8),([100,101,110,121]:B8),([111,114]:B8),([97,110,100]:B8),([116,114,117,101]:B8),([105,115]:B8),([98,101,103,105,110,115]:B8),([104,97,115]:B8),([110,111,116]:B8)]
def uj(s:B8):Bool:=kR.any fun w=>s==w
theorem orS{b c:Bool}{x:Option Bool}(h:x=some c):(if b=true then (if b=true then some true else some false) else x)=some (b||c):=by cases b<;>simp[h]
theorem orL{b:Bool}:(if b=true then some true else some false)=some (b||false):=by cases b<;>rfl
theorem LK(F:Nat)(s:B8):Of F s=some (uj s):=by
 unfold Of;simp only[aA]
 show _=some (kR.any fun w=>s==w)
 simp only[kR,cb8,List.any_nil]
 repeat (first|exact orL|apply orS)
theorem Lo(a b:B8):(a==b)=(b==a):=by
 by_cases h:a=b
 ·subst h;rfl
 ·rw[beq_false_of_ne h,beq_false_of_ne (Ne.symm h)]
theorem vc(F:Nat)(a:B8)(k:Option Bool):∀(m n:Nat),n+m=20->mi F a k m n=if ((kR.drop n).any fun w=>a==w)=true then some true else k
 |0,n,h=>by
  obtain rfl:n=20:=by omega
  simp[mi,kR]
 |m+1,n,h=>by
  have hn:n<kR.length:=by simp[kR];omega
  have e:((n:Int)+1)=((n+1:Nat):Int):=rfl;rw[mi,if_pos ⟨by omega,by omega⟩,e,vc F a k m (n+1) (by omega),bq8 hn,cb8];have h2:(s8 ([]:B8) kR n)=kR[n]:=by simp[s8,List.getD,ax8 hn]
  have h3:((n:Int)).toNat=n:=by omega
  rw[h3]
  show(if (s8 ([]:B8) kR n==a)=true then some true else _)=_
  rw[h2,Lo];cases h:a==kR[n]
  ·simp only[ch8,if_false,cc8]
  ·simp only[if_true,Bool.true_or]
theorem LF(F:Nat)(s:B8):Od F s=some (uj s):=by
 unfold Od;rw[aA,if_pos (by omega)];have:=vc F s (some false) 20 0 rfl;rw[show((0:Nat):Int)=0 from rfl] at this;rw[show(20:Int).toNat=20 from rfl,this];rw[bp9];unfold uj;cases kR.any fun w=>s==w<;>rfl
def run(c:UInt8):Bool:=(decide (97<=c.toNat)&&decide (c.toNat<=122))||(decide (48<=c.toNat)&&decide (c.toNat<=57))||(c.toNat==45)
def E7(c:UInt8):Bool:=decide (97<=c.toNat)&&decide (c.toNat<=122)
theorem LD(F:Nat)(c:UInt8):Oc F (c.toNat:Int)=some (run c):=by
 unfold Oc run
 have h1:((c.toNat:Int)==45)=(c.toNat==45):=by
  by_cases h:c.toNat=45
  ·simp[h]
  ·have:(c.toNat:Int)≠45:=by omega
   rw[beq_false_of_ne h,beq_false_of_ne this]
 by_cases a1:97<=c.toNat<;>by_cases a2:c.toNat<=122<;>by_cases a3:48<=c.toNat<;>by_cases a4:c.toNat<=57 <;>
  simp only[h1,a1,a2,a3,a4,show((c.toNat:Int)>=97)<->97<=c.toNat by omega,show((c.toNat:Int)<=122)<->c.toNat<=122 by omega,show((c.toNat:Int)>=48)<->48<=c.toNat by omega,show((c.toNat:Int)<=57)<->c.toNat<=57 by omega,decide_true,decide_false,if_true,if_false,ch8,Bool.and_true,Bool.and_false,Bool.or_true,Bool.true_or,cc8,Bool.or_false,Bool.and_self]
def cE(s:B8):Bool:=match s with|[]=>false|c::r=>decide ((c::r).length<=40)&&!uj (c::r)&&E7 c&&r.all run
theorem HJ{c:UInt8}{k:Option Bool} :
    (if (decide ((c.toNat:Int)>=97))=true then if (decide ((c.toNat:Int)<=122))=true then k
 else if (decide ((c.toNat:Int)>=48))=true then if (decide ((c.toNat:Int)<=57))=true then k
 else if (!((c.toNat:Int)==45))=true then some false
 else k
 else if (!((c.toNat:Int)==45))=true then some false
 else k
 else if (decide ((c.toNat:Int)>=48))=true then if (decide ((c.toNat:Int)<=57))=true then k
 else if (!((c.toNat:Int)==45))=true then some false
 else k
 else if (!((c.toNat:Int)==45))=true then some false
 else k)=if run c=true then k else some false:=by
  unfold run
  have h1:((c.toNat:Int)==45)=(c.toNat==45):=by
    by_cases h:c.toNat=45
    · simp[h]
    · have:(c.toNat:Int)≠45:=by omega
      rw[beq_false_of_ne h,beq_false_of_ne this]
  by_cases a1:97<=c.toNat<;>by_cases a2:c.toNat<=122<;>by_cases a3:48<=c.toNat<;>by_cases a4:c.toNat<=57<;>cases h5:(c.toNat==45) <;>
    simp only[h1,h5,a1,a2,a3,a4,show((c.toNat:Int)>=97)<->97<=c.toNat by omega,show((c.toNat:Int)<=122)<->c.toNat<=122 by omega,show((c.toNat:Int)>=48)<->48<=c.toNat by omega,show((c.toNat:Int)<=57)<->c.toNat<=57 by omega,decide_true,decide_false,if_true,if_false,ch8,Bool.and_true,Bool.and_false,Bool.or_true,Bool.true_or,cc8,Bool.or_false,Bool.and_self,br9,bt9]
theorem y0(F:Nat)(s:B8)(k:Option Bool):∀(m n:Nat),0<n->n+m=s.length->kF F s k m n=if (s.drop n).all run=true then k else some false
 |0,n,_,h=>by rw[kF,al9 (by omega)];simp
 |m+1,n,h0,h=>by
  have hn:n<s.length:=by omega
  have e:((n:Int)+1)=((n+1:Nat):Int):=rfl;have h3:decide ((n:Int)>0)=true:=decide_eq_true (by omega);rw[kF,aA,bt hn,bv9,e,y0 F s k m (n+1) (by omega) (by omega),bq8 hn,ag8];simp only[h3,if_true];rw[HJ];cases h:run s[n]
  ·simp only[ce8,ch8,if_false]
  ·simp only[ah9,if_true]
theorem HM{n:Nat}(h:n<=140737488351232):(n:Int)<=9223372036854775807:=by omega
theorem w6(F:Nat)(s:B8)(hs:uC s):IE F s=some (cE s):=by
 unfold uC at hs;unfold IE;rw[aA,if_pos (HM hs),show((s.length:Int):Int).toNat=s.length by omega];cases s with
 |nil=>rfl
 |cons c r=>
  rw[bt8,kF,aA,show cq (c::r) 0=some c from rfl,bv9];have e:((0:Int)+1)=((1:Nat):Int):=rfl;rw[e,y0 F (c::r) _ r.length 1 (by omega) (by simp;omega)];simp only[bo8,bp9,LK,bv9,cE,E7,show decide ((0:Int)>0)=false from rfl,ch8,if_false,bt8]
  have h40:decide (((r.length+1:Nat):Int)<=40)=decide (r.length+1<=40):=by
   by_cases h:r.length+1<=40
   ·rw[decide_eq_true h,decide_eq_true (by omega)]
   ·rw[decide_eq_false h,decide_eq_false (by omega)]
  have hne:(!(c::r==([]:B8)))=true:=rfl;rw[h40,hne]
  by_cases a1:97<=c.toNat<;>by_cases a2:c.toNat<=122 <;>
   simp only[a1,a2,show((c.toNat:Int)>=97)<->97<=c.toNat by omega,show((c.toNat:Int)<=122)<->c.toNat<=122 by omega,decide_true,decide_false,if_true,if_false,ch8,Bool.and_true,Bool.and_false,ce8]
  cases r.all run<;>cases decide (r.length+1<=40)<;>cases uj (c::r)<;>rfl
theorem CS(F:Nat)(s:B8)(k:Option Bool)(m n:Nat)(h:n+m=s.length):oh F s k m n=if (s.drop n).all run=true then k else some false:=
 wz s run (fun n=>rfl) (fun m n=>by
  rw[oh];cases cq s n with
  |none=>rfl
  |some c=>simp only[bv9,LD];cases run c<;>rfl) m n h
theorem w4(F:Nat)(s:B8)(hs:uC s):zk F s=some (cE s):=by
 unfold uC at hs;unfold zk;rw[aA,if_pos (HM hs),show((s.length:Int):Int).toNat=s.length by omega];have hl:=CS F s (some true) s.length 0 (by omega);rw[show((0:Nat):Int)=0 from rfl,bp9] at hl;rw[hl];cases s with
 |nil=>rfl
 |cons c r=>
  rw[show cq (c::r) 0=some c from rfl];simp only[LF,bv9,cE,E7,bt8,ag8,show((c::r==([]:B8)))=false from rfl,ch8,if_false]
  have h40:decide (((r.length+1:Nat):Int)>40) = !decide (r.length+1<=40):=by
   by_cases h:r.length+1<=40
   ·rw[decide_eq_true h,decide_eq_false (by omega)];rfl
   ·rw[decide_eq_false h,decide_eq_true (by omega)];rfl
  rw[h40]
  by_cases a1:97<=c.toNat<;>by_cases a2:c.toNat<=122 <;>
   simp only[a1,a2,show((c.toNat:Int)<97)<->¬(97<=c.toNat) by omega,show((c.toNat:Int)>122)<->¬(c.toNat<=122) by omega,not_true_eq_false,not_false_eq_true,decide_true,decide_false,if_true,if_false,ch8,Bool.and_true,Bool.and_false,ce8]
  ·have:run c=true:=by simp[run,a1,a2]
   simp only[this,ah9];cases r.all run<;>cases decide (r.length+1<=40)<;>cases uj (c::r)<;>rfl
  all_goals (cases decide (r.length+1<=40)<;>rfl)
def xq(c:UInt8):Bool:=decide (32<=c.toNat)&&decide (c.toNat<=126)
def nE(s:B8):Bool:=decide (s.length<=1000)&&s.all xq
theorem xp{β:Type}{s:B8}{n:Int}{k f:Option β}:((cq s n).bind fun c6=>if (decide ((c6.toNat:Int)<32))=true then f
 else (cq s n).bind fun c9=>if (decide ((c9.toNat:Int)>126))=true then f else k)=(cq s n).bind fun c=>if xq c=true then k else f:=by
  cases cq s n with
  |none=>rfl
  |some c=>
    simp only[bv9,xq]
    by_cases a1:32<=c.toNat<;>by_cases a2:c.toNat<=126 <;>
      simp only[a1,a2,show((c.toNat:Int)<32)<->¬(32<=c.toNat) by omega,show((c.toNat:Int)>126)<->¬(c.toNat<=126) by omega,not_true_eq_false,not_false_eq_true,decide_true,decide_false,if_true,if_false,ch8,Bool.and_true,Bool.and_false,ce8]
theorem BS(F:Nat)(s:B8)(hs:uC s):C1 F s=some (nE s):=by
 unfold uC at hs;unfold C1;rw[aA,if_pos (HM hs),show((s.length:Int):Int).toNat=s.length by omega];have hl:=wz (g:=kP F s (some (decide ((s.length:Int)<=1000)))) (f:=false) s xq (fun n=>rfl) (fun m n=>by rw[kP];exact xp) s.length 0 (by omega);rw[show((0:Nat):Int)=0 from rfl,bp9] at hl;rw[hl,nE,show decide ((s.length:Int)<=1000)=decide (s.length<=1000) from decide_eq_decide.2 (by omega)];cases s.all xq<;>simp
theorem Gz(F:Nat)(s:B8)(hs:uC s):MD F s=some (nE s):=by
 unfold uC at hs;unfold MD;rw[aA,if_pos (HM hs),show((s.length:Int):Int).toNat=s.length by omega];have hl:=wz (g:=oe F s (some true)) (f:=false) s xq (fun n=>rfl) (fun m n=>by rw[oe];exact xp) s.length 0 (by omega);rw[show((0:Nat):Int)=0 from rfl,bp9] at hl
 rw[hl,nE,show decide ((s.length:Int)>1000) = !decide (s.length<=1000) by
  by_cases h:s.length<=1000
  ·rw[decide_eq_true h,decide_eq_false (by omega)];rfl
  ·rw[decide_eq_false h,decide_eq_true (by omega)];rfl]
 cases s.all xq<;>cases decide (s.length<=1000)<;>rfl
def xz(a:List B8):List B8->Nat->Int
 |[],_=>0
 |x::l,n=>if (!nE x)=true then 2 else if (decide (0<n)&&(Op.bytesLess x (a.getD (n - 1) [])||x==a.getD (n - 1) []))=true then 10 else xz a l (n+1)
theorem Ft{α:Type}{a:List α}{n:Nat}{d:α}(h0:0<n)(h:n<=a.length)(hl:a.length<=maxLen):cq a (bh ((n:Int) - 1))=some (a.getD (n - 1) d):=by
 have hm:maxLen=9223372036854775807:=by decide
 rw[hm] at hl;rw[cc (by omega) (by omega),show((n:Int) - 1)=((n - 1:Nat):Int) by omega,bt (by omega)];simp[List.getD,ax8 (show n - 1<a.length by omega)]
theorem OU{g:List B8->Int->Option Int}{k:Option Int}{a:List B8}(hl:a.length<=maxLen)(h0:∀n,g [] n=k)
  (h1:∀x l (n:Nat),a[n]? = some x->x∈a->g (x::l) n=if (!nE x)=true then some 2 else if decide ((n:Int)>0)=true then (cq a (bh ((n:Int) - 1))).bind fun y=>if (Op.bytesLess x y||x==y)=true then some 10 else g l (n+1) else g l (n+1)):
  ∀(l:List B8) (n:Nat),a.drop n=l->g l n=if (xz a l n != 0)=true then some (xz a l n) else k
 |[],n,_=>by simp[h0,xz]
 |x::l,n,h=>by
  have hn:n<a.length:=by
   rcases bn8 n a.length with h2|h2
   ·exact h2
   ·rw[al9 h2] at h;cases h
  rw[bq8 hn] at h
  injection h with hx hd
  have e:((n:Int)+1)=((n+1:Nat):Int):=rfl;rw[h1 x l n (by rw[ax8 hn,hx]) (by rw[<-hx];exact ba9 _),e,OU hl h0 h1 l (n+1) hd];rw[xz];cases nE x
  ·simp
  ·simp only[br9,ch8,if_false];by_cases h2:0<n
   ·rw[if_pos (decide_eq_true (by omega)),Ft (d:=[]) h2 (by omega) hl,bv9,decide_eq_true h2];simp only[ah9];cases (Op.bytesLess x (a.getD (n - 1) [])||x==a.getD (n - 1) [])<;>simp
   ·rw[decide_eq_false h2,if_neg (by simp;omega)];simp
def C5(a:List B8):Int:=if a.length=0 then 13 else if 50<a.length then 3 else xz a a 0
def okX(x:aG):Prop:=uC x.Name/\(∀s,s∈x.Texts->uC s)/\x.Texts.length<=maxLen/\x.Kids.length<=maxLen
theorem Jb(F:Nat)(a:List B8)(ha:∀s,s∈a->uC s)(hl:a.length<=maxLen):GU F a=some (C5 a):=by
 unfold GU C5
 have h:=OU (g:=kL F a (some 0)) (k:=some 0) hl (fun n=>rfl) (fun x l n h1 h2=>by
  rw[kL,BS F x (ha x h2),bv9,aA]) a 0 rfl
 rw[show((0:Nat):Int)=0 from rfl] at h;rw[aA,h];by_cases h1:a.length=0
 ·simp[h1]
 ·have h3:(((a.length:Nat):Int)==0)=false:=beq_false_of_ne (by omega);rw[h3,if_neg h1,if_neg (by simp:¬(false=true))];by_cases h2:50<a.length
  ·rw[if_pos h2,if_pos (decide_eq_true (by omega))]
  ·have h5:decide (((a.length:Nat):Int)>50)=false:=decide_eq_false (by omega);rw[if_neg h2,h5];by_cases h4:xz a a 0=0<;>simp[h4]
theorem Jl(F:Nat)(n:Int):ug F n=some (decide (-1000000000000<=n)&&decide (n<=1000000000000)):=by
 unfold ug;by_cases h : -1000000000000<=n
 ·simp[h,show n ≥ -1000000000000 from h]
 ·simp[h,show ¬n ≥ -1000000000000 from h]
theorem pZ(F:Nat)(a b c:Int):tp F a b c=some (decide (a<b)||decide (a>c)):=by
 unfold tp;by_cases h:a<b<;>simp[h]
local macro "tx68" f:term:term=>`(fun(F:Nat) (x:aG) (k:Option Int) (hx:okX x)=>OU (g := $f F x k) (k:=k) hx.2.2.1 (fun n=>rfl) (fun y l n h1 h2=>by
  have hn:n<x.Texts.length:=(bb9.1 h1).1;have hi:cq x.Texts (n:Int)=some y:=by rw[bt hn];exact(ax8 hn).symm.trans h1
  show jn _ _=_
  rw[aA,Gz F y (hx.2.1 y h2),bv9,hi];cases nE y<;>rfl) x.Texts 0 rfl)
theorem tC:∀(F:Nat) (x:aG) (k:Option Int) (hx:okX x),dy F x k x.Texts ((0:Nat):Int)=if (xz x.Texts x.Texts 0 != 0)=true then some (xz x.Texts x.Texts 0) else k:=tx68 dy
def sc(n:Int):Bool:=decide (n < -1000000000000)||decide (n>1000000000000)
theorem pn(F:Nat)(n:Int):tp F n (-1000000000000) 1000000000000=some (sc n):=pZ F n _ _
theorem kC(F:Nat)(n:Int):tp F n 1 8=some (decide (n<1)||decide (n>8)):=pZ F n _ _
theorem kD(F:Nat)(n:Int):tp F n 1 5=some (decide (n<1)||decide (n>5)):=pZ F n _ _
theorem Mo(F:Nat)(n:Int):ug F n=some (!sc n):=by
 rw[Jl,sc,Bool.not_or,<-decide_not,<-decide_not];exact congrArg some (congr (congrArg and (decide_eq_decide.2 (by omega))) (decide_eq_decide.2 (by omega)))
def cj(x:aG):Int:=
 if x.Kind<1\/8<x.Kind then 7
 else if !(decide (2<=x.Kind)&&decide (x.Kind<=5))&&!(x.Name==[])||!(x.Kind==2||x.Kind==3)&&decide (0<x.Texts.length)||!(x.Kind==5)&&(x.Op != 0||x.N != 0) ||
  !(if x.Kind=6 then x.Kids.length==1 else if 7<=x.Kind then decide (2<=x.Kids.length) else x.Kids.length==0) then 2
 else if (decide (2<=x.Kind)&&decide (x.Kind<=5))&&!cE x.Name then 8
 else if x.Kind=2\/x.Kind=3 then C5 x.Texts
 else if x.Kind=5 then (if x.Op<1\/5<x.Op then 7 else if sc x.N=true then 9 else 0)
 else 0
theorem ji{n:Nat}:(((n:Nat):Int)==0)=(n==0):=by
 by_cases h:n=0
 ·simp[h]
 ·rw[beq_false_of_ne h,beq_false_of_ne (by omega)]
theorem KS{n:Nat}:(((n:Nat):Int)==1)=(n==1):=by
 by_cases h:n=1
 ·simp[h]
 ·rw[beq_false_of_ne h,beq_false_of_ne (by omega)]
theorem yg{n:Nat}:decide (((n:Nat):Int)>0)=decide (0<n):=decide_eq_decide.2 (by omega)
theorem K0{n:Nat}:decide (((n:Nat):Int)>=2)=decide (2<=n):=decide_eq_decide.2 (by omega)
theorem zY{n:Nat}:decide (((n:Nat):Int)>50)=decide (50<n):=decide_eq_decide.2 (by omega)
noncomputable def eh:Nat->bN:=(CY 0).get rfl
theorem BQ(F:Nat):CY F=some eh:=rfl
theorem Ka:eh 1=⟨false,false,false,0⟩:=rfl
theorem J9:eh 2=⟨true,true,false,0⟩:=rfl
theorem J8:eh 3=⟨true,true,false,0⟩:=rfl
theorem J7:eh 4=⟨true,false,false,0⟩:=rfl
theorem J6:eh 5=⟨true,false,true,0⟩:=rfl
theorem J5:eh 6=⟨false,false,false,1⟩:=rfl
theorem J4:eh 7=⟨false,false,false,-1⟩:=rfl
theorem J3:eh 8=⟨false,false,false,-1⟩:=rfl
def fm(u:bN)(x:aG):Bool:=(u.name||(x.Name==[]))&&(u.texts||!decide (0<x.Texts.length))&&(u.number||((x.Op==0)&&(x.N==0)))&&(if u.kids<0 then decide (2<=x.Kids.length) else (((x.Kids.length:Nat):Int)==u.kids))
theorem Jc(F:Nat)(x:aG)(h:0<=x.Kind/\x.Kind.toNat<9):GV F x=some (fm (eh x.Kind.toNat) x):=by
 unfold GV fm;rw[BQ,bv9,if_pos h];generalize eh x.Kind.toNat=u;simp only[yg,K0];by_cases hk:u.kids<0
 ·simp only[if_pos hk,decide_eq_true hk];cases u.name<;>cases u.texts<;>cases u.number<;>by_cases a1:x.Name=[]<;>by_cases a2:0<x.Texts.length<;>by_cases a3:x.Op=0<;>by_cases a4:x.N=0<;>simp[a1,a2,a3,a4]
 ·simp only[if_neg hk,decide_eq_false hk];cases u.name<;>cases u.texts<;>cases u.number<;>by_cases a1:x.Name=[]<;>by_cases a2:0<x.Texts.length<;>by_cases a3:x.Op=0<;>by_cases a4:x.N=0<;>simp[a1,a2,a3,a4]
def fv(u:bN)(x:aG):Int:=if !fm u x then 2 else if u.name&&!cE x.Name then 8 else if u.texts&&C5 x.Texts != 0 then C5 x.Texts else if u.number&&(decide (x.Op<1)||decide (x.Op>5)) then 7 else if u.number&&sc x.N then 9 else 0
theorem ID(F:Nat)(R:aG->Option Int)(x:aG)(hx:okX x)(h:1<=x.Kind/\x.Kind<=8):qq R F x=if (fv (eh x.Kind.toNat) x != 0)=true then some (fv (eh x.Kind.toNat) x) else iM R F (some 0) x.Kids:=by
 have h9:0<=x.Kind/\x.Kind.toNat<9:=by omega
 unfold qq fv;rw[Jc F x h9,BQ,bv9,if_pos h9,bv9,w6 F x.Name hx.1,Jb F x.Texts hx.2.1 hx.2.2.1,Mo,decide_eq_false (show ¬x.Kind<1 by omega),decide_eq_false (show ¬x.Kind>8 by omega)];simp only[aA,bv9];generalize eh x.Kind.toNat=u;generalize iM R F (some 0) x.Kids=L;generalize fm u x=b0;generalize cE x.Name=b1;generalize C5 x.Texts=t1;generalize sc x.N=b2;generalize decide (x.Op<1)=b3;generalize decide (x.Op>5)=b4;by_cases h0:t1=0<;>cases b0<;>cases u.name<;>cases u.texts<;>cases u.number<;>cases b1<;>cases b2<;>cases b3<;>cases b4<;>simp[h0]
theorem I7{F:Nat}{nm:B8}{tx:List B8}{op n:Int}{ks:List aw}(hn:zk F nm=some (cE nm)):jv F ⟨1,nm,tx,op,n,ks⟩=some (cj ⟨1,nm,tx,op,n,ks⟩):=by
 have e4:tx=[]<->tx.length=0:=ax9.symm;have e5:ks=[]<->ks.length=0:=ax9.symm;simp only[jv,p9,kC,kD,pn,aA,cj,yg,zY,ji,hn];by_cases a1:nm=[]<;>by_cases a2:0<tx.length<;>by_cases a3:op=0<;>by_cases a4:n=0<;>by_cases a5:ks.length=0<;>simp[a1,a2,a3,a4,a5,e4,e5]
theorem EO{nm:B8}{tx:List B8}{op n:Int}{ks:List aw}:fv (eh 1) ⟨1,nm,tx,op,n,ks⟩=cj ⟨1,nm,tx,op,n,ks⟩:=by
 have e5:ks=[]<->ks.length=0:=ax9.symm;rw[Ka];simp only[fv,fm,cj,yg,ji];by_cases a1:nm=[]<;>by_cases a2:0<tx.length<;>by_cases a3:op=0<;>by_cases a4:n=0<;>by_cases a5:ks.length=0<;>simp[a1,a2,a3,a4,a5,e5,ji]
theorem I6{F:Nat}{nm:B8}{tx:List B8}{op n:Int}{ks:List aw}(hn:zk F nm=some (cE nm))(h1:∀k,dy F ⟨2,nm,tx,op,n,ks⟩ k tx 0=if (xz tx tx 0 != 0)=true then some (xz tx tx 0) else k):jv F ⟨2,nm,tx,op,n,ks⟩=some (cj ⟨2,nm,tx,op,n,ks⟩):=by
 have e4:tx=[]<->tx.length=0:=ax9.symm;have e5:ks=[]<->ks.length=0:=ax9.symm;simp only[jv,p9,kC,kD,pn,aA,cj,yg,zY,ji,hn,h1,C5];by_cases a1:cE nm=true<;>by_cases a2:tx.length=0<;>by_cases a3:50<tx.length<;>by_cases a4:op=0<;>by_cases a5:n=0<;>by_cases a6:ks.length=0<;>by_cases a7:xz tx tx 0=0<;>simp[a1,a2,a3,a4,a5,a6,a7,e4,e5]
theorem EN{nm:B8}{tx:List B8}{op n:Int}{ks:List aw}:fv (eh 2) ⟨2,nm,tx,op,n,ks⟩=cj ⟨2,nm,tx,op,n,ks⟩:=by
 have e5:ks=[]<->ks.length=0:=ax9.symm;rw[J9];simp only[fv,fm,cj,yg,ji];by_cases a1:cE nm=true<;>by_cases a2:op=0<;>by_cases a3:n=0<;>by_cases a4:ks.length=0<;>by_cases a5:C5 tx=0<;>simp[a1,a2,a3,a4,a5,e5,ji]
theorem I5{F:Nat}{nm:B8}{tx:List B8}{op n:Int}{ks:List aw}(hn:zk F nm=some (cE nm))(h1:∀k,dy F ⟨3,nm,tx,op,n,ks⟩ k tx 0=if (xz tx tx 0 != 0)=true then some (xz tx tx 0) else k):jv F ⟨3,nm,tx,op,n,ks⟩=some (cj ⟨3,nm,tx,op,n,ks⟩):=by
 have e4:tx=[]<->tx.length=0:=ax9.symm;have e5:ks=[]<->ks.length=0:=ax9.symm;simp only[jv,p9,kC,kD,pn,aA,cj,yg,zY,ji,hn,h1,C5];by_cases a1:cE nm=true<;>by_cases a2:tx.length=0<;>by_cases a3:50<tx.length<;>by_cases a4:op=0<;>by_cases a5:n=0<;>by_cases a6:ks.length=0<;>by_cases a7:xz tx tx 0=0<;>simp[a1,a2,a3,a4,a5,a6,a7,e4,e5]
theorem EL{nm:B8}{tx:List B8}{op n:Int}{ks:List aw}:fv (eh 3) ⟨3,nm,tx,op,n,ks⟩=cj ⟨3,nm,tx,op,n,ks⟩:=by
 have e5:ks=[]<->ks.length=0:=ax9.symm;rw[J8];simp only[fv,fm,cj,yg,ji];by_cases a1:cE nm=true<;>by_cases a2:op=0<;>by_cases a3:n=0<;>by_cases a4:ks.length=0<;>by_cases a5:C5 tx=0<;>simp[a1,a2,a3,a4,a5,e5,ji]
theorem I4{F:Nat}{nm:B8}{tx:List B8}{op n:Int}{ks:List aw}(hn:zk F nm=some (cE nm)):jv F ⟨4,nm,tx,op,n,ks⟩=some (cj ⟨4,nm,tx,op,n,ks⟩):=by
 have e4:tx=[]<->tx.length=0:=ax9.symm;have e5:ks=[]<->ks.length=0:=ax9.symm;simp only[jv,p9,kC,kD,pn,aA,cj,yg,zY,ji,hn];by_cases a1:cE nm=true<;>by_cases a2:0<tx.length<;>by_cases a3:op=0<;>by_cases a4:n=0<;>by_cases a5:ks.length=0<;>simp[a1,a2,a3,a4,a5,e4,e5]
theorem EJ{nm:B8}{tx:List B8}{op n:Int}{ks:List aw}:fv (eh 4) ⟨4,nm,tx,op,n,ks⟩=cj ⟨4,nm,tx,op,n,ks⟩:=by
 have e5:ks=[]<->ks.length=0:=ax9.symm;rw[J7];simp only[fv,fm,cj,yg,ji];by_cases a1:cE nm=true<;>by_cases a2:0<tx.length<;>by_cases a3:op=0<;>by_cases a4:n=0<;>by_cases a5:ks.length=0<;>simp[a1,a2,a3,a4,a5,e5,ji]
theorem IP{F:Nat}{nm:B8}{tx:List B8}{op n:Int}{ks:List aw}:p9 F ⟨5,nm,tx,op,n,ks⟩=some (if decide (0<tx.length)=true then 2 else if (ks.length==0)=true then 0 else 2):=by
 have e5:ks=[]<->ks.length=0:=ax9.symm;simp only[p9,kC,aA,yg,ji];by_cases a2:0<tx.length<;>by_cases a3:ks.length=0<;>simp[a2,a3,e5]
theorem I3{F:Nat}{nm:B8}{tx:List B8}{op n:Int}{ks:List aw}(hn:zk F nm=some (cE nm)):jv F ⟨5,nm,tx,op,n,ks⟩=some (cj ⟨5,nm,tx,op,n,ks⟩):=by
 have hv:cj ⟨5,nm,tx,op,n,ks⟩=if (if decide (0<tx.length)=true then (2:Int) else if (ks.length==0)=true then 0 else 2)=2 then 2 else if cE nm=false then 8 else if (decide (op<1)||decide (op>5))=true then 7 else if sc n=true then 9 else 0:=by
  simp only[cj];generalize sc n=c1;by_cases a1:cE nm=true<;>by_cases a2:0<tx.length<;>by_cases a3:ks.length=0<;>simp[a1,a2,a3]
 rw[hv];unfold jv;rw[IP,bv9]
 have hz:(if decide (0<tx.length)=true then (2:Int) else if (ks.length==0)=true then 0 else 2)=0\/(if decide (0<tx.length)=true then (2:Int) else if (ks.length==0)=true then 0 else 2)=2:=by
  split
  ·exact Or.inr Y
  ·split
   ·exact Or.inl Y
   ·exact Or.inr Y
 generalize (if decide (0<tx.length)=true then (2:Int) else if (ks.length==0)=true then 0 else 2)=z at hz ⊢
 clear hv
 rcases hz with rfl|rfl
 ·rw[if_neg (show ¬((0:Int) != 0)=true by decide),if_neg (show ¬(0:Int)=2 by decide)];dsimp only;rw[if_pos (show decide ((5:Int)>=2)=true from rfl),if_pos (show decide ((5:Int)<=5)=true from rfl),hn,bv9];cases cE nm
  ·rfl
  ·rw[if_neg (show ¬(!true)=true by decide),if_neg (show ¬((5:Int)==2)=true by decide),if_neg (show ¬true=false by decide)];simp only[aA];rw[if_neg (show ¬((5:Int)==3)=true by decide),if_pos (show((5:Int)==5)=true from rfl),kD,bv9,pn,bv9];cases decide (op<1)||decide (op>5)
   ·cases sc n<;>rfl
   ·rfl
 ·rfl
theorem EH{nm:B8}{tx:List B8}{op n:Int}{ks:List aw}:fv (eh 5) ⟨5,nm,tx,op,n,ks⟩=cj ⟨5,nm,tx,op,n,ks⟩:=by
 have e5:ks=[]<->ks.length=0:=ax9.symm;rw[J6];simp only[fv,fm,cj,yg,ji];generalize sc n=c1;by_cases a1:cE nm=true<;>by_cases a2:0<tx.length<;>by_cases a3:ks.length=0<;>by_cases a4:op<1<;>by_cases a5:5<op<;>cases c1<;>simp[a1,a2,a3,a4,a5,e5,ji]
theorem I2{F:Nat}{nm:B8}{tx:List B8}{op n:Int}{ks:List aw}(hn:zk F nm=some (cE nm)):jv F ⟨6,nm,tx,op,n,ks⟩=some (cj ⟨6,nm,tx,op,n,ks⟩):=by
 have e4:tx=[]<->tx.length=0:=ax9.symm;have e5:ks=[]<->ks.length=0:=ax9.symm;simp only[jv,p9,kC,kD,pn,aA,cj,yg,zY,KS,hn];by_cases a1:nm=[]<;>by_cases a2:0<tx.length<;>by_cases a3:op=0<;>by_cases a4:n=0<;>by_cases a5:ks.length=1<;>simp[a1,a2,a3,a4,a5,e4,e5]
theorem EG{nm:B8}{tx:List B8}{op n:Int}{ks:List aw}:fv (eh 6) ⟨6,nm,tx,op,n,ks⟩=cj ⟨6,nm,tx,op,n,ks⟩:=by
 have e5:ks=[]<->ks.length=0:=ax9.symm;rw[J5];simp only[fv,fm,cj,yg,KS];by_cases a1:nm=[]<;>by_cases a2:0<tx.length<;>by_cases a3:op=0<;>by_cases a4:n=0<;>by_cases a5:ks.length=1<;>simp[a1,a2,a3,a4,a5,e5,KS]
theorem I1{F:Nat}{nm:B8}{tx:List B8}{op n:Int}{ks:List aw}(hn:zk F nm=some (cE nm)):jv F ⟨7,nm,tx,op,n,ks⟩=some (cj ⟨7,nm,tx,op,n,ks⟩):=by
 have e4:tx=[]<->tx.length=0:=ax9.symm;have e5:ks=[]<->ks.length=0:=ax9.symm;simp only[jv,p9,kC,kD,pn,aA,cj,yg,zY,ji,K0,hn];by_cases a1:nm=[]<;>by_cases a2:0<tx.length<;>by_cases a3:op=0<;>by_cases a4:n=0<;>by_cases a5:2<=ks.length<;>simp[a1,a2,a3,a4,a5,e4,e5]
theorem EF{nm:B8}{tx:List B8}{op n:Int}{ks:List aw}:fv (eh 7) ⟨7,nm,tx,op,n,ks⟩=cj ⟨7,nm,tx,op,n,ks⟩:=by
 have e5:ks=[]<->ks.length=0:=ax9.symm;rw[J4];simp only[fv,fm,cj,yg,ji,K0];by_cases a1:nm=[]<;>by_cases a2:0<tx.length<;>by_cases a3:op=0<;>by_cases a4:n=0<;>by_cases a5:2<=ks.length<;>simp[a1,a2,a3,a4,a5,e5,ji,K0]
theorem I0{F:Nat}{nm:B8}{tx:List B8}{op n:Int}{ks:List aw}(hn:zk F nm=some (cE nm)):jv F ⟨8,nm,tx,op,n,ks⟩=some (cj ⟨8,nm,tx,op,n,ks⟩):=by
 have e4:tx=[]<->tx.length=0:=ax9.symm;have e5:ks=[]<->ks.length=0:=ax9.symm;simp only[jv,p9,kC,kD,pn,aA,cj,yg,zY,ji,K0,hn];by_cases a1:nm=[]<;>by_cases a2:0<tx.length<;>by_cases a3:op=0<;>by_cases a4:n=0<;>by_cases a5:2<=ks.length<;>simp[a1,a2,a3,a4,a5,e4,e5]
theorem EE{nm:B8}{tx:List B8}{op n:Int}{ks:List aw}:fv (eh 8) ⟨8,nm,tx,op,n,ks⟩=cj ⟨8,nm,tx,op,n,ks⟩:=by
 have e5:ks=[]<->ks.length=0:=ax9.symm;rw[J3];simp only[fv,fm,cj,yg,ji,K0];by_cases a1:nm=[]<;>by_cases a2:0<tx.length<;>by_cases a3:op=0<;>by_cases a4:n=0<;>by_cases a5:2<=ks.length<;>simp[a1,a2,a3,a4,a5,e5,ji,K0]
theorem I8(F:Nat)(x:aG)(hx:okX x):jv F x=some (cj x):=by
 have h1:∀k,_:=fun k=>tC F x k hx;have h2:∀k,_:=fun k=>tC F x k hx;rw[show((0:Nat):Int)=0 from rfl] at h1 h2;have hn:=w4 F x.Name hx.1;obtain⟨kd,nm,tx,op,n,ks⟩:=x;by_cases hk:kd<1\/8<kd
 ·have:(decide (kd<1)||decide (kd>8))=true:=by simp;omega
  simp only[jv,p9,kC,kD,pn,this,bv9,if_true,cj,if_pos hk];rfl
 ·have hk':kd=1\/kd=2\/kd=3\/kd=4\/kd=5\/kd=6\/kd=7\/kd=8:=by omega
  rcases hk' with rfl|rfl|rfl|rfl|rfl|rfl|rfl|rfl
  ·exact I7 hn
  ·exact I6 hn h1
  ·exact I5 hn h2
  ·exact I4 hn
  ·exact I3 hn
  ·exact I2 hn
  ·exact I1 hn
  ·exact I0 hn
theorem EP(x:aG)(h:1<=x.Kind/\x.Kind<=8):fv (eh x.Kind.toNat) x=cj x:=by
 obtain⟨kd,nm,tx,op,n,ks⟩:=x;simp only at h;have hk':kd=1\/kd=2\/kd=3\/kd=4\/kd=5\/kd=6\/kd=7\/kd=8:=by omega
 rcases hk' with rfl|rfl|rfl|rfl|rfl|rfl|rfl|rfl
 ·exact EO
 ·exact EN
 ·exact EL
 ·exact EJ
 ·exact EH
 ·exact EG
 ·exact EF
 ·exact EE
theorem Gx(F:Nat)(R:aG->Option Int)(x:aG)(hx:okX x):qq R F x=if (cj x != 0)=true then some (cj x) else iM R F (some 0) x.Kids:=by
 by_cases h:1<=x.Kind/\x.Kind<=8
 ·rw[ID F R x hx h,EP x h]
 ·have h7:cj x=7:=by unfold cj;rw[if_pos (by omega)]
  rw[h7];unfold qq;by_cases h1:x.Kind<1
  ·rw[if_pos (decide_eq_true h1)];rfl
  ·rw[if_neg (by simp[h1]),if_pos (decide_eq_true (by omega))];rfl
end Go.Proofs.YtelmfadihfcgnaaGreatDoor
