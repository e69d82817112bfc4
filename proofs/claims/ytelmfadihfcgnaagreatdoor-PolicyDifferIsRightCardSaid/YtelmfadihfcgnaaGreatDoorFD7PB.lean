/- Part of the proof. -/
import Derived.ProofKit
import Derived.OpenShut
import Derived.Test.YtelmfadihfcgnaaGreatDoorFD7M
set_option linter.unusedSimpArgs false
set_option linter.unusedVariables false
namespace Go.Pv
open Go Go.ChangeShapes Go.WideShapes
mutual
def fH{H:Type}:DataW H->Nat
 | .lit (.string bytes)=>bytes.length+1
 | .lit _=>1
 | .nil=>1
 | .ptr d=>fH d+1
 | .slice elems spare=>fI elems+fI spare+1
 | .agg parts=>fI parts+1
 | .iface _ d=>fH d+1
 | .map entries=>AK entries+1
 | .held _=>1
def fI{H:Type}:List (DataW H)->Nat
 |[]=>0
 |d::r=>fH d+fI r
def AK{H:Type}:List (Lit×DataW H)->Nat
 |[]=>0
 |x::r=>KZ x+AK r
def KZ{H:Type}:Lit×DataW H->Nat
 |(.string bytes,d)=>bytes.length+fH d+1
 |(_,d)=>fH d+1
end
def kK(w:World):bZ:=fun b=>w.heap[b]?
def dI(m:bZ)(ds:List V)(cs:List Value):Prop:=
 ds.length=cs.length/\∀(i:Nat) (c:V) (v:Value),ds[i]? = some c->cs[i]? = some v->ct m c v
theorem dI.one{m:bZ}{d:V}{c:Value}(h:ct m d c):dI m [d] [c]:=
 ⟨rfl,fun i d' c' hd hc=>by
  grind⟩
theorem dI.app{m:bZ}{a b:List V}{x y:List Value}(h:dI m a x)(h':dI m b y):dI m (a++b) (x++y):=by
 refine⟨by simp[h.1,h'.1],fun i c v hc hv=>?_⟩;by_cases hi:i<a.length
 ·rw[ar8 hi] at hc;rw[ar8 (by rw[<-h.1];exact hi)] at hv;exact h.2 i c v hc hv
 ·rw[as9 (by omega)] at hc;rw[as9 (by rw[<-h.1];omega),<-h.1] at hv;exact h'.2 _ c v hc hv
section
variable{P:Program}{t e:TypeId}{α β:Type}
def F1{H:Type}(P:Program)(t:TypeId)(d:DataW H):Prop:=(d.weights P t).all (·<=reachBytes)=true
def zr{H:Type}(P:Program)(ts:List TypeId)(ds:List (DataW H)):Prop:=(DataW.weightsEach P ts ds).all (·<=reachBytes)=true
theorem i9{H:Type}{P:Program}{t:TypeId}{ts:List TypeId}{d:DataW H}{ds:List (DataW H)}(h:zr P (t::ts) (d::ds)):F1 P t d/\zr P ts ds:=by
 simp_all[zr,F1,DataW.weightsEach]
theorem M5{H:Type}{P:Program}{e:TypeId}:∀(l:List (DataW H)),(DataW.weightsAll P e l).all (·<=reachBytes)=true->∀d,d∈l->F1 P e d
 |[],_,d,hd=>by simp at hd
 |x::l,h,d,hd=>by
  rw[DataW.weightsAll,cb8,ao8] at h;rcases aq9.1 hd with rfl|hd
  ·exact h.1
  ·exact M5 l h.2 d hd
def dK(P:Program)(t:TypeId)(e:α->List V)(sz:α->Nat)(ok:α->Prop):Prop:=
 ∀{H:Type} (enc:TypeId×Value->H) (w:World) (fuel:Nat) (cs:List Value) (x:DataW H×List MemPlace),
  DataW.trod enc P w 0 (fun _=>true) true fuel t cs=some x->F1 P t x.1->∃a:α,dI (kK w) (e a) cs/\sz a<=fH x.1/\ok a
theorem wj{k:IntKind}(ht:P.underlying t=some (.int k)):dK P t (fun n:Int=>[V.con (.int k n)]) (fun _=>1) (fun n=>k.min<=n/\n<=k.max):=by
 intro H enc w fuel cs x h hw;obtain⟨n,rfl,rfl,hw'⟩:=DataW.trod_int ht h;simp only[Lit.wf,ao8,decide_eq_true_eq] at hw';exact⟨n,dI.one (.con _),by simp[fH],hw'⟩
theorem oO(ht:P.underlying t=some .string):dK P t (fun s:B8=>[sV s]) (fun s=>s.length+1) (fun s=>s.length<=140737488351232):=by
 intro H enc w fuel cs x h hw;obtain⟨s,rfl,rfl,hs⟩:=DataW.trod_string ht h;refine⟨s.data.toList,dI.one ?_,by simp[fH],?_⟩
 ·have:str s.data.toList=.string s:=by simp[str]
  unfold sV;rw[this];exact .con _
 ·unfold F1 at hw;rw[DataW.weights,ag8,ao8] at hw;have:=of_decide_eq_true hw.1
  simp_all[reachBytes]
theorem xV{p:Nat->α->Prop}:∀{n:Nat},(∀i,i<n->∃a,p i a)->∃l:List α,l.length=n/\∀i a,l[i]? = some a->p i a
 |0,_=>⟨[],rfl,by simp⟩
 |n+1,h=>by
  obtain⟨l,hl,hp⟩:=xV (n:=n) fun i hi=>h i (by omega);obtain⟨a,ha⟩:=h n (by omega);refine⟨l++[a],by simp[hl],fun i b hb=>?_⟩;by_cases hi:i<l.length
  ·rw[ar8 hi] at hb;exact hp i b hb
  ·rw[as9 (by omega)] at hb
   have:i - l.length=0:=by
    have:=(ba8.1 hb).1;simp at this;omega
   rw[this] at hb;simp at hb;subst hb;rw[show i=n by omega];exact ha
theorem mW{H:Type}{n:Nat}(D:Nat->DataW H):fI ((List.range n).map D)=((List.range n).map fun i=>fH (D i)).sum:=by
 generalize List.range n=l
 induction l<;>simp_all[fI]
theorem GK{l:List α}{sz:α->Nat}{g:Nat->Nat}(h:∀i a,l[i]? = some a->sz a<=g i):(l.map sz).sum<=((List.range l.length).map g).sum:=by
 induction l generalizing g with
 |nil=>simp
 |cons a l ih=>
  rw[br8,List.range_succ_eq_map];simp only[bh9,List.sum_cons,bb8];have h0:=h 0 a rfl
  grind
theorem ia{k:Nat}{ee:α->List V}{sz:α->Nat}{ok:α->Prop}(ht:P.underlying t=some (.slice e))(hk:P.cellsOf e=k)(h0:0<k)(he:dK P e ee sz ok):
  dK P t (fun l:List α=>[V.lst k (l.map ee)]) (fun l=>(l.map sz).sum+1) (fun l=>(∀a,a∈l->ok a)/\l.length<=maxLen):=by
 intro H enc w fuel cs x h hw;rcases Deep.open_slice ht h with ⟨rfl,rfl⟩|⟨a,len,cap,m,n,D,Pl,rfl,_,hlc,hcm,hm,rfl,hel⟩
 ·exact⟨[],dI.one (.nil _ _ _),by simp[fH],by simp⟩
 ·simp only[if_true] at hm;subst hm
  obtain⟨l,hl,hp⟩:=xV (n:=len) (p:=fun i (b:α)=>sz b<=fH (D i)/\ok b/\∃cs',w.cells? 0 (a.add (i*P.cellsOf e)) (P.cellsOf e)=some cs'/\dI (kK w) (ee b) cs') (by
   intro i hi;obtain⟨cs',hc,hd⟩:=hel i (by omega)
   obtain⟨b,h1,h2,h3⟩:=he _ _ _ _ _ hd (by
    unfold F1 at hw;rw[DataW.weights] at hw;simp only[ht,ag8,cb8,ao8] at hw
    grind [M5])
   grind)
  refine⟨l,dI.one ?_,?_,fun b hb=>?_,by omega⟩
  ·by_cases hz:len=0
   ·subst hz;have:l=[]:=aw8.1 hl;subst this;exact .nil _ _ _
   ·have hcell:∀i j b,l[i]? = some b->j<k->∃v,w.cell? ((a.add (i*k)).add j)=some v/\(∃c,(ee b)[j]? = some c)/\∀c,(ee b)[j]? = some c->ct (kK w) c v:=by
     intro i j b hb hj;obtain⟨_,_,cs',hc,hr⟩:=hp i b hb;rw[hk] at hc;obtain⟨_,hn,hcs⟩:=World.cells?_some hc;have hj':j<cs'.length:=by omega
     have hv:cs'[j]? = some cs'[j]:=ax9 hj';have hj2:j<(ee b).length:=by rw[hr.1];exact hj'
     exact⟨cs'[j],(hcs j hj).trans hv,⟨(ee b)[j],ax9 hj2⟩,fun c hcc=>hr.2 j c _ hcc hv⟩
    have hlen:∀b,b∈l->(ee b).length=k:=by
     intro b hb;obtain⟨i,hi⟩:=an8.1 hb;obtain⟨_,_,cs',hc,hr⟩:=hp i b hi;rw[hk] at hc;rw[hr.1,(World.cells?_some hc).2.1]
    have hb0:∃b,l[0]? = some b:=⟨l[0]'(by omega),ax9 _⟩;obtain⟨b0,hb0⟩:=hb0;obtain⟨v0,hv0,_⟩:=hcell 0 0 b0 hb0 h0;have hadd0:(a.add (0*k)).add 0=a:=by simp[Addr.add]
    rw[hadd0] at hv0;unfold World.cell? at hv0;split at hv0
    case h_2=>simp at hv0
    rename_i arr T fr hblk
    have hsp:a.spot=none:=by
     cases hs:a.spot with
     |none=>rfl
     |some s=>grind
    have ao:∀i j b,l[i]? = some b->j<k->∃v,arr[a.off+(i*k+j)]? = some v/\(∃c,(ee b)[j]? = some c)/\∀c,(ee b)[j]? = some c->ct (kK w) c v:=by
     intro i j b hb hj;obtain⟨v,hv,hc⟩:=hcell i j b hb hj;rw[Deep.add_add] at hv;unfold World.cell? at hv;have hbk:(a.add (i*k+j)).block=a.block:=by unfold Addr.add;grind
     have hso:(a.add (i*k+j)).spot=none:=by unfold Addr.add;grind
     have hof:(a.add (i*k+j)).off=a.off+(i*k+j):=by unfold Addr.add;grind
     rw[hbk,hblk] at hv;simp only[hso,hof] at hv;exact⟨v,by grind,hc⟩
    refine ct.lst (arr:=arr) (T:=T) (fr:=fr) (fun i=>(arr[a.off+i]?).getD undef) hblk hsp (by grind) hlc (by omega) ?_ ?_ ?_
    ·grind
    ·intro i hi;rw[be8] at hi;have hq:i / k<l.length:=Nat.div_lt_of_lt_mul (by grind);obtain⟨v,hv,_⟩:=ao (i / k) (i % k) l[i / k] (ax9 hq) (am8 _ h0)<;>simp_all[an9,Nat.div_add_mod]
    grind
  ·simp only[fH];rw[mW];have:=GK (l:=l) (sz:=sz) (g:=fun i=>fH (D i)) fun i b hb=>(hp i b hb).1
   grind
  ·obtain⟨i,hi⟩:=an8.1 hb<;>grind
def zg(P:Program)(N:Nat)(fs:List (TypeId×Nat×Nat))(off:Nat)(e:α->List V)(sz:α->Nat)(ok:α->Prop):Prop:=
 ∀{H:Type} (enc:TypeId×Value->H) (w:World) (n:Nat) (cs:List Value) (xs:List (DataW H×List MemPlace)),cs.length=N->xs.length=fs.length->
  (∀(i:Nat) (f:TypeId×Nat×Nat),fs[i]? = some f->DataW.trod enc P w 0 (fun _=>true) true n f.1 ((cs.drop f.2.1).take f.2.2)=xs[i]?)->
  zr P (fs.map (·.1)) (xs.map (·.1))->∃a:α,dI (kK w) (e a) (cs.drop off)/\sz a<=fI (xs.map (·.1))/\ok a
theorem gK{N:Nat}:zg P N [] N (fun _:Unit=>[]) (fun _=>0) (fun _=>True):=by
 intro H enc w n cs xs hN hx _ _;refine⟨(),?_,by simp,trivial⟩;rw[<-hN];simp[dI]
theorem co{N k off:Nat}{ft:TypeId}{fs:List (TypeId×Nat×Nat)}{ea:α->List V}{eb:β->List V}{sa:α->Nat}{sb:β->Nat}{oa:α->Prop}{ob:β->Prop}
  (h:dK P ft ea sa oa) (hr:zg P N fs (off+k) eb sb ob):zg P N ((ft,off,k)::fs) off (fun p:α×β=>ea p.1++eb p.2) (fun p=>sa p.1+sb p.2) (fun p=>oa p.1/\ob p.2):=by
 intro H enc w n cs xs hN hx hf hw
 match xs,hx with
 |x::xs,hx=>
  have h1:=hf 0 _ rfl;simp only[bj9] at h1;have hw':=i9 hw;obtain⟨a,ha,hs,ho⟩:=h enc w n _ x h1 hw'.1
  have hb':=hr enc w n cs xs hN (by simpa using hx) fun i f hi=>by
   have:=hf (i+1) f (by simpa using hi)
   simpa using this
  obtain⟨b,hb,hs',ho'⟩:=hb' hw'.2;refine⟨(a,b),?_,by simp only[bh9,fI];omega,ho,ho'⟩;have:=ha.app hb;rw[show(cs.drop off).take k++cs.drop (off+k)=cs.drop off by rw[<-cb9];exact cc8 _ _] at this;exact this
def fieldsOf(P:Program)(t:TypeId):Option (List (TypeId×Nat×Nat)):=
 match P.underlying t with
 |some (.struct fs)=>some (fs.toList.map fun f=>(f.type,f.offset,P.cellsOf f.type))
 |_=>none
theorem fg{N:Nat}{fs:List (TypeId×Nat×Nat)}{e:α->List V}{sz:α->Nat}{ok:α->Prop}(ht:fieldsOf P t=some fs)(hN:P.cellsOf t=N)(h:zg P N fs 0 e sz ok):
  dK P t e (fun a=>sz a+1) ok:=by
 intro H enc w fuel cs x hx hw;unfold fieldsOf at ht;split at ht
 case h_2=>simp at ht
 rename_i gs hu;simp only[av9] at ht;subst ht;obtain⟨xs,n,_,rfl,hl,hxl,hf⟩:=DataW.trod_struct hu hx
 have ha':=h enc w n cs xs (hl.trans hN) (by simpa using hxl) fun i f hi=>by
  rw[ax8,ad8] at hi;obtain⟨g,hg,rfl⟩:=hi;exact hf i g (by simpa using hg)
 obtain⟨a,h1,h2,h3⟩:=ha' (by
  unfold F1 at hw;rw[DataW.weights] at hw;simp only[hu] at hw;unfold zr;rw[bb8];exact hw)
 exact⟨a,by simpa using h1,by simp only[fH];omega,h3⟩
theorem jc{ea:α->List V}{eb:β->List V}{sa:α->Nat}{sb:β->Nat}{oa:α->Prop}{ob:β->Prop}(h:dK P t ea sa oa)(g:α->β)
  (he:∀a,eb (g a)=ea a) (hs:∀a,sb (g a)=sa a) (ho:∀a,oa a->ob (g a)):dK P t eb sb ob:=by
 intro H enc w fuel cs x hx hw;obtain⟨a,h1,h2,h3⟩:=h enc w fuel cs x hx hw;exact⟨g a,by rw[he];exact h1,by rw[hs];exact h2,ho a h3⟩
def uX(P:Program)(t:TypeId)(e:α->V)(sz:α->Nat)(ok:α->Prop):Prop:=
 ∀{H:Type} (enc:TypeId×Value->H) (w:World) (base:Nat) (v:Value) (d:DataW H) (p:List MemPlace),
  Value.okWide P w .any base t v->DataW.Trod enc P w 0 (fun _=>true) true t v d p->F1 P t d->∃a:α,ct (kK w) (e a) v/\sz a<=fH d/\ok a
theorem tO{fs:List (TypeId×Nat×Nat)}{e:α->List V}{sz:α->Nat}{ok:α->Prop}(ht:fieldsOf P t=some fs)(h:dK P t e sz ok):uX P t (fun a=>.agg (e a)) sz ok:=by
 intro H enc w base v d p hv ⟨n,hd⟩ hw;unfold fieldsOf at ht;split at ht
 case h_2=>simp at ht
 rename_i gs hu;obtain⟨cs,rfl,_⟩:=okWide_struct hu hv;obtain⟨a,h1,h2,h3⟩:=h enc w n _ _ hd hw;exact⟨a,.agg (by simpa[Value.cells] using h1.1) (fun i c v' hc hv'=>h1.2 i c v' hc (by simp_all[Value.cells])),h2,h3⟩
def AJ(P:Program)(t:TypeId):Bool:=
 match P.underlying t with
 |some (.int _)|some .bool|some .string|some (.slice _)=>true
 |_=>false
theorem zO{e:α->V}{sz:α->Nat}{ok:α->Prop}(ht:AJ P t=true)(h:dK P t (fun a=>[e a]) sz ok):uX P t e sz ok:=by
 intro H enc w base v d p hv ⟨n,hd⟩ hw;obtain⟨a,h1,h2,h3⟩:=h enc w n _ _ hd hw
 have hna:∀cs,v≠.agg cs:=by
  rintro cs rfl
  unfold AJ at ht;unfold Value.okWide at hv;split at ht<;>rename_i hu<;>simp_all[Cell.okWide,Cell.ok]
 have hc:v.cells.toList=[v]:=by cases v<;>first|rfl|grind
 rw[hc] at h1;exact⟨a,h1.2 0 _ _ Y Y,h2,h3⟩
theorem Ej{w w':World}(h:∀b,b<w.heap.size->w'.heap[b]? = w.heap[b]?){p:MemPlace}(hp:p.block<w.heap.size):w.sameAt w' p:=by
 cases p with
 |cell b o=>simp only[World.sameAt,World.cell?];rw[h b hp]
 |map b=>exact h b hp
theorem oM{H:Type}{enc:TypeId×Value->H}(hl:laidOutB P=true){w w':World}{sp:Nat->Bool}(hh:∀b,b<w.heap.size->w'.heap[b]? = w.heap[b]?)
  (hs:∀b,b<w.heap.size->sp b=true):∀{ts:List TypeId} {vs:List Value} {ds:List (DataW H)} {ps:List MemPlace},
  (ts.all fun t=>P.readableRec t&&decide (t<P.types.size))=true->DataW.TrodAll enc P w 0 (fun _=>true) true ts vs ds ps->(∀p∈ps,p.block<w.heap.size)->DataW.TrodAll enc P w' 0 sp true ts vs ds ps
 |[],[],[],_,_,h,_=>h
 |t::ts,v::vs,d::ds,_,hr,⟨p,q,h1,h2,e⟩,hlt=>by
  subst e;simp only[ag8,ao8,decide_eq_true_eq] at hr
  exact⟨p,q,WideElems.Trod_stays hl hr.1.1 hr.1.2 h1 (fun x hx=>Ej hh (hlt x (cd9 _ hx))) (fun x hx=>hs _ (hlt x (cd9 _ hx))),
   oM hl hh hs (by grind) h2 (fun x hx=>hlt x (List.mem_append_right _ hx)),rfl⟩
theorem Ky{w w':World}(hs:rA w w')(hh:∀b,b<w.heap.size->w'.heap[b]? = w.heap[b]?)(may:MemPlace->Prop):w.keptBut w' may:=by
 refine⟨hs.os,hs.output,fun i hi=>?_⟩
 grind
theorem HU{H:Type}{enc:TypeId×Value->H}{f:Func}{s:ChangeSpec}{apart fresh handsOn:Bool}{w w':World}{args:Array Value}{v:Value}{ds gs:List (DataW H)}{before:List MemPlace}{m m':bZ}{tb:TypeId}
  (hl:laidOutB P=true) (hts:(f.params.toList.all fun t=>P.readableRec t&&decide (t<P.types.size))=true) (hv:s.vars=[]) (hfn:∀gs',gs'=[]->s.fn H (ds++gs')={ results:=[.lit (.bool true)],args:=ds })
  (hres:f.resultTypes=#[tb]) (hb:P.underlying tb=some .bool) (hW:DataW.Whole enc P f.params.toList s.vars apart w args.toList ds gs before) (h:ct m' (bV true) v) (hg:vR m m' w w'):
  s.post enc P f apart fresh handsOn false w args v w':=by
 have hW0:=hW;obtain⟨p,q,hA,hV,rfl,hfz,hnd⟩:=hW0;cases h;rw[hv] at hV;cases gs with
 |cons _ _=>simp[DataW.TrodVars] at hV
 |nil=>
 have hq:q=[]:=hV;subst hq;refine⟨ds,[],p++[],[],p,[],hW,?_,?_,?_,Ky hg.same hg.heap _,fun h=>by simp at h⟩
 ·rw[hfn _ rfl,hres];exact trodAll_cons_mk (RowKit.shut_bool hb _) trodAll_mk0
 ·rw[hfn _ rfl];exact oM hl hg.heap (fun b hb=>by grind) hts hA (DataW.TrodAll.lt hA)
 ·rw[hv,hfn _ rfl];rfl
theorem IT{H:Type}{enc:TypeId×Value->H}{w:World}{args:Array Value}{f:Func}{s:ChangeSpec}{apart:Bool}{ds gs:List (DataW H)}{before:List MemPlace}
  (hW:DataW.Whole enc P f.params.toList s.vars apart w args.toList ds gs before):∃p,DataW.TrodAll enc P w 0 (fun _=>true) true f.params.toList args.toList ds p:=by
 obtain⟨p,q,hA,_⟩:=hW<;>grind
end
def Ce(P:Program)(f:FuncId)(fn:Func)(s:ChangeSpec)(c:OpenClaim):Bool:=
 c.wf (OpenSpec.ofChange s)&&laidOutB P&&mapsRowed P &&
 fn.params.all (P.readableRec ·)&&namedTie P c.named s.vars &&
 (c.stops==[])&&(P.stops==[])&&(c.knobs==[])&&(P.stopKnobs==[]) &&
 (c.inPlace==P.inPlace f)&&(c.unfollowed==P.unfollowed f)&&(c.recurses==P.recurses f)&&(c.named==P.varsNamed f) &&
 (c.maps==(fn.params.toList++s.plain.varTypes P).any (P.mapsRec ·))&&(c.ifaces==(fn.params.toList++s.plain.varTypes P).any (P.ifacesRec ·))&&(c.mapsOut==P.mapsAmong fn.resultTypes.toList) &&
 (c.loops==(fn.params.toList++s.plain.varTypes P).any (P.loopsFrom ·))&&(c.wideKeys==(fn.params.toList++s.plain.varTypes P++fn.resultTypes.toList).any (P.wideKeysFrom ·)) &&
 s.vars.all (P.varReadable ·)&&fn.resultTypes.all (fun t=>P.readableRec t&&decide (t<P.types.size))&&(c.ifacesOut==fn.resultTypes.toList.any (P.ifacesRec ·))&&(c.loopsOut==fn.resultTypes.toList.any (P.loopsFrom ·))&&(c.plainKeys==P.plainKeys)&&c.shortTexts.isNone&&P.stopsHeard
def Cd(P:Program)(c:OpenClaim):Bool:=P.mayEnter&&(c.lifted==P.liftsFinal)&&(P.make==some c.make)
def Cc(P:Program)(fn:Func)(s:ChangeSpec)(c:OpenClaim):Bool:=
 (c.kinds==(if c.domain.isEmpty then [] else fn.params.toList.map fun t=>match P.underlying t with|some (.int k)=>some k|_=>none))&&(c.pinned==c.pinnedBy) &&
 (c.veiled==(fn.params.toList++s.plain.varTypes P++fn.resultTypes.toList).any (P.veiledRec ·))&&c.veiledFits P fn.params.toList (fn.params.toList++s.plain.varTypes P++fn.resultTypes.toList)
theorem Cb{P:Program}{f:FuncId}{fn:Func}{s:ChangeSpec}{c:OpenClaim}(h1:Ce P f fn s c=true)(h2:Cd P c=true)(h3:Cc P fn s c=true):joinedFacts P f fn s c=true:=by
 unfold Ce at h1;unfold Cd at h2;unfold Cc at h3
 have e:∀a b c d b1 b2 b3 c1 c2 c3:Bool,a=true->(b1&&b2&&b3)=true->(b&&c&&d&&c1)=true->(a&&b1&&b2&&b3&&b&&c&&d&&c1)=true:=by
  intro a b c d b1 b2 b3 c1 c2 c3 h h' h'';simp only[ao8] at *
  simp_all
 exact e _ _ _ _ _ _ _ _ true true h1 h2 h3
section
variable{P:Program}{t e:TypeId}{α β:Type}
def jw(b:Nat)(P:Program)(t:TypeId)(e:α->List V)(sz:α->Nat)(ok:α->Prop):Prop:=
 ∀{H:Type} (enc:TypeId×Value->H) (w:World) (fuel:Nat) (cs:List Value) (x:DataW H×List MemPlace),
  DataW.trod enc P w 0 (fun _=>true) true fuel t cs=some x->F1 P t x.1->fH x.1<=b->∃a:α,dI (kK w) (e a) cs/\sz a<=fH x.1/\ok a
theorem dK.at{ee:α->List V}{sz:α->Nat}{ok:α->Prop}(h:dK P t ee sz ok)(b:Nat):jw b P t ee sz ok:=fun enc w fuel cs x ht hw _=>h enc w fuel cs x ht hw
theorem jw.mono{b b':Nat}{ee:α->List V}{sz:α->Nat}{ok:α->Prop}(h:jw b P t ee sz ok)(hb:b'<=b):jw b' P t ee sz ok:=fun enc w fuel cs x ht hw hl=>h enc w fuel cs x ht hw (bq8 hl hb)
theorem IH{H:Type}(d:DataW H):0<fH d:=by
 cases d with
 |lit l=>cases l<;>simp[fH]
 |_=>simp[fH]
theorem zQ{ee:α->List V}{sz:α->Nat}{ok:α->Prop}:jw 0 P t ee sz ok:=fun enc w fuel cs x ht hw hl=>absurd hl (by grind [IH])
theorem II{H:Type}{n i:Nat}(D:Nat->DataW H)(hi:i<n):fH (D i)<=((List.range n).map fun i=>fH (D i)).sum:=by
 have:fH (D i)∈(List.range n).map fun i=>fH (D i):=bb9.2 ⟨i,ch9.2 hi,rfl⟩;generalize (List.range n).map (fun i=>fH (D i))=l at this
 induction l<;>grind
theorem xI{b k:Nat}{ee:α->List V}{sz:α->Nat}{ok:α->Prop}(ht:P.underlying t=some (.slice e))(hk:P.cellsOf e=k)(h0:0<k)(he:jw b P e ee sz ok):
  jw (b+1) P t (fun l:List α=>[V.lst k (l.map ee)]) (fun l=>(l.map sz).sum+1) (fun l=>(∀a,a∈l->ok a)/\l.length<=maxLen):=by
 intro H enc w fuel cs x h hw hlt;rcases Deep.open_slice ht h with ⟨rfl,rfl⟩|⟨a,len,cap,m,n,D,Pl,rfl,_,hlc,hcm,hm,rfl,hel⟩
 ·exact⟨[],dI.one (.nil _ _ _),by simp[fH],by simp⟩
 ·simp only[if_true] at hm;subst hm
  obtain⟨l,hl,hp⟩:=xV (n:=len) (p:=fun i (b:α)=>sz b<=fH (D i)/\ok b/\∃cs',w.cells? 0 (a.add (i*P.cellsOf e)) (P.cellsOf e)=some cs'/\dI (kK w) (ee b) cs') (by
   intro i hi;obtain⟨cs',hc,hd⟩:=hel i (by omega)
   obtain⟨b,h1,h2,h3⟩:=he _ _ _ _ _ hd (by
    unfold F1 at hw;rw[DataW.weights] at hw;simp only[ht,ag8,cb8,ao8] at hw
    grind [M5]) (by
    simp only[fH] at hlt;rw[mW] at hlt;have:=II D hi;grind)
   grind)
  refine⟨l,dI.one ?_,?_,fun b hb=>?_,by omega⟩
  ·by_cases hz:len=0
   ·subst hz;have:l=[]:=aw8.1 hl;subst this;exact .nil _ _ _
   ·have hcell:∀i j b,l[i]? = some b->j<k->∃v,w.cell? ((a.add (i*k)).add j)=some v/\(∃c,(ee b)[j]? = some c)/\∀c,(ee b)[j]? = some c->ct (kK w) c v:=by
     intro i j b hb hj;obtain⟨_,_,cs',hc,hr⟩:=hp i b hb;rw[hk] at hc;obtain⟨_,hn,hcs⟩:=World.cells?_some hc;have hj':j<cs'.length:=by omega
     have hv:cs'[j]? = some cs'[j]:=ax9 hj';have hj2:j<(ee b).length:=by rw[hr.1];exact hj'
     exact⟨cs'[j],(hcs j hj).trans hv,⟨(ee b)[j],ax9 hj2⟩,fun c hcc=>hr.2 j c _ hcc hv⟩
    have hlen:∀b,b∈l->(ee b).length=k:=by
     intro b hb;obtain⟨i,hi⟩:=an8.1 hb;obtain⟨_,_,cs',hc,hr⟩:=hp i b hi;rw[hk] at hc;rw[hr.1,(World.cells?_some hc).2.1]
    have hb0:∃b,l[0]? = some b:=⟨l[0]'(by omega),ax9 _⟩;obtain⟨b0,hb0⟩:=hb0;obtain⟨v0,hv0,_⟩:=hcell 0 0 b0 hb0 h0;have hadd0:(a.add (0*k)).add 0=a:=by simp[Addr.add]
    rw[hadd0] at hv0;unfold World.cell? at hv0;split at hv0
    case h_2=>simp at hv0
    rename_i arr T fr hblk
    have hsp:a.spot=none:=by
     cases hs:a.spot with
     |none=>rfl
     |some s=>grind
    have ao:∀i j b,l[i]? = some b->j<k->∃v,arr[a.off+(i*k+j)]? = some v/\(∃c,(ee b)[j]? = some c)/\∀c,(ee b)[j]? = some c->ct (kK w) c v:=by
     intro i j b hb hj;obtain⟨v,hv,hc⟩:=hcell i j b hb hj;rw[Deep.add_add] at hv;unfold World.cell? at hv;have hbk:(a.add (i*k+j)).block=a.block:=by unfold Addr.add;grind
     have hso:(a.add (i*k+j)).spot=none:=by unfold Addr.add;grind
     have hof:(a.add (i*k+j)).off=a.off+(i*k+j):=by unfold Addr.add;grind
     rw[hbk,hblk] at hv;simp only[hso,hof] at hv;exact⟨v,by grind,hc⟩
    refine ct.lst (arr:=arr) (T:=T) (fr:=fr) (fun i=>(arr[a.off+i]?).getD undef) hblk hsp (by grind) hlc (by omega) ?_ ?_ ?_
    ·grind
    ·intro i hi;rw[be8] at hi;have hq:i / k<l.length:=Nat.div_lt_of_lt_mul (by grind);obtain⟨v,hv,_⟩:=ao (i / k) (i % k) l[i / k] (ax9 hq) (am8 _ h0)<;>simp_all[an9,Nat.div_add_mod]
    grind
  ·simp only[fH];rw[mW];have:=GK (l:=l) (sz:=sz) (g:=fun i=>fH (D i)) fun i b hb=>(hp i b hb).1
   grind
  ·obtain⟨i,hi⟩:=an8.1 hb<;>grind
def td(b0:Nat)(P:Program)(N:Nat)(fs:List (TypeId×Nat×Nat))(off:Nat)(e:α->List V)(sz:α->Nat)(ok:α->Prop):Prop:=
 ∀{H:Type} (enc:TypeId×Value->H) (w:World) (n:Nat) (cs:List Value) (xs:List (DataW H×List MemPlace)),cs.length=N->xs.length=fs.length->
  (∀(i:Nat) (f:TypeId×Nat×Nat),fs[i]? = some f->DataW.trod enc P w 0 (fun _=>true) true n f.1 ((cs.drop f.2.1).take f.2.2)=xs[i]?)->
  zr P (fs.map (·.1)) (xs.map (·.1))->fI (xs.map (·.1))<=b0->∃a:α,dI (kK w) (e a) (cs.drop off)/\sz a<=fI (xs.map (·.1))/\ok a
theorem Ay{b0 N:Nat}:td b0 P N [] N (fun _:Unit=>[]) (fun _=>0) (fun _=>True):=by
 intro H enc w n cs xs hN hx _ _ _
 simp_all[dI]
theorem fh{b0 N k off:Nat}{ft:TypeId}{fs:List (TypeId×Nat×Nat)}{ea:α->List V}{eb:β->List V}{sa:α->Nat}{sb:β->Nat}{oa:α->Prop}{ob:β->Prop}
  (h:jw b0 P ft ea sa oa) (hr:td b0 P N fs (off+k) eb sb ob):td b0 P N ((ft,off,k)::fs) off (fun p:α×β=>ea p.1++eb p.2) (fun p=>sa p.1+sb p.2) (fun p=>oa p.1/\ob p.2):=by
 intro H enc w n cs xs hN hx hf hw hb0
 match xs,hx with
 |x::xs,hx=>
  have h1:=hf 0 _ rfl;simp only[bj9] at h1;have hw':=i9 hw;simp only[bh9,fI] at hb0;obtain⟨a,ha,hs,ho⟩:=h enc w n _ x h1 hw'.1 (by omega)
  have hb':=hr enc w n cs xs hN (by grind) fun i f hi=>by
   have:=hf (i+1) f (by grind)
   grind
  obtain⟨b,hb,hs',ho'⟩:=hb' hw'.2 (by omega);refine⟨(a,b),?_,by grind [fI],ho,ho'⟩;have:=ha.app hb
  grind [List.drop_drop,List.take_append_drop]
theorem vv{b0 N:Nat}{fs:List (TypeId×Nat×Nat)}{e:α->List V}{sz:α->Nat}{ok:α->Prop}(ht:fieldsOf P t=some fs)(hN:P.cellsOf t=N)(h:td b0 P N fs 0 e sz ok):
  jw (b0+1) P t e (fun a=>sz a+1) ok:=by
 intro H enc w fuel cs x hx hw hlt;unfold fieldsOf at ht;split at ht
 case h_2=>simp at ht
 rename_i gs hu;simp only[av9] at ht;subst ht;obtain⟨xs,n,_,rfl,hl,hxl,hf⟩:=DataW.trod_struct hu hx
 have ha':=h enc w n cs xs (hl.trans hN) (by grind) fun i f hi=>by
  grind
 obtain⟨a,h1,h2,h3⟩:=ha' (by
  unfold F1 at hw;rw[DataW.weights] at hw;simp only[hu] at hw;unfold zr;rw[bb8];exact hw) (by simp_all[fH])
 grind [fH]
end
end Go.Pv
namespace Go.Pv
open Go
theorem cA{n:Int}(h : -9223372036854775808<=n)(h':n<=9223372036854775807):bt n=n:=by
 have:bt n=if n % 18446744073709551616>=9223372036854775808 then n % 18446744073709551616 - 18446744073709551616 else n % 18446744073709551616:=by
  simp[bt,IntKind.wrap,IntKind.signed,IntKind.bits]
 grind
theorem az{α β:Type}(k:α)(b:α->β):jn k b=b k:=rfl
theorem bU{α:Type}{xs:List α}{j:Nat}(h:j<xs.length):cH xs (j:Int)=some xs[j]:=by
 simp[cH,h]
theorem dM{α β:Type}[DecidableEq α](xs:List (α×β))(k k':α)(v:β):aY (cK xs k v) k'=if k=k' then some v else aY xs k':=by
 induction xs with
 |nil=>simp[cK,aY]
 |cons p r ih=>
  simp only[cK];split
  ·simp_all[aY]
  ·rename_i h;simp only[aY]
   grind
theorem sZ(x:UInt8)(a:B8)(y:UInt8)(b:B8):Op.bytesLess (x::a) (y::b)=(decide (x<y)||(x==y&&Op.bytesLess a b)):=by
 rw[Op.bytesLess]
theorem ot:∀a:B8,Op.bytesLess a a=false
 |[]=>by simp[Op.bytesLess]
 |x::a=>by rw[sZ,ot a];simp
theorem kU:∀{a b c:B8},Op.bytesLess a b=true->Op.bytesLess b c=true->Op.bytesLess a c=true
 |[],[],_,h,_=>by grind
 |[],y::b,[],_,h=>by simp[Op.bytesLess] at h
 |[],y::b,z::c,_,_=>by simp[Op.bytesLess]
 |x::a,[],_,h,_=>by simp[Op.bytesLess] at h
 |x::a,y::b,[],_,h=>by simp[Op.bytesLess] at h
 |x::a,y::b,z::c,h,g=>by
  rw[sZ] at *;simp only[ap8,decide_eq_true_eq,ao8,beq_iff_eq,UInt8.lt_iff_toNat_lt] at *;rcases h with h|⟨rfl,h⟩<;>rcases g with g|⟨rfl,g⟩
  ·exact .inl (by omega)
  ·exact .inl h
  ·exact .inl g
  ·exact .inr ⟨Y,kU h g⟩
theorem yy:∀a b:B8,Op.bytesLess a b=true\/a=b\/Op.bytesLess b a=true
 |[],[]=>by simp
 |[],y::b=>by simp[Op.bytesLess]
 |x::a,[]=>by simp[Op.bytesLess]
 |x::a,y::b=>by
  rw[sZ,sZ];simp only[ap8,decide_eq_true_eq,ao8,beq_iff_eq,UInt8.lt_iff_toNat_lt,bv9];rcases Nat.lt_trichotomy x.toNat y.toNat with h|h|h
  ·grind
  ·have:=UInt8.toNat_inj.1 h
   simp_all[yy]
  grind
theorem uJ{a b:B8}(h:Op.bytesLess a b=true):Op.bytesLess b a=false:=by
 grind [kU,ot]
theorem wL{a b:B8}(h:Op.bytesLess a b=true):a≠b:=by grind [ot]
theorem E0{α:Type}{g:List α->Int->Option Int}{k:Option Int}(p:α->Bool)(h0:∀n,g [] n=k)(h1:∀x l n,g (x::l) n=if p x=true then some n else g l (n+1)):
  ∀l (n:Nat),g l n=if l.any p=true then some ((n+l.findIdx p:Nat):Int) else k
 |[],n=>by simp[h0]
 |x::l,n=>by
  have e:((n:Int)+1)=((n+1:Nat):Int):=rfl;rw[h1,e,E0 p h0 h1 l (n+1)]
  grind
theorem yw{β:Type}{g:Nat->Int->Option β}{k:Option β}{f:β}(s:B8)(p:UInt8->Bool)(h0:∀n,g 0 n=k)
  (h1:∀m n,g (m+1) n=(cH s n).bind fun c=>if p c=true then g m (n+1) else some f):
  ∀(m n:Nat),n+m=s.length->g m n=if (s.drop n).all p=true then k else some f
 |0,n,h=>by grind
 |m+1,n,h=>by
  have hn:n<s.length:=by omega
  have e:((n:Int)+1)=((n+1:Nat):Int):=rfl;rw[h1,bU hn,bt9,e,yw s p h0 h1 m (n+1) (by omega),bo8 hn,ag8]
  grind
end Go.Pv
namespace Go.Proofs.YtelmfadihfcgnaaGreatDoor
open Go Go.Pv
set_option maxRecDepth 100000
inductive Tr where
 |mk (Kind:Int) (Name:B8) (Texts:List B8) (Op N:Int) (Kids:List Tr)
noncomputable section
mutual
def Tr.toT:Tr->aH
 | .mk a b c d e ks=>⟨a,b,c,d,e,Tr.toKs ks⟩
def Tr.toKs:List Tr->List aR
 |[]=>[]
 |t::r=>⟨ag t.toT,cc _,iO _⟩::Tr.toKs r
end
def NS(n:Int):Prop:=(IntKind.i64).min<=n/\n<=(IntKind.i64).max
def pc(s:B8):Prop:=s.length<=140737488351232
mutual
def Tr.ok:Tr->Prop
 | .mk a b c d e ks=>NS a/\pc b/\((∀s,s∈c->pc s)/\c.length<=maxLen)/\NS d/\NS e/\Tr.oks ks/\ks.length<=maxLen
def Tr.oks:List Tr->Prop
 |[]=>True
 |t::r=>t.ok/\Tr.oks r
end
end
theorem Tr.toKs_row:∀ks:List Tr,(Tr.toKs ks).map aR.row=ks.map fun t=>ag t.toT
 |[]=>by simp[Tr.toKs]
 |t::r=>by simp[Tr.toKs,Tr.toKs_row r]
theorem Tr.oks_of:∀ks:List Tr,(∀t,t∈ks->t.ok)->Tr.oks ks
 |[],_=>by simp[Tr.oks]
 |t::r,h=>by rw[Tr.oks];exact⟨h t (by simp),Tr.oks_of r fun u hu=>h u (by simp[hu])⟩
theorem Tr.toKs_len:∀ks:List Tr,(Tr.toKs ks).length=ks.length
 |[]=>by simp[Tr.toKs]
 |t::r=>by simp[Tr.toKs,Tr.toKs_len r]
theorem NJ{a b:B8}(h:sV a=sV b):a=b:=by
 grind
theorem Im{a b:B8}(h:au a=au b):a=b:=NJ (by grind [au])
theorem tW{a b:List B8}(h:a.map au=b.map au):a=b:=List.map_inj_right (fun x y h=>Im h) |>.1 h
theorem HH{a b:List aR}(h:a.map aR.row=b.map aR.row):a=b:=List.map_inj_right (fun x y h=>aR.ext' h) |>.1 h
theorem qa(a b:aH)(h:ag a=ag b):a=b:=by
 obtain⟨a1,a2,a3,a4,a5,a6⟩:=a;obtain⟨b1,b2,b3,b4,b5,b6⟩:=b;simp only[ag,bv9,and_true] at h
 grind [tW,HH]
theorem HX(t:Tr):er ag ⟨ag t.toT,cc _,iO _⟩=some t.toT:=Dk qa rfl
def CU(x:aH):Nat:=0
def pT(x:aH):Prop:=∃t:Tr,x=t.toT/\t.ok
theorem wm:∀b,jw b Tryz.prog 25 (fun t:Tr=>ag t.toT) (fun _=>0) Tr.ok
 |0=>zQ
 |b+1=>by
  have hi:dK Tryz.prog 3 (fun x=>[V.con (.int .i64 x)]) (fun _=>1) (fun x:Int=>(IntKind.i64).min<=x/\x<=(IntKind.i64).max):=wj (show Tryz.prog.underlying 3=some (.int .i64) by kernel_rfl);have hs:dK Tryz.prog 9 (fun x=>[sV x]) (fun s=>s.length+1) (fun s=>s.length<=140737488351232):=oO (show Tryz.prog.underlying 9=some (.string) by kernel_rfl);intro enc w fuel cs x hx hw hl
  obtain⟨a,h1,h2,h3⟩:=vv (P:=Tryz.prog) (t:=25) (b0:=b) (fs:=[(3,0,1),(9,1,1),(22,2,1),(3,3,1),(3,4,1),(23,5,1)]) (by kernel_rfl) (by kernel_rfl)
   (fh (dK.at hi b) (fh (dK.at hs b) (fh (dK.at (ia (k:=1) (t:=22) (e:=9) (by kernel_rfl) (by kernel_rfl) (by decide) hs) b) (fh (dK.at hi b) (fh (dK.at hi b)
    (fh (jw.mono (xI (k:=6) (t:=23) (e:=25) (by kernel_rfl) (by kernel_rfl) (by decide) (wm b)) (ak8 b)) Ay)))))) enc w fuel cs x hx hw hl
  refine⟨Tr.mk a.1 a.2.1 a.2.2.1 a.2.2.2.1 a.2.2.2.2.1 a.2.2.2.2.2.1,?_,ai8 _,?_⟩
  ·simp only[Tr.toT,ag,Tr.toKs_row];exact h1
  ·simp only[Tr.ok];exact⟨h3.1,h3.2.1,h3.2.2.1,h3.2.2.2.1,h3.2.2.2.2.1,Tr.oks_of _ h3.2.2.2.2.2.1.1,h3.2.2.2.2.2.1.2⟩
theorem Hc:dK Tryz.prog 25 ag CU pT:=by
 intro H enc w fuel cs x hx hw;obtain⟨t,h1,h2,h3⟩:=wm _ enc w fuel cs x hx hw (ae9 _);exact⟨t.toT,h1,ai8 _,t,Y,h3⟩
end Go.Proofs.YtelmfadihfcgnaaGreatDoor
namespace Go.Proofs.YtelmfadihfcgnaaGreatDoor
open Go Go.Pv
set_option maxRecDepth 100000
theorem gf:dK Tryz.prog 9 (fun x=>[sV x]) (fun x:B8=>(x.length+1)) (fun x:B8=>(x.length<=140737488351232)):=oO (show Tryz.prog.underlying 9=some (.string) by kernel_rfl)
theorem pR:dK Tryz.prog 3 (fun x=>[V.con (.int .i64 x)]) (fun x:Int=>1) (fun x:Int=>((IntKind.i64).min<=x/\x<=(IntKind.i64).max)):=wj (show Tryz.prog.underlying 3=some (.int .i64) by kernel_rfl)
def j6(x:aC):Nat:=(x.Name.length+1)+((x.About.length+1)+((CU x.When)+(1+0)))+1
def j9(x:aC):Prop:=(x.Name.length<=140737488351232)/\((x.About.length<=140737488351232)/\((pT x.When)/\(((IntKind.i64).min<=x.Level/\x.Level<=(IntKind.i64).max)/\True)))
theorem G3:dK Tryz.prog 58 aS j6 j9:=jc (fg (fs:=[(9,0,1),(9,1,1),(25,2,6),(3,8,1)]) (by kernel_rfl) (by kernel_rfl) (co gf (co gf (co Hc (co pR gK))))) (fun p=>aC.mk p.1 p.2.1 p.2.2.1 p.2.2.2.1) (fun _=>rfl) (fun _=>rfl) (fun _ h=>h)
theorem G6:dK Tryz.prog 46 (fun l=>[V.lst 9 (l.map aS)]) (fun x:(List aC)=>((x.map (fun x:aC=>(j6 x))).sum+1)) (fun x:(List aC)=>((∀a,a∈x->(fun x:aC=>(j9 x)) a)/\x.length<=maxLen)):=ia (show Tryz.prog.underlying 46=some (.slice 58) by kernel_rfl) (by kernel_rfl) (by decide) G3
def qO(x:bN):Nat:=(x.Rule.length+1)+((x.Subject.length+1)+(1+(1+((x.Owner.length+1)+(1+0)))))+1
def jd(x:bN):Prop:=(x.Rule.length<=140737488351232)/\((x.Subject.length<=140737488351232)/\(((IntKind.i64).min<=x.From/\x.From<=(IntKind.i64).max)/\(((IntKind.i64).min<=x.To/\x.To<=(IntKind.i64).max)/\((x.Owner.length<=140737488351232)/\(((IntKind.i64).min<=x.Level/\x.Level<=(IntKind.i64).max)/\True)))))
theorem Et:dK Tryz.prog 185 cr qO jd:=jc (fg (fs:=[(9,0,1),(9,1,1),(3,2,1),(3,3,1),(9,4,1),(3,5,1)]) (by kernel_rfl) (by kernel_rfl) (co gf (co gf (co pR (co pR (co gf (co pR gK))))))) (fun p=>bN.mk p.1 p.2.1 p.2.2.1 p.2.2.2.1 p.2.2.2.2.1 p.2.2.2.2.2.1) (fun _=>rfl) (fun _=>rfl) (fun _ h=>h)
theorem G5:dK Tryz.prog 47 (fun l=>[V.lst 6 (l.map cr)]) (fun x:(List bN)=>((x.map (fun x:bN=>(qO x))).sum+1)) (fun x:(List bN)=>((∀a,a∈x->(fun x:bN=>(jd x)) a)/\x.length<=maxLen)):=ia (show Tryz.prog.underlying 47=some (.slice 185) by kernel_rfl) (by kernel_rfl) (by decide) Et
def vY(x:aw):Nat:=((x.Rules.map (fun x:aC=>(j6 x))).sum+1)+(((x.Waivers.map (fun x:bN=>(qO x))).sum+1)+0)+1
def ce(x:aw):Prop:=((∀a,a∈x.Rules->(fun x:aC=>(j9 x)) a)/\x.Rules.length<=maxLen)/\(((∀a,a∈x.Waivers->(fun x:bN=>(jd x)) a)/\x.Waivers.length<=maxLen)/\True)
theorem G4:dK Tryz.prog 49 av vY ce:=jc (fg (fs:=[(46,0,1),(47,1,1)]) (by kernel_rfl) (by kernel_rfl) (co G6 (co G5 gK))) (fun p=>aw.mk p.1 p.2.1) (fun _=>rfl) (fun _=>rfl) (fun _ h=>h)
theorem wk:uX Tryz.prog 49 (fun x=>V.agg (av x)) vY ce:=tO (fs:=[(46,0,1),(47,1,1)]) (by kernel_rfl) G4
theorem Hd:uX Tryz.prog 9 (fun x=>sV x) (fun x:B8=>(x.length+1)) (fun x:B8=>(x.length<=140737488351232)):=zO (by kernel_rfl) gf
def xC(x:bu):Nat:=(x.Name.length+1)+((x.Value.length+1)+0)+1
def xL(x:bu):Prop:=(x.Name.length<=140737488351232)/\((x.Value.length<=140737488351232)/\True)
theorem G8:dK Tryz.prog 39 bM xC xL:=jc (fg (fs:=[(9,0,1),(9,1,1)]) (by kernel_rfl) (by kernel_rfl) (co gf (co gf gK))) (fun p=>bu.mk p.1 p.2.1) (fun _=>rfl) (fun _=>rfl) (fun _ h=>h)
theorem Hb:dK Tryz.prog 26 (fun l=>[V.lst 2 (l.map bM)]) (fun x:(List bu)=>((x.map (fun x:bu=>(xC x))).sum+1)) (fun x:(List bu)=>((∀a,a∈x->(fun x:bu=>(xL x)) a)/\x.length<=maxLen)):=ia (show Tryz.prog.underlying 26=some (.slice 39) by kernel_rfl) (by kernel_rfl) (by decide) G8
def qP(x:aL):Nat:=(x.Name.length+1)+(1+0)+1
def qX(x:aL):Prop:=(x.Name.length<=140737488351232)/\(((IntKind.i64).min<=x.N/\x.N<=(IntKind.i64).max)/\True)
theorem G7:dK Tryz.prog 41 bp qP qX:=jc (fg (fs:=[(9,0,1),(3,1,1)]) (by kernel_rfl) (by kernel_rfl) (co gf (co pR gK))) (fun p=>aL.mk p.1 p.2.1) (fun _=>rfl) (fun _=>rfl) (fun _ h=>h)
theorem Ha:dK Tryz.prog 27 (fun l=>[V.lst 2 (l.map bp)]) (fun x:(List aL)=>((x.map (fun x:aL=>(qP x))).sum+1)) (fun x:(List aL)=>((∀a,a∈x->(fun x:aL=>(qX x)) a)/\x.length<=maxLen)):=ia (show Tryz.prog.underlying 27=some (.slice 41) by kernel_rfl) (by kernel_rfl) (by decide) G7
def CV(x:aW):Nat:=(x.Kind.length+1)+((x.Subject.length+1)+(((x.Texts.map (fun x:bu=>(xC x))).sum+1)+(((x.Numbers.map (fun x:aL=>(qP x))).sum+1)+0)))+1
def sO(x:aW):Prop:=(x.Kind.length<=140737488351232)/\((x.Subject.length<=140737488351232)/\(((∀a,a∈x.Texts->(fun x:bu=>(xL x)) a)/\x.Texts.length<=maxLen)/\(((∀a,a∈x.Numbers->(fun x:aL=>(qX x)) a)/\x.Numbers.length<=maxLen)/\True)))
theorem G9:dK Tryz.prog 29 bv CV sO:=jc (fg (fs:=[(9,0,1),(9,1,1),(26,2,1),(27,3,1)]) (by kernel_rfl) (by kernel_rfl) (co gf (co gf (co Hb (co Ha gK))))) (fun p=>aW.mk p.1 p.2.1 p.2.2.1 p.2.2.2.1) (fun _=>rfl) (fun _=>rfl) (fun _ h=>h)
theorem Eu:uX Tryz.prog 29 (fun x=>V.agg (bv x)) CV sO:=tO (fs:=[(9,0,1),(9,1,1),(26,2,1),(27,3,1)]) (by kernel_rfl) G9
def oJ:List B8:=[([114,117,108,101]:B8),([97,98,111,117,116]:B8),([119,104,101,110]:B8),([119,97,105,118,101]:B8),([102,111,114]:B8),([102,114,111,109]:B8),([116,111]:B8),([98,121]:B8),([97,115]:B8),([112,97,115,115]:B8),([110,111,116,101]:B8),([119,97,114,110]:B8),([100,101,110,121]:B8),([111,114]:B8),([97,110,100]:B8),([116,114,117,101]:B8),([105,115]:B8),([98,101,103,105,110,115]:B8),([104,97,115]:B8),([110,111,116]:B8)]
def CI(s:B8):Bool:=oJ.any fun w=>s==w
theorem orS{b c:Bool}{x:Option Bool}(h:x=some c):(if b=true then (if b=true then some true else some false) else x)=some (b||c):=by grind
theorem orL{b:Bool}:(if b=true then some true else some false)=some (b||false):=by grind
theorem OX(F:Nat)(s:B8):RH F s=some (CI s):=by
 unfold RH;simp only[az]
 show _=some (oJ.any fun w=>s==w)
 simp only[oJ,bz8,List.any_nil]
 repeat (first|exact orL|apply orS)
theorem wT(F:Nat)(a:B8)(k:Option Bool):∀(m n:Nat),n+m=20->np F a k m n=if ((oJ.drop n).any fun w=>a==w)=true then some true else k
 |0,n,h=>by
  simp_all[np,oJ]
 |m+1,n,h=>by
  have hn:n<oJ.length:=by simp[oJ];omega
  have e:((n:Int)+1)=((n+1:Nat):Int):=rfl;rw[np,if_pos ⟨by omega,by omega⟩,e,wT F a k m (n+1) (by omega),bo8 hn,bz8];have h2:(uL ([]:B8) oJ n)=oJ[n]:=by simp[uL,List.getD,ax9 hn]
  have h3:((n:Int)).toNat=n:=by omega
  rw[h3]
  show(if (uL ([]:B8) oJ n==a)=true then some true else _)=_
  grind
theorem OS(F:Nat)(s:B8):RE F s=some (CI s):=by
 unfold RE;rw[az,if_pos (by omega)];have:=wT F s (some false) 20 0 rfl
 grind [CI]
def run(c:UInt8):Bool:=(decide (97<=c.toNat)&&decide (c.toNat<=122))||(decide (48<=c.toNat)&&decide (c.toNat<=57))||(c.toNat==45)
def HM(c:UInt8):Bool:=decide (97<=c.toNat)&&decide (c.toNat<=122)
theorem OR(F:Nat)(c:UInt8):RD F (c.toNat:Int)=some (run c):=by
 unfold RD run
 have h1:((c.toNat:Int)==45)=(c.toNat==45):=by
  by_cases h:c.toNat=45
  ·simp[h]
  ·grind
 grind
def cO(s:B8):Bool:=match s with|[]=>false|c::r=>decide ((c::r).length<=40)&&!CI (c::r)&&HM c&&r.all run
theorem Kq{c:UInt8}{k:Option Bool} :
    (if (decide ((c.toNat:Int)>=97))=true then if (decide ((c.toNat:Int)<=122))=true then k
 else if (decide ((c.toNat:Int)>=48))=true then if (decide ((c.toNat:Int)<=57))=true then k
 else if (!((c.toNat:Int)==45))=true then some false
 else k
 else if (!((c.toNat:Int)==45))=true then some false
 else k
 else if (decide ((c.toNat:Int)>=48))=true then if (decide ((c.toNat:Int)<=57))=true then k
 else if (!((c.toNat:Int)==45))=true then some false
 else k
 else if (!((c.toNat:Int)==45))=true then some false
 else k)=if run c=true then k else some false:=by
  unfold run
  grind
theorem Ba(F:Nat)(s:B8)(k:Option Bool):∀(m n:Nat),0<n->n+m=s.length->lS F s k m n=if (s.drop n).all run=true then k else some false
 |0,n,_,h=>by simp_all[lS]
 |m+1,n,h0,h=>by
  have hn:n<s.length:=by omega
  have e:((n:Int)+1)=((n+1:Nat):Int):=rfl;have h3:decide ((n:Int)>0)=true:=decide_eq_true (by omega);rw[lS,az,bU hn,bt9,e,Ba F s k m (n+1) (by omega) (by omega),bo8 hn,ag8];simp only[h3,if_true];rw[Kq]
  grind
theorem Ks{n:Nat}(h:n<=140737488351232):(n:Int)<=9223372036854775807:=by omega
theorem lR(F:Nat)(s:B8)(hs:pc s):Fy F s=some (cO s):=by
 unfold pc at hs;unfold Fy;rw[az,if_pos (Ks hs),show((s.length:Int):Int).toNat=s.length by omega];cases s with
 |nil=>rfl
 |cons c r=>
  rw[br8,lS,az,show cH (c::r) 0=some c from rfl,bt9];have e:((0:Int)+1)=((1:Nat):Int):=rfl;rw[e,Ba F (c::r) _ r.length 1 (by omega) (by simp;omega)];simp only[List.drop_succ_cons,bn8,OX,bt9,cO,HM,show decide ((0:Int)>0)=false from rfl,cf9,if_false,br8]
  grind
theorem Fx(F:Nat)(s:B8)(k:Option Bool)(m n:Nat)(h:n+m=s.length):pz F s k m n=if (s.drop n).all run=true then k else some false:=
 yw s run (fun n=>rfl) (fun m n=>by
  grind [pz,OR]) m n h
theorem rE(F:Nat)(s:B8)(hs:pc s):A8 F s=some (cO s):=by
 unfold pc at hs;unfold A8;rw[az,if_pos (Ks hs),show((s.length:Int):Int).toNat=s.length by omega];have hl:=Fx F s (some true) s.length 0 (by omega);rw[show((0:Nat):Int)=0 from rfl,bn8] at hl;rw[hl];cases s with
 |nil=>rfl
 |cons c r=>
  rw[show cH (c::r) 0=some c from rfl];simp only[OS,bt9,cO,HM,br8,ag8,show((c::r==([]:B8)))=false from rfl,cf9,if_false]
  have h40:decide (((r.length+1:Nat):Int)>40) = !decide (r.length+1<=40):=by
   by_cases h:r.length+1<=40
   ·grind
   ·grind
  rw[h40]
  by_cases a1:97<=c.toNat<;>by_cases a2:c.toNat<=122 <;>
   simp only[a1,a2,show((c.toNat:Int)<97)<->¬(97<=c.toNat) by omega,show((c.toNat:Int)>122)<->¬(c.toNat<=122) by omega,not_true_eq_false,not_false_eq_true,decide_true,decide_false,if_true,if_false,cf9,Bool.and_true,Bool.and_false,Bool.false_and]
  ·have:run c=true:=by simp[run,a1,a2]
   grind
  all_goals grind
def Bs(c:UInt8):Bool:=decide (32<=c.toNat)&&decide (c.toNat<=126)
def je(s:B8):Bool:=decide (s.length<=1000)&&s.all Bs
theorem zt{β:Type}{s:B8}{n:Int}{k f:Option β}:((cH s n).bind fun c6=>if (decide ((c6.toNat:Int)<32))=true then f
 else (cH s n).bind fun c9=>if (decide ((c9.toNat:Int)>126))=true then f else k)=(cH s n).bind fun c=>if Bs c=true then k else f:=by
  cases cH s n with
  |none=>rfl
  |some c=>
    simp only[bt9,Bs]
    grind
theorem ta(F:Nat)(s:B8)(hs:pc s):Bh F s=some (je s):=by
 unfold pc at hs;unfold Bh;rw[az,if_pos (Ks hs),show((s.length:Int):Int).toNat=s.length by omega];have hl:=yw (g:=mc F s (some (decide ((s.length:Int)<=1000)))) (f:=false) s Bs (fun n=>rfl) (fun m n=>by rw[mc];exact zt) s.length 0 (by omega)
 grind [je]
theorem I8(F:Nat)(s:B8)(hs:pc s):PU F s=some (je s):=by
 unfold pc at hs;unfold PU;rw[az,if_pos (Ks hs),show((s.length:Int):Int).toNat=s.length by omega];have hl:=yw (g:=pu F s (some true)) (f:=false) s Bs (fun n=>rfl) (fun m n=>by rw[pu];exact zt) s.length 0 (by omega)
 grind [je]
def Bi(a:List B8):List B8->Nat->Int
 |[],_=>0
 |x::l,n=>if (!je x)=true then 2 else if (decide (0<n)&&(Op.bytesLess x (a.getD (n - 1) [])||x==a.getD (n - 1) []))=true then 10 else Bi a l (n+1)
theorem uf{α:Type}{a:List α}{n:Nat}{d:α}(h0:0<n)(h:n<=a.length)(hl:a.length<=maxLen):cH a (bt ((n:Int) - 1))=some (a.getD (n - 1) d):=by
 grind [maxLen,cA,bU]
theorem So{g:List B8->Int->Option Int}{k:Option Int}{a:List B8}(hl:a.length<=maxLen)(h0:∀n,g [] n=k)
  (h1:∀x l (n:Nat),a[n]? = some x->x∈a->g (x::l) n=if (!je x)=true then some 2 else if decide ((n:Int)>0)=true then (cH a (bt ((n:Int) - 1))).bind fun y=>if (Op.bytesLess x y||x==y)=true then some 10 else g l (n+1) else g l (n+1)):
  ∀(l:List B8) (n:Nat),a.drop n=l->g l n=if (Bi a l n != 0)=true then some (Bi a l n) else k
 |[],n,_=>by simp[h0,Bi]
 |x::l,n,h=>by
  have hn:n<a.length:=by
   rcases bm8 n a.length with h2|h2
   ·exact h2
   ·simp_all[al9]
  rw[bo8 hn] at h
  injection h with hx hd
  have e:((n:Int)+1)=((n+1:Nat):Int):=rfl;rw[h1 x l n (by grind) (by grind),e,So hl h0 h1 l (n+1) hd];rw[Bi];cases je x
  ·simp
  ·simp only[bp9,cf9,if_false];by_cases h2:0<n
   ·rw[if_pos (decide_eq_true (by omega)),uf (d:=[]) h2 (by omega) hl,bt9,decide_eq_true h2]
    grind
   grind
def JH(a:List B8):Int:=if a.length=0 then 13 else if 50<a.length then 3 else Bi a a 0
def okX(x:aH):Prop:=pc x.Name/\(∀s,s∈x.Texts->pc s)/\x.Texts.length<=maxLen/\x.Kids.length<=maxLen
theorem L2(F:Nat)(a:List B8)(ha:∀s,s∈a->pc s)(hl:a.length<=maxLen):Jr F a=some (JH a):=by
 unfold Jr JH
 have h:=So (g:=lY F a (some 0)) (k:=some 0) hl (fun n=>rfl) (fun x l n h1 h2=>by
  simp_all[lY,ta,az]) a 0 rfl
 rw[show((0:Nat):Int)=0 from rfl] at h;rw[az,h]
 grind
theorem Mh(F:Nat)(n:Int):vk F n=some (decide (-1000000000000<=n)&&decide (n<=1000000000000)):=by
 grind [vk]
theorem rD(F:Nat)(a b c:Int):uZ F a b c=some (decide (a<b)||decide (a>c)):=by
 grind [uZ]
local macro "tx68" f:term:term=>`(fun(F:Nat) (x:aH) (k:Option Int) (hx:okX x)=>So (g := $f F x k) (k:=k) hx.2.2.1 (fun n=>rfl) (fun y l n h1 h2=>by
  have hn:n<x.Texts.length:=(ba8.1 h1).1;have hi:cH x.Texts (n:Int)=some y:=by rw[bU hn];exact(ax9 hn).symm.trans h1
  show jn _ _=_
  rw[az,I8 F y (hx.2.1 y h2),bt9,hi];cases je y<;>rfl) x.Texts 0 rfl)
theorem vd:∀(F:Nat) (x:aH) (k:Option Int) (hx:okX x),dW F x k x.Texts ((0:Nat):Int)=if (Bi x.Texts x.Texts 0 != 0)=true then some (Bi x.Texts x.Texts 0) else k:=tx68 dW
def pQ(n:Int):Bool:=decide (n < -1000000000000)||decide (n>1000000000000)
theorem qw(F:Nat)(n:Int):uZ F n (-1000000000000) 1000000000000=some (pQ n):=rD F n _ _
theorem lM(F:Nat)(n:Int):uZ F n 1 8=some (decide (n<1)||decide (n>8)):=rD F n _ _
theorem lN(F:Nat)(n:Int):uZ F n 1 5=some (decide (n<1)||decide (n>5)):=rD F n _ _
theorem JA(F:Nat)(n:Int):vk F n=some (!pQ n):=by
 rw[Mh,pQ,Bool.not_or,<-decide_not,<-decide_not]
 grind
def cI(x:aH):Int:=
 if x.Kind<1\/8<x.Kind then 7
 else if !(decide (2<=x.Kind)&&decide (x.Kind<=5))&&!(x.Name==[])||!(x.Kind==2||x.Kind==3)&&decide (0<x.Texts.length)||!(x.Kind==5)&&(x.Op != 0||x.N != 0) ||
  !(if x.Kind=6 then x.Kids.length==1 else if 7<=x.Kind then decide (2<=x.Kids.length) else x.Kids.length==0) then 2
 else if (decide (2<=x.Kind)&&decide (x.Kind<=5))&&!cO x.Name then 8
 else if x.Kind=2\/x.Kind=3 then JH x.Texts
 else if x.Kind=5 then (if x.Op<1\/5<x.Op then 7 else if pQ x.N=true then 9 else 0)
 else 0
theorem ER{n:Nat}:(((n:Nat):Int)==0)=(n==0):=by
 grind
theorem QB{n:Nat}:(((n:Nat):Int)==1)=(n==1):=by
 grind
theorem MC{n:Nat}:decide (((n:Nat):Int)>0)=decide (0<n):=decide_eq_decide.2 (by omega)
theorem SD{n:Nat}:decide (((n:Nat):Int)>=2)=decide (2<=n):=decide_eq_decide.2 (by omega)
theorem B4{n:Nat}:decide (((n:Nat):Int)>50)=decide (50<n):=decide_eq_decide.2 (by omega)
noncomputable def fp:Nat->cf:=(FE 0).get rfl
theorem D7(F:Nat):FE F=some fp:=rfl
theorem Ng:fp 1=⟨false,false,false,0⟩:=rfl
theorem Nf:fp 2=⟨true,true,false,0⟩:=rfl
theorem Nd:fp 3=⟨true,true,false,0⟩:=rfl
theorem Nc:fp 4=⟨true,false,false,0⟩:=rfl
theorem Nb:fp 5=⟨true,false,true,0⟩:=rfl
theorem Na:fp 6=⟨false,false,false,1⟩:=rfl
theorem M9:fp 7=⟨false,false,false,-1⟩:=rfl
theorem M8:fp 8=⟨false,false,false,-1⟩:=rfl
def fm(u:cf)(x:aH):Bool:=(u.name||(x.Name==[]))&&(u.texts||!decide (0<x.Texts.length))&&(u.number||((x.Op==0)&&(x.N==0)))&&(if u.kids<0 then decide (2<=x.Kids.length) else (((x.Kids.length:Nat):Int)==u.kids))
theorem L3(F:Nat)(x:aH)(h:0<=x.Kind/\x.Kind.toNat<9):Js F x=some (fm (fp x.Kind.toNat) x):=by
 unfold Js fm;rw[D7,bt9,if_pos h];generalize fp x.Kind.toNat=u;simp only[MC,SD]
 grind
def fV(u:cf)(x:aH):Int:=if !fm u x then 2 else if u.name&&!cO x.Name then 8 else if u.texts&&JH x.Texts != 0 then JH x.Texts else if u.number&&(decide (x.Op<1)||decide (x.Op>5)) then 7 else if u.number&&pQ x.N then 9 else 0
theorem Lm(F:Nat)(R:aH->Option Int)(x:aH)(hx:okX x)(h:1<=x.Kind/\x.Kind<=8):r5 R F x=if (fV (fp x.Kind.toNat) x != 0)=true then some (fV (fp x.Kind.toNat) x) else kr R F (some 0) x.Kids:=by
 have h9:0<=x.Kind/\x.Kind.toNat<9:=by omega
 unfold r5 fV;rw[L3 F x h9,D7,bt9,if_pos h9,bt9,lR F x.Name hx.1,L2 F x.Texts hx.2.1 hx.2.2.1,JA,decide_eq_false (show ¬x.Kind<1 by omega),decide_eq_false (show ¬x.Kind>8 by omega)];simp only[az,bt9]
 grind [fm,JH]
theorem LY{F:Nat}{nm:B8}{tx:List B8}{op n:Int}{ks:List aR}(hn:A8 F nm=some (cO nm)):kx F ⟨1,nm,tx,op,n,ks⟩=some (cI ⟨1,nm,tx,op,n,ks⟩):=by
 have e4:tx=[]<->tx.length=0:=aw8.symm;have e5:ks=[]<->ks.length=0:=aw8.symm;simp only[kx,rF,lM,lN,qw,az,cI,MC,B4,ER,hn];by_cases a1:nm=[]<;>by_cases a2:0<tx.length<;>by_cases a3:op=0<;>by_cases a4:n=0<;>by_cases a5:ks.length=0<;>grind
theorem Hs{nm:B8}{tx:List B8}{op n:Int}{ks:List aR}:fV (fp 1) ⟨1,nm,tx,op,n,ks⟩=cI ⟨1,nm,tx,op,n,ks⟩:=by
 simp_all[Ng,fV,fm,cI]
theorem LX{F:Nat}{nm:B8}{tx:List B8}{op n:Int}{ks:List aR}(hn:A8 F nm=some (cO nm))(h1:∀k,dW F ⟨2,nm,tx,op,n,ks⟩ k tx 0=if (Bi tx tx 0 != 0)=true then some (Bi tx tx 0) else k):kx F ⟨2,nm,tx,op,n,ks⟩=some (cI ⟨2,nm,tx,op,n,ks⟩):=by
 have e4:tx=[]<->tx.length=0:=aw8.symm;have e5:ks=[]<->ks.length=0:=aw8.symm;simp only[kx,rF,lM,lN,qw,az,cI,MC,B4,ER,hn,h1,JH];by_cases a1:cO nm=true<;>by_cases a2:tx.length=0<;>by_cases a3:50<tx.length<;>by_cases a4:op=0<;>by_cases a5:n=0<;>by_cases a6:ks.length=0<;>by_cases a7:Bi tx tx 0=0<;>grind
theorem Hr{nm:B8}{tx:List B8}{op n:Int}{ks:List aR}:fV (fp 2) ⟨2,nm,tx,op,n,ks⟩=cI ⟨2,nm,tx,op,n,ks⟩:=by
 grind [Nf,fV,fm,cI]
theorem LW{F:Nat}{nm:B8}{tx:List B8}{op n:Int}{ks:List aR}(hn:A8 F nm=some (cO nm))(h1:∀k,dW F ⟨3,nm,tx,op,n,ks⟩ k tx 0=if (Bi tx tx 0 != 0)=true then some (Bi tx tx 0) else k):kx F ⟨3,nm,tx,op,n,ks⟩=some (cI ⟨3,nm,tx,op,n,ks⟩):=by
 have e4:tx=[]<->tx.length=0:=aw8.symm;have e5:ks=[]<->ks.length=0:=aw8.symm;simp only[kx,rF,lM,lN,qw,az,cI,MC,B4,ER,hn,h1,JH];by_cases a1:cO nm=true<;>by_cases a2:tx.length=0<;>by_cases a3:50<tx.length<;>by_cases a4:op=0<;>by_cases a5:n=0<;>by_cases a6:ks.length=0<;>by_cases a7:Bi tx tx 0=0<;>grind
theorem Hq{nm:B8}{tx:List B8}{op n:Int}{ks:List aR}:fV (fp 3) ⟨3,nm,tx,op,n,ks⟩=cI ⟨3,nm,tx,op,n,ks⟩:=by
 grind [Nd,fV,fm,cI]
theorem LV{F:Nat}{nm:B8}{tx:List B8}{op n:Int}{ks:List aR}(hn:A8 F nm=some (cO nm)):kx F ⟨4,nm,tx,op,n,ks⟩=some (cI ⟨4,nm,tx,op,n,ks⟩):=by
 have e4:tx=[]<->tx.length=0:=aw8.symm;have e5:ks=[]<->ks.length=0:=aw8.symm;simp only[kx,rF,lM,lN,qw,az,cI,MC,B4,ER,hn];by_cases a1:cO nm=true<;>by_cases a2:0<tx.length<;>by_cases a3:op=0<;>by_cases a4:n=0<;>by_cases a5:ks.length=0<;>grind
theorem Hp{nm:B8}{tx:List B8}{op n:Int}{ks:List aR}:fV (fp 4) ⟨4,nm,tx,op,n,ks⟩=cI ⟨4,nm,tx,op,n,ks⟩:=by
 simp_all[Nc,fV,fm,cI]
theorem LB{F:Nat}{nm:B8}{tx:List B8}{op n:Int}{ks:List aR}:rF F ⟨5,nm,tx,op,n,ks⟩=some (if decide (0<tx.length)=true then 2 else if (ks.length==0)=true then 0 else 2):=by
 grind [rF,lM,az]
theorem LU{F:Nat}{nm:B8}{tx:List B8}{op n:Int}{ks:List aR}(hn:A8 F nm=some (cO nm)):kx F ⟨5,nm,tx,op,n,ks⟩=some (cI ⟨5,nm,tx,op,n,ks⟩):=by
 have hv:cI ⟨5,nm,tx,op,n,ks⟩=if (if decide (0<tx.length)=true then (2:Int) else if (ks.length==0)=true then 0 else 2)=2 then 2 else if cO nm=false then 8 else if (decide (op<1)||decide (op>5))=true then 7 else if pQ n=true then 9 else 0:=by
  simp only[cI];generalize pQ n=c1
  grind
 rw[hv];unfold kx;rw[LB,bt9]
 have hz:(if decide (0<tx.length)=true then (2:Int) else if (ks.length==0)=true then 0 else 2)=0\/(if decide (0<tx.length)=true then (2:Int) else if (ks.length==0)=true then 0 else 2)=2:=by
  split
  ·grind
  ·grind
 generalize (if decide (0<tx.length)=true then (2:Int) else if (ks.length==0)=true then 0 else 2)=z at hz ⊢
 clear hv
 rcases hz with rfl|rfl
 ·rw[if_neg (show ¬((0:Int) != 0)=true by decide),if_neg (show ¬(0:Int)=2 by decide)];dsimp only;rw[if_pos (show decide ((5:Int)>=2)=true from rfl),if_pos (show decide ((5:Int)<=5)=true from rfl),hn,bt9];cases cO nm
  ·rfl
  ·rw[if_neg (show ¬(!true)=true by decide),if_neg (show ¬((5:Int)==2)=true by decide),if_neg (show ¬true=false by decide)];simp only[az];rw[if_neg (show ¬((5:Int)==3)=true by decide),if_pos (show((5:Int)==5)=true from rfl),lN,bt9,qw,bt9]
   grind
 ·rfl
theorem Ho{nm:B8}{tx:List B8}{op n:Int}{ks:List aR}:fV (fp 5) ⟨5,nm,tx,op,n,ks⟩=cI ⟨5,nm,tx,op,n,ks⟩:=by
 simp_all[Nb,fV,fm,cI]
theorem LS{F:Nat}{nm:B8}{tx:List B8}{op n:Int}{ks:List aR}(hn:A8 F nm=some (cO nm)):kx F ⟨6,nm,tx,op,n,ks⟩=some (cI ⟨6,nm,tx,op,n,ks⟩):=by
 have e4:tx=[]<->tx.length=0:=aw8.symm;have e5:ks=[]<->ks.length=0:=aw8.symm;simp only[kx,rF,lM,lN,qw,az,cI,MC,B4,QB,hn];by_cases a1:nm=[]<;>by_cases a2:0<tx.length<;>by_cases a3:op=0<;>by_cases a4:n=0<;>by_cases a5:ks.length=1<;>grind
theorem Hn{nm:B8}{tx:List B8}{op n:Int}{ks:List aR}:fV (fp 6) ⟨6,nm,tx,op,n,ks⟩=cI ⟨6,nm,tx,op,n,ks⟩:=by
 simp_all[Na,fV,fm,cI,QB]
theorem LR{F:Nat}{nm:B8}{tx:List B8}{op n:Int}{ks:List aR}(hn:A8 F nm=some (cO nm)):kx F ⟨7,nm,tx,op,n,ks⟩=some (cI ⟨7,nm,tx,op,n,ks⟩):=by
 have e4:tx=[]<->tx.length=0:=aw8.symm;have e5:ks=[]<->ks.length=0:=aw8.symm;simp only[kx,rF,lM,lN,qw,az,cI,MC,B4,ER,SD,hn];by_cases a1:nm=[]<;>by_cases a2:0<tx.length<;>by_cases a3:op=0<;>by_cases a4:n=0<;>by_cases a5:2<=ks.length<;>grind
theorem Hm{nm:B8}{tx:List B8}{op n:Int}{ks:List aR}:fV (fp 7) ⟨7,nm,tx,op,n,ks⟩=cI ⟨7,nm,tx,op,n,ks⟩:=by
 simp_all[M9,fV,fm,cI]
theorem LQ{F:Nat}{nm:B8}{tx:List B8}{op n:Int}{ks:List aR}(hn:A8 F nm=some (cO nm)):kx F ⟨8,nm,tx,op,n,ks⟩=some (cI ⟨8,nm,tx,op,n,ks⟩):=by
 have e4:tx=[]<->tx.length=0:=aw8.symm;have e5:ks=[]<->ks.length=0:=aw8.symm;simp only[kx,rF,lM,lN,qw,az,cI,MC,B4,ER,SD,hn];by_cases a1:nm=[]<;>by_cases a2:0<tx.length<;>by_cases a3:op=0<;>by_cases a4:n=0<;>by_cases a5:2<=ks.length<;>grind
theorem Hl{nm:B8}{tx:List B8}{op n:Int}{ks:List aR}:fV (fp 8) ⟨8,nm,tx,op,n,ks⟩=cI ⟨8,nm,tx,op,n,ks⟩:=by
 simp_all[M8,fV,fm,cI]
theorem LZ(F:Nat)(x:aH)(hx:okX x):kx F x=some (cI x):=by
 have h1:∀k,_:=fun k=>vd F x k hx;have h2:∀k,_:=fun k=>vd F x k hx;rw[show((0:Nat):Int)=0 from rfl] at h1 h2;have hn:=rE F x.Name hx.1;obtain⟨kd,nm,tx,op,n,ks⟩:=x;by_cases hk:kd<1\/8<kd
 ·have:(decide (kd<1)||decide (kd>8))=true:=by simp;omega
  simp only[kx,rF,lM,lN,qw,this,bt9,if_true,cI,if_pos hk];rfl
 ·have hk':kd=1\/kd=2\/kd=3\/kd=4\/kd=5\/kd=6\/kd=7\/kd=8:=by omega
  grind [LY,LX,LW,LV,LU,LS,LR,LQ]
theorem Ht(x:aH)(h:1<=x.Kind/\x.Kind<=8):fV (fp x.Kind.toNat) x=cI x:=by
 obtain⟨kd,nm,tx,op,n,ks⟩:=x;simp only at h;have hk':kd=1\/kd=2\/kd=3\/kd=4\/kd=5\/kd=6\/kd=7\/kd=8:=by omega
 grind [Hs,Hr,Hq,Hp,Ho,Hn,Hm,Hl]
theorem I6(F:Nat)(R:aH->Option Int)(x:aH)(hx:okX x):r5 R F x=if (cI x != 0)=true then some (cI x) else kr R F (some 0) x.Kids:=by
 by_cases h:1<=x.Kind/\x.Kind<=8
 ·simp_all[Lm,Ht]
 ·have h7:cI x=7:=by unfold cI;grind
  simp_all[r5]
end Go.Proofs.YtelmfadihfcgnaaGreatDoor
