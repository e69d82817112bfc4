/- Part of the proof: K, KT, Q, X, C9Tr, C9O, C9PA, C9PB. -/
import Derived.Test.YtelmfadihfcgnaaGreatDoorXPvS
import Derived.WideKeyArgs
import Derived.Deep.Slices
import Derived.ProofKit
import Derived.OpenShut
import Derived.JoinedCond
import Derived.Test.YtelmfadihfcgnaaGreatDoorXPvT
import Derived.Test.YtelmfadihfcgnaaGreatDoorXC9T
import Derived.Test.YtelmfadihfcgnaaGreatDoorXC9M
import Derived.KernelRfl
set_option linter.unusedSimpArgs false
set_option linter.unusedVariables false
namespace Go.Pv
open Go Go.ChangeShapes Go.WideShapes
mutual
def z4j{H:Type}:DataW H->Nat
 | .lit (.string bytes)=>bytes.length+1
 | .lit _=>1
 | .nil=>1
 | .ptr d=>z4j d+1
 | .slice elems spare=>q9w elems+q9w spare+1
 | .agg parts=>q9w parts+1
 | .iface _ d=>z4j d+1
 | .map entries=>v2m entries+1
 | .held _=>1
def q9w{H:Type}:List (DataW H)->Nat
 |[]=>0
 |d::r=>z4j d+q9w r
def v2m{H:Type}:List (Lit×DataW H)->Nat
 |[]=>0
 |x::r=>y5d x+v2m r
def y5d{H:Type}:Lit×DataW H->Nat
 |(.string bytes,d)=>bytes.length+z4j d+1
 |(_,d)=>z4j d+1
end
def z6w(w:World):Mem:=fun b=>w.heap[b]?
def q8t(m:Mem)(ds:List V)(cs:List Value):Prop:=
 ds.length=cs.length/\∀(i:Nat) (c:V) (v:Value),ds[i]? = some c->cs[i]? = some v->q1l m c v
theorem q8t.one{m:Mem}{d:V}{c:Value}(h:q1l m d c):q8t m [d] [c]:=
 ⟨rfl,fun i d' c' hd hc=>by
  match i with
  |0=>simp at hd hc;subst hd;subst hc;exact h
  |_+1=>simp at hd⟩
theorem q8t.app{m:Mem}{a b:List V}{x y:List Value}(h:q8t m a x)(h':q8t m b y):q8t m (a++b) (x++y):=by
 refine⟨by simp[h.1,h'.1],fun i c v hc hv=>?_⟩;by_cases hi:i<a.length
 ·rw[av9 hi] at hc;rw[av9 (by rw[<-h.1];exact hi)] at hv;exact h.2 i c v hc hv
 ·rw[av8 (by omega)] at hc;rw[av8 (by rw[<-h.1];omega),<-h.1] at hv;exact h'.2 _ c v hc hv
section
variable{P:Program}{t e:TypeId}{α β:Type}
def wOk{H:Type}(P:Program)(t:TypeId)(d:DataW H):Prop:=(d.weights P t).all (·<=reachBytes)=true
def y1j{H:Type}(P:Program)(ts:List TypeId)(ds:List (DataW H)):Prop:=(DataW.weightsEach P ts ds).all (·<=reachBytes)=true
theorem z2z{H:Type}{P:Program}{t:TypeId}{ts:List TypeId}{d:DataW H}{ds:List (DataW H)}(h:y1j P (t::ts) (d::ds)):wOk P t d/\y1j P ts ds:=by
 unfold y1j wOk at *;rw[DataW.weightsEach,cm9,as9] at h;exact h
theorem wAll{H:Type}{P:Program}{e:TypeId}:∀(l:List (DataW H)),(DataW.weightsAll P e l).all (·<=reachBytes)=true->∀d,d∈l->wOk P e d
 |[],_,d,hd=>by simp at hd
 |x::l,h,d,hd=>by
  rw[DataW.weightsAll,cm9,as9] at h;rcases at8.1 hd with rfl|hd
  ·exact h.1
  ·exact wAll l h.2 d hd
def z3f(P:Program)(t:TypeId)(e:α->List V)(sz:α->Nat)(ok:α->Prop):Prop:=
 ∀{H:Type} (enc:TypeId×Value->H) (w:World) (fuel:Nat) (cs:List Value) (x:DataW H×List MemPlace),
  DataW.trod enc P w 0 (fun _=>true) true fuel t cs=some x->wOk P t x.1->∃a:α,q8t (z6w w) (e a) cs/\sz a<=z4j x.1/\ok a
theorem v4w{k:IntKind}(ht:P.underlying t=some (.int k)):z3f P t (fun n:Int=>[V.con (.int k n)]) (fun _=>1) (fun n=>k.min<=n/\n<=k.max):=by
 intro H enc w fuel cs x h hw;obtain⟨n,rfl,rfl,hw'⟩:=DataW.trod_int ht h;simp only[Lit.wf,as9,decide_eq_true_eq] at hw';exact⟨n,q8t.one (.con _),by simp[z4j],hw'⟩
theorem z3n(ht:P.underlying t=some .string):z3f P t (fun s:B8=>[sV s]) (fun s=>s.length+1) (fun s=>s.length<=140737488351232):=by
 intro H enc w fuel cs x h hw;obtain⟨s,rfl,rfl,hs⟩:=DataW.trod_string ht h;refine⟨s.data.toList,q8t.one ?_,by simp[z4j],?_⟩
 ·have:str s.data.toList=.string s:=by simp[str]
  unfold sV;rw[this];exact .con _
 ·unfold wOk at hw;rw[DataW.weights,ai9,as9] at hw;have:=of_decide_eq_true hw.1;unfold reachBytes at this
  simpa using this
theorem v0e{p:Nat->α->Prop}:∀{n:Nat},(∀i,i<n->∃a,p i a)->∃l:List α,l.length=n/\∀i a,l[i]? = some a->p i a
 |0,_=>⟨[],rfl,by simp⟩
 |n+1,h=>by
  obtain⟨l,hl,hp⟩:=v0e (n:=n) fun i hi=>h i (by omega);obtain⟨a,ha⟩:=h n (by omega);refine⟨l++[a],by simp[hl],fun i b hb=>?_⟩;by_cases hi:i<l.length
  ·rw[av9 hi] at hb;exact hp i b hb
  ·rw[av8 (by omega)] at hb
   have:i - l.length=0:=by
    have:=(bf9.1 hb).1;simp at this;omega
   rw[this] at hb;simp at hb;subst hb;rw[show i=n by omega];exact ha
theorem z7k{H:Type}{n:Nat}(D:Nat->DataW H):q9w ((List.range n).map D)=((List.range n).map fun i=>z4j (D i)).sum:=by
 generalize List.range n=l
 induction l with
 |nil=>rfl
 |cons a l ih=>simp[q9w,ih]
theorem w1t{l:List α}{sz:α->Nat}{g:Nat->Nat}(h:∀i a,l[i]? = some a->sz a<=g i):(l.map sz).sum<=((List.range l.length).map g).sum:=by
 induction l generalizing g with
 |nil=>simp
 |cons a l ih=>
  rw[ca9,List.range_succ_eq_map];simp only[bo9,List.sum_cons,bg8];have h0:=h 0 a rfl;have h1:=ih (g:=g ∘ Nat.succ) fun i b hb=>h (i+1) b (by simpa using hb);exact Nat.add_le_add h0 h1
theorem v4d{k:Nat}{ee:α->List V}{sz:α->Nat}{ok:α->Prop}(ht:P.underlying t=some (.slice e))(hk:P.cellsOf e=k)(h0:0<k)(he:z3f P e ee sz ok):
  z3f P t (fun l:List α=>[V.lst k (l.map ee)]) (fun l=>(l.map sz).sum+1) (fun l=>(∀a,a∈l->ok a)/\l.length<=maxLen):=by
 intro H enc w fuel cs x h hw;rcases Deep.open_slice ht h with ⟨rfl,rfl⟩|⟨a,len,cap,m,n,D,Pl,rfl,_,hlc,hcm,hm,rfl,hel⟩
 ·exact⟨[],q8t.one (.nil _ _ _),by simp[z4j],by simp⟩
 ·simp only[if_true] at hm;subst hm
  obtain⟨l,hl,hp⟩:=v0e (n:=len) (p:=fun i (b:α)=>sz b<=z4j (D i)/\ok b/\∃cs',w.cells? 0 (a.add (i*P.cellsOf e)) (P.cellsOf e)=some cs'/\q8t (z6w w) (ee b) cs') (by
   intro i hi;obtain⟨cs',hc,hd⟩:=hel i (by omega)
   obtain⟨b,h1,h2,h3⟩:=he _ _ _ _ _ hd (by
    unfold wOk at hw;rw[DataW.weights] at hw;simp only[ht,ai9,cm9,as9] at hw;exact wAll _ hw.2.1 _ (bg9.2 ⟨i,cr8.2 hi,rfl⟩))
   exact⟨b,h2,h3,cs',hc,h1⟩)
  refine⟨l,q8t.one ?_,?_,fun b hb=>?_,by omega⟩
  ·by_cases hz:len=0
   ·subst hz;have:l=[]:=ba8.1 hl;subst this;exact .nil _ _ _
   ·have hcell:∀i j b,l[i]? = some b->j<k->∃v,w.cell? ((a.add (i*k)).add j)=some v/\(∃c,(ee b)[j]? = some c)/\∀c,(ee b)[j]? = some c->q1l (z6w w) c v:=by
     intro i j b hb hj;obtain⟨_,_,cs',hc,hr⟩:=hp i b hb;rw[hk] at hc;obtain⟨_,hn,hcs⟩:=World.cells?_some hc;have hj':j<cs'.length:=by omega
     have hv:cs'[j]? = some cs'[j]:=bb9 hj';have hj2:j<(ee b).length:=by rw[hr.1];exact hj'
     exact⟨cs'[j],(hcs j hj).trans hv,⟨(ee b)[j],bb9 hj2⟩,fun c hcc=>hr.2 j c _ hcc hv⟩
    have hlen:∀b,b∈l->(ee b).length=k:=by
     intro b hb;obtain⟨i,hi⟩:=ar9.1 hb;obtain⟨_,_,cs',hc,hr⟩:=hp i b hi;rw[hk] at hc;rw[hr.1,(World.cells?_some hc).2.1]
    have hb0:∃b,l[0]? = some b:=⟨l[0]'(by omega),bb9 _⟩;obtain⟨b0,hb0⟩:=hb0;obtain⟨v0,hv0,_⟩:=hcell 0 0 b0 hb0 h0;have hadd0:(a.add (0*k)).add 0=a:=by simp[Addr.add]
    rw[hadd0] at hv0;unfold World.cell? at hv0;split at hv0
    case h_2=>simp at hv0
    rename_i arr T fr hblk
    have hsp:a.spot=none:=by
     cases hs:a.spot with
     |none=>rfl
     |some s=>simp[hs] at hv0
    have q7b:∀i j b,l[i]? = some b->j<k->∃v,arr[a.off+(i*k+j)]? = some v/\(∃c,(ee b)[j]? = some c)/\∀c,(ee b)[j]? = some c->q1l (z6w w) c v:=by
     intro i j b hb hj;obtain⟨v,hv,hc⟩:=hcell i j b hb hj;rw[Deep.add_add] at hv;unfold World.cell? at hv;have hbk:(a.add (i*k+j)).block=a.block:=by unfold Addr.add;split<;>rfl
     have hso:(a.add (i*k+j)).spot=none:=by unfold Addr.add;split<;>simp[hsp]
     have hof:(a.add (i*k+j)).off=a.off+(i*k+j):=by unfold Addr.add;split<;>simp[*]
     rw[hbk,hblk] at hv;simp only[hso,hof] at hv;exact⟨v,by simpa using hv,hc⟩
    refine q1l.lst (arr:=arr) (T:=T) (fr:=fr) (fun i=>(arr[a.off+i]?).getD undef) hblk hsp (by simpa using hl) hlc (by omega) ?_ ?_ ?_
    ·intro row hrow;obtain⟨b,hb,rfl⟩:=bg9.1 hrow;exact hlen b hb
    ·intro i hi;rw[bk8] at hi;have hq:i / k<l.length:=Nat.div_lt_of_lt_mul (by rw[aq8];exact hi);obtain⟨v,hv,_⟩:=q7b (i / k) (i % k) l[i / k] (bb9 hq) (aq9 _ h0);have:i / k*k+i % k=i:=by rw[aq8];exact Nat.div_add_mod i k
     rw[this] at hv;simp[hv]
    ·intro i j row c hrow hc;rw[bb8,ae9] at hrow;obtain⟨b,hb,rfl⟩:=hrow
     have hj:j<k:=by
      have:=(bf9.1 hc).1;rw[hlen b (ar9.2 ⟨i,hb⟩)] at this;exact this
     obtain⟨v,hv,_,hcr⟩:=q7b i j b hb hj;simp only[hv,ca8];exact hcr c hc
  ·simp only[z4j];rw[z7k];have:=w1t (l:=l) (sz:=sz) (g:=fun i=>z4j (D i)) fun i b hb=>(hp i b hb).1;rw[hl] at this;omega
  ·obtain⟨i,hi⟩:=ar9.1 hb;exact(hp i b hi).2.1
def fieldsOf(P:Program)(t:TypeId):Option (List (TypeId×Nat×Nat)):=
 match P.underlying t with
 |some (.struct fs)=>some (fs.toList.map fun f=>(f.type,f.offset,P.cellsOf f.type))
 |_=>none
def v8m(P:Program)(t:TypeId)(e:α->V)(sz:α->Nat)(ok:α->Prop):Prop:=
 ∀{H:Type} (enc:TypeId×Value->H) (w:World) (base:Nat) (v:Value) (d:DataW H) (p:List MemPlace),
  Value.okWide P w .any base t v->DataW.Trod enc P w 0 (fun _=>true) true t v d p->wOk P t d->∃a:α,q1l (z6w w) (e a) v/\sz a<=z4j d/\ok a
theorem v0p{fs:List (TypeId×Nat×Nat)}{e:α->List V}{sz:α->Nat}{ok:α->Prop}(ht:fieldsOf P t=some fs)(h:z3f P t e sz ok):v8m P t (fun a=>.agg (e a)) sz ok:=by
 intro H enc w base v d p hv ⟨n,hd⟩ hw;unfold fieldsOf at ht;split at ht
 case h_2=>simp at ht
 rename_i gs hu;obtain⟨cs,rfl,_⟩:=okWide_struct hu hv;obtain⟨a,h1,h2,h3⟩:=h enc w n _ _ hd hw;exact⟨a,.agg (by simpa[Value.cells] using h1.1) (fun i c v' hc hv'=>h1.2 i c v' hc (by simpa[Value.cells] using hv')),h2,h3⟩
def v0m(P:Program)(t:TypeId):Bool:=
 match P.underlying t with
 |some (.int _)|some .bool|some .string|some (.slice _)=>true
 |_=>false
theorem v5d{e:α->V}{sz:α->Nat}{ok:α->Prop}(ht:v0m P t=true)(h:z3f P t (fun a=>[e a]) sz ok):v8m P t e sz ok:=by
 intro H enc w base v d p hv ⟨n,hd⟩ hw;obtain⟨a,h1,h2,h3⟩:=h enc w n _ _ hd hw
 have hna:∀cs,v≠.agg cs:=by
  rintro cs rfl
  unfold v0m at ht;unfold Value.okWide at hv;split at ht<;>rename_i hu<;>first|exact absurd ht (by decide)|(simp only[hu,Cell.okWide,Cell.ok] at hv)
 have hc:v.cells.toList=[v]:=by cases v<;>first|rfl|exact absurd rfl (hna _)
 rw[hc] at h1;exact⟨a,h1.2 0 _ _ rfl rfl,h2,h3⟩
theorem v0v{w w':World}(h:∀b,b<w.heap.size->w'.heap[b]? = w.heap[b]?){p:MemPlace}(hp:p.block<w.heap.size):w.sameAt w' p:=by
 cases p with
 |cell b o=>simp only[World.sameAt,World.cell?];rw[h b hp]
 |map b=>exact h b hp
theorem z7m{H:Type}{enc:TypeId×Value->H}(hl:laidOutB P=true){w w':World}{sp:Nat->Bool}(hh:∀b,b<w.heap.size->w'.heap[b]? = w.heap[b]?)
  (hs:∀b,b<w.heap.size->sp b=true):∀{ts:List TypeId} {vs:List Value} {ds:List (DataW H)} {ps:List MemPlace},
  (ts.all fun t=>P.readableRec t&&decide (t<P.types.size))=true->DataW.TrodAll enc P w 0 (fun _=>true) true ts vs ds ps->(∀p∈ps,p.block<w.heap.size)->DataW.TrodAll enc P w' 0 sp true ts vs ds ps
 |[],[],[],_,_,h,_=>h
 |t::ts,v::vs,d::ds,_,hr,⟨p,q,h1,h2,e⟩,hlt=>by
  subst e;simp only[ai9,as9,decide_eq_true_eq] at hr
  exact⟨p,q,WideElems.Trod_stays hl hr.1.1 hr.1.2 h1 (fun x hx=>v0v hh (hlt x (cn8 _ hx))) (fun x hx=>hs _ (hlt x (cn8 _ hx))),
   z7m hl hh hs (by simpa using hr.2) h2 (fun x hx=>hlt x (List.mem_append_right _ hx)),rfl⟩
theorem y7b{w w':World}(hs:v9r w w')(hh:∀b,b<w.heap.size->w'.heap[b]? = w.heap[b]?)(may:MemPlace->Prop):w.keptBut w' may:=by
 refine⟨hs.os,hs.output,fun i hi=>?_⟩;rw[hh i hi];split<;>first|exact⟨rfl,rfl,rfl,fun _ _=>rfl⟩|exact .inr ⟨rfl,rfl⟩|rfl|skip
 all_goals simp_all
theorem w7l{H:Type}{enc:TypeId×Value->H}{f:Func}{s:ChangeSpec}{apart fresh handsOn:Bool}{w w':World}{args:Array Value}{v:Value}{ds gs:List (DataW H)}{before:List MemPlace}{m m':Mem}{tb:TypeId}
  (hl:laidOutB P=true) (hts:(f.params.toList.all fun t=>P.readableRec t&&decide (t<P.types.size))=true) (hv:s.vars=[]) (hfn:∀gs',gs'=[]->s.fn H (ds++gs')={ results:=[.lit (.bool true)],args:=ds })
  (hres:f.resultTypes=#[tb]) (hb:P.underlying tb=some .bool) (hW:DataW.Whole enc P f.params.toList s.vars apart w args.toList ds gs before) (h:q1l m' (bV true) v) (hg:w0h m m' w w'):
  s.post enc P f apart fresh handsOn false w args v w':=by
 have hW0:=hW;obtain⟨p,q,hA,hV,rfl,hfz,hnd⟩:=hW0;cases h;rw[hv] at hV;cases gs with
 |cons _ _=>simp[DataW.TrodVars] at hV
 |nil=>
 have hq:q=[]:=hV;subst hq;refine⟨ds,[],p++[],[],p,[],hW,?_,?_,?_,y7b hg.same hg.heap _,fun h=>by simp at h⟩
 ·rw[hfn _ rfl,hres];exact trodAll_cons_mk (RowKit.shut_bool hb _) trodAll_mk0
 ·rw[hfn _ rfl];exact z7m hl hg.heap (fun b hb=>by simpa using hb) hts hA (DataW.TrodAll.lt hA)
 ·rw[hv,hfn _ rfl];rfl
theorem w7p{H:Type}{enc:TypeId×Value->H}{w:World}{args:Array Value}{f:Func}{s:ChangeSpec}{apart:Bool}{ds gs:List (DataW H)}{before:List MemPlace}
  (hW:DataW.Whole enc P f.params.toList s.vars apart w args.toList ds gs before):∃p,DataW.TrodAll enc P w 0 (fun _=>true) true f.params.toList args.toList ds p:=by
 obtain⟨p,q,hA,_⟩:=hW;exact⟨p,hA⟩
end
def w5b(P:Program)(f:FuncId)(fn:Func)(s:ChangeSpec)(c:OpenClaim):Bool:=
 c.wf (OpenSpec.ofChange s)&&laidOutB P&&mapsRowed P &&
 fn.params.all (P.readableRec ·)&&namedTie P c.named s.vars &&
 (c.stops==[])&&(P.stops==[])&&(c.knobs==[])&&(P.stopKnobs==[]) &&
 (c.inPlace==P.inPlace f)&&(c.unfollowed==P.unfollowed f)&&(c.recurses==P.recurses f)&&(c.named==P.varsNamed f) &&
 (c.maps==(fn.params.toList++s.plain.varTypes P).any (P.mapsRec ·))&&(c.ifaces==(fn.params.toList++s.plain.varTypes P).any (P.ifacesRec ·))&&(c.mapsOut==P.mapsAmong fn.resultTypes.toList) &&
 (c.loops==(fn.params.toList++s.plain.varTypes P).any (P.loopsFrom ·))&&(c.wideKeys==(fn.params.toList++s.plain.varTypes P++fn.resultTypes.toList).any (P.wideKeysFrom ·)) &&
 s.vars.all (P.varReadable ·)&&fn.resultTypes.all (fun t=>P.readableRec t&&decide (t<P.types.size))&&(c.ifacesOut==fn.resultTypes.toList.any (P.ifacesRec ·))&&(c.loopsOut==fn.resultTypes.toList.any (P.loopsFrom ·))&&(c.plainKeys==P.plainKeys)&&c.shortTexts.isNone&&P.stopsHeard
def w4b(P:Program)(c:OpenClaim):Bool:=P.mayEnter&&(c.lifted==P.liftsFinal)&&(P.make==some c.make)
def w3b(P:Program)(fn:Func)(s:ChangeSpec)(c:OpenClaim):Bool:=
 (c.kinds==(if c.domain.isEmpty then [] else fn.params.toList.map fun t=>match P.underlying t with|some (.int k)=>some k|_=>none))&&(c.pinned==c.pinnedBy) &&
 (c.veiled==(fn.params.toList++s.plain.varTypes P++fn.resultTypes.toList).any (P.veiledRec ·))&&c.veiledFits P fn.params.toList (fn.params.toList++s.plain.varTypes P++fn.resultTypes.toList)
theorem v5q{P:Program}{f:FuncId}{fn:Func}{s:ChangeSpec}{c:OpenClaim}(h1:w5b P f fn s c=true)(h2:w4b P c=true)(h3:w3b P fn s c=true):joinedFacts P f fn s c=true:=by
 unfold w5b at h1;unfold w4b at h2;unfold w3b at h3
 have e:∀a b c d b1 b2 b3 c1 c2 c3:Bool,a=true->(b1&&b2&&b3)=true->(b&&c&&d&&c1)=true->(a&&b1&&b2&&b3&&b&&c&&d&&c1)=true:=by
  intro a b c d b1 b2 b3 c1 c2 c3 h h' h'';simp only[as9] at *
  simp_all
 exact e _ _ _ _ _ _ _ _ true true h1 h2 h3
section
variable{P:Program}{t e:TypeId}{α β:Type}
def z2f(b:Nat)(P:Program)(t:TypeId)(e:α->List V)(sz:α->Nat)(ok:α->Prop):Prop:=
 ∀{H:Type} (enc:TypeId×Value->H) (w:World) (fuel:Nat) (cs:List Value) (x:DataW H×List MemPlace),
  DataW.trod enc P w 0 (fun _=>true) true fuel t cs=some x->wOk P t x.1->z4j x.1<=b->∃a:α,q8t (z6w w) (e a) cs/\sz a<=z4j x.1/\ok a
theorem z3f.at{ee:α->List V}{sz:α->Nat}{ok:α->Prop}(h:z3f P t ee sz ok)(b:Nat):z2f b P t ee sz ok:=fun enc w fuel cs x ht hw _=>h enc w fuel cs x ht hw
theorem z2f.mono{b b':Nat}{ee:α->List V}{sz:α->Nat}{ok:α->Prop}(h:z2f b P t ee sz ok)(hb:b'<=b):z2f b' P t ee sz ok:=fun enc w fuel cs x ht hw hl=>h enc w fuel cs x ht hw (bz9 hl hb)
theorem w9o{H:Type}(d:DataW H):0<z4j d:=by
 cases d with
 |lit l=>cases l<;>simp[z4j]
 |_=>simp[z4j]
theorem v6d{ee:α->List V}{sz:α->Nat}{ok:α->Prop}:z2f 0 P t ee sz ok:=fun enc w fuel cs x ht hw hl=>absurd hl (by have:=w9o x.1;omega)
theorem w0p{H:Type}{n i:Nat}(D:Nat->DataW H)(hi:i<n):z4j (D i)<=((List.range n).map fun i=>z4j (D i)).sum:=by
 have:z4j (D i)∈(List.range n).map fun i=>z4j (D i):=bg9.2 ⟨i,cr8.2 hi,rfl⟩;generalize (List.range n).map (fun i=>z4j (D i))=l at this
 induction l with
 |nil=>simp at this
 |cons a l ih=>
  rcases at8.1 this with h|h
  ·simp[<-h]
  ·have:=ih h;simp;omega
theorem j8u{b k:Nat}{ee:α->List V}{sz:α->Nat}{ok:α->Prop}(ht:P.underlying t=some (.slice e))(hk:P.cellsOf e=k)(h0:0<k)(he:z2f b P e ee sz ok):
  z2f (b+1) P t (fun l:List α=>[V.lst k (l.map ee)]) (fun l=>(l.map sz).sum+1) (fun l=>(∀a,a∈l->ok a)/\l.length<=maxLen):=by
 intro H enc w fuel cs x h hw hlt;rcases Deep.open_slice ht h with ⟨rfl,rfl⟩|⟨a,len,cap,m,n,D,Pl,rfl,_,hlc,hcm,hm,rfl,hel⟩
 ·exact⟨[],q8t.one (.nil _ _ _),by simp[z4j],by simp⟩
 ·simp only[if_true] at hm;subst hm
  obtain⟨l,hl,hp⟩:=v0e (n:=len) (p:=fun i (b:α)=>sz b<=z4j (D i)/\ok b/\∃cs',w.cells? 0 (a.add (i*P.cellsOf e)) (P.cellsOf e)=some cs'/\q8t (z6w w) (ee b) cs') (by
   intro i hi;obtain⟨cs',hc,hd⟩:=hel i (by omega)
   obtain⟨b,h1,h2,h3⟩:=he _ _ _ _ _ hd (by
    unfold wOk at hw;rw[DataW.weights] at hw;simp only[ht,ai9,cm9,as9] at hw;exact wAll _ hw.2.1 _ (bg9.2 ⟨i,cr8.2 hi,rfl⟩)) (by
    simp only[z4j] at hlt;rw[z7k] at hlt;have:=w0p D hi;show z4j (D i)<=b;omega)
   exact⟨b,h2,h3,cs',hc,h1⟩)
  refine⟨l,q8t.one ?_,?_,fun b hb=>?_,by omega⟩
  ·by_cases hz:len=0
   ·subst hz;have:l=[]:=ba8.1 hl;subst this;exact .nil _ _ _
   ·have hcell:∀i j b,l[i]? = some b->j<k->∃v,w.cell? ((a.add (i*k)).add j)=some v/\(∃c,(ee b)[j]? = some c)/\∀c,(ee b)[j]? = some c->q1l (z6w w) c v:=by
     intro i j b hb hj;obtain⟨_,_,cs',hc,hr⟩:=hp i b hb;rw[hk] at hc;obtain⟨_,hn,hcs⟩:=World.cells?_some hc;have hj':j<cs'.length:=by omega
     have hv:cs'[j]? = some cs'[j]:=bb9 hj';have hj2:j<(ee b).length:=by rw[hr.1];exact hj'
     exact⟨cs'[j],(hcs j hj).trans hv,⟨(ee b)[j],bb9 hj2⟩,fun c hcc=>hr.2 j c _ hcc hv⟩
    have hlen:∀b,b∈l->(ee b).length=k:=by
     intro b hb;obtain⟨i,hi⟩:=ar9.1 hb;obtain⟨_,_,cs',hc,hr⟩:=hp i b hi;rw[hk] at hc;rw[hr.1,(World.cells?_some hc).2.1]
    have hb0:∃b,l[0]? = some b:=⟨l[0]'(by omega),bb9 _⟩;obtain⟨b0,hb0⟩:=hb0;obtain⟨v0,hv0,_⟩:=hcell 0 0 b0 hb0 h0;have hadd0:(a.add (0*k)).add 0=a:=by simp[Addr.add]
    rw[hadd0] at hv0;unfold World.cell? at hv0;split at hv0
    case h_2=>simp at hv0
    rename_i arr T fr hblk
    have hsp:a.spot=none:=by
     cases hs:a.spot with
     |none=>rfl
     |some s=>simp[hs] at hv0
    have q7b:∀i j b,l[i]? = some b->j<k->∃v,arr[a.off+(i*k+j)]? = some v/\(∃c,(ee b)[j]? = some c)/\∀c,(ee b)[j]? = some c->q1l (z6w w) c v:=by
     intro i j b hb hj;obtain⟨v,hv,hc⟩:=hcell i j b hb hj;rw[Deep.add_add] at hv;unfold World.cell? at hv;have hbk:(a.add (i*k+j)).block=a.block:=by unfold Addr.add;split<;>rfl
     have hso:(a.add (i*k+j)).spot=none:=by unfold Addr.add;split<;>simp[hsp]
     have hof:(a.add (i*k+j)).off=a.off+(i*k+j):=by unfold Addr.add;split<;>simp[*]
     rw[hbk,hblk] at hv;simp only[hso,hof] at hv;exact⟨v,by simpa using hv,hc⟩
    refine q1l.lst (arr:=arr) (T:=T) (fr:=fr) (fun i=>(arr[a.off+i]?).getD undef) hblk hsp (by simpa using hl) hlc (by omega) ?_ ?_ ?_
    ·intro row hrow;obtain⟨b,hb,rfl⟩:=bg9.1 hrow;exact hlen b hb
    ·intro i hi;rw[bk8] at hi;have hq:i / k<l.length:=Nat.div_lt_of_lt_mul (by rw[aq8];exact hi);obtain⟨v,hv,_⟩:=q7b (i / k) (i % k) l[i / k] (bb9 hq) (aq9 _ h0);have:i / k*k+i % k=i:=by rw[aq8];exact Nat.div_add_mod i k
     rw[this] at hv;simp[hv]
    ·intro i j row c hrow hc;rw[bb8,ae9] at hrow;obtain⟨b,hb,rfl⟩:=hrow
     have hj:j<k:=by
      have:=(bf9.1 hc).1;rw[hlen b (ar9.2 ⟨i,hb⟩)] at this;exact this
     obtain⟨v,hv,_,hcr⟩:=q7b i j b hb hj;simp only[hv,ca8];exact hcr c hc
  ·simp only[z4j];rw[z7k];have:=w1t (l:=l) (sz:=sz) (g:=fun i=>z4j (D i)) fun i b hb=>(hp i b hb).1;rw[hl] at this;omega
  ·obtain⟨i,hi⟩:=ar9.1 hb;exact(hp i b hi).2.1
def j3r(b0:Nat)(P:Program)(N:Nat)(fs:List (TypeId×Nat×Nat))(off:Nat)(e:α->List V)(sz:α->Nat)(ok:α->Prop):Prop:=
 ∀{H:Type} (enc:TypeId×Value->H) (w:World) (n:Nat) (cs:List Value) (xs:List (DataW H×List MemPlace)),cs.length=N->xs.length=fs.length->
  (∀(i:Nat) (f:TypeId×Nat×Nat),fs[i]? = some f->DataW.trod enc P w 0 (fun _=>true) true n f.1 ((cs.drop f.2.1).take f.2.2)=xs[i]?)->
  y1j P (fs.map (·.1)) (xs.map (·.1))->q9w (xs.map (·.1))<=b0->∃a:α,q8t (z6w w) (e a) (cs.drop off)/\sz a<=q9w (xs.map (·.1))/\ok a
theorem v4f{b0 N:Nat}:j3r b0 P N [] N (fun _:Unit=>[]) (fun _=>0) (fun _=>True):=by
 intro H enc w n cs xs hN hx _ _ _;refine⟨(),?_,by simp,trivial⟩;rw[<-hN];simp[q8t]
theorem q9o{b0 N k off:Nat}{ft:TypeId}{fs:List (TypeId×Nat×Nat)}{ea:α->List V}{eb:β->List V}{sa:α->Nat}{sb:β->Nat}{oa:α->Prop}{ob:β->Prop}
  (h:z2f b0 P ft ea sa oa) (hr:j3r b0 P N fs (off+k) eb sb ob):j3r b0 P N ((ft,off,k)::fs) off (fun p:α×β=>ea p.1++eb p.2) (fun p=>sa p.1+sb p.2) (fun p=>oa p.1/\ob p.2):=by
 intro H enc w n cs xs hN hx hf hw hb0
 match xs,hx with
 |x::xs,hx=>
  have h1:=hf 0 _ rfl;simp only[bq9] at h1;have hw':=z2z hw;simp only[bo9,q9w] at hb0;obtain⟨a,ha,hs,ho⟩:=h enc w n _ x h1 hw'.1 (by omega)
  have hb':=hr enc w n cs xs hN (by simpa using hx) fun i f hi=>by
   have:=hf (i+1) f (by simpa using hi)
   simpa using this
  obtain⟨b,hb,hs',ho'⟩:=hb' hw'.2 (by omega);refine⟨(a,b),?_,by simp only[bo9,q9w];omega,ho,ho'⟩;have:=ha.app hb;rw[show(cs.drop off).take k++cs.drop (off+k)=cs.drop off by rw[<-cl8];exact cn9 _ _] at this;exact this
theorem j2n{b0 N:Nat}{fs:List (TypeId×Nat×Nat)}{e:α->List V}{sz:α->Nat}{ok:α->Prop}(ht:fieldsOf P t=some fs)(hN:P.cellsOf t=N)(h:j3r b0 P N fs 0 e sz ok):
  z2f (b0+1) P t e (fun a=>sz a+1) ok:=by
 intro H enc w fuel cs x hx hw hlt;unfold fieldsOf at ht;split at ht
 case h_2=>simp at ht
 rename_i gs hu;simp only[az9] at ht;subst ht;obtain⟨xs,n,_,rfl,hl,hxl,hf⟩:=DataW.trod_struct hu hx
 have ha':=h enc w n cs xs (hl.trans hN) (by simpa using hxl) fun i f hi=>by
  rw[bb8,ae9] at hi;obtain⟨g,hg,rfl⟩:=hi;exact hf i g (by simpa using hg)
 obtain⟨a,h1,h2,h3⟩:=ha' (by
  unfold wOk at hw;rw[DataW.weights] at hw;simp only[hu] at hw;unfold y1j;rw[bg8];exact hw) (by simp only[z4j] at hlt;omega)
 exact⟨a,by simpa using h1,by simp only[z4j];omega,h3⟩
end
end Go.Pv
namespace Go.Pv
open Go
theorem q9i{n:Int}(h : -9223372036854775808<=n)(h':n<=9223372036854775807):w64 n=n:=by
 have:w64 n=if n % 18446744073709551616>=9223372036854775808 then n % 18446744073709551616 - 18446744073709551616 else n % 18446744073709551616:=by
  simp[w64,IntKind.wrap,IntKind.signed,IntKind.bits]
 rw[this];split<;>omega
theorem q3c{α β:Type}(k:α)(b:α->β):jn k b=b k:=rfl
theorem q5h{α:Type}{xs:List α}{j:Nat}(h:j<xs.length):idx xs (j:Int)=some xs[j]:=by
 simp[idx,h]
theorem q3m{α β:Type}[DecidableEq α](xs:List (α×β))(k k':α)(v:β):q7f (q0m xs k v) k'=if k=k' then some v else q7f xs k':=by
 induction xs with
 |nil=>simp[q0m,q7f]
 |cons p r ih=>
  simp only[q0m];split
  ·rename_i h;simp only[q7f,h];split<;>simp_all
  ·rename_i h;simp only[q7f];by_cases h2:p.1=k'
   ·rw[if_pos h2,if_pos h2,if_neg (fun e=>h (h2.trans e.symm))]
   ·rw[if_neg h2,if_neg h2];exact ih
theorem j8b(x:UInt8)(a:B8)(y:UInt8)(b:B8):Op.bytesLess (x::a) (y::b)=(decide (x<y)||(x==y&&Op.bytesLess a b)):=by
 rw[Op.bytesLess]
theorem z7e:∀a:B8,Op.bytesLess a a=false
 |[]=>by simp[Op.bytesLess]
 |x::a=>by rw[j8b,z7e a];simp
theorem z7h:∀{a b c:B8},Op.bytesLess a b=true->Op.bytesLess b c=true->Op.bytesLess a c=true
 |[],[],_,h,_=>by simp[Op.bytesLess] at h
 |[],y::b,[],_,h=>by simp[Op.bytesLess] at h
 |[],y::b,z::c,_,_=>by simp[Op.bytesLess]
 |x::a,[],_,h,_=>by simp[Op.bytesLess] at h
 |x::a,y::b,[],_,h=>by simp[Op.bytesLess] at h
 |x::a,y::b,z::c,h,g=>by
  rw[j8b] at *;simp only[at9,decide_eq_true_eq,as9,beq_iff_eq,UInt8.lt_iff_toNat_lt] at *;rcases h with h|⟨rfl,h⟩<;>rcases g with g|⟨rfl,g⟩
  ·exact .inl (by omega)
  ·exact .inl h
  ·exact .inl g
  ·exact .inr ⟨rfl,z7h h g⟩
theorem j5k:∀a b:B8,Op.bytesLess a b=true\/a=b\/Op.bytesLess b a=true
 |[],[]=>by simp
 |[],y::b=>by simp[Op.bytesLess]
 |x::a,[]=>by simp[Op.bytesLess]
 |x::a,y::b=>by
  rw[j8b,j8b];simp only[at9,decide_eq_true_eq,as9,beq_iff_eq,UInt8.lt_iff_toNat_lt,cd8];rcases Nat.lt_trichotomy x.toNat y.toNat with h|h|h
  ·exact .inl (.inl h)
  ·have:=UInt8.toNat_inj.1 h;subst this;rcases j5k a b with h|h|h
   ·exact .inl (.inr ⟨rfl,h⟩)
   ·exact .inr (.inl ⟨rfl,h⟩)
   ·exact .inr (.inr (.inr ⟨rfl,h⟩))
  ·exact .inr (.inr (.inl h))
theorem z8h{a b:B8}(h:Op.bytesLess a b=true):Op.bytesLess b a=false:=by
 cases h':Op.bytesLess b a with
 |false=>rfl
 |true=>have:=z7h h h';rw[z7e] at this;simp at this
theorem w0d{a b:B8}(h:Op.bytesLess a b=true):a≠b:=by rintro rfl;rw[z7e] at h;simp at h
theorem y6y{α:Type}{g:List α->Int->Option Int}{k:Option Int}(p:α->Bool)(h0:∀n,g [] n=k)(h1:∀x l n,g (x::l) n=if p x=true then some n else g l (n+1)):
  ∀l (n:Nat),g l n=if l.any p=true then some ((n+l.findIdx p:Nat):Int) else k
 |[],n=>by simp[h0]
 |x::l,n=>by
  have e:((n:Int)+1)=((n+1:Nat):Int):=rfl;rw[h1,e,y6y p h0 h1 l (n+1)];cases h:p x
  ·have e2:n+1+l.findIdx p=n+(l.findIdx p+1):=by omega
   simp only[cj9,h,ck9,List.findIdx_cons,cond_false,e2,cp8,if_false]
  ·simp[List.findIdx_cons,h]
theorem v1m{β:Type}{g:Nat->Int->Option β}{k:Option β}{f:β}(s:B8)(p:UInt8->Bool)(h0:∀n,g 0 n=k)
  (h1:∀m n,g (m+1) n=(idx s n).bind fun c=>if p c=true then g m (n+1) else some f):
  ∀(m n:Nat),n+m=s.length->g m n=if (s.drop n).all p=true then k else some f
 |0,n,h=>by rw[h0,an9 (by omega)];simp
 |m+1,n,h=>by
  have hn:n<s.length:=by omega
  have e:((n:Int)+1)=((n+1:Nat):Int):=rfl;rw[h1,q5h hn,cb8,e,v1m s p h0 h1 m (n+1) (by omega),bx9 hn,ai9];cases h:p s[n]
  ·simp only[cm8,cp8,if_false]
  ·simp only[ai8,if_true]
end Go.Pv
namespace Go.Proofs.YtelmfadihfcgnaaGreatDoor
open Go Go.Pv
set_option maxRecDepth 100000
inductive Tr where
 |mk (Kind:Int) (Name:B8) (Texts:List B8) (Op N:Int) (Kids:List Tr)
noncomputable section
mutual
def Tr.toT:Tr->q0c
 | .mk a b c d e ks=>⟨a,b,c,d,e,Tr.toKs ks⟩
def Tr.toKs:List Tr->List q6e
 |[]=>[]
 |t::r=>⟨q7a t.toT,q7h _,q3v _⟩::Tr.toKs r
end
def okI(n:Int):Prop:=(IntKind.i64).min<=n/\n<=(IntKind.i64).max
def okS(s:B8):Prop:=s.length<=140737488351232
mutual
def Tr.ok:Tr->Prop
 | .mk a b c d e ks=>okI a/\okS b/\((∀s,s∈c->okS s)/\c.length<=maxLen)/\okI d/\okI e/\Tr.oks ks/\ks.length<=maxLen
def Tr.oks:List Tr->Prop
 |[]=>True
 |t::r=>t.ok/\Tr.oks r
end
end
theorem Tr.toKs_row:∀ks:List Tr,(Tr.toKs ks).map q6e.row=ks.map fun t=>q7a t.toT
 |[]=>by simp[Tr.toKs]
 |t::r=>by simp[Tr.toKs,Tr.toKs_row r]
theorem Tr.oks_of:∀ks:List Tr,(∀t,t∈ks->t.ok)->Tr.oks ks
 |[],_=>by simp[Tr.oks]
 |t::r,h=>by rw[Tr.oks];exact⟨h t (by simp),Tr.oks_of r fun u hu=>h u (by simp[hu])⟩
theorem Tr.toKs_len:∀ks:List Tr,(Tr.toKs ks).length=ks.length
 |[]=>by simp[Tr.toKs]
 |t::r=>by simp[Tr.toKs,Tr.toKs_len r]
theorem j5i{a b:B8}(h:sV a=sV b):a=b:=by
 unfold sV str at h;simp only[V.con.injEq,Value.string.injEq] at h;have:=congrArg (fun b=>b.data.toList) h
 simpa using this
theorem w7n{a b:B8}(h:q5c a=q5c b):a=b:=j5i (by simpa[q5c] using h)
theorem j5n{a b:List B8}(h:a.map q5c=b.map q5c):a=b:=List.map_inj_right (fun x y h=>w7n h) |>.1 h
theorem w4l{a b:List q6e}(h:a.map q6e.row=b.map q6e.row):a=b:=List.map_inj_right (fun x y h=>q6e.ext' h) |>.1 h
theorem z1u(a b:q0c)(h:q7a a=q7a b):a=b:=by
 obtain⟨a1,a2,a3,a4,a5,a6⟩:=a;obtain⟨b1,b2,b3,b4,b5,b6⟩:=b;simp only[q7a,cd8,and_true] at h;obtain⟨h1,h2,h3,h4,h5,h6⟩:=h;have e1:a1=b1:=by injection h1 with h;injection h
 have e4:a4=b4:=by injection h4 with h;injection h
 have e5:a5=b5:=by injection h5 with h;injection h
 have e2:=j5i h2;have e3:a3=b3:=j5n (by injection h3);have e6:a6=b6:=w4l (by injection h6);subst e1 e2 e3 e4 e5 e6;rfl
theorem w1m(t:Tr):q1z q7a ⟨q7a t.toT,q7h _,q3v _⟩=some t.toT:=v3z z1u rfl
def v7u(x:q0c):Nat:=0
def v7d(x:q0c):Prop:=∃t:Tr,x=t.toT/\t.ok
theorem j9u:∀b,z2f b Tryz.prog 25 (fun t:Tr=>q7a t.toT) (fun _=>0) Tr.ok
 |0=>v6d
 |b+1=>by
  have hi:z3f Tryz.prog 3 (fun x=>[V.con (.int .i64 x)]) (fun _=>1) (fun x:Int=>(IntKind.i64).min<=x/\x<=(IntKind.i64).max):=v4w (show Tryz.prog.underlying 3=some (.int .i64) by kernel_rfl);have hs:z3f Tryz.prog 9 (fun x=>[sV x]) (fun s=>s.length+1) (fun s=>s.length<=140737488351232):=z3n (show Tryz.prog.underlying 9=some (.string) by kernel_rfl);intro enc w fuel cs x hx hw hl
  obtain⟨a,h1,h2,h3⟩:=j2n (P:=Tryz.prog) (t:=25) (b0:=b) (fs:=[(3,0,1),(9,1,1),(22,2,1),(3,3,1),(3,4,1),(23,5,1)]) (by kernel_rfl) (by kernel_rfl)
   (q9o (z3f.at hi b) (q9o (z3f.at hs b) (q9o (z3f.at (v4d (k:=1) (t:=22) (e:=9) (by kernel_rfl) (by kernel_rfl) (by decide) hs) b) (q9o (z3f.at hi b) (q9o (z3f.at hi b)
    (q9o (z2f.mono (j8u (k:=6) (t:=23) (e:=25) (by kernel_rfl) (by kernel_rfl) (by decide) (j9u b)) (am8 b)) v4f)))))) enc w fuel cs x hx hw hl
  refine⟨Tr.mk a.1 a.2.1 a.2.2.1 a.2.2.2.1 a.2.2.2.2.1 a.2.2.2.2.2.1,?_,ak9 _,?_⟩
  ·simp only[Tr.toT,q7a,Tr.toKs_row];exact h1
  ·simp only[Tr.ok];exact⟨h3.1,h3.2.1,h3.2.2.1,h3.2.2.2.1,h3.2.2.2.2.1,Tr.oks_of _ h3.2.2.2.2.2.1.1,h3.2.2.2.2.2.1.2⟩
theorem w4j:z3f Tryz.prog 25 q7a v7u v7d:=by
 intro H enc w fuel cs x hx hw;obtain⟨t,h1,h2,h3⟩:=j9u _ enc w fuel cs x hx hw (ae8 _);exact⟨t.toT,h1,ak9 _,t,rfl,h3⟩
theorem v5w:v8m Tryz.prog 25 (fun x=>V.agg (q7a x)) v7u v7d:=v0p (fs:=[(3,0,1),(9,1,1),(22,2,1),(3,3,1),(3,4,1),(23,5,1)]) (by kernel_rfl) w4j
end Go.Proofs.YtelmfadihfcgnaaGreatDoor
namespace Go.Proofs.YtelmfadihfcgnaaGreatDoor
open Go Go.Pv
set_option maxRecDepth 100000
theorem y0b:z3f Tryz.prog 9 (fun x=>[sV x]) (fun x:B8=>(x.length+1)) (fun x:B8=>(x.length<=140737488351232)):=z3n (show Tryz.prog.underlying 9=some (.string) by kernel_rfl)
theorem w5j:v8m Tryz.prog 9 (fun x=>sV x) (fun x:B8=>(x.length+1)) (fun x:B8=>(x.length<=140737488351232)):=v5d (by kernel_rfl) y0b
def z3w:List B8:=[([114,117,108,101]:B8),([97,98,111,117,116]:B8),([119,104,101,110]:B8),([119,97,105,118,101]:B8),([102,111,114]:B8),([102,114,111,109]:B8),([116,111]:B8),([98,121]:B8),([97,115]:B8),([112,97,115,115]:B8),([110,111,116,101]:B8),([119,97,114,110]:B8),([100,101,110,121]:B8),([111,114]:B8),([97,110,100]:B8),([116,114,117,101]:B8),([105,115]:B8),([98,101,103,105,110,115]:B8),([104,97,115]:B8),([110,111,116]:B8)]
def v6n(s:B8):Bool:=z3w.any fun w=>s==w
theorem orS{b c:Bool}{x:Option Bool}(h:x=some c):(if b=true then (if b=true then some true else some false) else x)=some (b||c):=by cases b<;>simp[h]
theorem orL{b:Bool}:(if b=true then some true else some false)=some (b||false):=by cases b<;>rfl
theorem y6u(F:Nat)(s:B8):M88 F s=some (v6n s):=by
 unfold M88;simp only[q3c]
 show _=some (z3w.any fun w=>s==w)
 simp only[z3w,cj9,List.any_nil]
 repeat (first|exact orL|apply orS)
theorem beqC(a b:B8):(a==b)=(b==a):=by
 by_cases h:a=b
 ·subst h;rfl
 ·rw[beq_false_of_ne h,beq_false_of_ne (Ne.symm h)]
theorem j2z(F:Nat)(a:B8)(k:Option Bool):∀(m n:Nat),n+m=20->z1v F a k m n=if ((z3w.drop n).any fun w=>a==w)=true then some true else k
 |0,n,h=>by
  obtain rfl:n=20:=by omega
  simp[z1v,z3w]
 |m+1,n,h=>by
  have hn:n<z3w.length:=by simp[z3w];omega
  have e:((n:Int)+1)=((n+1:Nat):Int):=rfl;rw[z1v,if_pos ⟨by omega,by omega⟩,e,j2z F a k m (n+1) (by omega),bx9 hn,cj9];have h2:(v2g ([]:B8) z3w n)=z3w[n]:=by simp[v2g,List.getD,bb9 hn]
  have h3:((n:Int)).toNat=n:=by omega
  rw[h3]
  show(if (v2g ([]:B8) z3w n==a)=true then some true else _)=_
  rw[h2,beqC];cases h:a==z3w[n]
  ·simp only[cp8,if_false,ck9]
  ·simp only[if_true,Bool.true_or]
theorem y1u(F:Nat)(s:B8):M95 F s=some (v6n s):=by
 unfold M95;rw[q3c,if_pos (by omega)];have:=j2z F s (some false) 20 0 rfl;rw[show((0:Nat):Int)=0 from rfl] at this;rw[show(20:Int).toNat=20 from rfl,this];rw[bv9];unfold v6n;cases z3w.any fun w=>s==w<;>rfl
def run(c:UInt8):Bool:=(decide (97<=c.toNat)&&decide (c.toNat<=122))||(decide (48<=c.toNat)&&decide (c.toNat<=57))||(c.toNat==45)
def y5b(c:UInt8):Bool:=decide (97<=c.toNat)&&decide (c.toNat<=122)
theorem y0u(F:Nat)(c:UInt8):M96 F (c.toNat:Int)=some (run c):=by
 unfold M96 run
 have h1:((c.toNat:Int)==45)=(c.toNat==45):=by
  by_cases h:c.toNat=45
  ·simp[h]
  ·have:(c.toNat:Int)≠45:=by omega
   rw[beq_false_of_ne h,beq_false_of_ne this]
 by_cases a1:97<=c.toNat<;>by_cases a2:c.toNat<=122<;>by_cases a3:48<=c.toNat<;>by_cases a4:c.toNat<=57 <;>
  simp only[h1,a1,a2,a3,a4,show((c.toNat:Int)>=97)<->97<=c.toNat by omega,show((c.toNat:Int)<=122)<->c.toNat<=122 by omega,show((c.toNat:Int)>=48)<->48<=c.toNat by omega,show((c.toNat:Int)<=57)<->c.toNat<=57 by omega,decide_true,decide_false,if_true,if_false,cp8,Bool.and_true,Bool.and_false,Bool.or_true,Bool.true_or,ck9,Bool.or_false,Bool.and_self]
def q8k(s:B8):Bool:=match s with|[]=>false|c::r=>decide ((c::r).length<=40)&&!v6n (c::r)&&y5b c&&r.all run
theorem y3b{c:UInt8}{k:Option Bool} :
    (if (decide ((c.toNat:Int)>=97))=true then if (decide ((c.toNat:Int)<=122))=true then k
 else if (decide ((c.toNat:Int)>=48))=true then if (decide ((c.toNat:Int)<=57))=true then k
 else if (!((c.toNat:Int)==45))=true then some false
 else k
 else if (!((c.toNat:Int)==45))=true then some false
 else k
 else if (decide ((c.toNat:Int)>=48))=true then if (decide ((c.toNat:Int)<=57))=true then k
 else if (!((c.toNat:Int)==45))=true then some false
 else k
 else if (!((c.toNat:Int)==45))=true then some false
 else k)=if run c=true then k else some false:=by
  unfold run
  have h1:((c.toNat:Int)==45)=(c.toNat==45):=by
    by_cases h:c.toNat=45
    · simp[h]
    · have:(c.toNat:Int)≠45:=by omega
      rw[beq_false_of_ne h,beq_false_of_ne this]
  by_cases a1:97<=c.toNat<;>by_cases a2:c.toNat<=122<;>by_cases a3:48<=c.toNat<;>by_cases a4:c.toNat<=57<;>cases h5:(c.toNat==45) <;>
    simp only[h1,h5,a1,a2,a3,a4,show((c.toNat:Int)>=97)<->97<=c.toNat by omega,show((c.toNat:Int)<=122)<->c.toNat<=122 by omega,show((c.toNat:Int)>=48)<->48<=c.toNat by omega,show((c.toNat:Int)<=57)<->c.toNat<=57 by omega,decide_true,decide_false,if_true,if_false,cp8,Bool.and_true,Bool.and_false,Bool.or_true,Bool.true_or,ck9,Bool.or_false,Bool.and_self,bx8,bz8]
theorem v3n(F:Nat)(s:B8)(k:Option Bool):∀(m n:Nat),0<n->n+m=s.length->z6q F s k m n=if (s.drop n).all run=true then k else some false
 |0,n,_,h=>by rw[z6q,an9 (by omega)];simp
 |m+1,n,h0,h=>by
  have hn:n<s.length:=by omega
  have e:((n:Int)+1)=((n+1:Nat):Int):=rfl;have h3:decide ((n:Int)>0)=true:=decide_eq_true (by omega);rw[z6q,q3c,q5h hn,cb8,e,v3n F s k m (n+1) (by omega) (by omega),bx9 hn,ai9];simp only[h3,if_true];rw[y3b];cases h:run s[n]
  ·simp only[cm8,cp8,if_false]
  ·simp only[ai8,if_true]
theorem y5y{n:Nat}(h:n<=140737488351232):(n:Int)<=9223372036854775807:=by omega
theorem v7a(F:Nat)(s:B8)(hs:okS s):M31 F s=some (q8k s):=by
 unfold okS at hs;unfold M31;rw[q3c,if_pos (y5y hs),show((s.length:Int):Int).toNat=s.length by omega];cases s with
 |nil=>rfl
 |cons c r=>
  rw[ca9,z6q,q3c,show idx (c::r) 0=some c from rfl,cb8];have e:((0:Int)+1)=((1:Nat):Int):=rfl;rw[e,v3n F (c::r) _ r.length 1 (by omega) (by simp;omega)];simp only[List.drop_succ_cons,bv9,y6u,cb8,q8k,y5b,show decide ((0:Int)>0)=false from rfl,cp8,if_false,ca9]
  have h40:decide (((r.length+1:Nat):Int)<=40)=decide (r.length+1<=40):=by
   by_cases h:r.length+1<=40
   ·rw[decide_eq_true h,decide_eq_true (by omega)]
   ·rw[decide_eq_false h,decide_eq_false (by omega)]
  have hne:(!(c::r==([]:B8)))=true:=rfl;rw[h40,hne]
  by_cases a1:97<=c.toNat<;>by_cases a2:c.toNat<=122 <;>
   simp only[a1,a2,show((c.toNat:Int)>=97)<->97<=c.toNat by omega,show((c.toNat:Int)<=122)<->c.toNat<=122 by omega,decide_true,decide_false,if_true,if_false,cp8,Bool.and_true,Bool.and_false,cm8]
  cases r.all run<;>cases decide (r.length+1<=40)<;>cases v6n (c::r)<;>rfl
theorem w5f(F:Nat)(s:B8)(k:Option Bool)(m n:Nat)(h:n+m=s.length):j8e F s k m n=if (s.drop n).all run=true then k else some false:=
 v1m s run (fun n=>rfl) (fun m n=>by
  rw[j8e];cases idx s n with
  |none=>rfl
  |some c=>simp only[cb8,y0u];cases run c<;>rfl) m n h
theorem w8w(F:Nat)(s:B8)(hs:okS s):M39 F s=some (q8k s):=by
 unfold okS at hs;unfold M39;rw[q3c,if_pos (y5y hs),show((s.length:Int):Int).toNat=s.length by omega];have hl:=w5f F s (some true) s.length 0 (by omega);rw[show((0:Nat):Int)=0 from rfl,bv9] at hl;rw[hl];cases s with
 |nil=>rfl
 |cons c r=>
  rw[show idx (c::r) 0=some c from rfl];simp only[y1u,cb8,q8k,y5b,ca9,ai9,show((c::r==([]:B8)))=false from rfl,cp8,if_false]
  have h40:decide (((r.length+1:Nat):Int)>40) = !decide (r.length+1<=40):=by
   by_cases h:r.length+1<=40
   ·rw[decide_eq_true h,decide_eq_false (by omega)];rfl
   ·rw[decide_eq_false h,decide_eq_true (by omega)];rfl
  rw[h40]
  by_cases a1:97<=c.toNat<;>by_cases a2:c.toNat<=122 <;>
   simp only[a1,a2,show((c.toNat:Int)<97)<->¬(97<=c.toNat) by omega,show((c.toNat:Int)>122)<->¬(c.toNat<=122) by omega,not_true_eq_false,not_false_eq_true,decide_true,decide_false,if_true,if_false,cp8,Bool.and_true,Bool.and_false,cm8]
  ·have:run c=true:=by simp[run,a1,a2]
   simp only[this,ai8];cases r.all run<;>cases decide (r.length+1<=40)<;>cases v6n (c::r)<;>rfl
  all_goals (cases decide (r.length+1<=40)<;>rfl)
def w6h(c:UInt8):Bool:=decide (32<=c.toNat)&&decide (c.toNat<=126)
def j2i(s:B8):Bool:=decide (s.length<=1000)&&s.all w6h
theorem v9h{β:Type}{s:B8}{n:Int}{k f:Option β}:((idx s n).bind fun c6=>if (decide ((c6.toNat:Int)<32))=true then f
 else (idx s n).bind fun c9=>if (decide ((c9.toNat:Int)>126))=true then f else k)=(idx s n).bind fun c=>if w6h c=true then k else f:=by
  cases idx s n with
  |none=>rfl
  |some c=>
    simp only[cb8,w6h]
    by_cases a1:32<=c.toNat<;>by_cases a2:c.toNat<=126 <;>
      simp only[a1,a2,show((c.toNat:Int)<32)<->¬(32<=c.toNat) by omega,show((c.toNat:Int)>126)<->¬(c.toNat<=126) by omega,not_true_eq_false,not_false_eq_true,decide_true,decide_false,if_true,if_false,cp8,Bool.and_true,Bool.and_false,cm8]
theorem v7h(F:Nat)(s:B8)(hs:okS s):y8i F s=some (j2i s):=by
 unfold okS at hs;unfold y8i;rw[q3c,if_pos (y5y hs),show((s.length:Int):Int).toNat=s.length by omega];have hl:=v1m (g:=z2m F s (some (decide ((s.length:Int)<=1000)))) (f:=false) s w6h (fun n=>rfl) (fun m n=>by rw[z2m];exact v9h) s.length 0 (by omega);rw[show((0:Nat):Int)=0 from rfl,bv9] at hl;rw[hl,j2i,show decide ((s.length:Int)<=1000)=decide (s.length<=1000) from decide_eq_decide.2 (by omega)];cases s.all w6h<;>simp
theorem y1v(F:Nat)(s:B8)(hs:okS s):M79 F s=some (j2i s):=by
 unfold okS at hs;unfold M79;rw[q3c,if_pos (y5y hs),show((s.length:Int):Int).toNat=s.length by omega];have hl:=v1m (g:=j5e F s (some true)) (f:=false) s w6h (fun n=>rfl) (fun m n=>by rw[j5e];exact v9h) s.length 0 (by omega);rw[show((0:Nat):Int)=0 from rfl,bv9] at hl
 rw[hl,j2i,show decide ((s.length:Int)>1000) = !decide (s.length<=1000) by
  by_cases h:s.length<=1000
  ·rw[decide_eq_true h,decide_eq_false (by omega)];rfl
  ·rw[decide_eq_false h,decide_eq_true (by omega)];rfl]
 cases s.all w6h<;>cases decide (s.length<=1000)<;>rfl
def txC(a:List B8):List B8->Nat->Int
 |[],_=>0
 |x::l,n=>if (!j2i x)=true then 2 else if (decide (0<n)&&(Op.bytesLess x (a.getD (n - 1) [])||x==a.getD (n - 1) []))=true then 10 else txC a l (n+1)
theorem j2o{α:Type}{a:List α}{n:Nat}{d:α}(h0:0<n)(h:n<=a.length)(hl:a.length<=maxLen):idx a (w64 ((n:Int) - 1))=some (a.getD (n - 1) d):=by
 have hm:maxLen=9223372036854775807:=by decide
 rw[hm] at hl;rw[q9i (by omega) (by omega),show((n:Int) - 1)=((n - 1:Nat):Int) by omega,q5h (by omega)];simp[List.getD,bb9 (show n - 1<a.length by omega)]
theorem txL{g:List B8->Int->Option Int}{k:Option Int}{a:List B8}(hl:a.length<=maxLen)(h0:∀n,g [] n=k)
  (h1:∀x l (n:Nat),a[n]? = some x->x∈a->g (x::l) n=if (!j2i x)=true then some 2 else if decide ((n:Int)>0)=true then (idx a (w64 ((n:Int) - 1))).bind fun y=>if (Op.bytesLess x y||x==y)=true then some 10 else g l (n+1) else g l (n+1)):
  ∀(l:List B8) (n:Nat),a.drop n=l->g l n=if (txC a l n != 0)=true then some (txC a l n) else k
 |[],n,_=>by simp[h0,txC]
 |x::l,n,h=>by
  have hn:n<a.length:=by
   rcases bu9 n a.length with h2|h2
   ·exact h2
   ·rw[an9 h2] at h;cases h
  rw[bx9 hn] at h
  injection h with hx hd
  have e:((n:Int)+1)=((n+1:Nat):Int):=rfl;rw[h1 x l n (by rw[bb9 hn,hx]) (by rw[<-hx];exact be9 _),e,txL hl h0 h1 l (n+1) hd];rw[txC];cases j2i x
  ·simp
  ·simp only[bx8,cp8,if_false];by_cases h2:0<n
   ·rw[if_pos (decide_eq_true (by omega)),j2o (d:=[]) h2 (by omega) hl,cb8,decide_eq_true h2];simp only[ai8];cases (Op.bytesLess x (a.getD (n - 1) [])||x==a.getD (n - 1) [])<;>simp
   ·rw[decide_eq_false h2,if_neg (by simp;omega)];simp
def txF(a:List B8):Int:=if a.length=0 then 13 else if 50<a.length then 3 else txC a a 0
def okX(x:q0c):Prop:=okS x.Name/\(∀s,s∈x.Texts->okS s)/\x.Texts.length<=maxLen/\x.Kids.length<=maxLen
theorem y1i(F:Nat)(a:List B8)(ha:∀s,s∈a->okS s)(hl:a.length<=maxLen):y3x F a=some (txF a):=by
 unfold y3x txF
 have h:=txL (g:=z9l F a (some 0)) (k:=some 0) hl (fun n=>rfl) (fun x l n h1 h2=>by
  rw[z9l,v7h F x (ha x h2),cb8,q3c]) a 0 rfl
 rw[show((0:Nat):Int)=0 from rfl] at h;rw[q3c,h];by_cases h1:a.length=0
 ·simp[h1]
 ·have h3:(((a.length:Nat):Int)==0)=false:=beq_false_of_ne (by omega);rw[h3,if_neg h1,if_neg (by simp:¬(false=true))];by_cases h2:50<a.length
  ·rw[if_pos h2,if_pos (decide_eq_true (by omega))]
  ·have h5:decide (((a.length:Nat):Int)>50)=false:=decide_eq_false (by omega);rw[if_neg h2,h5];by_cases h4:txC a a 0=0<;>simp[h4]
theorem y7i(F:Nat)(n:Int):w3g F n=some (decide (-1000000000000<=n)&&decide (n<=1000000000000)):=by
 unfold w3g;by_cases h : -1000000000000<=n
 ·simp[h,show n ≥ -1000000000000 from h]
 ·simp[h,show ¬n ≥ -1000000000000 from h]
theorem w3f(F:Nat)(a b c:Int):M80 F a b c=some (decide (a<b)||decide (a>c)):=by
 unfold M80;by_cases h:a<b<;>simp[h]
local macro "tx68" f:term:term=>`(fun(F:Nat) (x:q0c) (k:Option Int) (hx:okX x)=>txL (g := $f F x k) (k:=k) hx.2.2.1 (fun n=>rfl) (fun y l n h1 h2=>by
  have hn:n<x.Texts.length:=(bf9.1 h1).1;have hi:idx x.Texts (n:Int)=some y:=by rw[q5h hn];exact(bb9 hn).symm.trans h1
  show jn _ _=_
  rw[q3c,y1v F y (hx.2.1 y h2),cb8,hi];cases j2i y<;>rfl) x.Texts 0 rfl)
theorem j2l:∀(F:Nat) (x:q0c) (k:Option Int) (hx:okX x),q7n F x k x.Texts ((0:Nat):Int)=if (txC x.Texts x.Texts 0 != 0)=true then some (txC x.Texts x.Texts 0) else k:=tx68 q7n
def v2d(n:Int):Bool:=decide (n < -1000000000000)||decide (n>1000000000000)
theorem j6q(F:Nat)(n:Int):M80 F n (-1000000000000) 1000000000000=some (v2d n):=w3f F n _ _
theorem z2q(F:Nat)(n:Int):M80 F n 1 8=some (decide (n<1)||decide (n>8)):=w3f F n _ _
theorem z3q(F:Nat)(n:Int):M80 F n 1 5=some (decide (n<1)||decide (n>5)):=w3f F n _ _
theorem w6x(F:Nat)(n:Int):w3g F n=some (!v2d n):=by
 rw[y7i,v2d,Bool.not_or,<-decide_not,<-decide_not];exact congrArg some (congr (congrArg and (decide_eq_decide.2 (by omega))) (decide_eq_decide.2 (by omega)))
def q6j(x:q0c):Int:=
 if x.Kind<1\/8<x.Kind then 7
 else if !(decide (2<=x.Kind)&&decide (x.Kind<=5))&&!(x.Name==[])||!(x.Kind==2||x.Kind==3)&&decide (0<x.Texts.length)||!(x.Kind==5)&&(x.Op != 0||x.N != 0) ||
  !(if x.Kind=6 then x.Kids.length==1 else if 7<=x.Kind then decide (2<=x.Kids.length) else x.Kids.length==0) then 2
 else if (decide (2<=x.Kind)&&decide (x.Kind<=5))&&!q8k x.Name then 8
 else if x.Kind=2\/x.Kind=3 then txF x.Texts
 else if x.Kind=5 then (if x.Op<1\/5<x.Op then 7 else if v2d x.N=true then 9 else 0)
 else 0
theorem j0g{n:Nat}:(((n:Nat):Int)==0)=(n==0):=by
 by_cases h:n=0
 ·simp[h]
 ·rw[beq_false_of_ne h,beq_false_of_ne (by omega)]
theorem kid1{n:Nat}:(((n:Nat):Int)==1)=(n==1):=by
 by_cases h:n=1
 ·simp[h]
 ·rw[beq_false_of_ne h,beq_false_of_ne (by omega)]
theorem gt0{n:Nat}:decide (((n:Nat):Int)>0)=decide (0<n):=decide_eq_decide.2 (by omega)
theorem ge2{n:Nat}:decide (((n:Nat):Int)>=2)=decide (2<=n):=decide_eq_decide.2 (by omega)
theorem y2c{n:Nat}:decide (((n:Nat):Int)>50)=decide (50<n):=decide_eq_decide.2 (by omega)
noncomputable def q1u:Nat->q2g:=(y0k 0).get rfl
theorem w1g(F:Nat):y0k F=some q1u:=rfl
theorem y1l:q1u 1=⟨false,false,false,0⟩:=rfl
theorem y0l:q1u 2=⟨true,true,false,0⟩:=rfl
theorem y9k:q1u 3=⟨true,true,false,0⟩:=rfl
theorem y8k:q1u 4=⟨true,false,false,0⟩:=rfl
theorem y7k:q1u 5=⟨true,false,true,0⟩:=rfl
theorem y6k:q1u 6=⟨false,false,false,1⟩:=rfl
theorem y5k:q1u 7=⟨false,false,false,-1⟩:=rfl
theorem y4k:q1u 8=⟨false,false,false,-1⟩:=rfl
def fm(u:q2g)(x:q0c):Bool:=(u.name||(x.Name==[]))&&(u.texts||!decide (0<x.Texts.length))&&(u.number||((x.Op==0)&&(x.N==0)))&&(if u.kids<0 then decide (2<=x.Kids.length) else (((x.Kids.length:Nat):Int)==u.kids))
theorem y2i(F:Nat)(x:q0c)(h:0<=x.Kind/\x.Kind.toNat<9):y5x F x=some (fm (q1u x.Kind.toNat) x):=by
 unfold y5x fm;rw[w1g,cb8,if_pos h];generalize q1u x.Kind.toNat=u;simp only[gt0,ge2];by_cases hk:u.kids<0
 ·simp only[if_pos hk,decide_eq_true hk];cases u.name<;>cases u.texts<;>cases u.number<;>by_cases a1:x.Name=[]<;>by_cases a2:0<x.Texts.length<;>by_cases a3:x.Op=0<;>by_cases a4:x.N=0<;>simp[a1,a2,a3,a4]
 ·simp only[if_neg hk,decide_eq_false hk];cases u.name<;>cases u.texts<;>cases u.number<;>by_cases a1:x.Name=[]<;>by_cases a2:0<x.Texts.length<;>by_cases a3:x.Op=0<;>by_cases a4:x.N=0<;>simp[a1,a2,a3,a4]
def q3y(u:q2g)(x:q0c):Int:=if !fm u x then 2 else if u.name&&!q8k x.Name then 8 else if u.texts&&txF x.Texts != 0 then txF x.Texts else if u.number&&(decide (x.Op<1)||decide (x.Op>5)) then 7 else if u.number&&v2d x.N then 9 else 0
theorem y6e(F:Nat)(R:q0c->Option Int)(x:q0c)(hx:okX x)(h:1<=x.Kind/\x.Kind<=8):j4z R F x=if (q3y (q1u x.Kind.toNat) x != 0)=true then some (q3y (q1u x.Kind.toNat) x) else z6f R F (some 0) x.Kids:=by
 have h9:0<=x.Kind/\x.Kind.toNat<9:=by omega
 unfold j4z q3y;rw[y2i F x h9,w1g,cb8,if_pos h9,cb8,v7a F x.Name hx.1,y1i F x.Texts hx.2.1 hx.2.2.1,w6x,decide_eq_false (show ¬x.Kind<1 by omega),decide_eq_false (show ¬x.Kind>8 by omega)];simp only[q3c,cb8];generalize q1u x.Kind.toNat=u;generalize z6f R F (some 0) x.Kids=L;generalize fm u x=b0;generalize q8k x.Name=b1;generalize txF x.Texts=t1;generalize v2d x.N=b2;generalize decide (x.Op<1)=b3;generalize decide (x.Op>5)=b4;by_cases h0:t1=0<;>cases b0<;>cases u.name<;>cases u.texts<;>cases u.number<;>cases b1<;>cases b2<;>cases b3<;>cases b4<;>simp[h0]
theorem y7h{F:Nat}{nm:B8}{tx:List B8}{op n:Int}{ks:List q6e}(hn:M39 F nm=some (q8k nm)):j1i F ⟨1,nm,tx,op,n,ks⟩=some (q6j ⟨1,nm,tx,op,n,ks⟩):=by
 have e4:tx=[]<->tx.length=0:=ba8.symm;have e5:ks=[]<->ks.length=0:=ba8.symm;simp only[j1i,v0s,z2q,z3q,j6q,q3c,q6j,gt0,y2c,j0g,hn];by_cases a1:nm=[]<;>by_cases a2:0<tx.length<;>by_cases a3:op=0<;>by_cases a4:n=0<;>by_cases a5:ks.length=0<;>simp[a1,a2,a3,a4,a5,e4,e5]
theorem w7k{nm:B8}{tx:List B8}{op n:Int}{ks:List q6e}:q3y (q1u 1) ⟨1,nm,tx,op,n,ks⟩=q6j ⟨1,nm,tx,op,n,ks⟩:=by
 have e5:ks=[]<->ks.length=0:=ba8.symm;rw[y1l];simp only[q3y,fm,q6j,gt0,j0g];by_cases a1:nm=[]<;>by_cases a2:0<tx.length<;>by_cases a3:op=0<;>by_cases a4:n=0<;>by_cases a5:ks.length=0<;>simp[a1,a2,a3,a4,a5,e5,j0g]
theorem y6h{F:Nat}{nm:B8}{tx:List B8}{op n:Int}{ks:List q6e}(hn:M39 F nm=some (q8k nm))(h1:∀k,q7n F ⟨2,nm,tx,op,n,ks⟩ k tx 0=if (txC tx tx 0 != 0)=true then some (txC tx tx 0) else k):j1i F ⟨2,nm,tx,op,n,ks⟩=some (q6j ⟨2,nm,tx,op,n,ks⟩):=by
 have e4:tx=[]<->tx.length=0:=ba8.symm;have e5:ks=[]<->ks.length=0:=ba8.symm;simp only[j1i,v0s,z2q,z3q,j6q,q3c,q6j,gt0,y2c,j0g,hn,h1,txF];by_cases a1:q8k nm=true<;>by_cases a2:tx.length=0<;>by_cases a3:50<tx.length<;>by_cases a4:op=0<;>by_cases a5:n=0<;>by_cases a6:ks.length=0<;>by_cases a7:txC tx tx 0=0<;>simp[a1,a2,a3,a4,a5,a6,a7,e4,e5]
theorem w6k{nm:B8}{tx:List B8}{op n:Int}{ks:List q6e}:q3y (q1u 2) ⟨2,nm,tx,op,n,ks⟩=q6j ⟨2,nm,tx,op,n,ks⟩:=by
 have e5:ks=[]<->ks.length=0:=ba8.symm;rw[y0l];simp only[q3y,fm,q6j,gt0,j0g];by_cases a1:q8k nm=true<;>by_cases a2:op=0<;>by_cases a3:n=0<;>by_cases a4:ks.length=0<;>by_cases a5:txF tx=0<;>simp[a1,a2,a3,a4,a5,e5,j0g]
theorem y5h{F:Nat}{nm:B8}{tx:List B8}{op n:Int}{ks:List q6e}(hn:M39 F nm=some (q8k nm))(h1:∀k,q7n F ⟨3,nm,tx,op,n,ks⟩ k tx 0=if (txC tx tx 0 != 0)=true then some (txC tx tx 0) else k):j1i F ⟨3,nm,tx,op,n,ks⟩=some (q6j ⟨3,nm,tx,op,n,ks⟩):=by
 have e4:tx=[]<->tx.length=0:=ba8.symm;have e5:ks=[]<->ks.length=0:=ba8.symm;simp only[j1i,v0s,z2q,z3q,j6q,q3c,q6j,gt0,y2c,j0g,hn,h1,txF];by_cases a1:q8k nm=true<;>by_cases a2:tx.length=0<;>by_cases a3:50<tx.length<;>by_cases a4:op=0<;>by_cases a5:n=0<;>by_cases a6:ks.length=0<;>by_cases a7:txC tx tx 0=0<;>simp[a1,a2,a3,a4,a5,a6,a7,e4,e5]
theorem w5k{nm:B8}{tx:List B8}{op n:Int}{ks:List q6e}:q3y (q1u 3) ⟨3,nm,tx,op,n,ks⟩=q6j ⟨3,nm,tx,op,n,ks⟩:=by
 have e5:ks=[]<->ks.length=0:=ba8.symm;rw[y9k];simp only[q3y,fm,q6j,gt0,j0g];by_cases a1:q8k nm=true<;>by_cases a2:op=0<;>by_cases a3:n=0<;>by_cases a4:ks.length=0<;>by_cases a5:txF tx=0<;>simp[a1,a2,a3,a4,a5,e5,j0g]
theorem y4h{F:Nat}{nm:B8}{tx:List B8}{op n:Int}{ks:List q6e}(hn:M39 F nm=some (q8k nm)):j1i F ⟨4,nm,tx,op,n,ks⟩=some (q6j ⟨4,nm,tx,op,n,ks⟩):=by
 have e4:tx=[]<->tx.length=0:=ba8.symm;have e5:ks=[]<->ks.length=0:=ba8.symm;simp only[j1i,v0s,z2q,z3q,j6q,q3c,q6j,gt0,y2c,j0g,hn];by_cases a1:q8k nm=true<;>by_cases a2:0<tx.length<;>by_cases a3:op=0<;>by_cases a4:n=0<;>by_cases a5:ks.length=0<;>simp[a1,a2,a3,a4,a5,e4,e5]
theorem w4k{nm:B8}{tx:List B8}{op n:Int}{ks:List q6e}:q3y (q1u 4) ⟨4,nm,tx,op,n,ks⟩=q6j ⟨4,nm,tx,op,n,ks⟩:=by
 have e5:ks=[]<->ks.length=0:=ba8.symm;rw[y8k];simp only[q3y,fm,q6j,gt0,j0g];by_cases a1:q8k nm=true<;>by_cases a2:0<tx.length<;>by_cases a3:op=0<;>by_cases a4:n=0<;>by_cases a5:ks.length=0<;>simp[a1,a2,a3,a4,a5,e5,j0g]
theorem y4g{F:Nat}{nm:B8}{tx:List B8}{op n:Int}{ks:List q6e}:v0s F ⟨5,nm,tx,op,n,ks⟩=some (if decide (0<tx.length)=true then 2 else if (ks.length==0)=true then 0 else 2):=by
 have e5:ks=[]<->ks.length=0:=ba8.symm;simp only[v0s,z2q,q3c,gt0,j0g];by_cases a2:0<tx.length<;>by_cases a3:ks.length=0<;>simp[a2,a3,e5]
theorem y3h{F:Nat}{nm:B8}{tx:List B8}{op n:Int}{ks:List q6e}(hn:M39 F nm=some (q8k nm)):j1i F ⟨5,nm,tx,op,n,ks⟩=some (q6j ⟨5,nm,tx,op,n,ks⟩):=by
 have hv:q6j ⟨5,nm,tx,op,n,ks⟩=if (if decide (0<tx.length)=true then (2:Int) else if (ks.length==0)=true then 0 else 2)=2 then 2 else if q8k nm=false then 8 else if (decide (op<1)||decide (op>5))=true then 7 else if v2d n=true then 9 else 0:=by
  simp only[q6j];generalize v2d n=c1;by_cases a1:q8k nm=true<;>by_cases a2:0<tx.length<;>by_cases a3:ks.length=0<;>simp[a1,a2,a3]
 rw[hv];unfold j1i;rw[y4g,cb8]
 have hz:(if decide (0<tx.length)=true then (2:Int) else if (ks.length==0)=true then 0 else 2)=0\/(if decide (0<tx.length)=true then (2:Int) else if (ks.length==0)=true then 0 else 2)=2:=by
  split
  ·exact Or.inr rfl
  ·split
   ·exact Or.inl rfl
   ·exact Or.inr rfl
 generalize (if decide (0<tx.length)=true then (2:Int) else if (ks.length==0)=true then 0 else 2)=z at hz ⊢
 clear hv
 rcases hz with rfl|rfl
 ·rw[if_neg (show ¬((0:Int) != 0)=true by decide),if_neg (show ¬(0:Int)=2 by decide)];dsimp only;rw[if_pos (show decide ((5:Int)>=2)=true from rfl),if_pos (show decide ((5:Int)<=5)=true from rfl),hn,cb8];cases q8k nm
  ·rfl
  ·rw[if_neg (show ¬(!true)=true by decide),if_neg (show ¬((5:Int)==2)=true by decide),if_neg (show ¬true=false by decide)];simp only[q3c];rw[if_neg (show ¬((5:Int)==3)=true by decide),if_pos (show((5:Int)==5)=true from rfl),z3q,cb8,j6q,cb8];cases decide (op<1)||decide (op>5)
   ·cases v2d n<;>rfl
   ·rfl
 ·rfl
theorem w3k{nm:B8}{tx:List B8}{op n:Int}{ks:List q6e}:q3y (q1u 5) ⟨5,nm,tx,op,n,ks⟩=q6j ⟨5,nm,tx,op,n,ks⟩:=by
 have e5:ks=[]<->ks.length=0:=ba8.symm;rw[y7k];simp only[q3y,fm,q6j,gt0,j0g];generalize v2d n=c1;by_cases a1:q8k nm=true<;>by_cases a2:0<tx.length<;>by_cases a3:ks.length=0<;>by_cases a4:op<1<;>by_cases a5:5<op<;>cases c1<;>simp[a1,a2,a3,a4,a5,e5,j0g]
theorem y2h{F:Nat}{nm:B8}{tx:List B8}{op n:Int}{ks:List q6e}(hn:M39 F nm=some (q8k nm)):j1i F ⟨6,nm,tx,op,n,ks⟩=some (q6j ⟨6,nm,tx,op,n,ks⟩):=by
 have e4:tx=[]<->tx.length=0:=ba8.symm;have e5:ks=[]<->ks.length=0:=ba8.symm;simp only[j1i,v0s,z2q,z3q,j6q,q3c,q6j,gt0,y2c,kid1,hn];by_cases a1:nm=[]<;>by_cases a2:0<tx.length<;>by_cases a3:op=0<;>by_cases a4:n=0<;>by_cases a5:ks.length=1<;>simp[a1,a2,a3,a4,a5,e4,e5]
theorem w2k{nm:B8}{tx:List B8}{op n:Int}{ks:List q6e}:q3y (q1u 6) ⟨6,nm,tx,op,n,ks⟩=q6j ⟨6,nm,tx,op,n,ks⟩:=by
 have e5:ks=[]<->ks.length=0:=ba8.symm;rw[y6k];simp only[q3y,fm,q6j,gt0,kid1];by_cases a1:nm=[]<;>by_cases a2:0<tx.length<;>by_cases a3:op=0<;>by_cases a4:n=0<;>by_cases a5:ks.length=1<;>simp[a1,a2,a3,a4,a5,e5,kid1]
theorem y1h{F:Nat}{nm:B8}{tx:List B8}{op n:Int}{ks:List q6e}(hn:M39 F nm=some (q8k nm)):j1i F ⟨7,nm,tx,op,n,ks⟩=some (q6j ⟨7,nm,tx,op,n,ks⟩):=by
 have e4:tx=[]<->tx.length=0:=ba8.symm;have e5:ks=[]<->ks.length=0:=ba8.symm;simp only[j1i,v0s,z2q,z3q,j6q,q3c,q6j,gt0,y2c,j0g,ge2,hn];by_cases a1:nm=[]<;>by_cases a2:0<tx.length<;>by_cases a3:op=0<;>by_cases a4:n=0<;>by_cases a5:2<=ks.length<;>simp[a1,a2,a3,a4,a5,e4,e5]
theorem w1k{nm:B8}{tx:List B8}{op n:Int}{ks:List q6e}:q3y (q1u 7) ⟨7,nm,tx,op,n,ks⟩=q6j ⟨7,nm,tx,op,n,ks⟩:=by
 have e5:ks=[]<->ks.length=0:=ba8.symm;rw[y5k];simp only[q3y,fm,q6j,gt0,j0g,ge2];by_cases a1:nm=[]<;>by_cases a2:0<tx.length<;>by_cases a3:op=0<;>by_cases a4:n=0<;>by_cases a5:2<=ks.length<;>simp[a1,a2,a3,a4,a5,e5,j0g,ge2]
theorem y0h{F:Nat}{nm:B8}{tx:List B8}{op n:Int}{ks:List q6e}(hn:M39 F nm=some (q8k nm)):j1i F ⟨8,nm,tx,op,n,ks⟩=some (q6j ⟨8,nm,tx,op,n,ks⟩):=by
 have e4:tx=[]<->tx.length=0:=ba8.symm;have e5:ks=[]<->ks.length=0:=ba8.symm;simp only[j1i,v0s,z2q,z3q,j6q,q3c,q6j,gt0,y2c,j0g,ge2,hn];by_cases a1:nm=[]<;>by_cases a2:0<tx.length<;>by_cases a3:op=0<;>by_cases a4:n=0<;>by_cases a5:2<=ks.length<;>simp[a1,a2,a3,a4,a5,e4,e5]
theorem w0k{nm:B8}{tx:List B8}{op n:Int}{ks:List q6e}:q3y (q1u 8) ⟨8,nm,tx,op,n,ks⟩=q6j ⟨8,nm,tx,op,n,ks⟩:=by
 have e5:ks=[]<->ks.length=0:=ba8.symm;rw[y4k];simp only[q3y,fm,q6j,gt0,j0g,ge2];by_cases a1:nm=[]<;>by_cases a2:0<tx.length<;>by_cases a3:op=0<;>by_cases a4:n=0<;>by_cases a5:2<=ks.length<;>simp[a1,a2,a3,a4,a5,e5,j0g,ge2]
theorem y8h(F:Nat)(x:q0c)(hx:okX x):j1i F x=some (q6j x):=by
 have h1:∀k,_:=fun k=>j2l F x k hx;have h2:∀k,_:=fun k=>j2l F x k hx;rw[show((0:Nat):Int)=0 from rfl] at h1 h2;have hn:=w8w F x.Name hx.1;obtain⟨kd,nm,tx,op,n,ks⟩:=x;by_cases hk:kd<1\/8<kd
 ·have:(decide (kd<1)||decide (kd>8))=true:=by simp;omega
  simp only[j1i,v0s,z2q,z3q,j6q,this,cb8,if_true,q6j,if_pos hk];rfl
 ·have hk':kd=1\/kd=2\/kd=3\/kd=4\/kd=5\/kd=6\/kd=7\/kd=8:=by omega
  rcases hk' with rfl|rfl|rfl|rfl|rfl|rfl|rfl|rfl
  ·exact y7h hn
  ·exact y6h hn h1
  ·exact y5h hn h2
  ·exact y4h hn
  ·exact y3h hn
  ·exact y2h hn
  ·exact y1h hn
  ·exact y0h hn
theorem w8k(x:q0c)(h:1<=x.Kind/\x.Kind<=8):q3y (q1u x.Kind.toNat) x=q6j x:=by
 obtain⟨kd,nm,tx,op,n,ks⟩:=x;simp only at h;have hk':kd=1\/kd=2\/kd=3\/kd=4\/kd=5\/kd=6\/kd=7\/kd=8:=by omega
 rcases hk' with rfl|rfl|rfl|rfl|rfl|rfl|rfl|rfl
 ·exact w7k
 ·exact w6k
 ·exact w5k
 ·exact w4k
 ·exact w3k
 ·exact w2k
 ·exact w1k
 ·exact w0k
theorem w8q(F:Nat)(R:q0c->Option Int)(x:q0c)(hx:okX x):j4z R F x=if (q6j x != 0)=true then some (q6j x) else z6f R F (some 0) x.Kids:=by
 by_cases h:1<=x.Kind/\x.Kind<=8
 ·rw[y6e F R x hx h,w8k x h]
 ·have h7:q6j x=7:=by unfold q6j;rw[if_pos (by omega)]
  rw[h7];unfold j4z;by_cases h1:x.Kind<1
  ·rw[if_pos (decide_eq_true h1)];rfl
  ·rw[if_neg (by simp[h1]),if_pos (decide_eq_true (by omega))];rfl
end Go.Proofs.YtelmfadihfcgnaaGreatDoor
