/- Part of the proof: Z8T. -/
import Derived.Test.YtpbkggamiipdmaaGreatR8ZA
import Derived.Test.YtpbkggamiipdmaaGreatR8WA
import Derived.Test.YtpbkggamiipdmaaGreatR8DN
import Derived.Test.YtpbkggamiipdmaaGreatR8ZC
import Derived.Test.YtpbkggamiipdmaaGreatR8DA
import Derived.Test.YtpbkggamiipdmaaGreatProg
import Derived.KernelRfl
namespace Go.Proofs.YtpbkggamiipdmaaGreat
open Go Go.Pv
set_option linter.unusedVariables false
set_option maxRecDepth 100000
theorem mixed:Tryz.prog.follows .mixedOrders=true:=by kernel_rfl
structure q4e where
 Name:B8
 Methods:(List B8)
 deriving DecidableEq
structure q6j where
 Name:B8
 Func:B8
 deriving DecidableEq
structure q0i where
 Name:B8
 Methods:(List q6j)
 deriving DecidableEq
structure q8c where
 Kind:Int
 Target:B8
 Method:B8
 Feature:B8
 deriving DecidableEq
structure q5e where
 Name:B8
 Component:B8
 Calls:(List q8c)
 Makes:(List B8)
 deriving DecidableEq
structure q3c where
 Ifaces:(List q4e)
 Types:(List q0i)
 Funcs:(List q5e)
 Entries:(List B8)
 deriving DecidableEq
structure q4c where
 loose:Bool
 ifaces:(List (B8×q4e))
 types:(List (B8×Bool))
 funcs:(List (B8×Bool))
 deriving DecidableEq
structure q8a where
 g:q3c
 funcs:(List (B8×Int))
 types:(List (B8×Int))
 fitting:(List (B8×(List Int)))
 on:(List (B8×Bool))
 made:Bool
 deriving DecidableEq
structure q1o where
 Func:B8
 Call:Int
 deriving DecidableEq
structure q6k where
 Site:q1o
 To:B8
 deriving DecidableEq
structure q6c where
 Type_:B8
 Func:B8
 deriving DecidableEq
structure q8e where
 Entry:B8
 Hops:(List q6k)
 Made:(List q6c)
 deriving DecidableEq
structure q1a where
 iface:B8
 method:B8
 deriving DecidableEq
structure q2c where
 w:(Option q8a)
 funcs:(List Bool)
 made:(List Bool)
 slots:(List (q1a×Bool))
 order:(List q1a)
 types:(List Int)
 queue:(List Int)
 deriving DecidableEq
structure q0d where
 ifaces:(List (B8×(List (B8×Bool))))
 types:(List (B8×Bool))
 funcs:(List (B8×Bool))
 deriving DecidableEq
structure q6b where
 g:q3c
 n:q0d
 loose:Bool
 deriving DecidableEq
structure q3a where
 typ:B8
 to:B8
 deriving DecidableEq
structure q0a where
 site:q1o
 aims:(List q3a)
 deriving DecidableEq
structure q2b where
 g:q3c
 links:(List (B8×(List q0a)))
 funcs:(List (B8×q5e))
 deriving DecidableEq
structure q4a where
 reached:(List (B8×Bool))
 made:(List (B8×Bool))
 deriving DecidableEq
def q6a(x:Int):List V:=[(iV x)]
theorem q5b(x:Int):q1p (q6a x):=(.cons (Imm.con _) .nil)
theorem one_encI_i64(x:Int):(q6a x).all q1y=true:=rfl
instance:EI q6a:=⟨q5b,one_encI_i64⟩
def q3j(x:Bool):List V:=[(bV x)]
theorem q9e(x:Bool):q1p (q3j x):=(.cons (Imm.con _) .nil)
theorem one_encB(x:Bool):(q3j x).all q1y=true:=rfl
instance:EI q3j:=⟨q9e,one_encB⟩
def q6f(x:B8):List V:=[(sV x)]
theorem q1s(x:B8):q1p (q6f x):=(.cons (Imm.con _) .nil)
theorem z6g(x:B8):(q6f x).all q1y=true:=rfl
instance:EI q6f:=⟨q1s,z6g⟩
def q9c(x:q4e):List V:=[(sV x.Name),(V.lst 1 (x.Methods.map q6f))]
theorem imms_encTIface(x:q4e):q1p (q9c x):=(.cons (Imm.con _) (.cons (Imm.lst _ _) .nil))
theorem one_encTIface(x:q4e):(q9c x).all q1y=true:=rfl
instance:EI q9c:=⟨imms_encTIface,one_encTIface⟩
@[simp] theorem len_encTIface(x:q4e):(q9c x).length=2:=rfl
def q6i(x:q6j):List V:=[(sV x.Name),(sV x.Func)]
theorem imms_encTMethod(x:q6j):q1p (q6i x):=(.cons (Imm.con _) (.cons (Imm.con _) .nil))
theorem one_encTMethod(x:q6j):(q6i x).all q1y=true:=rfl
instance:EI q6i:=⟨imms_encTMethod,one_encTMethod⟩
@[simp] theorem len_encTMethod(x:q6j):(q6i x).length=2:=rfl
def q9d(x:q0i):List V:=[(sV x.Name),(V.lst 2 (x.Methods.map q6i))]
theorem imms_encTType(x:q0i):q1p (q9d x):=(.cons (Imm.con _) (.cons (Imm.lst _ _) .nil))
theorem one_encTType(x:q0i):(q9d x).all q1y=true:=rfl
instance:EI q9d:=⟨imms_encTType,one_encTType⟩
@[simp] theorem len_encTType(x:q0i):(q9d x).length=2:=rfl
def q2d(x:q8c):List V:=[(iV x.Kind),(sV x.Target),(sV x.Method),(sV x.Feature)]
theorem z0n(x:q8c):q1p (q2d x):=(.cons (Imm.con _) (.cons (Imm.con _) (.cons (Imm.con _) (.cons (Imm.con _) .nil))))
theorem one_encTCall(x:q8c):(q2d x).all q1y=true:=rfl
instance:EI q2d:=⟨z0n,one_encTCall⟩
@[simp] theorem len_encTCall(x:q8c):(q2d x).length=4:=rfl
def q5c(x:q5e):List V:=[(sV x.Name),(sV x.Component),(V.lst 4 (x.Calls.map q2d)),(V.lst 1 (x.Makes.map q6f))]
theorem imms_encTFunc(x:q5e):q1p (q5c x):=(.cons (Imm.con _) (.cons (Imm.con _) (.cons (Imm.lst _ _) (.cons (Imm.lst _ _) .nil))))
theorem one_encTFunc(x:q5e):(q5c x).all q1y=true:=rfl
instance:EI q5c:=⟨imms_encTFunc,one_encTFunc⟩
@[simp] theorem len_encTFunc(x:q5e):(q5c x).length=4:=rfl
def q1d(x:q3c):List V:=[(V.lst 2 (x.Ifaces.map q9c)),(V.lst 2 (x.Types.map q9d)),(V.lst 4 (x.Funcs.map q5c)),(V.lst 1 (x.Entries.map q6f))]
theorem z3i(x:q3c):q1p (q1d x):=(.cons (Imm.lst _ _) (.cons (Imm.lst _ _) (.cons (Imm.lst _ _) (.cons (Imm.lst _ _) .nil))))
theorem one_encTGraph(x:q3c):(q1d x).all q1y=true:=rfl
instance:EI q1d:=⟨z3i,one_encTGraph⟩
@[simp] theorem len_encTGraph(x:q3c):(q1d x).length=4:=rfl
def q3f(x:q6k):List V:=[(sV x.Site.Func),(iV x.Site.Call),(sV x.To)]
theorem q7n(x:q6k):q1p (q3f x):=(.cons (Imm.con _) (.cons (Imm.con _) (.cons (Imm.con _) .nil)))
theorem one_encTHop(x:q6k):(q3f x).all q1y=true:=rfl
instance:EI q3f:=⟨q7n,one_encTHop⟩
@[simp] theorem len_encTHop(x:q6k):(q3f x).length=3:=rfl
def q6e(x:q6c):List V:=[(sV x.Type_),(sV x.Func)]
theorem q5k(x:q6c):q1p (q6e x):=(.cons (Imm.con _) (.cons (Imm.con _) .nil))
theorem z0i(x:q6c):(q6e x).all q1y=true:=rfl
instance:EI q6e:=⟨q5k,z0i⟩
@[simp] theorem len_encTMadeBy(x:q6c):(q6e x).length=2:=rfl
def q7g(x:q8e):List V:=[(sV x.Entry),(V.lst 3 (x.Hops.map q3f)),(V.lst 2 (x.Made.map q6e))]
theorem imms_encTWitness(x:q8e):q1p (q7g x):=(.cons (Imm.con _) (.cons (Imm.lst _ _) (.cons (Imm.lst _ _) .nil)))
theorem one_encTWitness(x:q8e):(q7g x).all q1y=true:=rfl
instance:EI q7g:=⟨imms_encTWitness,one_encTWitness⟩
@[simp] theorem len_encTWitness(x:q8e):(q7g x).length=3:=rfl
theorem eqp9{d:Nat}:EqOk Tryz.prog (d+1) 9 1 false (fun l=>∃n,l=[.string n]):=eqOk_str (show Tryz.prog.underlying 9=some (.string) by kernel_rfl) (show tyC Tryz.prog 9=true by kernel_rfl)
def z9n(x:q1a):List Value:=[str x.iface]++([str x.method]++[])
theorem inj_cv304(x y:q1a)(h:z9n x=z9n y):x=y:=by
 obtain⟨h0,h⟩:=List.append_inj h rfl
 obtain⟨h1,h⟩:=List.append_inj h rfl
 obtain⟨a0,a1⟩:=x
 obtain⟨b0,b1⟩:=y
 obtain rfl:a0=b0:=q2k _ _ (List.cons.inj h0).1
 obtain rfl:a1=b1:=q2k _ _ (List.cons.inj h1).1
 rfl
def isAgg304(v:Value):Prop:=∃x:q1a,v=.agg (z9n x).toArray
theorem inj_agg304:∀a b:q1a,(Value.agg (z9n a).toArray)=.agg (z9n b).toArray->a=b:=fun a b h=>inj_cv304 a b (by simpa using congrArg Array.toList (Value.agg.inj h))
theorem eqp304 {d:Nat}:EqOk Tryz.prog (d+2) 304 2 true (fun l=>∃x:q1a,l=z9n x):=(q4v (d:=d+1) (fs:=[(Field.mk "iface" 9 0 false "" "provender/reach" 0),(Field.mk "method" 9 1 false "" "provender/reach" 16)]) (by kernel_rfl) (by kernel_rfl) (by kernel_rfl) (by kernel_rfl) (q9o eqp9 (by simp) rfl (by simp) (q9o eqp9 (by simp) rfl (by simp) eqF_nil))).weaken (fun l ⟨x,hx⟩=>by subst hx;exact⟨_,_,rfl,⟨_,rfl⟩,⟨_,_,rfl,⟨_,rfl⟩,rfl⟩⟩)
theorem eqk304:EqOk Tryz.prog 10000 304 2 true (fun l=>∃x:q1a,l=z9n x):=eqp304 (d:=9998)
theorem eqp3{d:Nat}:EqOk Tryz.prog (d+1) 3 1 false (fun l=>∃n,l=[.int .i64 n]):=eqOk_int (show Tryz.prog.underlying 3=some (.int .i64) by kernel_rfl) (show tyC Tryz.prog 3=true by kernel_rfl)
def z0o(x:q8c):List Value:=[.int .i64 x.Kind]++([str x.Target]++([str x.Method]++([str x.Feature]++[])))
theorem inj_cv109(x y:q8c)(h:z0o x=z0o y):x=y:=by
 obtain⟨h0,h⟩:=List.append_inj h rfl
 obtain⟨h1,h⟩:=List.append_inj h rfl
 obtain⟨h2,h⟩:=List.append_inj h rfl
 obtain⟨h3,h⟩:=List.append_inj h rfl
 obtain⟨a0,a1,a2,a3⟩:=x
 obtain⟨b0,b1,b2,b3⟩:=y
 obtain rfl:a0=b0:=inj_int _ _ (List.cons.inj h0).1
 obtain rfl:a1=b1:=q2k _ _ (List.cons.inj h1).1
 obtain rfl:a2=b2:=q2k _ _ (List.cons.inj h2).1
 obtain rfl:a3=b3:=q2k _ _ (List.cons.inj h3).1
 rfl
def isAgg109(v:Value):Prop:=∃x:q8c,v=.agg (z0o x).toArray
theorem inj_agg109:∀a b:q8c,(Value.agg (z0o a).toArray)=.agg (z0o b).toArray->a=b:=fun a b h=>inj_cv109 a b (by simpa using congrArg Array.toList (Value.agg.inj h))
theorem eqp109 {d:Nat}:EqOk Tryz.prog (d+2) 109 4 true (fun l=>∃x:q8c,l=z0o x):=(q4v (d:=d+1) (fs:=[(Field.mk "Kind" 3 0 false "" "" 0),(Field.mk "Target" 9 1 false "" "" 8),(Field.mk "Method" 9 2 false "" "" 24),(Field.mk "Feature" 9 3 false "" "" 40)]) (by kernel_rfl) (by kernel_rfl) (by kernel_rfl) (by kernel_rfl) (q9o eqp3 (by simp) rfl (by simp) (q9o eqp9 (by simp) rfl (by simp) (q9o eqp9 (by simp) rfl (by simp) (q9o eqp9 (by simp) rfl (by simp) eqF_nil))))).weaken (fun l ⟨x,hx⟩=>by subst hx;exact⟨_,_,rfl,⟨_,rfl⟩,⟨_,_,rfl,⟨_,rfl⟩,⟨_,_,rfl,⟨_,rfl⟩,⟨_,_,rfl,⟨_,rfl⟩,rfl⟩⟩⟩⟩)
theorem eqk109:EqOk Tryz.prog 10000 109 4 true (fun l=>∃x:q8c,l=z0o x):=eqp109 (d:=9998)
def cv70(x:q1o):List Value:=[str x.Func]++([.int .i64 x.Call]++[])
theorem inj_cv70(x y:q1o)(h:cv70 x=cv70 y):x=y:=by
 obtain⟨h0,h⟩:=List.append_inj h rfl
 obtain⟨h1,h⟩:=List.append_inj h rfl
 obtain⟨a0,a1⟩:=x
 obtain⟨b0,b1⟩:=y
 obtain rfl:a0=b0:=q2k _ _ (List.cons.inj h0).1
 obtain rfl:a1=b1:=inj_int _ _ (List.cons.inj h1).1
 rfl
theorem eqp70 {d:Nat}:EqOk Tryz.prog (d+2) 70 2 true (fun l=>∃x:q1o,l=cv70 x):=(q4v (d:=d+1) (fs:=[(Field.mk "Func" 9 0 false "" "" 0),(Field.mk "Call" 3 1 false "" "" 16)]) (by kernel_rfl) (by kernel_rfl) (by kernel_rfl) (by kernel_rfl) (q9o eqp9 (by simp) rfl (by simp) (q9o eqp3 (by simp) rfl (by simp) eqF_nil))).weaken (fun l ⟨x,hx⟩=>by subst hx;exact⟨_,_,rfl,⟨_,rfl⟩,⟨_,_,rfl,⟨_,rfl⟩,rfl⟩⟩)
def cv80(x:q6k):List Value:=(cv70 x.Site)++([str x.To]++[])
theorem inj_cv80(x y:q6k)(h:cv80 x=cv80 y):x=y:=by
 obtain⟨h0,h⟩:=List.append_inj h rfl
 obtain⟨h1,h⟩:=List.append_inj h rfl
 obtain⟨a0,a1⟩:=x
 obtain⟨b0,b1⟩:=y
 obtain rfl:a0=b0:=inj_cv70 _ _ h0
 obtain rfl:a1=b1:=q2k _ _ (List.cons.inj h1).1
 rfl
theorem eqp80 {d:Nat}:EqOk Tryz.prog (d+3) 80 3 true (fun l=>∃x:q6k,l=cv80 x):=(q4v (d:=d+2) (fs:=[(Field.mk "Site" 70 0 false "" "" 0),(Field.mk "To" 9 2 false "" "" 24)]) (by kernel_rfl) (by kernel_rfl) (by kernel_rfl) (by kernel_rfl) (q9o eqp70 (by simp) rfl (by simp) (q9o eqp9 (by simp) rfl (by simp) eqF_nil))).weaken (fun l ⟨x,hx⟩=>by subst hx;exact⟨_,_,rfl,⟨_,rfl⟩,⟨_,_,rfl,⟨_,rfl⟩,rfl⟩⟩)
theorem eqk80:EqOk Tryz.prog 10000 80 3 true (fun l=>∃x:q6k,l=cv80 x):=eqp80 (d:=9997)
def cv76(x:q6c):List Value:=[str x.Type_]++([str x.Func]++[])
theorem inj_cv76(x y:q6c)(h:cv76 x=cv76 y):x=y:=by
 obtain⟨h0,h⟩:=List.append_inj h rfl
 obtain⟨h1,h⟩:=List.append_inj h rfl
 obtain⟨a0,a1⟩:=x
 obtain⟨b0,b1⟩:=y
 obtain rfl:a0=b0:=q2k _ _ (List.cons.inj h0).1
 obtain rfl:a1=b1:=q2k _ _ (List.cons.inj h1).1
 rfl
def isAgg76(v:Value):Prop:=∃x:q6c,v=.agg (cv76 x).toArray
theorem eqp76 {d:Nat}:EqOk Tryz.prog (d+2) 76 2 true (fun l=>∃x:q6c,l=cv76 x):=(q4v (d:=d+1) (fs:=[(Field.mk "Type" 9 0 false "" "" 0),(Field.mk "Func" 9 1 false "" "" 16)]) (by kernel_rfl) (by kernel_rfl) (by kernel_rfl) (by kernel_rfl) (q9o eqp9 (by simp) rfl (by simp) (q9o eqp9 (by simp) rfl (by simp) eqF_nil))).weaken (fun l ⟨x,hx⟩=>by subst hx;exact⟨_,_,rfl,⟨_,rfl⟩,⟨_,_,rfl,⟨_,rfl⟩,rfl⟩⟩)
theorem eqk76:EqOk Tryz.prog 10000 76 2 true (fun l=>∃x:q6c,l=cv76 x):=eqp76 (d:=9998)
def q4d(p:B8×Int):Value×V:=(str p.1,(iV p.2))
abbrev q9f(v:Int):V:=(iV v)
theorem q5w(xs:List (B8×Int))(k:B8)(v:Int):Puts (str k) (q9f v) (xs.map q4d) ((q7f xs k v).map q4d):=q2z (kv:=fun k=>str k) (ev:=q9f) q2k xs k v
theorem q4g(xs:List (B8×Int))(k:B8):Look (str k) (xs.map q4d) ((q8b xs k).map q9f):=q8t (kv:=fun k=>str k) (ev:=q9f) q2k xs k
theorem q8z{xs:List (B8×Int)}:∀p,p∈xs.map q4d->Imm p.2:=by
 intro p hp
 obtain⟨x,_,rfl⟩:=List.mem_map.1 hp
 exact(Imm.con _)
instance:EM q4d:=⟨fun _=>(Imm.con _)⟩
theorem q4f{xs:List (B8×Int)}:∀p,p∈xs.map q4d->isStr p.1:=by
 intro p hp
 obtain⟨x,_,rfl⟩:=List.mem_map.1 hp
 exact⟨_,rfl⟩
def q9k(p:B8×(List Int)):Value×V:=(str p.1,(V.lst 1 (p.2.map q6a)))
abbrev q2l(v:(List Int)):V:=(V.lst 1 (v.map q6a))
theorem q4m(xs:List (B8×(List Int)))(k:B8):Look (str k) (xs.map q9k) ((q8b xs k).map q2l):=q8t (kv:=fun k=>str k) (ev:=q2l) q2k xs k
instance:EM q9k:=⟨fun _=>(Imm.lst _ _)⟩
theorem q5m{xs:List (B8×(List Int))}:∀p,p∈xs.map q9k->isStr p.1:=by
 intro p hp
 obtain⟨x,_,rfl⟩:=List.mem_map.1 hp
 exact⟨_,rfl⟩
def q1b(p:B8×Bool):Value×V:=(str p.1,(bV p.2))
abbrev q2h(v:Bool):V:=(bV v)
theorem q5h(xs:List (B8×Bool))(k:B8)(v:Bool):Puts (str k) (q2h v) (xs.map q1b) ((q7f xs k v).map q1b):=q2z (kv:=fun k=>str k) (ev:=q2h) q2k xs k v
theorem q4h(xs:List (B8×Bool))(k:B8):Look (str k) (xs.map q1b) ((q8b xs k).map q2h):=q8t (kv:=fun k=>str k) (ev:=q2h) q2k xs k
theorem q6l{xs:List (B8×Bool)}:∀p,p∈xs.map q1b->Imm p.2:=by
 intro p hp
 obtain⟨x,_,rfl⟩:=List.mem_map.1 hp
 exact(Imm.con _)
theorem encM9_4_im(p:B8×Bool):Imm (q1b p).2:=(Imm.con _)
instance:EM q1b:=⟨fun _=>(Imm.con _)⟩
theorem q2e{xs:List (B8×Bool)}:∀p,p∈xs.map q1b->isStr p.1:=by
 intro p hp
 obtain⟨x,_,rfl⟩:=List.mem_map.1 hp
 exact⟨_,rfl⟩
def q2a(x:q8a):List V:=[(V.lst 2 (x.g.Ifaces.map q9c)),(V.lst 2 (x.g.Types.map q9d)),(V.lst 4 (x.g.Funcs.map q5c)),(V.lst 1 (x.g.Entries.map q6f)),(V.imap (x.funcs.map q4d)),(V.imap (x.types.map q4d)),(V.imap (x.fitting.map q9k)),(V.imap (x.on.map q1b)),(bV x.made)]
theorem z6h(x:q8a):q1p (q2a x):=(.cons (Imm.lst _ _) (.cons (Imm.lst _ _) (.cons (Imm.lst _ _) (.cons (Imm.lst _ _) (.cons (Imm.imap _) (.cons (Imm.imap _) (.cons (Imm.imap _) (.cons (Imm.imap _) (.cons (Imm.con _) .nil)))))))))
theorem z5j(x:q8a):(q2a x).all q1y=true:=rfl
instance:EI q2a:=⟨z6h,z5j⟩
@[simp] theorem len_encTreach_world(x:q8a):(q2a x).length=9:=rfl
def q7l(p:B8×q4e):Value×V:=(str p.1,(V.agg [(sV p.2.Name),(V.lst 1 (p.2.Methods.map q6f))]))
abbrev q5s(v:q4e):V:=(V.agg [(sV v.Name),(V.lst 1 (v.Methods.map q6f))])
theorem encM9_98_puts(xs:List (B8×q4e))(k:B8)(v:q4e):Puts (str k) (q5s v) (xs.map q7l) ((q7f xs k v).map q7l):=q2z (kv:=fun k=>str k) (ev:=q5s) q2k xs k v
theorem encM9_98_look(xs:List (B8×q4e))(k:B8):Look (str k) (xs.map q7l) ((q8b xs k).map q5s):=q8t (kv:=fun k=>str k) (ev:=q5s) q2k xs k
theorem encM9_98_imm{xs:List (B8×q4e)}:∀p,p∈xs.map q7l->Imm p.2:=by
 intro p hp
 obtain⟨x,_,rfl⟩:=List.mem_map.1 hp
 exact(Imm.agg (.cons (Imm.con _) (.cons (Imm.lst _ _) .nil)))
instance:EM q7l:=⟨fun _=>(Imm.agg (.cons (Imm.con _) (.cons (Imm.lst _ _) .nil)))⟩
theorem z2n{xs:List (B8×q4e)}:∀p,p∈xs.map q7l->isStr p.1:=by
 intro p hp
 obtain⟨x,_,rfl⟩:=List.mem_map.1 hp
 exact⟨_,rfl⟩
def q7d(x:q4c):List V:=[(bV x.loose),(V.imap (x.ifaces.map q7l)),(V.imap (x.types.map q1b)),(V.imap (x.funcs.map q1b))]
theorem z2b(x:q4c):q1p (q7d x):=(.cons (Imm.con _) (.cons (Imm.imap _) (.cons (Imm.imap _) (.cons (Imm.imap _) .nil))))
theorem z0c(x:q4c):(q7d x).all q1y=true:=rfl
instance:EI q7d:=⟨z2b,z0c⟩
@[simp] theorem len_encTreach_checker(x:q4c):(q7d x).length=4:=rfl
def q8p(p:B8×(List (B8×Bool))):Value×V:=(str p.1,(V.imap (p.2.map q1b)))
abbrev encM9_89_val(v:(List (B8×Bool))):V:=(V.imap (v.map q1b))
theorem z4n(xs:List (B8×(List (B8×Bool))))(k:B8):Look (str k) (xs.map q8p) ((q8b xs k).map encM9_89_val):=q8t (kv:=fun k=>str k) (ev:=encM9_89_val) q2k xs k
instance:EM q8p:=⟨fun _=>(Imm.imap _)⟩
theorem z5n{xs:List (B8×(List (B8×Bool)))}:∀p,p∈xs.map q8p->isStr p.1:=by
 intro p hp
 obtain⟨x,_,rfl⟩:=List.mem_map.1 hp
 exact⟨_,rfl⟩
def q3i(x:q0d):List V:=[(V.imap (x.ifaces.map q8p)),(V.imap (x.types.map q1b)),(V.imap (x.funcs.map q1b))]
theorem q9t(x:q0d):q1p (q3i x):=(.cons (Imm.imap _) (.cons (Imm.imap _) (.cons (Imm.imap _) .nil)))
theorem q9u(x:q0d):(q3i x).all q1y=true:=rfl
instance:EI q3i:=⟨q9t,q9u⟩
@[simp] theorem len_encTprovenderref6_names(x:q0d):(q3i x).length=3:=rfl
def q1c(x:q6b):List V:=[(V.lst 2 (x.g.Ifaces.map q9c)),(V.lst 2 (x.g.Types.map q9d)),(V.lst 4 (x.g.Funcs.map q5c)),(V.lst 1 (x.g.Entries.map q6f)),(V.imap (x.n.ifaces.map q8p)),(V.imap (x.n.types.map q1b)),(V.imap (x.n.funcs.map q1b)),(bV x.loose)]
theorem q0s(x:q6b):q1p (q1c x):=(.cons (Imm.lst _ _) (.cons (Imm.lst _ _) (.cons (Imm.lst _ _) (.cons (Imm.lst _ _) (.cons (Imm.imap _) (.cons (Imm.imap _) (.cons (Imm.imap _) (.cons (Imm.con _) .nil))))))))
theorem q0t(x:q6b):(q1c x).all q1y=true:=rfl
instance:EI q1c:=⟨q0s,q0t⟩
@[simp] theorem len_encTprovenderref6_checker(x:q6b):(q1c x).length=8:=rfl
def q0c(x:q3a):List V:=[(sV x.typ),(sV x.to)]
theorem q9l(x:q3a):q1p (q0c x):=(.cons (Imm.con _) (.cons (Imm.con _) .nil))
theorem q9w(x:q3a):(q0c x).all q1y=true:=rfl
instance:EI q0c:=⟨q9l,q9w⟩
@[simp] theorem len_encTprovenderref6_aim(x:q3a):(q0c x).length=2:=rfl
def q9a(x:q0a):List V:=[(sV x.site.Func),(iV x.site.Call),(V.lst 2 (x.aims.map q0c))]
theorem q3l(x:q0a):q1p (q9a x):=(.cons (Imm.con _) (.cons (Imm.con _) (.cons (Imm.lst _ _) .nil)))
theorem q5o(x:q0a):(q9a x).all q1y=true:=rfl
instance:EI q9a:=⟨q3l,q5o⟩
@[simp] theorem len_encTprovenderref6_link(x:q0a):(q9a x).length=3:=rfl
def q0q(p:B8×(List q0a)):Value×V:=(str p.1,(V.lst 3 (p.2.map q9a)))
abbrev q9p(v:(List q0a)):V:=(V.lst 3 (v.map q9a))
theorem q1x(xs:List (B8×(List q0a)))(k:B8):Look (str k) (xs.map q0q) ((q8b xs k).map q9p):=q8t (kv:=fun k=>str k) (ev:=q9p) q2k xs k
instance:EM q0q:=⟨fun _=>(Imm.lst _ _)⟩
theorem q2x{xs:List (B8×(List q0a))}:∀p,p∈xs.map q0q->isStr p.1:=by
 intro p hp
 obtain⟨x,_,rfl⟩:=List.mem_map.1 hp
 exact⟨_,rfl⟩
def q1l(p:B8×q5e):Value×V:=(str p.1,(V.agg [(sV p.2.Name),(sV p.2.Component),(V.lst 4 (p.2.Calls.map q2d)),(V.lst 1 (p.2.Makes.map q6f))]))
abbrev q6s(v:q5e):V:=(V.agg [(sV v.Name),(sV v.Component),(V.lst 4 (v.Calls.map q2d)),(V.lst 1 (v.Makes.map q6f))])
theorem encM9_94_puts(xs:List (B8×q5e))(k:B8)(v:q5e):Puts (str k) (q6s v) (xs.map q1l) ((q7f xs k v).map q1l):=q2z (kv:=fun k=>str k) (ev:=q6s) q2k xs k v
theorem encM9_94_look(xs:List (B8×q5e))(k:B8):Look (str k) (xs.map q1l) ((q8b xs k).map q6s):=q8t (kv:=fun k=>str k) (ev:=q6s) q2k xs k
theorem encM9_94_imm{xs:List (B8×q5e)}:∀p,p∈xs.map q1l->Imm p.2:=by
 intro p hp
 obtain⟨x,_,rfl⟩:=List.mem_map.1 hp
 exact(Imm.agg (.cons (Imm.con _) (.cons (Imm.con _) (.cons (Imm.lst _ _) (.cons (Imm.lst _ _) .nil)))))
instance:EM q1l:=⟨fun _=>(Imm.agg (.cons (Imm.con _) (.cons (Imm.con _) (.cons (Imm.lst _ _) (.cons (Imm.lst _ _) .nil)))))⟩
theorem z3n{xs:List (B8×q5e)}:∀p,p∈xs.map q1l->isStr p.1:=by
 intro p hp
 obtain⟨x,_,rfl⟩:=List.mem_map.1 hp
 exact⟨_,rfl⟩
def q0b(x:q2b):List V:=[(V.lst 2 (x.g.Ifaces.map q9c)),(V.lst 2 (x.g.Types.map q9d)),(V.lst 4 (x.g.Funcs.map q5c)),(V.lst 1 (x.g.Entries.map q6f)),(V.imap (x.links.map q0q)),(V.imap (x.funcs.map q1l))]
theorem q0w(x:q2b):q1p (q0b x):=(.cons (Imm.lst _ _) (.cons (Imm.lst _ _) (.cons (Imm.lst _ _) (.cons (Imm.lst _ _) (.cons (Imm.imap _) (.cons (Imm.imap _) .nil))))))
theorem q8w(x:q2b):(q0b x).all q1y=true:=rfl
instance:EI q0b:=⟨q0w,q8w⟩
@[simp] theorem len_encTprovenderref6_net(x:q2b):(q0b x).length=6:=rfl
def encL3(x:(List Int)):List V:=[V.lst 1 (x.map q6a)]
theorem imms_encL3(x:(List Int)):q1p (encL3 x):=(.cons (Imm.lst _ _) .nil)
theorem one_encL3(x:(List Int)):(encL3 x).all q1y=true:=rfl
instance:EI encL3:=⟨imms_encL3,one_encL3⟩
def q7b(x:q1a):List V:=[(sV x.iface),(sV x.method)]
theorem q8d(x:q1a):q1p (q7b x):=(.cons (Imm.con _) (.cons (Imm.con _) .nil))
theorem q2w(x:q1a):(q7b x).all q1y=true:=rfl
instance:EI q7b:=⟨q8d,q2w⟩
@[simp] theorem len_encTreach_slot(x:q1a):(q7b x).length=2:=rfl
def q0e(p:q1a×Bool):Value×V:=(.agg (z9n p.1).toArray,(bV p.2))
abbrev q1q(v:Bool):V:=(bV v)
theorem encM304_4_puts(xs:List (q1a×Bool))(k:q1a)(v:Bool):Puts (.agg (z9n k).toArray) (q1q v) (xs.map q0e) ((q7f xs k v).map q0e):=q2z (kv:=fun k=>.agg (z9n k).toArray) (ev:=q1q) inj_agg304 xs k v
theorem encM304_4_look(xs:List (q1a×Bool))(k:q1a):Look (.agg (z9n k).toArray) (xs.map q0e) ((q8b xs k).map q1q):=q8t (kv:=fun k=>.agg (z9n k).toArray) (ev:=q1q) inj_agg304 xs k
theorem q0g{xs:List (q1a×Bool)}:∀p,p∈xs.map q0e->Imm p.2:=by
 intro p hp
 obtain⟨x,_,rfl⟩:=List.mem_map.1 hp
 exact(Imm.con _)
instance:EM q0e:=⟨fun _=>(Imm.con _)⟩
theorem z6i{xs:List (q1a×Bool)}:∀p,p∈xs.map q0e->(isAgg304) p.1:=by
 intro p hp
 obtain⟨x,_,rfl⟩:=List.mem_map.1 hp
 exact⟨_,rfl⟩
def q9b(x:q2c):List V:=[(optr q2a x.w),(V.lst 1 (x.funcs.map q3j)),(V.lst 1 (x.made.map q3j)),(V.imap (x.slots.map q0e)),(V.lst 2 (x.order.map q7b)),(V.lst 1 (x.types.map q6a)),(V.lst 1 (x.queue.map q6a))]
theorem z5c(x:q2c):q1p (q9b x):=(.cons (imm_optr _) (.cons (Imm.lst _ _) (.cons (Imm.lst _ _) (.cons (Imm.imap _) (.cons (Imm.lst _ _) (.cons (Imm.lst _ _) (.cons (Imm.lst _ _) .nil)))))))
theorem z5h(x:q2c):(q9b x).all q1y=true:=by unfold q9b;simp only[List.all_cons,List.all_nil,one_optr,Bool.true_and];rfl
instance:EI q9b:=⟨z5c,z5h⟩
@[simp] theorem len_encTreach_spread(x:q2c):(q9b x).length=7:=rfl
def q7a(x:q4a):List V:=[(V.imap (x.reached.map q1b)),(V.imap (x.made.map q1b))]
theorem q2v(x:q4a):q1p (q7a x):=(.cons (Imm.imap _) (.cons (Imm.imap _) .nil))
theorem q9v(x:q4a):(q7a x).all q1y=true:=rfl
instance:EI q7a:=⟨q2v,q9v⟩
@[simp] theorem len_encTprovenderref6_sets(x:q4a):(q7a x).length=2:=rfl
def q9h(p:B8×(List Int)):Value×V:=(str p.1,(V.dsl 3 1 (p.2.map q6a)))
theorem z8n(p:B8×(List Int)):(q9h p).1=(q9k p).1/\Und (q9h p).2 (q9k p).2/\z9f (q9h p).2:=⟨rfl,und_rows q5b _,z9f.dsl _ _ _⟩
instance:EMK q9h:=⟨fun p=>(z8n p).2.2⟩
theorem encM9_387_good{xs:List (B8×(List Int))}:∀p,p∈xs.map q9h->isStr p.1:=by
 intro p hp
 obtain⟨x,_,rfl⟩:=List.mem_map.1 hp
 exact⟨_,rfl⟩
def q2t(p:B8×B8):Value×V:=(str p.1,(sV p.2))
abbrev encM9_9_val(v:B8):V:=(sV v)
theorem encM9_9_puts(xs:List (B8×B8))(k:B8)(v:B8):Puts (str k) (encM9_9_val v) (xs.map q2t) ((q7f xs k v).map q2t):=q2z (kv:=fun k=>str k) (ev:=encM9_9_val) q2k xs k v
theorem encM9_9_imm{xs:List (B8×B8)}:∀p,p∈xs.map q2t->Imm p.2:=by
 intro p hp
 obtain⟨x,_,rfl⟩:=List.mem_map.1 hp
 exact(Imm.con _)
instance:EM q2t:=⟨fun _=>(Imm.con _)⟩
theorem encM9_9_good{xs:List (B8×B8)}:∀p,p∈xs.map q2t->isStr p.1:=by
 intro p hp
 obtain⟨x,_,rfl⟩:=List.mem_map.1 hp
 exact⟨_,rfl⟩
def q9j(p:B8×(List (B8×Bool))):Value×V:=(str p.1,(V.dmp (p.2.map q1b)))
theorem z7n(p:B8×(List (B8×Bool))):(q9j p).1=(q8p p).1/\Und (q9j p).2 (q8p p).2/\z9f (q9j p).2:=⟨rfl,und_ents encM9_4_im _,z9f.dmp _⟩
instance:EMK q9j:=⟨fun p=>(z7n p).2.2⟩
theorem z5i{xs:List (B8×(List (B8×Bool)))}:∀p,p∈xs.map q9j->isStr p.1:=by
 intro p hp
 obtain⟨x,_,rfl⟩:=List.mem_map.1 hp
 exact⟨_,rfl⟩
def q7i(p:B8×(List q0a)):Value×V:=(str p.1,(V.dsl 219 3 (p.2.map q9a)))
theorem z6n(p:B8×(List q0a)):(q7i p).1=(q0q p).1/\Und (q7i p).2 (q0q p).2/\z9f (q7i p).2:=⟨rfl,und_rows q3l _,z9f.dsl _ _ _⟩
instance:EMK q7i:=⟨fun p=>(z6n p).2.2⟩
theorem encM9_389_good{xs:List (B8×(List q0a))}:∀p,p∈xs.map q7i->isStr p.1:=by
 intro p hp
 obtain⟨x,_,rfl⟩:=List.mem_map.1 hp
 exact⟨_,rfl⟩
def q3k(p:q8c×(List q3a)):Value×V:=(.agg (z0o p.1).toArray,(V.lst 2 (p.2.map q0c)))
abbrev q8n(v:(List q3a)):V:=(V.lst 2 (v.map q0c))
theorem encM109_217_puts(xs:List (q8c×(List q3a)))(k:q8c)(v:(List q3a)):Puts (.agg (z0o k).toArray) (q8n v) (xs.map q3k) ((q7f xs k v).map q3k):=q2z (kv:=fun k=>.agg (z0o k).toArray) (ev:=q8n) inj_agg109 xs k v
theorem encM109_217_look(xs:List (q8c×(List q3a)))(k:q8c):Look (.agg (z0o k).toArray) (xs.map q3k) ((q8b xs k).map q8n):=q8t (kv:=fun k=>.agg (z0o k).toArray) (ev:=q8n) inj_agg109 xs k
instance:EM q3k:=⟨fun _=>(Imm.lst _ _)⟩
theorem z0b{xs:List (q8c×(List q3a))}:∀p,p∈xs.map q3k->(isAgg109) p.1:=by
 intro p hp
 obtain⟨x,_,rfl⟩:=List.mem_map.1 hp
 exact⟨_,rfl⟩
theorem tS27:tyS Tryz.prog 27 4=true:=by kernel_rfl
theorem tA27:tyA Tryz.prog 27 4=true:=by kernel_rfl
theorem tZ61:zeroCells Tryz.prog 61=some [.string ⟨#[]⟩,.slice none 0 0,.slice none 0 0]:=by kernel_rfl
theorem tZ124:zeroCells Tryz.prog 124=some [.bool false,.map none,.map none,.map none]:=by kernel_rfl
theorem tPl124:q8j Tryz.prog 124=some [(0,1),(1,1),(2,1),(3,1)]:=by kernel_rfl
theorem tS124:tyS Tryz.prog 124 4=true:=by kernel_rfl
theorem tF27_0:tyF Tryz.prog 27 0 0=true:=by kernel_rfl
theorem tC22:tyC Tryz.prog 22=true:=by kernel_rfl
theorem tIsSl22:q1k Tryz.prog 22=true:=by kernel_rfl
theorem tSl22:tySl Tryz.prog 22 2=true:=by kernel_rfl
theorem tA98:tyA Tryz.prog 98 2=true:=by kernel_rfl
theorem tZ98:zeroCells Tryz.prog 98=some [.string ⟨#[]⟩,.slice none 0 0]:=by kernel_rfl
theorem tS98:tyS Tryz.prog 98 2=true:=by kernel_rfl
theorem tF124_1:tyF Tryz.prog 124 1 1=true:=by kernel_rfl
theorem tC122:tyC Tryz.prog 122=true:=by kernel_rfl
theorem tF98_0:tyF Tryz.prog 98 0 0=true:=by kernel_rfl
theorem tC9:tyC Tryz.prog 9=true:=by kernel_rfl
theorem tMap122:q9s Tryz.prog 122 9 98=true:=by kernel_rfl
theorem q3h:KeyT Tryz.prog 9 isStr:=keyT_str (by kernel_rfl)
theorem tF27_1:tyF Tryz.prog 27 1 1=true:=by kernel_rfl
theorem tC23:tyC Tryz.prog 23=true:=by kernel_rfl
theorem tIsSl23:q1k Tryz.prog 23=true:=by kernel_rfl
theorem tSl23:tySl Tryz.prog 23 2=true:=by kernel_rfl
theorem tA104:tyA Tryz.prog 104 2=true:=by kernel_rfl
theorem tZ104:zeroCells Tryz.prog 104=some [.string ⟨#[]⟩,.slice none 0 0]:=by kernel_rfl
theorem tS104:tyS Tryz.prog 104 2=true:=by kernel_rfl
theorem tF124_2:tyF Tryz.prog 124 2 2=true:=by kernel_rfl
theorem tC89:tyC Tryz.prog 89=true:=by kernel_rfl
theorem tF104_0:tyF Tryz.prog 104 0 0=true:=by kernel_rfl
theorem q2j:q9s Tryz.prog 89 9 4=true:=by kernel_rfl
theorem tF27_2:tyF Tryz.prog 27 2 2=true:=by kernel_rfl
theorem tC24:tyC Tryz.prog 24=true:=by kernel_rfl
theorem tIsSl24:q1k Tryz.prog 24=true:=by kernel_rfl
theorem tSl24:tySl Tryz.prog 24 4=true:=by kernel_rfl
theorem tA94:tyA Tryz.prog 94 4=true:=by kernel_rfl
theorem tZ94:zeroCells Tryz.prog 94=some [.string ⟨#[]⟩,.string ⟨#[]⟩,.slice none 0 0,.slice none 0 0]:=by kernel_rfl
theorem tS94:tyS Tryz.prog 94 4=true:=by kernel_rfl
theorem tF124_3:tyF Tryz.prog 124 3 3=true:=by kernel_rfl
theorem tF94_0:tyF Tryz.prog 94 0 0=true:=by kernel_rfl
theorem tA124:tyA Tryz.prog 124 4=true:=by kernel_rfl
theorem fOk59:q2m Tryz.prog 59=true:=by kernel_rfl
theorem tStr9:tyStr Tryz.prog 9=true:=by kernel_rfl
theorem fOk79:q2m Tryz.prog 79=true:=by kernel_rfl
theorem fOk173:q2m Tryz.prog 173=true:=by kernel_rfl
theorem tF98_1:tyF Tryz.prog 98 1 1=true:=by kernel_rfl
theorem tC25:tyC Tryz.prog 25=true:=by kernel_rfl
theorem tIsSl25:q1k Tryz.prog 25=true:=by kernel_rfl
theorem tSl25:tySl Tryz.prog 25 1=true:=by kernel_rfl
theorem fOk127:q2m Tryz.prog 127=true:=by kernel_rfl
theorem tF104_1:tyF Tryz.prog 104 1 1=true:=by kernel_rfl
theorem tC102:tyC Tryz.prog 102=true:=by kernel_rfl
theorem tIsSl102:q1k Tryz.prog 102=true:=by kernel_rfl
theorem tSl102:tySl Tryz.prog 102 2=true:=by kernel_rfl
theorem tA116:tyA Tryz.prog 116 2=true:=by kernel_rfl
theorem tZ116:zeroCells Tryz.prog 116=some [.string ⟨#[]⟩,.string ⟨#[]⟩]:=by kernel_rfl
theorem tS116:tyS Tryz.prog 116 2=true:=by kernel_rfl
theorem tF116_0:tyF Tryz.prog 116 0 0=true:=by kernel_rfl
theorem tF124_0:tyF Tryz.prog 124 0 0=true:=by kernel_rfl
theorem tC4:tyC Tryz.prog 4=true:=by kernel_rfl
theorem tF116_1:tyF Tryz.prog 116 1 1=true:=by kernel_rfl
theorem tZo4:(Tryz.prog.info? 4).bind (·.zero)=some (.bool false):=by kernel_rfl
theorem fOk128:q2m Tryz.prog 128=true:=by kernel_rfl
theorem tF94_1:tyF Tryz.prog 94 1 1=true:=by kernel_rfl
theorem tF94_2:tyF Tryz.prog 94 2 2=true:=by kernel_rfl
theorem tC92:tyC Tryz.prog 92=true:=by kernel_rfl
theorem tIsSl92:q1k Tryz.prog 92=true:=by kernel_rfl
theorem tSl92:tySl Tryz.prog 92 4=true:=by kernel_rfl
theorem tA109:tyA Tryz.prog 109 4=true:=by kernel_rfl
theorem tZ109:zeroCells Tryz.prog 109=some [.int .i64 0,.string ⟨#[]⟩,.string ⟨#[]⟩,.string ⟨#[]⟩]:=by kernel_rfl
theorem tS109:tyS Tryz.prog 109 4=true:=by kernel_rfl
theorem tF109_0:tyF Tryz.prog 109 0 0=true:=by kernel_rfl
theorem tC3:tyC Tryz.prog 3=true:=by kernel_rfl
theorem tF109_1:tyF Tryz.prog 109 1 1=true:=by kernel_rfl
theorem tF109_2:tyF Tryz.prog 109 2 2=true:=by kernel_rfl
theorem tZo98:(Tryz.prog.info? 98).bind (·.zero)=some (.agg #[.string ⟨#[]⟩,.slice none 0 0]):=by kernel_rfl
theorem fOk86:q2m Tryz.prog 86=true:=by kernel_rfl
theorem fOk23:q2m Tryz.prog 23=true:=by kernel_rfl
theorem tF109_3:tyF Tryz.prog 109 3 3=true:=by kernel_rfl
theorem fOk174:q2m Tryz.prog 174=true:=by kernel_rfl
theorem tF94_3:tyF Tryz.prog 94 3 3=true:=by kernel_rfl
theorem fOk130:q2m Tryz.prog 130=true:=by kernel_rfl
theorem fOk129:q2m Tryz.prog 129=true:=by kernel_rfl
theorem tF27_3:tyF Tryz.prog 27 3 3=true:=by kernel_rfl
theorem fOk60:q2m Tryz.prog 60=true:=by kernel_rfl
theorem fOk17:q2m Tryz.prog 17=true:=by kernel_rfl
theorem fOk143:q2m Tryz.prog 143=true:=by kernel_rfl
theorem tZ91:zeroCells Tryz.prog 91=some [.slice none 0 0,.slice none 0 0,.slice none 0 0,.slice none 0 0,.map none,.map none,.map none,.map none,.bool false]:=by kernel_rfl
theorem tPl91:q8j Tryz.prog 91=some [(0,4),(4,1),(5,1),(6,1),(7,1),(8,1)]:=by kernel_rfl
theorem tS91:tyS Tryz.prog 91 9=true:=by kernel_rfl
theorem tF91_1:tyF Tryz.prog 91 1 4=true:=by kernel_rfl
theorem tC87:tyC Tryz.prog 87=true:=by kernel_rfl
theorem q2n:q9s Tryz.prog 87 9 3=true:=by kernel_rfl
theorem tF91_2:tyF Tryz.prog 91 2 5=true:=by kernel_rfl
theorem tI244:tyI Tryz.prog 244 .u64=true:=by kernel_rfl
theorem tUn3:tyU Tryz.prog 3=true:=by kernel_rfl
theorem tI3:tyI Tryz.prog 3 .i64=true:=by kernel_rfl
theorem tUn244:tyU Tryz.prog 244=true:=by kernel_rfl
theorem fOk158:q2m Tryz.prog 158=true:=by kernel_rfl
theorem fOk100:q2m Tryz.prog 100=true:=by kernel_rfl
theorem fOk208:q2m Tryz.prog 208=true:=by kernel_rfl
theorem fOk207:q2m Tryz.prog 207=true:=by kernel_rfl
theorem fOk169:q2m Tryz.prog 169=true:=by kernel_rfl
theorem fOk117:q2m Tryz.prog 117=true:=by kernel_rfl
theorem tF91_3:tyF Tryz.prog 91 3 6=true:=by kernel_rfl
theorem tC88:tyC Tryz.prog 88=true:=by kernel_rfl
theorem z0m:q9s Tryz.prog 88 9 165=true:=by kernel_rfl
theorem tZo165:(Tryz.prog.info? 165).bind (·.zero)=some (.slice none 0 0):=by kernel_rfl
theorem q6u:tyEl Tryz.prog 165 3 1 8=true:=by kernel_rfl
theorem tZ3:zeroCells Tryz.prog 3=some [.int .i64 0]:=by kernel_rfl
theorem tIsSl165:q1k Tryz.prog 165=true:=by kernel_rfl
theorem tF91_4:tyF Tryz.prog 91 4 7=true:=by kernel_rfl
theorem fOk41:q2m Tryz.prog 41=true:=by kernel_rfl
theorem fOk78:q2m Tryz.prog 78=true:=by kernel_rfl
theorem tZo3:(Tryz.prog.info? 3).bind (·.zero)=some (.int .i64 0):=by kernel_rfl
theorem fOk90:q2m Tryz.prog 90=true:=by kernel_rfl
theorem tPl61:q8j Tryz.prog 61=some [(0,1),(1,1),(2,1)]:=by kernel_rfl
theorem tS61:tyS Tryz.prog 61 3=true:=by kernel_rfl
theorem tA61:tyA Tryz.prog 61 3=true:=by kernel_rfl
theorem tF91_0:tyF Tryz.prog 91 0 0=true:=by kernel_rfl
theorem tZ170:zeroCells Tryz.prog 170=some [.pointer none,.slice none 0 0,.slice none 0 0,.map none,.slice none 0 0,.slice none 0 0,.slice none 0 0]:=by kernel_rfl
theorem tPl170:q8j Tryz.prog 170=some [(0,1),(1,1),(2,1),(3,1),(4,1),(5,1),(6,1)]:=by kernel_rfl
theorem tS170:tyS Tryz.prog 170 7=true:=by kernel_rfl
theorem tEl164:tyEl Tryz.prog 164 4 1 1=true:=by kernel_rfl
theorem tZ4:zeroCells Tryz.prog 4=some [.bool false]:=by kernel_rfl
theorem tF170_1:tyF Tryz.prog 170 1 1=true:=by kernel_rfl
theorem tC164:tyC Tryz.prog 164=true:=by kernel_rfl
theorem tSl164:tySl Tryz.prog 164 1=true:=by kernel_rfl
theorem tS4:tyS Tryz.prog 4 1=true:=by kernel_rfl
theorem tF170_6:tyF Tryz.prog 170 6 6=true:=by kernel_rfl
theorem tC165:tyC Tryz.prog 165=true:=by kernel_rfl
theorem tS165:tyS Tryz.prog 165 1=true:=by kernel_rfl
theorem fOk148:q2m Tryz.prog 148=true:=by kernel_rfl
theorem tSl165:tySl Tryz.prog 165 1=true:=by kernel_rfl
theorem tF170_2:tyF Tryz.prog 170 2 2=true:=by kernel_rfl
theorem tF170_0:tyF Tryz.prog 170 0 0=true:=by kernel_rfl
theorem tC83:tyC Tryz.prog 83=true:=by kernel_rfl
theorem tF91_5:tyF Tryz.prog 91 5 8=true:=by kernel_rfl
theorem tF170_4:tyF Tryz.prog 170 4 4=true:=by kernel_rfl
theorem tC168:tyC Tryz.prog 168=true:=by kernel_rfl
theorem tIsSl168:q1k Tryz.prog 168=true:=by kernel_rfl
theorem tSl168:tySl Tryz.prog 168 2=true:=by kernel_rfl
theorem tA304:tyA Tryz.prog 304 2=true:=by kernel_rfl
theorem tZ304:zeroCells Tryz.prog 304=some [.string ⟨#[]⟩,.string ⟨#[]⟩]:=by kernel_rfl
theorem tS304:tyS Tryz.prog 304 2=true:=by kernel_rfl
theorem tF304_0:tyF Tryz.prog 304 0 0=true:=by kernel_rfl
theorem fOk204:q2m Tryz.prog 204=true:=by kernel_rfl
theorem fOk164:q2m Tryz.prog 164=true:=by kernel_rfl
theorem tF304_1:tyF Tryz.prog 304 1 1=true:=by kernel_rfl
theorem tPl109:q8j Tryz.prog 109=some [(0,1),(1,1),(2,1),(3,1)]:=by kernel_rfl
theorem fOk151:q2m Tryz.prog 151=true:=by kernel_rfl
theorem fOk149:q2m Tryz.prog 149=true:=by kernel_rfl
theorem tPl304:q8j Tryz.prog 304=some [(0,1),(1,1)]:=by kernel_rfl
theorem tF170_3:tyF Tryz.prog 170 3 3=true:=by kernel_rfl
theorem tC167:tyC Tryz.prog 167=true:=by kernel_rfl
theorem tMap167:q9s Tryz.prog 167 304 4=true:=by kernel_rfl
theorem tKey304:KeyT Tryz.prog 304 isAgg304:=keyT_agg eqk304 (by kernel_rfl) (fun v ⟨x,hx⟩=>⟨_,⟨x,rfl⟩,hx⟩)
theorem tS168:tyS Tryz.prog 168 1=true:=by kernel_rfl
theorem tEl168:tyEl Tryz.prog 168 304 2 32=true:=by kernel_rfl
theorem fOk150:q2m Tryz.prog 150=true:=by kernel_rfl
theorem fOk89:q2m Tryz.prog 89=true:=by kernel_rfl
theorem tEl264:tyEl Tryz.prog 264 165 1 24=true:=by kernel_rfl
theorem tZ165:zeroCells Tryz.prog 165=some [.slice none 0 0]:=by kernel_rfl
theorem fOk156:q2m Tryz.prog 156=true:=by kernel_rfl
theorem tIsSl164:q1k Tryz.prog 164=true:=by kernel_rfl
theorem fOk152:q2m Tryz.prog 152=true:=by kernel_rfl
theorem fOk153:q2m Tryz.prog 153=true:=by kernel_rfl
theorem fOk92:q2m Tryz.prog 92=true:=by kernel_rfl
theorem tSl264:tySl Tryz.prog 264 1=true:=by kernel_rfl
theorem tS3:tyS Tryz.prog 3 1=true:=by kernel_rfl
theorem fOk94:q2m Tryz.prog 94=true:=by kernel_rfl
theorem tZ80:zeroCells Tryz.prog 80=some [.string ⟨#[]⟩,.int .i64 0,.string ⟨#[]⟩]:=by kernel_rfl
theorem tZ70:zeroCells Tryz.prog 70=some [.string ⟨#[]⟩,.int .i64 0]:=by kernel_rfl
theorem tPl70:q8j Tryz.prog 70=some [(0,1),(1,1)]:=by kernel_rfl
theorem tPl80:q8j Tryz.prog 80=some [(0,2),(2,1)]:=by kernel_rfl
theorem tS80:tyS Tryz.prog 80 3=true:=by kernel_rfl
theorem tA80:tyA Tryz.prog 80 3=true:=by kernel_rfl
theorem fOk95:q2m Tryz.prog 95=true:=by kernel_rfl
theorem fOk96:q2m Tryz.prog 96=true:=by kernel_rfl
theorem fOk97:q2m Tryz.prog 97=true:=by kernel_rfl
theorem tMap183:q9s Tryz.prog 183 9 9=true:=by kernel_rfl
theorem tF61_1:tyF Tryz.prog 61 1 1=true:=by kernel_rfl
theorem tC58:tyC Tryz.prog 58=true:=by kernel_rfl
theorem tEl58:tyEl Tryz.prog 58 80 3 40=true:=by kernel_rfl
theorem tIsSl58:q1k Tryz.prog 58=true:=by kernel_rfl
theorem tS58:tyS Tryz.prog 58 1=true:=by kernel_rfl
theorem tF61_2:tyF Tryz.prog 61 2 2=true:=by kernel_rfl
theorem tC59:tyC Tryz.prog 59=true:=by kernel_rfl
theorem tZ76:zeroCells Tryz.prog 76=some [.string ⟨#[]⟩,.string ⟨#[]⟩]:=by kernel_rfl
theorem tPl76:q8j Tryz.prog 76=some [(0,1),(1,1)]:=by kernel_rfl
theorem tEl59:tyEl Tryz.prog 59 76 2 32=true:=by kernel_rfl
theorem tIsSl59:q1k Tryz.prog 59=true:=by kernel_rfl
theorem tS59:tyS Tryz.prog 59 1=true:=by kernel_rfl
theorem tS76:tyS Tryz.prog 76 2=true:=by kernel_rfl
theorem tF76_0:tyF Tryz.prog 76 0 0=true:=by kernel_rfl
theorem fOk98:q2m Tryz.prog 98=true:=by kernel_rfl
theorem fOk28:q2m Tryz.prog 28=true:=by kernel_rfl
theorem z7b:tyEl Tryz.prog 25 9 1 16=true:=by kernel_rfl
theorem tZ9:zeroCells Tryz.prog 9=some [.string ⟨#[]⟩]:=by kernel_rfl
theorem tZ138:zeroCells Tryz.prog 138=some [.map none,.map none,.map none]:=by kernel_rfl
theorem tPl138:q8j Tryz.prog 138=some [(0,1),(1,1),(2,1)]:=by kernel_rfl
theorem tS138:tyS Tryz.prog 138 3=true:=by kernel_rfl
theorem tF138_0:tyF Tryz.prog 138 0 0=true:=by kernel_rfl
theorem tC136:tyC Tryz.prog 136=true:=by kernel_rfl
theorem tMap136:q9s Tryz.prog 136 9 89=true:=by kernel_rfl
theorem tF138_1:tyF Tryz.prog 138 1 1=true:=by kernel_rfl
theorem tF138_2:tyF Tryz.prog 138 2 2=true:=by kernel_rfl
theorem tA138:tyA Tryz.prog 138 3=true:=by kernel_rfl
theorem fOk72:q2m Tryz.prog 72=true:=by kernel_rfl
theorem tZ141:zeroCells Tryz.prog 141=some [.slice none 0 0,.slice none 0 0,.slice none 0 0,.slice none 0 0,.map none,.map none,.map none,.bool false]:=by kernel_rfl
theorem tPl141:q8j Tryz.prog 141=some [(0,4),(4,3),(7,1)]:=by kernel_rfl
theorem tS141:tyS Tryz.prog 141 8=true:=by kernel_rfl
theorem tF141_0:tyF Tryz.prog 141 0 0=true:=by kernel_rfl
theorem tA141:tyA Tryz.prog 141 8=true:=by kernel_rfl
theorem fOk82:q2m Tryz.prog 82=true:=by kernel_rfl
theorem fOk139:q2m Tryz.prog 139=true:=by kernel_rfl
theorem fOk136:q2m Tryz.prog 136=true:=by kernel_rfl
theorem tF141_2:tyF Tryz.prog 141 2 7=true:=by kernel_rfl
theorem tF141_1:tyF Tryz.prog 141 1 4=true:=by kernel_rfl
theorem fOk137:q2m Tryz.prog 137=true:=by kernel_rfl
theorem tZo89:(Tryz.prog.info? 89).bind (·.zero)=some (.map none):=by kernel_rfl
theorem fOk187:q2m Tryz.prog 187=true:=by kernel_rfl
theorem fOk138:q2m Tryz.prog 138=true:=by kernel_rfl
theorem fOk73:q2m Tryz.prog 73=true:=by kernel_rfl
theorem fOk18:q2m Tryz.prog 18=true:=by kernel_rfl
theorem fOk81:q2m Tryz.prog 81=true:=by kernel_rfl
theorem tPl94:q8j Tryz.prog 94=some [(0,1),(1,1),(2,1),(3,1)]:=by kernel_rfl
theorem fOk125:q2m Tryz.prog 125=true:=by kernel_rfl
theorem fOk101:q2m Tryz.prog 101=true:=by kernel_rfl
theorem tZ155:zeroCells Tryz.prog 155=some [.slice none 0 0,.slice none 0 0,.slice none 0 0,.slice none 0 0,.map none,.map none]:=by kernel_rfl
theorem tPl155:q8j Tryz.prog 155=some [(0,4),(4,1),(5,1)]:=by kernel_rfl
theorem tS155:tyS Tryz.prog 155 6=true:=by kernel_rfl
theorem tF155_2:tyF Tryz.prog 155 2 5=true:=by kernel_rfl
theorem tC153:tyC Tryz.prog 153=true:=by kernel_rfl
theorem tMap153:q9s Tryz.prog 153 9 94=true:=by kernel_rfl
theorem tMap250:q9s Tryz.prog 250 109 217=true:=by kernel_rfl
theorem tKey109:KeyT Tryz.prog 109 isAgg109:=keyT_agg eqk109 (by kernel_rfl) (fun v ⟨x,hx⟩=>⟨_,⟨x,rfl⟩,hx⟩)
theorem tZo217:(Tryz.prog.info? 217).bind (·.zero)=some (.slice none 0 0):=by kernel_rfl
theorem tZ223:zeroCells Tryz.prog 223=some [.string ⟨#[]⟩,.string ⟨#[]⟩]:=by kernel_rfl
theorem tPl223:q8j Tryz.prog 223=some [(0,1),(1,1)]:=by kernel_rfl
theorem tEl217:tyEl Tryz.prog 217 223 2 32=true:=by kernel_rfl
theorem tPl98:q8j Tryz.prog 98=some [(0,1),(1,1)]:=by kernel_rfl
theorem fOk190:q2m Tryz.prog 190=true:=by kernel_rfl
theorem fOk191:q2m Tryz.prog 191=true:=by kernel_rfl
theorem fOk192:q2m Tryz.prog 192=true:=by kernel_rfl
theorem tIsSl217:q1k Tryz.prog 217=true:=by kernel_rfl
theorem fOk146:q2m Tryz.prog 146=true:=by kernel_rfl
theorem tF155_1:tyF Tryz.prog 155 1 4=true:=by kernel_rfl
theorem tC152:tyC Tryz.prog 152=true:=by kernel_rfl
theorem tZ219:zeroCells Tryz.prog 219=some [.string ⟨#[]⟩,.int .i64 0,.slice none 0 0]:=by kernel_rfl
theorem tPl219:q8j Tryz.prog 219=some [(0,2),(2,1)]:=by kernel_rfl
theorem tMap152:q9s Tryz.prog 152 9 212=true:=by kernel_rfl
theorem tZo212:(Tryz.prog.info? 212).bind (·.zero)=some (.slice none 0 0):=by kernel_rfl
theorem tEl212:tyEl Tryz.prog 212 219 3 48=true:=by kernel_rfl
theorem tIsSl212:q1k Tryz.prog 212=true:=by kernel_rfl
theorem tA155:tyA Tryz.prog 155 6=true:=by kernel_rfl
theorem fOk83:q2m Tryz.prog 83=true:=by kernel_rfl
theorem tZ193:zeroCells Tryz.prog 193=some [.map none,.map none]:=by kernel_rfl
theorem tPl193:q8j Tryz.prog 193=some [(0,1),(1,1)]:=by kernel_rfl
theorem tS193:tyS Tryz.prog 193 2=true:=by kernel_rfl
theorem tA193:tyA Tryz.prog 193 2=true:=by kernel_rfl
theorem tF155_0:tyF Tryz.prog 155 0 0=true:=by kernel_rfl
theorem tF193_0:tyF Tryz.prog 193 0 0=true:=by kernel_rfl
theorem tZo94:(Tryz.prog.info? 94).bind (·.zero)=some (.agg #[.string ⟨#[]⟩,.string ⟨#[]⟩,.slice none 0 0,.slice none 0 0]):=by kernel_rfl
theorem tFC94_3:tyFC Tryz.prog 94 3=true:=by kernel_rfl
theorem tF193_1:tyF Tryz.prog 193 1 1=true:=by kernel_rfl
theorem tSl212:tySl Tryz.prog 212 3=true:=by kernel_rfl
theorem tA219:tyA Tryz.prog 219 3=true:=by kernel_rfl
theorem tS219:tyS Tryz.prog 219 3=true:=by kernel_rfl
theorem tF219_1:tyF Tryz.prog 219 1 2=true:=by kernel_rfl
theorem tC217:tyC Tryz.prog 217=true:=by kernel_rfl
theorem tSl217:tySl Tryz.prog 217 2=true:=by kernel_rfl
theorem tA223:tyA Tryz.prog 223 2=true:=by kernel_rfl
theorem tS223:tyS Tryz.prog 223 2=true:=by kernel_rfl
theorem tF223_1:tyF Tryz.prog 223 1 1=true:=by kernel_rfl
theorem tF223_0:tyF Tryz.prog 223 0 0=true:=by kernel_rfl
theorem fOk159:q2m Tryz.prog 159=true:=by kernel_rfl
theorem fOk102:q2m Tryz.prog 102=true:=by kernel_rfl
theorem fOk160:q2m Tryz.prog 160=true:=by kernel_rfl
theorem fOk103:q2m Tryz.prog 103=true:=by kernel_rfl
theorem tF61_0:tyF Tryz.prog 61 0 0=true:=by kernel_rfl
theorem tS9:tyS Tryz.prog 9 1=true:=by kernel_rfl
theorem tF219_0:tyF Tryz.prog 219 0 0=true:=by kernel_rfl
theorem tA70:tyA Tryz.prog 70 2=true:=by kernel_rfl
theorem fOk104:q2m Tryz.prog 104=true:=by kernel_rfl
theorem tF80_1:tyF Tryz.prog 80 1 2=true:=by kernel_rfl
theorem fOk161:q2m Tryz.prog 161=true:=by kernel_rfl
theorem fOk105:q2m Tryz.prog 105=true:=by kernel_rfl
theorem fOk106:q2m Tryz.prog 106=true:=by kernel_rfl
theorem fOk29:q2m Tryz.prog 29=true:=by kernel_rfl
theorem tB4:tyB Tryz.prog 4=true:=by kernel_rfl
theorem tSl58:tySl Tryz.prog 58 3=true:=by kernel_rfl
theorem tEqG80:Tryz.prog.eqGuardType Tryz.prog.depth 80=false:=by kernel_rfl
theorem fOk107:q2m Tryz.prog 107=true:=by kernel_rfl
theorem tSl59:tySl Tryz.prog 59 2=true:=by kernel_rfl
theorem tA76:tyA Tryz.prog 76 2=true:=by kernel_rfl
theorem tEqG76:Tryz.prog.eqGuardType Tryz.prog.depth 76=false:=by kernel_rfl
theorem fOk108:q2m Tryz.prog 108=true:=by kernel_rfl
theorem fOk30:q2m Tryz.prog 30=true:=by kernel_rfl
theorem tF76_1:tyF Tryz.prog 76 1 1=true:=by kernel_rfl
theorem fOk162:q2m Tryz.prog 162=true:=by kernel_rfl
theorem tF80_0:tyF Tryz.prog 80 0 0=true:=by kernel_rfl
theorem tF70_0:tyF Tryz.prog 70 0 0=true:=by kernel_rfl
theorem tF70_1:tyF Tryz.prog 70 1 1=true:=by kernel_rfl
theorem fOk163:q2m Tryz.prog 163=true:=by kernel_rfl
theorem fOk165:q2m Tryz.prog 165=true:=by kernel_rfl
theorem fOk205:q2m Tryz.prog 205=true:=by kernel_rfl
theorem fOk166:q2m Tryz.prog 166=true:=by kernel_rfl
theorem fOk109:q2m Tryz.prog 109=true:=by kernel_rfl
theorem fOk31:q2m Tryz.prog 31=true:=by kernel_rfl
theorem tEl92:tyEl Tryz.prog 92 109 4 56=true:=by kernel_rfl
theorem tEl24:tyEl Tryz.prog 24 94 4 80=true:=by kernel_rfl
theorem tZ27:zeroCells Tryz.prog 27=some [.slice none 0 0,.slice none 0 0,.slice none 0 0,.slice none 0 0]:=by kernel_rfl
theorem tPl27:q8j Tryz.prog 27=some [(0,1),(1,1),(2,1),(3,1)]:=by kernel_rfl
theorem fOk25:q2m Tryz.prog 25=true:=by kernel_rfl
theorem fOk26:q2m Tryz.prog 26=true:=by kernel_rfl
theorem fOk14:q2m Tryz.prog 14=true:=by kernel_rfl
def tt:TT:=[(3,[.C,.U,.I .i64,.S 1]),(4,[.C,.S 1,.B]),(9,[.C,.Str,.S 1]),(14,[.Fn]),(17,[.Fn]),(18,[.Fn]),(22,[.C,.Sn,.Sl 2]),(23,[.C,.Sn,.Sl 2,.Fn]),(24,[.C,.Sn,.Sl 4]),(25,[.C,.Sn,.Sl 1,.El 9 1 16]),(27,[.S 4,.A 4,.F 0 0,.F 1 1,.F 2 2,.F 3 3,.Z 4 [.slice none 0 0,.slice none 0 0,.slice none 0 0,.slice none 0 0],.Pl [(0,1),(1,1),(2,1),(3,1)]]),(28,[.Fn]),(29,[.Fn]),(30,[.Fn]),(31,[.Fn]),(41,[.Fn]),(58,[.C,.El 80 3 40,.Sn,.S 1,.Sl 3]),(59,[.Fn,.C,.El 76 2 32,.Sn,.S 1,.Sl 2]),(60,[.Fn]),(61,[.Z 3 [.string ⟨#[]⟩,.slice none 0 0,.slice none 0 0],.Pl [(0,1),(1,1),(2,1)],.S 3,.A 3,.F 1 1,.F 2 2,.F 0 0]),(70,[.Z 2 [.string ⟨#[]⟩,.int .i64 0],.Pl [(0,1),(1,1)],.A 2,.F 0 0,.F 1 1]),(72,[.Fn]),(73,[.Fn]),(76,[.Z 2 [.string ⟨#[]⟩,.string ⟨#[]⟩],.Pl [(0,1),(1,1)],.S 2,.F 0 0,.A 2,.F 1 1]),(78,[.Fn]),(79,[.Fn]),(80,[.Z 3 [.string ⟨#[]⟩,.int .i64 0,.string ⟨#[]⟩],.Pl [(0,2),(2,1)],.S 3,.A 3,.F 1 2,.F 0 0]),(81,[.Fn]),(82,[.Fn]),(83,[.C,.Fn]),(86,[.Fn]),(87,[.C]),(88,[.C]),(89,[.C,.Fn]),(90,[.Fn]),(91,[.Z 9 [.slice none 0 0,.slice none 0 0,.slice none 0 0,.slice none 0 0,.map none,.map none,.map none,.map none,.bool false],.Pl [(0,4),(4,1),(5,1),(6,1),(7,1),(8,1)],.S 9,.F 1 4,.F 2 5,.F 3 6,.F 4 7,.F 0 0,.F 5 8]),(92,[.C,.Sn,.Sl 4,.Fn]),(94,[.A 4,.Z 4 [.string ⟨#[]⟩,.string ⟨#[]⟩,.slice none 0 0,.slice none 0 0],.S 4,.F 0 0,.F 1 1,.F 2 2,.F 3 3,.Fn,.Pl [(0,1),(1,1),(2,1),(3,1)],.FC 3]),(95,[.Fn]),(96,[.Fn]),(97,[.Fn]),(98,[.A 2,.Z 2 [.string ⟨#[]⟩,.slice none 0 0],.S 2,.F 0 0,.F 1 1,.Pl [(0,1),(1,1)]]),(100,[.Fn]),(102,[.C,.Sn,.Sl 2,.Fn]),(103,[.Fn]),(104,[.A 2,.Z 2 [.string ⟨#[]⟩,.slice none 0 0],.S 2,.F 0 0,.F 1 1,.Fn]),(106,[.Fn]),(107,[.Fn]),(108,[.Fn]),(109,[.A 4,.Z 4 [.int .i64 0,.string ⟨#[]⟩,.string ⟨#[]⟩,.string ⟨#[]⟩],.S 4,.F 0 0,.F 1 1,.F 2 2,.F 3 3,.Pl [(0,1),(1,1),(2,1),(3,1)],.Fn]),(116,[.A 2,.Z 2 [.string ⟨#[]⟩,.string ⟨#[]⟩],.S 2,.F 0 0,.F 1 1]),(117,[.Fn]),(122,[.C]),(124,[.Z 4 [.bool false,.map none,.map none,.map none],.Pl [(0,1),(1,1),(2,1),(3,1)],.S 4,.F 1 1,.F 2 2,.F 3 3,.A 4,.F 0 0]),(125,[.Fn]),(127,[.Fn]),(128,[.Fn]),(129,[.Fn]),(130,[.Fn]),(136,[.C,.Fn]),(137,[.Fn]),(138,[.Z 3 [.map none,.map none,.map none],.Pl [(0,1),(1,1),(2,1)],.S 3,.F 0 0,.F 1 1,.F 2 2,.A 3,.Fn]),(139,[.Fn]),(141,[.Z 8 [.slice none 0 0,.slice none 0 0,.slice none 0 0,.slice none 0 0,.map none,.map none,.map none,.bool false],.Pl [(0,4),(4,3),(7,1)],.S 8,.F 0 0,.A 8,.F 2 7,.F 1 4]),(143,[.Fn]),(146,[.Fn]),(151,[.Fn]),(152,[.C]),(153,[.C]),(155,[.Z 6 [.slice none 0 0,.slice none 0 0,.slice none 0 0,.slice none 0 0,.map none,.map none],.Pl [(0,4),(4,1),(5,1)],.S 6,.F 2 5,.F 1 4,.A 6,.F 0 0]),(156,[.Fn]),(158,[.Fn]),(159,[.Fn]),(160,[.Fn]),(161,[.Fn]),(162,[.Fn]),(163,[.Fn]),(164,[.C,.Sl 1,.Fn,.Sn]),(165,[.C,.El 3 1 8,.Sn,.S 1,.Sl 1,.Fn]),(167,[.C]),(168,[.C,.Sn,.Sl 2,.S 1]),(169,[.Fn]),(170,[.Z 7 [.pointer none,.slice none 0 0,.slice none 0 0,.map none,.slice none 0 0,.slice none 0 0,.slice none 0 0],.Pl [(0,1),(1,1),(2,1),(3,1),(4,1),(5,1),(6,1)],.S 7,.F 1 1,.F 6 6,.F 2 2,.F 0 0,.F 4 4,.F 3 3]),(173,[.Fn]),(174,[.Fn]),(187,[.Fn]),(190,[.Fn]),(191,[.Fn]),(192,[.Fn]),(193,[.Z 2 [.map none,.map none],.Pl [(0,1),(1,1)],.S 2,.A 2,.F 0 0,.F 1 1]),(204,[.Fn]),(205,[.Fn]),(207,[.Fn]),(208,[.Fn]),(212,[.Sn,.Sl 3]),(217,[.El 223 2 32,.Sn,.C,.Sl 2]),(219,[.Z 3 [.string ⟨#[]⟩,.int .i64 0,.slice none 0 0],.Pl [(0,2),(2,1)],.A 3,.S 3,.F 1 2,.F 0 0]),(223,[.Z 2 [.string ⟨#[]⟩,.string ⟨#[]⟩],.Pl [(0,1),(1,1)],.A 2,.S 2,.F 1 1,.F 0 0]),(244,[.I .u64,.U]),(264,[.Sl 1]),(304,[.A 2,.Z 2 [.string ⟨#[]⟩,.string ⟨#[]⟩],.S 2,.F 0 0,.F 1 1,.Pl [(0,1),(1,1)]])]
theorem ok:z4b Tryz.prog tt:=tt_all ⟨⟨tC3,tUn3,tI3,tS3,trivial⟩,⟨tC4,tS4,tB4,trivial⟩,⟨tC9,tStr9,tS9,trivial⟩,⟨fOk14,trivial⟩,⟨fOk17,trivial⟩,⟨fOk18,trivial⟩,⟨tC22,tIsSl22,tSl22,trivial⟩,⟨tC23,tIsSl23,tSl23,fOk23,trivial⟩,⟨tC24,tIsSl24,tSl24,trivial⟩,⟨tC25,tIsSl25,tSl25,z7b,trivial⟩,⟨tS27,tA27,tF27_0,tF27_1,tF27_2,tF27_3,⟨tZ27,rfl⟩,tPl27,trivial⟩,⟨fOk28,trivial⟩,⟨fOk29,trivial⟩,⟨fOk30,trivial⟩,⟨fOk31,trivial⟩,⟨fOk41,trivial⟩,⟨tC58,tEl58,tIsSl58,tS58,tSl58,trivial⟩,⟨fOk59,tC59,tEl59,tIsSl59,tS59,tSl59,trivial⟩,⟨fOk60,trivial⟩,⟨⟨tZ61,rfl⟩,tPl61,tS61,tA61,tF61_1,tF61_2,tF61_0,trivial⟩,⟨⟨tZ70,rfl⟩,tPl70,tA70,tF70_0,tF70_1,trivial⟩,⟨fOk72,trivial⟩,⟨fOk73,trivial⟩,⟨⟨tZ76,rfl⟩,tPl76,tS76,tF76_0,tA76,tF76_1,trivial⟩,⟨fOk78,trivial⟩,⟨fOk79,trivial⟩,⟨⟨tZ80,rfl⟩,tPl80,tS80,tA80,tF80_1,tF80_0,trivial⟩,⟨fOk81,trivial⟩,⟨fOk82,trivial⟩,⟨tC83,fOk83,trivial⟩,⟨fOk86,trivial⟩,⟨tC87,trivial⟩,⟨tC88,trivial⟩,⟨tC89,fOk89,trivial⟩,⟨fOk90,trivial⟩,⟨⟨tZ91,rfl⟩,tPl91,tS91,tF91_1,tF91_2,tF91_3,tF91_4,tF91_0,tF91_5,trivial⟩,⟨tC92,tIsSl92,tSl92,fOk92,trivial⟩,⟨tA94,⟨tZ94,rfl⟩,tS94,tF94_0,tF94_1,tF94_2,tF94_3,fOk94,tPl94,tFC94_3,trivial⟩,⟨fOk95,trivial⟩,⟨fOk96,trivial⟩,⟨fOk97,trivial⟩,⟨tA98,⟨tZ98,rfl⟩,tS98,tF98_0,tF98_1,tPl98,trivial⟩,⟨fOk100,trivial⟩,⟨tC102,tIsSl102,tSl102,fOk102,trivial⟩,⟨fOk103,trivial⟩,⟨tA104,⟨tZ104,rfl⟩,tS104,tF104_0,tF104_1,fOk104,trivial⟩,⟨fOk106,trivial⟩,⟨fOk107,trivial⟩,⟨fOk108,trivial⟩,⟨tA109,⟨tZ109,rfl⟩,tS109,tF109_0,tF109_1,tF109_2,tF109_3,tPl109,fOk109,trivial⟩,⟨tA116,⟨tZ116,rfl⟩,tS116,tF116_0,tF116_1,trivial⟩,⟨fOk117,trivial⟩,⟨tC122,trivial⟩,⟨⟨tZ124,rfl⟩,tPl124,tS124,tF124_1,tF124_2,tF124_3,tA124,tF124_0,trivial⟩,⟨fOk125,trivial⟩,⟨fOk127,trivial⟩,⟨fOk128,trivial⟩,⟨fOk129,trivial⟩,⟨fOk130,trivial⟩,⟨tC136,fOk136,trivial⟩,⟨fOk137,trivial⟩,⟨⟨tZ138,rfl⟩,tPl138,tS138,tF138_0,tF138_1,tF138_2,tA138,fOk138,trivial⟩,⟨fOk139,trivial⟩,⟨⟨tZ141,rfl⟩,tPl141,tS141,tF141_0,tA141,tF141_2,tF141_1,trivial⟩,⟨fOk143,trivial⟩,⟨fOk146,trivial⟩,⟨fOk151,trivial⟩,⟨tC152,trivial⟩,⟨tC153,trivial⟩,⟨⟨tZ155,rfl⟩,tPl155,tS155,tF155_2,tF155_1,tA155,tF155_0,trivial⟩,⟨fOk156,trivial⟩,⟨fOk158,trivial⟩,⟨fOk159,trivial⟩,⟨fOk160,trivial⟩,⟨fOk161,trivial⟩,⟨fOk162,trivial⟩,⟨fOk163,trivial⟩,⟨tC164,tSl164,fOk164,tIsSl164,trivial⟩,⟨tC165,q6u,tIsSl165,tS165,tSl165,fOk165,trivial⟩,⟨tC167,trivial⟩,⟨tC168,tIsSl168,tSl168,tS168,trivial⟩,⟨fOk169,trivial⟩,⟨⟨tZ170,rfl⟩,tPl170,tS170,tF170_1,tF170_6,tF170_2,tF170_0,tF170_4,tF170_3,trivial⟩,⟨fOk173,trivial⟩,⟨fOk174,trivial⟩,⟨fOk187,trivial⟩,⟨fOk190,trivial⟩,⟨fOk191,trivial⟩,⟨fOk192,trivial⟩,⟨⟨tZ193,rfl⟩,tPl193,tS193,tA193,tF193_0,tF193_1,trivial⟩,⟨fOk204,trivial⟩,⟨fOk205,trivial⟩,⟨fOk207,trivial⟩,⟨fOk208,trivial⟩,⟨tIsSl212,tSl212,trivial⟩,⟨tEl217,tIsSl217,tC217,tSl217,trivial⟩,⟨⟨tZ219,rfl⟩,tPl219,tA219,tS219,tF219_1,tF219_0,trivial⟩,⟨⟨tZ223,rfl⟩,tPl223,tA223,tS223,tF223_1,tF223_0,trivial⟩,⟨tI244,tUn244,trivial⟩,⟨tSl264,trivial⟩,⟨tA304,⟨tZ304,rfl⟩,tS304,tF304_0,tF304_1,tPl304,trivial⟩,trivial⟩
instance {N:Nat} {w:World} {m:Mem} {o:Nat->Prop} {p:Nat} {l:Nat->Option (Option (Nat×Cap))} {g:Gl} {h:GlOk g m}:TC ⟨Tryz.prog,N,w,m,o,p,l,g,h⟩ tt:=⟨ok⟩
end Go.Proofs.YtpbkggamiipdmaaGreat
