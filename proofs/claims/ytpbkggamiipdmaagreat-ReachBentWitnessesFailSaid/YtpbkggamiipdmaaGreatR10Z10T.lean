/- Part of the proof: Z10T. -/
import Derived.Test.YtpbkggamiipdmaaGreatR10ZA
import Derived.Test.YtpbkggamiipdmaaGreatR10WA
import Derived.Test.YtpbkggamiipdmaaGreatR10DN
import Derived.Test.YtpbkggamiipdmaaGreatR10ZC
import Derived.Test.YtpbkggamiipdmaaGreatR10DA
import Derived.Test.YtpbkggamiipdmaaGreatProg
import Derived.KernelRfl
namespace Go.Proofs.YtpbkggamiipdmaaGreat
open Go Go.Pv
set_option linter.unusedVariables false
set_option maxRecDepth 100000
theorem mixed:Tryz.prog.follows .mixedOrders=true:=by kernel_rfl
structure q0f where
 Name:B8
 Methods:(List B8)
 deriving DecidableEq
structure q1k where
 Name:B8
 Func:B8
 deriving DecidableEq
structure q7i where
 Name:B8
 Methods:(List q1k)
 deriving DecidableEq
structure q6c where
 Kind:Int
 Target:B8
 Method:B8
 Feature:B8
 deriving DecidableEq
structure q5e where
 Name:B8
 Component:B8
 Calls:(List q6c)
 Makes:(List B8)
 deriving DecidableEq
structure q7c where
 Ifaces:(List q0f)
 Types:(List q7i)
 Funcs:(List q5e)
 Entries:(List B8)
 deriving DecidableEq
structure q9c where
 loose:Bool
 ifaces:(List (B8×q0f))
 types:(List (B8×Bool))
 funcs:(List (B8×Bool))
 deriving DecidableEq
structure q1b where
 g:q7c
 funcs:(List (B8×Int))
 types:(List (B8×Int))
 fitting:(List (B8×(List Int)))
 on:(List (B8×Bool))
 made:Bool
 deriving DecidableEq
structure q2n where
 Func:B8
 Call:Int
 deriving DecidableEq
structure q5j where
 Site:q2n
 To:B8
 deriving DecidableEq
structure q0c where
 Type_:B8
 Func:B8
 deriving DecidableEq
structure q3e where
 Entry:B8
 Hops:(List q5j)
 Made:(List q0c)
 deriving DecidableEq
structure q2a where
 iface:B8
 method:B8
 deriving DecidableEq
structure q5c where
 w:(Option q1b)
 funcs:(List Bool)
 made:(List Bool)
 slots:(List (q2a×Bool))
 order:(List q2a)
 types:(List Int)
 queue:(List Int)
 deriving DecidableEq
structure q4d where
 ifaces:(List (B8×(List (B8×Bool))))
 types:(List (B8×Bool))
 funcs:(List (B8×Bool))
 deriving DecidableEq
structure q8b where
 g:q7c
 n:q4d
 loose:Bool
 deriving DecidableEq
structure q1a where
 typ:B8
 to:B8
 deriving DecidableEq
structure q0a where
 site:q2n
 aims:(List q1a)
 deriving DecidableEq
structure q2b where
 g:q7c
 links:(List (B8×(List q0a)))
 funcs:(List (B8×q5e))
 deriving DecidableEq
structure q5a where
 reached:(List (B8×Bool))
 made:(List (B8×Bool))
 deriving DecidableEq
def q9a(x:Int):List V:=[(iV x)]
theorem q7b(x:Int):q7p (q9a x):=(.cons (Imm.con _) .nil)
theorem z8v(x:Int):(q9a x).all q1z=true:=rfl
instance:EI q9a:=⟨q7b,z8v⟩
def q9h(x:Bool):List V:=[(bV x)]
theorem q2f(x:Bool):q7p (q9h x):=(.cons (Imm.con _) .nil)
theorem w8l(x:Bool):(q9h x).all q1z=true:=rfl
instance:EI q9h:=⟨q2f,w8l⟩
def q6f(x:B8):List V:=[(sV x)]
theorem q8s(x:B8):q7p (q6f x):=(.cons (Imm.con _) .nil)
theorem z5i(x:B8):(q6f x).all q1z=true:=rfl
instance:EI q6f:=⟨q8s,z5i⟩
def q2d(x:q0f):List V:=[(sV x.Name),(V.lst 1 (x.Methods.map q6f))]
theorem j8k(x:q0f):q7p (q2d x):=(.cons (Imm.con _) (.cons (Imm.lst _ _) .nil))
theorem j4u(x:q0f):(q2d x).all q1z=true:=rfl
instance:EI q2d:=⟨j8k,j4u⟩
@[simp] theorem w5m(x:q0f):(q2d x).length=2:=rfl
def q1j(x:q1k):List V:=[(sV x.Name),(sV x.Func)]
theorem j3d(x:q1k):q7p (q1j x):=(.cons (Imm.con _) (.cons (Imm.con _) .nil))
theorem j5k(x:q1k):(q1j x).all q1z=true:=rfl
instance:EI q1j:=⟨j3d,j5k⟩
@[simp] theorem w7i(x:q1k):(q1j x).length=2:=rfl
def q6e(x:q7i):List V:=[(sV x.Name),(V.lst 2 (x.Methods.map q1j))]
theorem j1v(x:q7i):q7p (q6e x):=(.cons (Imm.con _) (.cons (Imm.lst _ _) .nil))
theorem j2z(x:q7i):(q6e x).all q1z=true:=rfl
instance:EI q6e:=⟨j1v,j2z⟩
@[simp] theorem w3s(x:q7i):(q6e x).length=2:=rfl
def q6d(x:q6c):List V:=[(iV x.Kind),(sV x.Target),(sV x.Method),(sV x.Feature)]
theorem z4p(x:q6c):q7p (q6d x):=(.cons (Imm.con _) (.cons (Imm.con _) (.cons (Imm.con _) (.cons (Imm.con _) .nil))))
theorem j4z(x:q6c):(q6d x).all q1z=true:=rfl
instance:EI q6d:=⟨z4p,j4z⟩
@[simp] theorem w5s(x:q6c):(q6d x).length=4:=rfl
def q8c(x:q5e):List V:=[(sV x.Name),(sV x.Component),(V.lst 4 (x.Calls.map q6d)),(V.lst 1 (x.Makes.map q6f))]
theorem j2v(x:q5e):q7p (q8c x):=(.cons (Imm.con _) (.cons (Imm.con _) (.cons (Imm.lst _ _) (.cons (Imm.lst _ _) .nil))))
theorem j3z(x:q5e):(q8c x).all q1z=true:=rfl
instance:EI q8c:=⟨j2v,j3z⟩
@[simp] theorem w4s(x:q5e):(q8c x).length=4:=rfl
def q3d(x:q7c):List V:=[(V.lst 2 (x.Ifaces.map q2d)),(V.lst 2 (x.Types.map q6e)),(V.lst 4 (x.Funcs.map q8c)),(V.lst 1 (x.Entries.map q6f))]
theorem q1y(x:q7c):q7p (q3d x):=(.cons (Imm.lst _ _) (.cons (Imm.lst _ _) (.cons (Imm.lst _ _) (.cons (Imm.lst _ _) .nil))))
theorem j5u(x:q7c):(q3d x).all q1z=true:=rfl
instance:EI q3d:=⟨q1y,j5u⟩
@[simp] theorem w6m(x:q7c):(q3d x).length=4:=rfl
def q3c(x:q5j):List V:=[(sV x.Site.Func),(iV x.Site.Call),(sV x.To)]
theorem q7h(x:q5j):q7p (q3c x):=(.cons (Imm.con _) (.cons (Imm.con _) (.cons (Imm.con _) .nil)))
theorem v0i(x:q5j):(q3c x).all q1z=true:=rfl
instance:EI q3c:=⟨q7h,v0i⟩
@[simp] theorem y6a(x:q5j):(q3c x).length=3:=rfl
def q9b(x:q0c):List V:=[(sV x.Type_),(sV x.Func)]
theorem q1h(x:q0c):q7p (q9b x):=(.cons (Imm.con _) (.cons (Imm.con _) .nil))
theorem z2k(x:q0c):(q9b x).all q1z=true:=rfl
instance:EI q9b:=⟨q1h,z2k⟩
@[simp] theorem w8i(x:q0c):(q9b x).length=2:=rfl
def q0d(x:q3e):List V:=[(sV x.Entry),(V.lst 3 (x.Hops.map q3c)),(V.lst 2 (x.Made.map q9b))]
theorem z3y(x:q3e):q7p (q0d x):=(.cons (Imm.con _) (.cons (Imm.lst _ _) (.cons (Imm.lst _ _) .nil)))
theorem j6b(x:q3e):(q0d x).all q1z=true:=rfl
instance:EI q0d:=⟨z3y,j6b⟩
@[simp] theorem w9b(x:q3e):(q0d x).length=3:=rfl
theorem eqp9{d:Nat}:j4x Tryz.prog (d+1) 9 1 false (fun l=>∃n,l=[.string n]):=w0o (show Tryz.prog.underlying 9=some (.string) by kernel_rfl) (show tyC Tryz.prog 9=true by kernel_rfl)
def z3q(x:q2a):List Value:=[str x.iface]++([str x.method]++[])
theorem w9c(x y:q2a)(h:z3q x=z3q y):x=y:=by
 obtain⟨h0,h⟩:=List.append_inj h rfl
 obtain⟨h1,h⟩:=List.append_inj h rfl
 obtain⟨a0,a1⟩:=x
 obtain⟨b0,b1⟩:=y
 obtain rfl:a0=b0:=q4l _ _ (List.cons.inj h0).1
 obtain rfl:a1=b1:=q4l _ _ (List.cons.inj h1).1
 rfl
def v3p(v:Value):Prop:=∃x:q2a,v=.agg (z3q x).toArray
theorem j6o:∀a b:q2a,(Value.agg (z3q a).toArray)=.agg (z3q b).toArray->a=b:=fun a b h=>w9c a b (by simpa using congrArg Array.toList (Value.agg.inj h))
theorem eqp304 {d:Nat}:j4x Tryz.prog (d+2) 304 2 true (fun l=>∃x:q2a,l=z3q x):=(z1m (d:=d+1) (fs:=[(Field.mk "iface" 9 0 false "" "provender/reach" 0),(Field.mk "method" 9 1 false "" "provender/reach" 16)]) (by kernel_rfl) (by kernel_rfl) (by kernel_rfl) (by kernel_rfl) (q5x eqp9 (by simp) rfl (by simp) (q5x eqp9 (by simp) rfl (by simp) v7j))).weaken (fun l ⟨x,hx⟩=>by subst hx;exact⟨_,_,rfl,⟨_,rfl⟩,⟨_,_,rfl,⟨_,rfl⟩,rfl⟩⟩)
theorem eqk304:j4x Tryz.prog 10000 304 2 true (fun l=>∃x:q2a,l=z3q x):=eqp304 (d:=9998)
theorem eqp3{d:Nat}:j4x Tryz.prog (d+1) 3 1 false (fun l=>∃n,l=[.int .i64 n]):=w1o (show Tryz.prog.underlying 3=some (.int .i64) by kernel_rfl) (show tyC Tryz.prog 3=true by kernel_rfl)
def z4q(x:q6c):List Value:=[.int .i64 x.Kind]++([str x.Target]++([str x.Method]++([str x.Feature]++[])))
theorem w0d(x y:q6c)(h:z4q x=z4q y):x=y:=by
 obtain⟨h0,h⟩:=List.append_inj h rfl
 obtain⟨h1,h⟩:=List.append_inj h rfl
 obtain⟨h2,h⟩:=List.append_inj h rfl
 obtain⟨h3,h⟩:=List.append_inj h rfl
 obtain⟨a0,a1,a2,a3⟩:=x
 obtain⟨b0,b1,b2,b3⟩:=y
 obtain rfl:a0=b0:=w8c _ _ (List.cons.inj h0).1
 obtain rfl:a1=b1:=q4l _ _ (List.cons.inj h1).1
 obtain rfl:a2=b2:=q4l _ _ (List.cons.inj h2).1
 obtain rfl:a3=b3:=q4l _ _ (List.cons.inj h3).1
 rfl
def v4p(v:Value):Prop:=∃x:q6c,v=.agg (z4q x).toArray
theorem j7o:∀a b:q6c,(Value.agg (z4q a).toArray)=.agg (z4q b).toArray->a=b:=fun a b h=>w0d a b (by simpa using congrArg Array.toList (Value.agg.inj h))
theorem eqp109 {d:Nat}:j4x Tryz.prog (d+2) 109 4 true (fun l=>∃x:q6c,l=z4q x):=(z1m (d:=d+1) (fs:=[(Field.mk "Kind" 3 0 false "" "" 0),(Field.mk "Target" 9 1 false "" "" 8),(Field.mk "Method" 9 2 false "" "" 24),(Field.mk "Feature" 9 3 false "" "" 40)]) (by kernel_rfl) (by kernel_rfl) (by kernel_rfl) (by kernel_rfl) (q5x eqp3 (by simp) rfl (by simp) (q5x eqp9 (by simp) rfl (by simp) (q5x eqp9 (by simp) rfl (by simp) (q5x eqp9 (by simp) rfl (by simp) v7j))))).weaken (fun l ⟨x,hx⟩=>by subst hx;exact⟨_,_,rfl,⟨_,rfl⟩,⟨_,_,rfl,⟨_,rfl⟩,⟨_,_,rfl,⟨_,rfl⟩,⟨_,_,rfl,⟨_,rfl⟩,rfl⟩⟩⟩⟩)
theorem eqk109:j4x Tryz.prog 10000 109 4 true (fun l=>∃x:q6c,l=z4q x):=eqp109 (d:=9998)
def w9i(x:q2n):List Value:=[str x.Func]++([.int .i64 x.Call]++[])
theorem v6p(x y:q2n)(h:w9i x=w9i y):x=y:=by
 obtain⟨h0,h⟩:=List.append_inj h rfl
 obtain⟨h1,h⟩:=List.append_inj h rfl
 obtain⟨a0,a1⟩:=x
 obtain⟨b0,b1⟩:=y
 obtain rfl:a0=b0:=q4l _ _ (List.cons.inj h0).1
 obtain rfl:a1=b1:=w8c _ _ (List.cons.inj h1).1
 rfl
theorem eqp70 {d:Nat}:j4x Tryz.prog (d+2) 70 2 true (fun l=>∃x:q2n,l=w9i x):=(z1m (d:=d+1) (fs:=[(Field.mk "Func" 9 0 false "" "" 0),(Field.mk "Call" 3 1 false "" "" 16)]) (by kernel_rfl) (by kernel_rfl) (by kernel_rfl) (by kernel_rfl) (q5x eqp9 (by simp) rfl (by simp) (q5x eqp3 (by simp) rfl (by simp) v7j))).weaken (fun l ⟨x,hx⟩=>by subst hx;exact⟨_,_,rfl,⟨_,rfl⟩,⟨_,_,rfl,⟨_,rfl⟩,rfl⟩⟩)
theorem eqk70:j4x Tryz.prog 10000 70 2 true (fun l=>∃x:q2n,l=w9i x):=eqp70 (d:=9998)
def q9d(p:B8×Int):Value×V:=(str p.1,(iV p.2))
abbrev q1g(v:Int):V:=(iV v)
theorem q6x(xs:List (B8×Int))(k:B8)(v:Int):z8y (str k) (q1g v) (xs.map q9d) ((q0g xs k v).map q9d):=z2a (kv:=fun k=>str k) (ev:=q1g) q4l xs k v
theorem q8g(xs:List (B8×Int))(k:B8):j7j (str k) (xs.map q9d) ((q6b xs k).map q1g):=q4u (kv:=fun k=>str k) (ev:=q1g) q4l xs k
theorem z1b{xs:List (B8×Int)}:∀p,p∈xs.map q9d->Imm p.2:=by
 intro p hp
 obtain⟨x,_,rfl⟩:=List.mem_map.1 hp
 exact(Imm.con _)
instance:EM q9d:=⟨fun _=>(Imm.con _)⟩
theorem q7f{xs:List (B8×Int)}:∀p,p∈xs.map q9d->z6s p.1:=by
 intro p hp
 obtain⟨x,_,rfl⟩:=List.mem_map.1 hp
 exact⟨_,rfl⟩
def q3l(p:B8×(List Int)):Value×V:=(str p.1,(V.lst 1 (p.2.map q9a)))
abbrev q6l(v:(List Int)):V:=(V.lst 1 (v.map q9a))
theorem q9m(xs:List (B8×(List Int)))(k:B8):j7j (str k) (xs.map q3l) ((q6b xs k).map q6l):=q4u (kv:=fun k=>str k) (ev:=q6l) q4l xs k
instance:EM q3l:=⟨fun _=>(Imm.lst _ _)⟩
theorem q0n{xs:List (B8×(List Int))}:∀p,p∈xs.map q3l->z6s p.1:=by
 intro p hp
 obtain⟨x,_,rfl⟩:=List.mem_map.1 hp
 exact⟨_,rfl⟩
def q5b(p:B8×Bool):Value×V:=(str p.1,(bV p.2))
abbrev q5g(v:Bool):V:=(bV v)
theorem q1i(xs:List (B8×Bool))(k:B8)(v:Bool):z8y (str k) (q5g v) (xs.map q5b) ((q0g xs k v).map q5b):=z2a (kv:=fun k=>str k) (ev:=q5g) q4l xs k v
theorem q3h(xs:List (B8×Bool))(k:B8):j7j (str k) (xs.map q5b) ((q6b xs k).map q5g):=q4u (kv:=fun k=>str k) (ev:=q5g) q4l xs k
theorem q0m{xs:List (B8×Bool)}:∀p,p∈xs.map q5b->Imm p.2:=by
 intro p hp
 obtain⟨x,_,rfl⟩:=List.mem_map.1 hp
 exact(Imm.con _)
theorem z6t(p:B8×Bool):Imm (q5b p).2:=(Imm.con _)
instance:EM q5b:=⟨fun _=>(Imm.con _)⟩
theorem q7e{xs:List (B8×Bool)}:∀p,p∈xs.map q5b->z6s p.1:=by
 intro p hp
 obtain⟨x,_,rfl⟩:=List.mem_map.1 hp
 exact⟨_,rfl⟩
def q4a(x:q1b):List V:=[(V.lst 2 (x.g.Ifaces.map q2d)),(V.lst 2 (x.g.Types.map q6e)),(V.lst 4 (x.g.Funcs.map q8c)),(V.lst 1 (x.g.Entries.map q6f)),(V.imap (x.funcs.map q9d)),(V.imap (x.types.map q9d)),(V.imap (x.fitting.map q3l)),(V.imap (x.on.map q5b)),(bV x.made)]
theorem z7j(x:q1b):q7p (q4a x):=(.cons (Imm.lst _ _) (.cons (Imm.lst _ _) (.cons (Imm.lst _ _) (.cons (Imm.lst _ _) (.cons (Imm.imap _) (.cons (Imm.imap _) (.cons (Imm.imap _) (.cons (Imm.imap _) (.cons (Imm.con _) .nil)))))))))
theorem z6l(x:q1b):(q4a x).all q1z=true:=rfl
instance:EI q4a:=⟨z7j,z6l⟩
@[simp] theorem v8i(x:q1b):(q4a x).length=9:=rfl
def q1m(p:B8×q0f):Value×V:=(str p.1,(V.agg [(sV p.2.Name),(V.lst 1 (p.2.Methods.map q6f))]))
abbrev q2t(v:q0f):V:=(V.agg [(sV v.Name),(V.lst 1 (v.Methods.map q6f))])
theorem j8v(xs:List (B8×q0f))(k:B8)(v:q0f):z8y (str k) (q2t v) (xs.map q1m) ((q0g xs k v).map q1m):=z2a (kv:=fun k=>str k) (ev:=q2t) q4l xs k v
theorem j9v(xs:List (B8×q0f))(k:B8):j7j (str k) (xs.map q1m) ((q6b xs k).map q2t):=q4u (kv:=fun k=>str k) (ev:=q2t) q4l xs k
theorem v7b{xs:List (B8×q0f)}:∀p,p∈xs.map q1m->Imm p.2:=by
 intro p hp
 obtain⟨x,_,rfl⟩:=List.mem_map.1 hp
 exact(Imm.agg (.cons (Imm.con _) (.cons (Imm.lst _ _) .nil)))
instance:EM q1m:=⟨fun _=>(Imm.agg (.cons (Imm.con _) (.cons (Imm.lst _ _) .nil)))⟩
theorem z7p{xs:List (B8×q0f)}:∀p,p∈xs.map q1m->z6s p.1:=by
 intro p hp
 obtain⟨x,_,rfl⟩:=List.mem_map.1 hp
 exact⟨_,rfl⟩
def q1e(x:q9c):List V:=[(bV x.loose),(V.imap (x.ifaces.map q1m)),(V.imap (x.types.map q5b)),(V.imap (x.funcs.map q5b))]
theorem z8c(x:q9c):q7p (q1e x):=(.cons (Imm.con _) (.cons (Imm.imap _) (.cons (Imm.imap _) (.cons (Imm.imap _) .nil))))
theorem z2d(x:q9c):(q1e x).all q1z=true:=rfl
instance:EI q1e:=⟨z8c,z2d⟩
@[simp] theorem v4a(x:q9c):(q1e x).length=4:=rfl
def q6q(p:B8×(List (B8×Bool))):Value×V:=(str p.1,(V.imap (p.2.map q5b)))
abbrev z2w(v:(List (B8×Bool))):V:=(V.imap (v.map q5b))
theorem z8p(xs:List (B8×(List (B8×Bool))))(k:B8):j7j (str k) (xs.map q6q) ((q6b xs k).map z2w):=q4u (kv:=fun k=>str k) (ev:=z2w) q4l xs k
instance:EM q6q:=⟨fun _=>(Imm.imap _)⟩
theorem z9p{xs:List (B8×(List (B8×Bool)))}:∀p,p∈xs.map q6q->z6s p.1:=by
 intro p hp
 obtain⟨x,_,rfl⟩:=List.mem_map.1 hp
 exact⟨_,rfl⟩
def q8i(x:q4d):List V:=[(V.imap (x.ifaces.map q6q)),(V.imap (x.types.map q5b)),(V.imap (x.funcs.map q5b))]
theorem q5u(x:q4d):q7p (q8i x):=(.cons (Imm.imap _) (.cons (Imm.imap _) (.cons (Imm.imap _) .nil)))
theorem q6v(x:q4d):(q8i x).all q1z=true:=rfl
instance:EI q8i:=⟨q5u,q6v⟩
@[simp] theorem j0d(x:q4d):(q8i x).length=3:=rfl
def q4c(x:q8b):List V:=[(V.lst 2 (x.g.Ifaces.map q2d)),(V.lst 2 (x.g.Types.map q6e)),(V.lst 4 (x.g.Funcs.map q8c)),(V.lst 1 (x.g.Entries.map q6f)),(V.imap (x.n.ifaces.map q6q)),(V.imap (x.n.types.map q5b)),(V.imap (x.n.funcs.map q5b)),(bV x.loose)]
theorem q7s(x:q8b):q7p (q4c x):=(.cons (Imm.lst _ _) (.cons (Imm.lst _ _) (.cons (Imm.lst _ _) (.cons (Imm.lst _ _) (.cons (Imm.imap _) (.cons (Imm.imap _) (.cons (Imm.imap _) (.cons (Imm.con _) .nil))))))))
theorem q6t(x:q8b):(q4c x).all q1z=true:=rfl
instance:EI q4c:=⟨q7s,q6t⟩
@[simp] theorem z1y(x:q8b):(q4c x).length=8:=rfl
def q0b(x:q1a):List V:=[(sV x.typ),(sV x.to)]
theorem q5m(x:q1a):q7p (q0b x):=(.cons (Imm.con _) (.cons (Imm.con _) .nil))
theorem q0y(x:q1a):(q0b x).all q1z=true:=rfl
instance:EI q0b:=⟨q5m,q0y⟩
@[simp] theorem j7k(x:q1a):(q0b x).length=2:=rfl
def q6a(x:q0a):List V:=[(sV x.site.Func),(iV x.site.Call),(V.lst 2 (x.aims.map q0b))]
theorem q7l(x:q0a):q7p (q6a x):=(.cons (Imm.con _) (.cons (Imm.con _) (.cons (Imm.lst _ _) .nil)))
theorem q1p(x:q0a):(q6a x).all q1z=true:=rfl
instance:EI q6a:=⟨q7l,q1p⟩
@[simp] theorem j9j(x:q0a):(q6a x).length=3:=rfl
def q7q(p:B8×(List q0a)):Value×V:=(str p.1,(V.lst 3 (p.2.map q6a)))
abbrev q3n(v:(List q0a)):V:=(V.lst 3 (v.map q6a))
theorem q4p(xs:List (B8×(List q0a)))(k:B8):j7j (str k) (xs.map q7q) ((q6b xs k).map q3n):=q4u (kv:=fun k=>str k) (ev:=q3n) q4l xs k
instance:EM q7q:=⟨fun _=>(Imm.lst _ _)⟩
theorem q5p{xs:List (B8×(List q0a))}:∀p,p∈xs.map q7q->z6s p.1:=by
 intro p hp
 obtain⟨x,_,rfl⟩:=List.mem_map.1 hp
 exact⟨_,rfl⟩
def q5l(p:B8×q5e):Value×V:=(str p.1,(V.agg [(sV p.2.Name),(sV p.2.Component),(V.lst 4 (p.2.Calls.map q6d)),(V.lst 1 (p.2.Makes.map q6f))]))
abbrev q7o(v:q5e):V:=(V.agg [(sV v.Name),(sV v.Component),(V.lst 4 (v.Calls.map q6d)),(V.lst 1 (v.Makes.map q6f))])
theorem j0w(xs:List (B8×q5e))(k:B8)(v:q5e):z8y (str k) (q7o v) (xs.map q5l) ((q0g xs k v).map q5l):=z2a (kv:=fun k=>str k) (ev:=q7o) q4l xs k v
theorem z0b(xs:List (B8×q5e))(k:B8):j7j (str k) (xs.map q5l) ((q6b xs k).map q7o):=q4u (kv:=fun k=>str k) (ev:=q7o) q4l xs k
theorem v8b{xs:List (B8×q5e)}:∀p,p∈xs.map q5l->Imm p.2:=by
 intro p hp
 obtain⟨x,_,rfl⟩:=List.mem_map.1 hp
 exact(Imm.agg (.cons (Imm.con _) (.cons (Imm.con _) (.cons (Imm.lst _ _) (.cons (Imm.lst _ _) .nil)))))
instance:EM q5l:=⟨fun _=>(Imm.agg (.cons (Imm.con _) (.cons (Imm.con _) (.cons (Imm.lst _ _) (.cons (Imm.lst _ _) .nil)))))⟩
theorem q7u{xs:List (B8×q5e)}:∀p,p∈xs.map q5l->z6s p.1:=by
 intro p hp
 obtain⟨x,_,rfl⟩:=List.mem_map.1 hp
 exact⟨_,rfl⟩
def q3a(x:q2b):List V:=[(V.lst 2 (x.g.Ifaces.map q2d)),(V.lst 2 (x.g.Types.map q6e)),(V.lst 4 (x.g.Funcs.map q8c)),(V.lst 1 (x.g.Entries.map q6f)),(V.imap (x.links.map q7q)),(V.imap (x.funcs.map q5l))]
theorem q7w(x:q2b):q7p (q3a x):=(.cons (Imm.lst _ _) (.cons (Imm.lst _ _) (.cons (Imm.lst _ _) (.cons (Imm.lst _ _) (.cons (Imm.imap _) (.cons (Imm.imap _) .nil))))))
theorem q9x(x:q2b):(q3a x).all q1z=true:=rfl
instance:EI q3a:=⟨q7w,q9x⟩
@[simp] theorem j6k(x:q2b):(q3a x).length=6:=rfl
def j1e(x:(List Int)):List V:=[V.lst 1 (x.map q9a)]
theorem v4t(x:(List Int)):q7p (j1e x):=(.cons (Imm.lst _ _) .nil)
theorem w3a(x:(List Int)):(j1e x).all q1z=true:=rfl
instance:EI j1e:=⟨v4t,w3a⟩
def q1c(x:q2a):List V:=[(sV x.iface),(sV x.method)]
theorem q4e(x:q2a):q7p (q1c x):=(.cons (Imm.con _) (.cons (Imm.con _) .nil))
theorem q2x(x:q2a):(q1c x).all q1z=true:=rfl
instance:EI q1c:=⟨q4e,q2x⟩
@[simp] theorem v1p(x:q2a):(q1c x).length=2:=rfl
def q8e(p:q2a×Bool):Value×V:=(.agg (z3q p.1).toArray,(bV p.2))
abbrev q8q(v:Bool):V:=(bV v)
theorem j2l(xs:List (q2a×Bool))(k:q2a)(v:Bool):z8y (.agg (z3q k).toArray) (q8q v) (xs.map q8e) ((q0g xs k v).map q8e):=z2a (kv:=fun k=>.agg (z3q k).toArray) (ev:=q8q) j6o xs k v
theorem j3l(xs:List (q2a×Bool))(k:q2a):j7j (.agg (z3q k).toArray) (xs.map q8e) ((q6b xs k).map q8q):=q4u (kv:=fun k=>.agg (z3q k).toArray) (ev:=q8q) j6o xs k
theorem q2g{xs:List (q2a×Bool)}:∀p,p∈xs.map q8e->Imm p.2:=by
 intro p hp
 obtain⟨x,_,rfl⟩:=List.mem_map.1 hp
 exact(Imm.con _)
instance:EM q8e:=⟨fun _=>(Imm.con _)⟩
theorem z7k{xs:List (q2a×Bool)}:∀p,p∈xs.map q8e->(v3p) p.1:=by
 intro p hp
 obtain⟨x,_,rfl⟩:=List.mem_map.1 hp
 exact⟨_,rfl⟩
def q2c(x:q5c):List V:=[(v7n q4a x.w),(V.lst 1 (x.funcs.map q9h)),(V.lst 1 (x.made.map q9h)),(V.imap (x.slots.map q8e)),(V.lst 2 (x.order.map q1c)),(V.lst 1 (x.types.map q9a)),(V.lst 1 (x.queue.map q9a))]
theorem z8d(x:q5c):q7p (q2c x):=(.cons (w5n _) (.cons (Imm.lst _ _) (.cons (Imm.lst _ _) (.cons (Imm.imap _) (.cons (Imm.lst _ _) (.cons (Imm.lst _ _) (.cons (Imm.lst _ _) .nil)))))))
theorem z6j(x:q5c):(q2c x).all q1z=true:=by unfold q2c;simp only[List.all_cons,List.all_nil,w7l,Bool.true_and];rfl
instance:EI q2c:=⟨z8d,z6j⟩
@[simp] theorem v4g(x:q5c):(q2c x).length=7:=rfl
def q8a(x:q5a):List V:=[(V.imap (x.reached.map q5b)),(V.imap (x.made.map q5b))]
theorem q9v(x:q5a):q7p (q8a x):=(.cons (Imm.imap _) (.cons (Imm.imap _) .nil))
theorem q6w(x:q5a):(q8a x).all q1z=true:=rfl
instance:EI q8a:=⟨q9v,q6w⟩
@[simp] theorem j8j(x:q5a):(q8a x).length=2:=rfl
def q3i(p:B8×(List Int)):Value×V:=(str p.1,(V.dsl 3 1 (p.2.map q9a)))
theorem z2q(p:B8×(List Int)):(q3i p).1=(q3l p).1/\Und (q3i p).2 (q3l p).2/\z7h (q3i p).2:=⟨rfl,j0t q7b _,z7h.dsl _ _ _⟩
instance:EMK q3i:=⟨fun p=>(z2q p).2.2⟩
theorem j1l{xs:List (B8×(List Int))}:∀p,p∈xs.map q3i->z6s p.1:=by
 intro p hp
 obtain⟨x,_,rfl⟩:=List.mem_map.1 hp
 exact⟨_,rfl⟩
def q8t(p:B8×B8):Value×V:=(str p.1,(sV p.2))
abbrev j9d(v:B8):V:=(sV v)
theorem v5b(xs:List (B8×B8))(k:B8)(v:B8):z8y (str k) (j9d v) (xs.map q8t) ((q0g xs k v).map q8t):=z2a (kv:=fun k=>str k) (ev:=j9d) q4l xs k v
theorem j0e{xs:List (B8×B8)}:∀p,p∈xs.map q8t->Imm p.2:=by
 intro p hp
 obtain⟨x,_,rfl⟩:=List.mem_map.1 hp
 exact(Imm.con _)
instance:EM q8t:=⟨fun _=>(Imm.con _)⟩
theorem v6b{xs:List (B8×B8)}:∀p,p∈xs.map q8t->z6s p.1:=by
 intro p hp
 obtain⟨x,_,rfl⟩:=List.mem_map.1 hp
 exact⟨_,rfl⟩
def q4k(p:B8×(List (B8×Bool))):Value×V:=(str p.1,(V.dmp (p.2.map q5b)))
theorem z1q(p:B8×(List (B8×Bool))):(q4k p).1=(q6q p).1/\Und (q4k p).2 (q6q p).2/\z7h (q4k p).2:=⟨rfl,w5j z6t _,z7h.dmp _⟩
instance:EMK q4k:=⟨fun p=>(z1q p).2.2⟩
theorem z6k{xs:List (B8×(List (B8×Bool)))}:∀p,p∈xs.map q4k->z6s p.1:=by
 intro p hp
 obtain⟨x,_,rfl⟩:=List.mem_map.1 hp
 exact⟨_,rfl⟩
def q2j(p:B8×(List q0a)):Value×V:=(str p.1,(V.dsl 219 3 (p.2.map q6a)))
theorem z0q(p:B8×(List q0a)):(q2j p).1=(q7q p).1/\Und (q2j p).2 (q7q p).2/\z7h (q2j p).2:=⟨rfl,j0t q7l _,z7h.dsl _ _ _⟩
instance:EMK q2j:=⟨fun p=>(z0q p).2.2⟩
theorem j0l{xs:List (B8×(List q0a))}:∀p,p∈xs.map q2j->z6s p.1:=by
 intro p hp
 obtain⟨x,_,rfl⟩:=List.mem_map.1 hp
 exact⟨_,rfl⟩
def q6k(p:q6c×(List q1a)):Value×V:=(.agg (z4q p.1).toArray,(V.lst 2 (p.2.map q0b)))
abbrev q8o(v:(List q1a)):V:=(V.lst 2 (v.map q0b))
theorem z5y(xs:List (q6c×(List q1a)))(k:q6c)(v:(List q1a)):z8y (.agg (z4q k).toArray) (q8o v) (xs.map q6k) ((q0g xs k v).map q6k):=z2a (kv:=fun k=>.agg (z4q k).toArray) (ev:=q8o) j7o xs k v
theorem z6y(xs:List (q6c×(List q1a)))(k:q6c):j7j (.agg (z4q k).toArray) (xs.map q6k) ((q6b xs k).map q8o):=q4u (kv:=fun k=>.agg (z4q k).toArray) (ev:=q8o) j7o xs k
instance:EM q6k:=⟨fun _=>(Imm.lst _ _)⟩
theorem z6c{xs:List (q6c×(List q1a))}:∀p,p∈xs.map q6k->(v4p) p.1:=by
 intro p hp
 obtain⟨x,_,rfl⟩:=List.mem_map.1 hp
 exact⟨_,rfl⟩
theorem tS27:tyS Tryz.prog 27 4=true:=by kernel_rfl
theorem tA27:tyA Tryz.prog 27 4=true:=by kernel_rfl
theorem tZ61:zeroCells Tryz.prog 61=some [.string ⟨#[]⟩,.slice none 0 0,.slice none 0 0]:=by kernel_rfl
theorem tZ124:zeroCells Tryz.prog 124=some [.bool false,.map none,.map none,.map none]:=by kernel_rfl
theorem tPl124:q3k Tryz.prog 124=some [(0,1),(1,1),(2,1),(3,1)]:=by kernel_rfl
theorem tS124:tyS Tryz.prog 124 4=true:=by kernel_rfl
theorem tF27_0:tyF Tryz.prog 27 0 0=true:=by kernel_rfl
theorem tC22:tyC Tryz.prog 22=true:=by kernel_rfl
theorem w1w:q5k Tryz.prog 22=true:=by kernel_rfl
theorem tSl22:z8x Tryz.prog 22 2=true:=by kernel_rfl
theorem tA98:tyA Tryz.prog 98 2=true:=by kernel_rfl
theorem tZ98:zeroCells Tryz.prog 98=some [.string ⟨#[]⟩,.slice none 0 0]:=by kernel_rfl
theorem tS98:tyS Tryz.prog 98 2=true:=by kernel_rfl
theorem w9y:tyF Tryz.prog 124 1 1=true:=by kernel_rfl
theorem tC122:tyC Tryz.prog 122=true:=by kernel_rfl
theorem tF98_0:tyF Tryz.prog 98 0 0=true:=by kernel_rfl
theorem tC9:tyC Tryz.prog 9=true:=by kernel_rfl
theorem v7x:q5t Tryz.prog 122 9 98=true:=by kernel_rfl
theorem q6h:j6x Tryz.prog 9 z6s:=w8m (by kernel_rfl)
theorem tF27_1:tyF Tryz.prog 27 1 1=true:=by kernel_rfl
theorem tC23:tyC Tryz.prog 23=true:=by kernel_rfl
theorem w0w:q5k Tryz.prog 23=true:=by kernel_rfl
theorem tSl23:z8x Tryz.prog 23 2=true:=by kernel_rfl
theorem tA104:tyA Tryz.prog 104 2=true:=by kernel_rfl
theorem tZ104:zeroCells Tryz.prog 104=some [.string ⟨#[]⟩,.slice none 0 0]:=by kernel_rfl
theorem tS104:tyS Tryz.prog 104 2=true:=by kernel_rfl
theorem w8y:tyF Tryz.prog 124 2 2=true:=by kernel_rfl
theorem tC89:tyC Tryz.prog 89=true:=by kernel_rfl
theorem w8z:tyF Tryz.prog 104 0 0=true:=by kernel_rfl
theorem q4j:q5t Tryz.prog 89 9 4=true:=by kernel_rfl
theorem tF27_2:tyF Tryz.prog 27 2 2=true:=by kernel_rfl
theorem tC24:tyC Tryz.prog 24=true:=by kernel_rfl
theorem w9v:q5k Tryz.prog 24=true:=by kernel_rfl
theorem tSl24:z8x Tryz.prog 24 4=true:=by kernel_rfl
theorem tA94:tyA Tryz.prog 94 4=true:=by kernel_rfl
theorem tZ94:zeroCells Tryz.prog 94=some [.string ⟨#[]⟩,.string ⟨#[]⟩,.slice none 0 0,.slice none 0 0]:=by kernel_rfl
theorem tS94:tyS Tryz.prog 94 4=true:=by kernel_rfl
theorem w7y:tyF Tryz.prog 124 3 3=true:=by kernel_rfl
theorem tF94_0:tyF Tryz.prog 94 0 0=true:=by kernel_rfl
theorem tA124:tyA Tryz.prog 124 4=true:=by kernel_rfl
theorem fOk59:q2m Tryz.prog 59=true:=by kernel_rfl
theorem tStr9:j1y Tryz.prog 9=true:=by kernel_rfl
theorem fOk79:q2m Tryz.prog 79=true:=by kernel_rfl
theorem fOk173:q2m Tryz.prog 173=true:=by kernel_rfl
theorem tF98_1:tyF Tryz.prog 98 1 1=true:=by kernel_rfl
theorem tC25:tyC Tryz.prog 25=true:=by kernel_rfl
theorem z1s:q5k Tryz.prog 25=true:=by kernel_rfl
theorem j2y:z8x Tryz.prog 25 1=true:=by kernel_rfl
theorem fOk127:q2m Tryz.prog 127=true:=by kernel_rfl
theorem w7z:tyF Tryz.prog 104 1 1=true:=by kernel_rfl
theorem tC102:tyC Tryz.prog 102=true:=by kernel_rfl
theorem w3k:q5k Tryz.prog 102=true:=by kernel_rfl
theorem tSl102:z8x Tryz.prog 102 2=true:=by kernel_rfl
theorem tA116:tyA Tryz.prog 116 2=true:=by kernel_rfl
theorem tZ116:zeroCells Tryz.prog 116=some [.string ⟨#[]⟩,.string ⟨#[]⟩]:=by kernel_rfl
theorem tS116:tyS Tryz.prog 116 2=true:=by kernel_rfl
theorem w2z:tyF Tryz.prog 116 0 0=true:=by kernel_rfl
theorem w0z:tyF Tryz.prog 124 0 0=true:=by kernel_rfl
theorem tC4:tyC Tryz.prog 4=true:=by kernel_rfl
theorem w1z:tyF Tryz.prog 116 1 1=true:=by kernel_rfl
theorem j4m:(Tryz.prog.info? 4).bind (·.zero)=some (.bool false):=by kernel_rfl
theorem fOk128:q2m Tryz.prog 128=true:=by kernel_rfl
theorem tF94_1:tyF Tryz.prog 94 1 1=true:=by kernel_rfl
theorem tF94_2:tyF Tryz.prog 94 2 2=true:=by kernel_rfl
theorem tC92:tyC Tryz.prog 92=true:=by kernel_rfl
theorem w8v:q5k Tryz.prog 92=true:=by kernel_rfl
theorem tSl92:z8x Tryz.prog 92 4=true:=by kernel_rfl
theorem tA109:tyA Tryz.prog 109 4=true:=by kernel_rfl
theorem w6v:zeroCells Tryz.prog 109=some [.int .i64 0,.string ⟨#[]⟩,.string ⟨#[]⟩,.string ⟨#[]⟩]:=by kernel_rfl
theorem tS109:tyS Tryz.prog 109 4=true:=by kernel_rfl
theorem w6z:tyF Tryz.prog 109 0 0=true:=by kernel_rfl
theorem tC3:tyC Tryz.prog 3=true:=by kernel_rfl
theorem w5z:tyF Tryz.prog 109 1 1=true:=by kernel_rfl
theorem w4z:tyF Tryz.prog 109 2 2=true:=by kernel_rfl
theorem tZo98:(Tryz.prog.info? 98).bind (·.zero)=some (.agg #[.string ⟨#[]⟩,.slice none 0 0]):=by kernel_rfl
theorem fOk86:q2m Tryz.prog 86=true:=by kernel_rfl
theorem fOk23:q2m Tryz.prog 23=true:=by kernel_rfl
theorem w3z:tyF Tryz.prog 109 3 3=true:=by kernel_rfl
theorem fOk174:q2m Tryz.prog 174=true:=by kernel_rfl
theorem tF94_3:tyF Tryz.prog 94 3 3=true:=by kernel_rfl
theorem fOk130:q2m Tryz.prog 130=true:=by kernel_rfl
theorem fOk129:q2m Tryz.prog 129=true:=by kernel_rfl
theorem tF27_3:tyF Tryz.prog 27 3 3=true:=by kernel_rfl
theorem fOk60:q2m Tryz.prog 60=true:=by kernel_rfl
theorem fOk17:q2m Tryz.prog 17=true:=by kernel_rfl
theorem fOk143:q2m Tryz.prog 143=true:=by kernel_rfl
theorem tZ91:zeroCells Tryz.prog 91=some [.slice none 0 0,.slice none 0 0,.slice none 0 0,.slice none 0 0,.map none,.map none,.map none,.map none,.bool false]:=by kernel_rfl
theorem tPl91:q3k Tryz.prog 91=some [(0,4),(4,1),(5,1),(6,1),(7,1),(8,1)]:=by kernel_rfl
theorem tS91:tyS Tryz.prog 91 9=true:=by kernel_rfl
theorem tF91_1:tyF Tryz.prog 91 1 4=true:=by kernel_rfl
theorem tC87:tyC Tryz.prog 87=true:=by kernel_rfl
theorem q1o:q5t Tryz.prog 87 9 3=true:=by kernel_rfl
theorem tF91_2:tyF Tryz.prog 91 2 5=true:=by kernel_rfl
theorem tI244:tyI Tryz.prog 244 .u64=true:=by kernel_rfl
theorem tUn3:tyU Tryz.prog 3=true:=by kernel_rfl
theorem tI3:tyI Tryz.prog 3 .i64=true:=by kernel_rfl
theorem tUn244:tyU Tryz.prog 244=true:=by kernel_rfl
theorem fOk158:q2m Tryz.prog 158=true:=by kernel_rfl
theorem fOk100:q2m Tryz.prog 100=true:=by kernel_rfl
theorem fOk208:q2m Tryz.prog 208=true:=by kernel_rfl
theorem fOk207:q2m Tryz.prog 207=true:=by kernel_rfl
theorem fOk169:q2m Tryz.prog 169=true:=by kernel_rfl
theorem fOk117:q2m Tryz.prog 117=true:=by kernel_rfl
theorem tF91_3:tyF Tryz.prog 91 3 6=true:=by kernel_rfl
theorem tC88:tyC Tryz.prog 88=true:=by kernel_rfl
theorem z3o:q5t Tryz.prog 88 9 165=true:=by kernel_rfl
theorem z6v:(Tryz.prog.info? 165).bind (·.zero)=some (.slice none 0 0):=by kernel_rfl
theorem q3v:z0s Tryz.prog 165 3 1 8=true:=by kernel_rfl
theorem tZ3:zeroCells Tryz.prog 3=some [.int .i64 0]:=by kernel_rfl
theorem v8l:q5k Tryz.prog 165=true:=by kernel_rfl
theorem tF91_4:tyF Tryz.prog 91 4 7=true:=by kernel_rfl
theorem fOk41:q2m Tryz.prog 41=true:=by kernel_rfl
theorem fOk78:q2m Tryz.prog 78=true:=by kernel_rfl
theorem j5m:(Tryz.prog.info? 3).bind (·.zero)=some (.int .i64 0):=by kernel_rfl
theorem fOk90:q2m Tryz.prog 90=true:=by kernel_rfl
theorem tPl61:q3k Tryz.prog 61=some [(0,1),(1,1),(2,1)]:=by kernel_rfl
theorem tS61:tyS Tryz.prog 61 3=true:=by kernel_rfl
theorem tA61:tyA Tryz.prog 61 3=true:=by kernel_rfl
theorem tF91_0:tyF Tryz.prog 91 0 0=true:=by kernel_rfl
theorem tZ170:zeroCells Tryz.prog 170=some [.pointer none,.slice none 0 0,.slice none 0 0,.map none,.slice none 0 0,.slice none 0 0,.slice none 0 0]:=by kernel_rfl
theorem tPl170:q3k Tryz.prog 170=some [(0,1),(1,1),(2,1),(3,1),(4,1),(5,1),(6,1)]:=by kernel_rfl
theorem tS170:tyS Tryz.prog 170 7=true:=by kernel_rfl
theorem j7m:z0s Tryz.prog 164 4 1 1=true:=by kernel_rfl
theorem tZ4:zeroCells Tryz.prog 4=some [.bool false]:=by kernel_rfl
theorem w6x:tyF Tryz.prog 170 1 1=true:=by kernel_rfl
theorem tC164:tyC Tryz.prog 164=true:=by kernel_rfl
theorem tSl164:z8x Tryz.prog 164 1=true:=by kernel_rfl
theorem tS4:tyS Tryz.prog 4 1=true:=by kernel_rfl
theorem w2x:tyF Tryz.prog 170 6 6=true:=by kernel_rfl
theorem w9z:tyC Tryz.prog 165=true:=by kernel_rfl
theorem w7v:tyS Tryz.prog 165 1=true:=by kernel_rfl
theorem v4b:q2m Tryz.prog 148=true:=by kernel_rfl
theorem v3x:z8x Tryz.prog 165 1=true:=by kernel_rfl
theorem w5x:tyF Tryz.prog 170 2 2=true:=by kernel_rfl
theorem w7x:tyF Tryz.prog 170 0 0=true:=by kernel_rfl
theorem tC83:tyC Tryz.prog 83=true:=by kernel_rfl
theorem tF91_5:tyF Tryz.prog 91 5 8=true:=by kernel_rfl
theorem w3x:tyF Tryz.prog 170 4 4=true:=by kernel_rfl
theorem tC168:tyC Tryz.prog 168=true:=by kernel_rfl
theorem v7l:q5k Tryz.prog 168=true:=by kernel_rfl
theorem tSl168:z8x Tryz.prog 168 2=true:=by kernel_rfl
theorem tA304:tyA Tryz.prog 304 2=true:=by kernel_rfl
theorem tZ304:zeroCells Tryz.prog 304=some [.string ⟨#[]⟩,.string ⟨#[]⟩]:=by kernel_rfl
theorem tS304:tyS Tryz.prog 304 2=true:=by kernel_rfl
theorem w5w:tyF Tryz.prog 304 0 0=true:=by kernel_rfl
theorem fOk204:q2m Tryz.prog 204=true:=by kernel_rfl
theorem fOk164:q2m Tryz.prog 164=true:=by kernel_rfl
theorem w4w:tyF Tryz.prog 304 1 1=true:=by kernel_rfl
theorem tPl109:q3k Tryz.prog 109=some [(0,1),(1,1),(2,1),(3,1)]:=by kernel_rfl
theorem fOk151:q2m Tryz.prog 151=true:=by kernel_rfl
theorem fOk149:q2m Tryz.prog 149=true:=by kernel_rfl
theorem tPl304:q3k Tryz.prog 304=some [(0,1),(1,1)]:=by kernel_rfl
theorem w4x:tyF Tryz.prog 170 3 3=true:=by kernel_rfl
theorem tC167:tyC Tryz.prog 167=true:=by kernel_rfl
theorem v6x:q5t Tryz.prog 167 304 4=true:=by kernel_rfl
theorem v8x:j6x Tryz.prog 304 v3p:=v2p eqk304 (by kernel_rfl) (fun v ⟨x,hx⟩=>⟨_,⟨x,rfl⟩,hx⟩)
theorem tS168:tyS Tryz.prog 168 1=true:=by kernel_rfl
theorem w4r:z0s Tryz.prog 168 304 2 32=true:=by kernel_rfl
theorem fOk150:q2m Tryz.prog 150=true:=by kernel_rfl
theorem fOk89:q2m Tryz.prog 89=true:=by kernel_rfl
theorem tEl264:z0s Tryz.prog 264 165 1 24=true:=by kernel_rfl
theorem tZ165:zeroCells Tryz.prog 165=some [.slice none 0 0]:=by kernel_rfl
theorem fOk156:q2m Tryz.prog 156=true:=by kernel_rfl
theorem v9l:q5k Tryz.prog 164=true:=by kernel_rfl
theorem w2t:q2m Tryz.prog 152=true:=by kernel_rfl
theorem w1t:q2m Tryz.prog 153=true:=by kernel_rfl
theorem fOk92:q2m Tryz.prog 92=true:=by kernel_rfl
theorem v2x:z8x Tryz.prog 264 1=true:=by kernel_rfl
theorem tS3:tyS Tryz.prog 3 1=true:=by kernel_rfl
theorem fOk94:q2m Tryz.prog 94=true:=by kernel_rfl
theorem tZ80:zeroCells Tryz.prog 80=some [.string ⟨#[]⟩,.int .i64 0,.string ⟨#[]⟩]:=by kernel_rfl
theorem tZ70:zeroCells Tryz.prog 70=some [.string ⟨#[]⟩,.int .i64 0]:=by kernel_rfl
theorem tPl70:q3k Tryz.prog 70=some [(0,1),(1,1)]:=by kernel_rfl
theorem tPl80:q3k Tryz.prog 80=some [(0,2),(2,1)]:=by kernel_rfl
theorem tS80:tyS Tryz.prog 80 3=true:=by kernel_rfl
theorem tA80:tyA Tryz.prog 80 3=true:=by kernel_rfl
theorem fOk95:q2m Tryz.prog 95=true:=by kernel_rfl
theorem fOk96:q2m Tryz.prog 96=true:=by kernel_rfl
theorem fOk97:q2m Tryz.prog 97=true:=by kernel_rfl
theorem v5x:q5t Tryz.prog 183 9 9=true:=by kernel_rfl
theorem tF61_1:tyF Tryz.prog 61 1 1=true:=by kernel_rfl
theorem tC58:tyC Tryz.prog 58=true:=by kernel_rfl
theorem v2y:z0s Tryz.prog 58 80 3 40=true:=by kernel_rfl
theorem v0y:q5k Tryz.prog 58=true:=by kernel_rfl
theorem tS58:tyS Tryz.prog 58 1=true:=by kernel_rfl
theorem tF61_2:tyF Tryz.prog 61 2 2=true:=by kernel_rfl
theorem tC59:tyC Tryz.prog 59=true:=by kernel_rfl
theorem tZ76:zeroCells Tryz.prog 76=some [.string ⟨#[]⟩,.string ⟨#[]⟩]:=by kernel_rfl
theorem tPl76:q3k Tryz.prog 76=some [(0,1),(1,1)]:=by kernel_rfl
theorem v1y:z0s Tryz.prog 59 76 2 32=true:=by kernel_rfl
theorem v2h:q5k Tryz.prog 59=true:=by kernel_rfl
theorem tS59:tyS Tryz.prog 59 1=true:=by kernel_rfl
theorem tS76:tyS Tryz.prog 76 2=true:=by kernel_rfl
theorem tF76_0:tyF Tryz.prog 76 0 0=true:=by kernel_rfl
theorem fOk98:q2m Tryz.prog 98=true:=by kernel_rfl
theorem fOk28:q2m Tryz.prog 28=true:=by kernel_rfl
theorem z7c:z0s Tryz.prog 25 9 1 16=true:=by kernel_rfl
theorem tZ9:zeroCells Tryz.prog 9=some [.string ⟨#[]⟩]:=by kernel_rfl
theorem tZ138:zeroCells Tryz.prog 138=some [.map none,.map none,.map none]:=by kernel_rfl
theorem tPl138:q3k Tryz.prog 138=some [(0,1),(1,1),(2,1)]:=by kernel_rfl
theorem tS138:tyS Tryz.prog 138 3=true:=by kernel_rfl
theorem w6y:tyF Tryz.prog 138 0 0=true:=by kernel_rfl
theorem tC136:tyC Tryz.prog 136=true:=by kernel_rfl
theorem j5t:q5t Tryz.prog 136 9 89=true:=by kernel_rfl
theorem w5y:tyF Tryz.prog 138 1 1=true:=by kernel_rfl
theorem w4y:tyF Tryz.prog 138 2 2=true:=by kernel_rfl
theorem tA138:tyA Tryz.prog 138 3=true:=by kernel_rfl
theorem fOk72:q2m Tryz.prog 72=true:=by kernel_rfl
theorem tZ141:zeroCells Tryz.prog 141=some [.slice none 0 0,.slice none 0 0,.slice none 0 0,.slice none 0 0,.map none,.map none,.map none,.bool false]:=by kernel_rfl
theorem tPl141:q3k Tryz.prog 141=some [(0,4),(4,3),(7,1)]:=by kernel_rfl
theorem tS141:tyS Tryz.prog 141 8=true:=by kernel_rfl
theorem w3y:tyF Tryz.prog 141 0 0=true:=by kernel_rfl
theorem tA141:tyA Tryz.prog 141 8=true:=by kernel_rfl
theorem fOk82:q2m Tryz.prog 82=true:=by kernel_rfl
theorem fOk139:q2m Tryz.prog 139=true:=by kernel_rfl
theorem fOk136:q2m Tryz.prog 136=true:=by kernel_rfl
theorem w1y:tyF Tryz.prog 141 2 7=true:=by kernel_rfl
theorem w2y:tyF Tryz.prog 141 1 4=true:=by kernel_rfl
theorem fOk137:q2m Tryz.prog 137=true:=by kernel_rfl
theorem tZo89:(Tryz.prog.info? 89).bind (·.zero)=some (.map none):=by kernel_rfl
theorem fOk187:q2m Tryz.prog 187=true:=by kernel_rfl
theorem fOk138:q2m Tryz.prog 138=true:=by kernel_rfl
theorem fOk73:q2m Tryz.prog 73=true:=by kernel_rfl
theorem fOk18:q2m Tryz.prog 18=true:=by kernel_rfl
theorem fOk81:q2m Tryz.prog 81=true:=by kernel_rfl
theorem tPl94:q3k Tryz.prog 94=some [(0,1),(1,1),(2,1),(3,1)]:=by kernel_rfl
theorem fOk125:q2m Tryz.prog 125=true:=by kernel_rfl
theorem w3t:q2m Tryz.prog 101=true:=by kernel_rfl
theorem tZ155:zeroCells Tryz.prog 155=some [.slice none 0 0,.slice none 0 0,.slice none 0 0,.slice none 0 0,.map none,.map none]:=by kernel_rfl
theorem tPl155:q3k Tryz.prog 155=some [(0,4),(4,1),(5,1)]:=by kernel_rfl
theorem tS155:tyS Tryz.prog 155 6=true:=by kernel_rfl
theorem w8x:tyF Tryz.prog 155 2 5=true:=by kernel_rfl
theorem tC153:tyC Tryz.prog 153=true:=by kernel_rfl
theorem j4t:q5t Tryz.prog 153 9 94=true:=by kernel_rfl
theorem v4x:q5t Tryz.prog 250 109 217=true:=by kernel_rfl
theorem v9x:j6x Tryz.prog 109 v4p:=v2p eqk109 (by kernel_rfl) (fun v ⟨x,hx⟩=>⟨_,⟨x,rfl⟩,hx⟩)
theorem tZo217:(Tryz.prog.info? 217).bind (·.zero)=some (.slice none 0 0):=by kernel_rfl
theorem w5v:zeroCells Tryz.prog 223=some [.string ⟨#[]⟩,.string ⟨#[]⟩]:=by kernel_rfl
theorem tPl223:q3k Tryz.prog 223=some [(0,1),(1,1)]:=by kernel_rfl
theorem v3y:z0s Tryz.prog 217 223 2 32=true:=by kernel_rfl
theorem tPl98:q3k Tryz.prog 98=some [(0,1),(1,1)]:=by kernel_rfl
theorem fOk190:q2m Tryz.prog 190=true:=by kernel_rfl
theorem fOk191:q2m Tryz.prog 191=true:=by kernel_rfl
theorem fOk192:q2m Tryz.prog 192=true:=by kernel_rfl
theorem w2k:q5k Tryz.prog 217=true:=by kernel_rfl
theorem fOk146:q2m Tryz.prog 146=true:=by kernel_rfl
theorem w9x:tyF Tryz.prog 155 1 4=true:=by kernel_rfl
theorem tC152:tyC Tryz.prog 152=true:=by kernel_rfl
theorem tZ219:zeroCells Tryz.prog 219=some [.string ⟨#[]⟩,.int .i64 0,.slice none 0 0]:=by kernel_rfl
theorem tPl219:q3k Tryz.prog 219=some [(0,2),(2,1)]:=by kernel_rfl
theorem z5l:q5t Tryz.prog 152 9 212=true:=by kernel_rfl
theorem j6m:(Tryz.prog.info? 212).bind (·.zero)=some (.slice none 0 0):=by kernel_rfl
theorem w3r:z0s Tryz.prog 212 219 3 48=true:=by kernel_rfl
theorem v6l:q5k Tryz.prog 212=true:=by kernel_rfl
theorem tA155:tyA Tryz.prog 155 6=true:=by kernel_rfl
theorem fOk83:q2m Tryz.prog 83=true:=by kernel_rfl
theorem tZ193:zeroCells Tryz.prog 193=some [.map none,.map none]:=by kernel_rfl
theorem tPl193:q3k Tryz.prog 193=some [(0,1),(1,1)]:=by kernel_rfl
theorem tS193:tyS Tryz.prog 193 2=true:=by kernel_rfl
theorem tA193:tyA Tryz.prog 193 2=true:=by kernel_rfl
theorem w0y:tyF Tryz.prog 155 0 0=true:=by kernel_rfl
theorem w1x:tyF Tryz.prog 193 0 0=true:=by kernel_rfl
theorem w4v:(Tryz.prog.info? 94).bind (·.zero)=some (.agg #[.string ⟨#[]⟩,.string ⟨#[]⟩,.slice none 0 0,.slice none 0 0]):=by kernel_rfl
theorem w3w:tyFC Tryz.prog 94 3=true:=by kernel_rfl
theorem w0x:tyF Tryz.prog 193 1 1=true:=by kernel_rfl
theorem tSl212:z8x Tryz.prog 212 3=true:=by kernel_rfl
theorem tA219:tyA Tryz.prog 219 3=true:=by kernel_rfl
theorem tS219:tyS Tryz.prog 219 3=true:=by kernel_rfl
theorem w8w:tyF Tryz.prog 219 1 2=true:=by kernel_rfl
theorem tC217:tyC Tryz.prog 217=true:=by kernel_rfl
theorem tSl217:z8x Tryz.prog 217 2=true:=by kernel_rfl
theorem tA223:tyA Tryz.prog 223 2=true:=by kernel_rfl
theorem tS223:tyS Tryz.prog 223 2=true:=by kernel_rfl
theorem w6w:tyF Tryz.prog 223 1 1=true:=by kernel_rfl
theorem w7w:tyF Tryz.prog 223 0 0=true:=by kernel_rfl
theorem fOk159:q2m Tryz.prog 159=true:=by kernel_rfl
theorem fOk102:q2m Tryz.prog 102=true:=by kernel_rfl
theorem fOk160:q2m Tryz.prog 160=true:=by kernel_rfl
theorem fOk103:q2m Tryz.prog 103=true:=by kernel_rfl
theorem tF61_0:tyF Tryz.prog 61 0 0=true:=by kernel_rfl
theorem tS9:tyS Tryz.prog 9 1=true:=by kernel_rfl
theorem w9w:tyF Tryz.prog 219 0 0=true:=by kernel_rfl
theorem tA70:tyA Tryz.prog 70 2=true:=by kernel_rfl
theorem fOk104:q2m Tryz.prog 104=true:=by kernel_rfl
theorem tF80_1:tyF Tryz.prog 80 1 2=true:=by kernel_rfl
theorem w0t:q2m Tryz.prog 161=true:=by kernel_rfl
theorem fOk105:q2m Tryz.prog 105=true:=by kernel_rfl
theorem fOk106:q2m Tryz.prog 106=true:=by kernel_rfl
theorem fOk29:q2m Tryz.prog 29=true:=by kernel_rfl
theorem tB4:tyB Tryz.prog 4=true:=by kernel_rfl
theorem tEl92:z0s Tryz.prog 92 109 4 56=true:=by kernel_rfl
theorem tEl24:z0s Tryz.prog 24 94 4 80=true:=by kernel_rfl
theorem tZ27:zeroCells Tryz.prog 27=some [.slice none 0 0,.slice none 0 0,.slice none 0 0,.slice none 0 0]:=by kernel_rfl
theorem tPl27:q3k Tryz.prog 27=some [(0,1),(1,1),(2,1),(3,1)]:=by kernel_rfl
theorem fOk25:q2m Tryz.prog 25=true:=by kernel_rfl
theorem fOk26:q2m Tryz.prog 26=true:=by kernel_rfl
theorem fOk14:q2m Tryz.prog 14=true:=by kernel_rfl
theorem fOk37:q2m Tryz.prog 37=true:=by kernel_rfl
theorem fOk36:q2m Tryz.prog 36=true:=by kernel_rfl
theorem fOk39:q2m Tryz.prog 39=true:=by kernel_rfl
theorem fOk38:q2m Tryz.prog 38=true:=by kernel_rfl
theorem tSl59:z8x Tryz.prog 59 2=true:=by kernel_rfl
theorem tA76:tyA Tryz.prog 76 2=true:=by kernel_rfl
theorem tF76_1:tyF Tryz.prog 76 1 1=true:=by kernel_rfl
theorem fOk162:q2m Tryz.prog 162=true:=by kernel_rfl
theorem tSl58:z8x Tryz.prog 58 3=true:=by kernel_rfl
theorem tF80_0:tyF Tryz.prog 80 0 0=true:=by kernel_rfl
theorem tF70_0:tyF Tryz.prog 70 0 0=true:=by kernel_rfl
theorem tF70_1:tyF Tryz.prog 70 1 1=true:=by kernel_rfl
theorem fOk163:q2m Tryz.prog 163=true:=by kernel_rfl
theorem fOk165:q2m Tryz.prog 165=true:=by kernel_rfl
theorem fOk205:q2m Tryz.prog 205=true:=by kernel_rfl
theorem w9s:q2m Tryz.prog 166=true:=by kernel_rfl
theorem fOk109:q2m Tryz.prog 109=true:=by kernel_rfl
theorem fOk31:q2m Tryz.prog 31=true:=by kernel_rfl
theorem fOk116:q2m Tryz.prog 116=true:=by kernel_rfl
theorem w2r:Tryz.prog.eqGuardType Tryz.prog.depth 70=false:=by kernel_rfl
theorem fOk40:q2m Tryz.prog 40=true:=by kernel_rfl
def tt:TT:=[(3,[.C,.U,.I .i64,.S 1]),(4,[.C,.S 1,.B]),(9,[.C,.Str,.S 1]),(14,[.Fn]),(17,[.Fn]),(18,[.Fn]),(22,[.C,.Sn,.Sl 2]),(23,[.C,.Sn,.Sl 2,.Fn]),(24,[.C,.Sn,.Sl 4]),(25,[.C,.Sn,.Sl 1,.El 9 1 16]),(27,[.S 4,.A 4,.F 0 0,.F 1 1,.F 2 2,.F 3 3,.Z 4 [.slice none 0 0,.slice none 0 0,.slice none 0 0,.slice none 0 0],.Pl [(0,1),(1,1),(2,1),(3,1)]]),(28,[.Fn]),(29,[.Fn]),(31,[.Fn]),(40,[.Fn]),(41,[.Fn]),(58,[.C,.El 80 3 40,.Sn,.S 1,.Sl 3]),(59,[.Fn,.C,.El 76 2 32,.Sn,.S 1,.Sl 2]),(60,[.Fn]),(61,[.Z 3 [.string ⟨#[]⟩,.slice none 0 0,.slice none 0 0],.Pl [(0,1),(1,1),(2,1)],.S 3,.A 3,.F 1 1,.F 2 2,.F 0 0]),(70,[.Z 2 [.string ⟨#[]⟩,.int .i64 0],.Pl [(0,1),(1,1)],.A 2,.F 0 0,.F 1 1]),(72,[.Fn]),(73,[.Fn]),(76,[.Z 2 [.string ⟨#[]⟩,.string ⟨#[]⟩],.Pl [(0,1),(1,1)],.S 2,.F 0 0,.A 2,.F 1 1]),(78,[.Fn]),(79,[.Fn]),(80,[.Z 3 [.string ⟨#[]⟩,.int .i64 0,.string ⟨#[]⟩],.Pl [(0,2),(2,1)],.S 3,.A 3,.F 1 2,.F 0 0]),(81,[.Fn]),(82,[.Fn]),(83,[.C,.Fn]),(86,[.Fn]),(87,[.C]),(88,[.C]),(89,[.C,.Fn]),(90,[.Fn]),(91,[.Z 9 [.slice none 0 0,.slice none 0 0,.slice none 0 0,.slice none 0 0,.map none,.map none,.map none,.map none,.bool false],.Pl [(0,4),(4,1),(5,1),(6,1),(7,1),(8,1)],.S 9,.F 1 4,.F 2 5,.F 3 6,.F 4 7,.F 0 0,.F 5 8]),(92,[.C,.Sn,.Sl 4,.Fn]),(94,[.A 4,.Z 4 [.string ⟨#[]⟩,.string ⟨#[]⟩,.slice none 0 0,.slice none 0 0],.S 4,.F 0 0,.F 1 1,.F 2 2,.F 3 3,.Fn,.Pl [(0,1),(1,1),(2,1),(3,1)],.FC 3]),(95,[.Fn]),(96,[.Fn]),(97,[.Fn]),(98,[.A 2,.Z 2 [.string ⟨#[]⟩,.slice none 0 0],.S 2,.F 0 0,.F 1 1,.Pl [(0,1),(1,1)]]),(100,[.Fn]),(102,[.C,.Sn,.Sl 2,.Fn]),(103,[.Fn]),(104,[.A 2,.Z 2 [.string ⟨#[]⟩,.slice none 0 0],.S 2,.F 0 0,.F 1 1,.Fn]),(106,[.Fn]),(109,[.A 4,.Z 4 [.int .i64 0,.string ⟨#[]⟩,.string ⟨#[]⟩,.string ⟨#[]⟩],.S 4,.F 0 0,.F 1 1,.F 2 2,.F 3 3,.Pl [(0,1),(1,1),(2,1),(3,1)],.Fn]),(116,[.A 2,.Z 2 [.string ⟨#[]⟩,.string ⟨#[]⟩],.S 2,.F 0 0,.F 1 1,.Fn]),(117,[.Fn]),(122,[.C]),(124,[.Z 4 [.bool false,.map none,.map none,.map none],.Pl [(0,1),(1,1),(2,1),(3,1)],.S 4,.F 1 1,.F 2 2,.F 3 3,.A 4,.F 0 0]),(125,[.Fn]),(127,[.Fn]),(128,[.Fn]),(129,[.Fn]),(130,[.Fn]),(136,[.C,.Fn]),(137,[.Fn]),(138,[.Z 3 [.map none,.map none,.map none],.Pl [(0,1),(1,1),(2,1)],.S 3,.F 0 0,.F 1 1,.F 2 2,.A 3,.Fn]),(139,[.Fn]),(141,[.Z 8 [.slice none 0 0,.slice none 0 0,.slice none 0 0,.slice none 0 0,.map none,.map none,.map none,.bool false],.Pl [(0,4),(4,3),(7,1)],.S 8,.F 0 0,.A 8,.F 2 7,.F 1 4]),(143,[.Fn]),(146,[.Fn]),(151,[.Fn]),(152,[.C]),(153,[.C]),(155,[.Z 6 [.slice none 0 0,.slice none 0 0,.slice none 0 0,.slice none 0 0,.map none,.map none],.Pl [(0,4),(4,1),(5,1)],.S 6,.F 2 5,.F 1 4,.A 6,.F 0 0]),(156,[.Fn]),(158,[.Fn]),(159,[.Fn]),(160,[.Fn]),(161,[.Fn]),(162,[.Fn]),(163,[.Fn]),(164,[.C,.Sl 1,.Fn,.Sn]),(165,[.C,.El 3 1 8,.Sn,.S 1,.Sl 1,.Fn]),(167,[.C]),(168,[.C,.Sn,.Sl 2,.S 1]),(169,[.Fn]),(170,[.Z 7 [.pointer none,.slice none 0 0,.slice none 0 0,.map none,.slice none 0 0,.slice none 0 0,.slice none 0 0],.Pl [(0,1),(1,1),(2,1),(3,1),(4,1),(5,1),(6,1)],.S 7,.F 1 1,.F 6 6,.F 2 2,.F 0 0,.F 4 4,.F 3 3]),(173,[.Fn]),(174,[.Fn]),(187,[.Fn]),(190,[.Fn]),(191,[.Fn]),(192,[.Fn]),(193,[.Z 2 [.map none,.map none],.Pl [(0,1),(1,1)],.S 2,.A 2,.F 0 0,.F 1 1]),(204,[.Fn]),(205,[.Fn]),(207,[.Fn]),(208,[.Fn]),(212,[.Sn,.Sl 3]),(217,[.El 223 2 32,.Sn,.C,.Sl 2]),(219,[.Z 3 [.string ⟨#[]⟩,.int .i64 0,.slice none 0 0],.Pl [(0,2),(2,1)],.A 3,.S 3,.F 1 2,.F 0 0]),(223,[.Z 2 [.string ⟨#[]⟩,.string ⟨#[]⟩],.Pl [(0,1),(1,1)],.A 2,.S 2,.F 1 1,.F 0 0]),(244,[.I .u64,.U]),(264,[.Sl 1]),(304,[.A 2,.Z 2 [.string ⟨#[]⟩,.string ⟨#[]⟩],.S 2,.F 0 0,.F 1 1,.Pl [(0,1),(1,1)]])]
theorem ok:z9c Tryz.prog tt:=w9q ⟨⟨tC3,tUn3,tI3,tS3,trivial⟩,⟨tC4,tS4,tB4,trivial⟩,⟨tC9,tStr9,tS9,trivial⟩,⟨fOk14,trivial⟩,⟨fOk17,trivial⟩,⟨fOk18,trivial⟩,⟨tC22,w1w,tSl22,trivial⟩,⟨tC23,w0w,tSl23,fOk23,trivial⟩,⟨tC24,w9v,tSl24,trivial⟩,⟨tC25,z1s,j2y,z7c,trivial⟩,⟨tS27,tA27,tF27_0,tF27_1,tF27_2,tF27_3,⟨tZ27,rfl⟩,tPl27,trivial⟩,⟨fOk28,trivial⟩,⟨fOk29,trivial⟩,⟨fOk31,trivial⟩,⟨fOk40,trivial⟩,⟨fOk41,trivial⟩,⟨tC58,v2y,v0y,tS58,tSl58,trivial⟩,⟨fOk59,tC59,v1y,v2h,tS59,tSl59,trivial⟩,⟨fOk60,trivial⟩,⟨⟨tZ61,rfl⟩,tPl61,tS61,tA61,tF61_1,tF61_2,tF61_0,trivial⟩,⟨⟨tZ70,rfl⟩,tPl70,tA70,tF70_0,tF70_1,trivial⟩,⟨fOk72,trivial⟩,⟨fOk73,trivial⟩,⟨⟨tZ76,rfl⟩,tPl76,tS76,tF76_0,tA76,tF76_1,trivial⟩,⟨fOk78,trivial⟩,⟨fOk79,trivial⟩,⟨⟨tZ80,rfl⟩,tPl80,tS80,tA80,tF80_1,tF80_0,trivial⟩,⟨fOk81,trivial⟩,⟨fOk82,trivial⟩,⟨tC83,fOk83,trivial⟩,⟨fOk86,trivial⟩,⟨tC87,trivial⟩,⟨tC88,trivial⟩,⟨tC89,fOk89,trivial⟩,⟨fOk90,trivial⟩,⟨⟨tZ91,rfl⟩,tPl91,tS91,tF91_1,tF91_2,tF91_3,tF91_4,tF91_0,tF91_5,trivial⟩,⟨tC92,w8v,tSl92,fOk92,trivial⟩,⟨tA94,⟨tZ94,rfl⟩,tS94,tF94_0,tF94_1,tF94_2,tF94_3,fOk94,tPl94,w3w,trivial⟩,⟨fOk95,trivial⟩,⟨fOk96,trivial⟩,⟨fOk97,trivial⟩,⟨tA98,⟨tZ98,rfl⟩,tS98,tF98_0,tF98_1,tPl98,trivial⟩,⟨fOk100,trivial⟩,⟨tC102,w3k,tSl102,fOk102,trivial⟩,⟨fOk103,trivial⟩,⟨tA104,⟨tZ104,rfl⟩,tS104,w8z,w7z,fOk104,trivial⟩,⟨fOk106,trivial⟩,⟨tA109,⟨w6v,rfl⟩,tS109,w6z,w5z,w4z,w3z,tPl109,fOk109,trivial⟩,⟨tA116,⟨tZ116,rfl⟩,tS116,w2z,w1z,fOk116,trivial⟩,⟨fOk117,trivial⟩,⟨tC122,trivial⟩,⟨⟨tZ124,rfl⟩,tPl124,tS124,w9y,w8y,w7y,tA124,w0z,trivial⟩,⟨fOk125,trivial⟩,⟨fOk127,trivial⟩,⟨fOk128,trivial⟩,⟨fOk129,trivial⟩,⟨fOk130,trivial⟩,⟨tC136,fOk136,trivial⟩,⟨fOk137,trivial⟩,⟨⟨tZ138,rfl⟩,tPl138,tS138,w6y,w5y,w4y,tA138,fOk138,trivial⟩,⟨fOk139,trivial⟩,⟨⟨tZ141,rfl⟩,tPl141,tS141,w3y,tA141,w1y,w2y,trivial⟩,⟨fOk143,trivial⟩,⟨fOk146,trivial⟩,⟨fOk151,trivial⟩,⟨tC152,trivial⟩,⟨tC153,trivial⟩,⟨⟨tZ155,rfl⟩,tPl155,tS155,w8x,w9x,tA155,w0y,trivial⟩,⟨fOk156,trivial⟩,⟨fOk158,trivial⟩,⟨fOk159,trivial⟩,⟨fOk160,trivial⟩,⟨w0t,trivial⟩,⟨fOk162,trivial⟩,⟨fOk163,trivial⟩,⟨tC164,tSl164,fOk164,v9l,trivial⟩,⟨w9z,q3v,v8l,w7v,v3x,fOk165,trivial⟩,⟨tC167,trivial⟩,⟨tC168,v7l,tSl168,tS168,trivial⟩,⟨fOk169,trivial⟩,⟨⟨tZ170,rfl⟩,tPl170,tS170,w6x,w2x,w5x,w7x,w3x,w4x,trivial⟩,⟨fOk173,trivial⟩,⟨fOk174,trivial⟩,⟨fOk187,trivial⟩,⟨fOk190,trivial⟩,⟨fOk191,trivial⟩,⟨fOk192,trivial⟩,⟨⟨tZ193,rfl⟩,tPl193,tS193,tA193,w1x,w0x,trivial⟩,⟨fOk204,trivial⟩,⟨fOk205,trivial⟩,⟨fOk207,trivial⟩,⟨fOk208,trivial⟩,⟨v6l,tSl212,trivial⟩,⟨v3y,w2k,tC217,tSl217,trivial⟩,⟨⟨tZ219,rfl⟩,tPl219,tA219,tS219,w8w,w9w,trivial⟩,⟨⟨w5v,rfl⟩,tPl223,tA223,tS223,w6w,w7w,trivial⟩,⟨tI244,tUn244,trivial⟩,⟨v2x,trivial⟩,⟨tA304,⟨tZ304,rfl⟩,tS304,w5w,w4w,tPl304,trivial⟩,trivial⟩
instance {N:Nat} {w:World} {m:Mem} {o:Nat->Prop} {p:Nat} {l:Nat->Option (Option (Nat×Cap))} {g:Gl} {h:v7g g m}:TC ⟨Tryz.prog,N,w,m,o,p,l,g,h⟩ tt:=⟨ok⟩
end Go.Proofs.YtpbkggamiipdmaaGreat
