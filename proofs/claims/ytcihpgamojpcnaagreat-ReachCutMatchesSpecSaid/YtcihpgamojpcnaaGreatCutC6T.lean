/- Part of the proof: C6T. -/
import Derived.Test.YtcihpgamojpcnaaGreatCutZA
import Derived.Test.YtcihpgamojpcnaaGreatCutWA
import Derived.Test.YtcihpgamojpcnaaGreatCutDN
import Derived.Test.YtcihpgamojpcnaaGreatCutZS
import Derived.Test.YtcihpgamojpcnaaGreatCutEI
import Derived.Test.YtcihpgamojpcnaaGreatCutDX6
import Derived.Test.YtcihpgamojpcnaaGreatProg
import Derived.KernelRfl
set_option linter.unusedSimpArgs false
set_option linter.unusedVariables false
namespace Go.Proofs.YtcihpgamojpcnaaGreat
open Go Go.Pv
set_option maxRecDepth 100000
theorem mixed:Tryz.prog.follows .mixedOrders=true:=by kernel_rfl
structure q7d where
 Name:B8
 Methods:(List B8)
 deriving DecidableEq
structure q3j where
 Name:B8
 Func:B8
 deriving DecidableEq
structure q6g where
 Name:B8
 Methods:(List q3j)
 deriving DecidableEq
structure q4e where
 Kind:Int
 Target:B8
 Method:B8
 Feature:B8
 deriving DecidableEq
structure q8e where
 Name:B8
 Component:B8
 Calls:(List q4e)
 Makes:(List B8)
 deriving DecidableEq
structure q4c where
 Ifaces:(List q7d)
 Types:(List q6g)
 Funcs:(List q8e)
 Entries:(List B8)
 deriving DecidableEq
structure q1b where
 Func:B8
 Call:Int
 deriving DecidableEq
structure q4d where
 loose:Bool
 ifaces:(List (B8×q7d))
 types:(List (B8×Bool))
 funcs:(List (B8×Bool))
 deriving DecidableEq
structure q8b where
 g:q4c
 funcs:(List (B8×Int))
 types:(List (B8×Int))
 fitting:(List (B8×(List Int)))
 on:(List (B8×Bool))
 made:Bool
 deriving DecidableEq
structure q3a where
 iface:B8
 method:B8
 deriving DecidableEq
structure q4f where
 w:(Option q8b)
 funcs:(List Bool)
 made:(List Bool)
 slots:(List (q3a×Bool))
 order:(List q3a)
 types:(List Int)
 queue:(List Int)
 deriving DecidableEq
structure q6a where
 to:Int
 left:Int
 back:Int
 deriving DecidableEq
structure q0e where
 ifaces:(List (B8×(List (B8×Bool))))
 types:(List (B8×Bool))
 funcs:(List (B8×Bool))
 deriving DecidableEq
structure q1c where
 g:q4c
 n:q0e
 loose:Bool
 deriving DecidableEq
structure q8a where
 typ:B8
 to:B8
 deriving DecidableEq
structure q1a where
 site:q1b
 aims:(List q8a)
 deriving DecidableEq
structure q1d where
 g:q4c
 links:(List (B8×(List q1a)))
 funcs:(List (B8×q8e))
 deriving DecidableEq
structure q0a where
 name:B8
 call:Int
 end_:Bool
 deriving DecidableEq
structure q9c where
 n:q1d
 used:(List (q1b×Bool))
 units:(List (q0a×(List (q0a×Int))))
 back:(List (B8×(List q1b)))
 deriving DecidableEq
def q7a(x:Int):List V:=[(iV x)]
theorem q2b(x:Int):q1t (q7a x):=(.cons (Imm.con _) .nil)
theorem z5u(x:Int):(q7a x).all z3c=true:=rfl
instance:EI q7a:=⟨q2b,z5u⟩
def q0o(x:Bool):List V:=[(bV x)]
theorem q4g(x:Bool):q1t (q0o x):=(.cons (Imm.con _) .nil)
theorem w2l(x:Bool):(q0o x).all z3c=true:=rfl
instance:EI q0o:=⟨q4g,w2l⟩
def q0g(x:B8):List V:=[(sV x)]
theorem q6w(x:B8):q1t (q0g x):=(.cons (Imm.con _) .nil)
theorem z6i(x:B8):(q0g x).all z3c=true:=rfl
instance:EI q0g:=⟨q6w,z6i⟩
def q7b(x:q7d):List V:=[(sV x.Name),(V.lst 1 (x.Methods.map q0g))]
theorem q4p(x:q7d):q1t (q7b x):=(.cons (Imm.con _) (.cons (Imm.lst _ _) .nil))
theorem j5s(x:q7d):(q7b x).all z3c=true:=rfl
instance:EI q7b:=⟨q4p,j5s⟩
@[simp] theorem w8l(x:q7d):(q7b x).length=2:=rfl
def q8i(x:q3j):List V:=[(sV x.Name),(sV x.Func)]
theorem z2g(x:q3j):q1t (q8i x):=(.cons (Imm.con _) (.cons (Imm.con _) .nil))
theorem j5l(x:q3j):(q8i x).all z3c=true:=rfl
instance:EI q8i:=⟨z2g,j5l⟩
@[simp] theorem w1i(x:q3j):(q8i x).length=2:=rfl
def q2c(x:q6g):List V:=[(sV x.Name),(V.lst 2 (x.Methods.map q8i))]
theorem q9q(x:q6g):q1t (q2c x):=(.cons (Imm.con _) (.cons (Imm.lst _ _) .nil))
theorem j9x(x:q6g):(q2c x).all z3c=true:=rfl
instance:EI q2c:=⟨q9q,j9x⟩
@[simp] theorem w1s(x:q6g):(q2c x).length=2:=rfl
def q3f(x:q4e):List V:=[(iV x.Kind),(sV x.Target),(sV x.Method),(sV x.Feature)]
theorem q0y(x:q4e):q1t (q3f x):=(.cons (Imm.con _) (.cons (Imm.con _) (.cons (Imm.con _) (.cons (Imm.con _) .nil))))
theorem j1y(x:q4e):(q3f x).all z3c=true:=rfl
instance:EI q3f:=⟨q0y,j1y⟩
@[simp] theorem w4s(x:q4e):(q3f x).length=4:=rfl
def q9b(x:q8e):List V:=[(sV x.Name),(sV x.Component),(V.lst 4 (x.Calls.map q3f)),(V.lst 1 (x.Makes.map q0g))]
theorem q9x(x:q8e):q1t (q9b x):=(.cons (Imm.con _) (.cons (Imm.con _) (.cons (Imm.lst _ _) (.cons (Imm.lst _ _) .nil))))
theorem j0y(x:q8e):(q9b x).all z3c=true:=rfl
instance:EI q9b:=⟨q9x,j0y⟩
@[simp] theorem w3s(x:q8e):(q9b x).length=4:=rfl
def q7c(x:q4c):List V:=[(V.lst 2 (x.Ifaces.map q7b)),(V.lst 2 (x.Types.map q2c)),(V.lst 4 (x.Funcs.map q9b)),(V.lst 1 (x.Entries.map q0g))]
theorem q8v(x:q4c):q1t (q7c x):=(.cons (Imm.lst _ _) (.cons (Imm.lst _ _) (.cons (Imm.lst _ _) (.cons (Imm.lst _ _) .nil))))
theorem j6s(x:q4c):(q7c x).all z3c=true:=rfl
instance:EI q7c:=⟨q8v,j6s⟩
@[simp] theorem w9l(x:q4c):(q7c x).length=4:=rfl
def q8c(x:q1b):List V:=[(sV x.Func),(iV x.Call)]
theorem q2i(x:q1b):q1t (q8c x):=(.cons (Imm.con _) (.cons (Imm.con _) .nil))
theorem z4u(x:q1b):(q8c x).all z3c=true:=rfl
instance:EI q8c:=⟨q2i,z4u⟩
@[simp] theorem w2s(x:q1b):(q8c x).length=2:=rfl
theorem y1c{d:Nat}:j6k Tryz.prog (d+1) 9 1 false (fun l=>∃n,l=[.string n]):=w3n (show Tryz.prog.underlying 9=some (.string) by kernel_rfl) (show tyC Tryz.prog 9=true by kernel_rfl)
def z0q(x:q3a):List Value:=[str x.iface]++([str x.method]++[])
theorem w8c(x y:q3a)(h:z0q x=z0q y):x=y:=by
 obtain⟨h0,h⟩:=ai9 h rfl;obtain⟨h1,h⟩:=ai9 h rfl;obtain⟨a0,a1⟩:=x;obtain⟨b0,b1⟩:=y;obtain rfl:a0=b0:=q5m _ _ (ai8 h0).1;obtain rfl:a1=b1:=q5m _ _ (ai8 h1).1;rfl
def v4p(v:Value):Prop:=∃x:q3a,v=.agg (z0q x).toArray
theorem j3p:∀a b:q3a,(Value.agg (z0q a).toArray)=.agg (z0q b).toArray->a=b:=fun a b h=>w8c a b (by simpa using congrArg Array.toList (Value.agg.inj h))
theorem y9o {d:Nat}:j6k Tryz.prog (d+2) 163 2 true (fun l=>∃x:q3a,l=z0q x):=(z8d (d:=d+1) (fs:=[(Field.mk "iface" 9 0 false "" "provender/reach" 0),(Field.mk "method" 9 1 false "" "provender/reach" 16)]) (by kernel_rfl) (by kernel_rfl) (by kernel_rfl) (by kernel_rfl) (q0u y1c (by simp) rfl (by simp) (q0u y1c (by simp) rfl (by simp) j5t))).weaken (fun l ⟨x,hx⟩=>by subst hx;exact⟨_,_,rfl,⟨_,rfl⟩,⟨_,_,rfl,⟨_,rfl⟩,rfl⟩⟩)
theorem y2p:j6k Tryz.prog 10000 163 2 true (fun l=>∃x:q3a,l=z0q x):=y9o (d:=9998)
theorem eqp3{d:Nat}:j6k Tryz.prog (d+1) 3 1 false (fun l=>∃n,l=[.int .i64 n]):=w4n (show Tryz.prog.underlying 3=some (.int .i64) by kernel_rfl) (show tyC Tryz.prog 3=true by kernel_rfl)
def j8p(x:q1b):List Value:=[str x.Func]++([.int .i64 x.Call]++[])
theorem v5p(x y:q1b)(h:j8p x=j8p y):x=y:=by
 obtain⟨h0,h⟩:=ai9 h rfl;obtain⟨h1,h⟩:=ai9 h rfl;obtain⟨a0,a1⟩:=x;obtain⟨b0,b1⟩:=y;obtain rfl:a0=b0:=q5m _ _ (ai8 h0).1;obtain rfl:a1=b1:=v6k _ _ (ai8 h1).1;rfl
def w3c(v:Value):Prop:=∃x:q1b,v=.agg (j8p x).toArray
theorem j7z:∀a b:q1b,(Value.agg (j8p a).toArray)=.agg (j8p b).toArray->a=b:=fun a b h=>v5p a b (by simpa using congrArg Array.toList (Value.agg.inj h))
theorem eqp41 {d:Nat}:j6k Tryz.prog (d+2) 41 2 true (fun l=>∃x:q1b,l=j8p x):=(z8d (d:=d+1) (fs:=[(Field.mk "Func" 9 0 false "" "" 0),(Field.mk "Call" 3 1 false "" "" 16)]) (by kernel_rfl) (by kernel_rfl) (by kernel_rfl) (by kernel_rfl) (q0u y1c (by simp) rfl (by simp) (q0u eqp3 (by simp) rfl (by simp) j5t))).weaken (fun l ⟨x,hx⟩=>by subst hx;exact⟨_,_,rfl,⟨_,rfl⟩,⟨_,_,rfl,⟨_,rfl⟩,rfl⟩⟩)
theorem y1p:j6k Tryz.prog 10000 41 2 true (fun l=>∃x:q1b,l=j8p x):=eqp41 (d:=9998)
theorem eqp4{d:Nat}:j6k Tryz.prog (d+1) 4 1 false (fun l=>∃n,l=[.bool n]):=w3e (show Tryz.prog.underlying 4=some (.bool) by kernel_rfl) (show tyC Tryz.prog 4=true by kernel_rfl)
def q1i(x:q0a):List Value:=[str x.name]++([.int .i64 x.call]++([.bool x.end_]++[]))
theorem j5z(x y:q0a)(h:q1i x=q1i y):x=y:=by
 obtain⟨h0,h⟩:=ai9 h rfl;obtain⟨h1,h⟩:=ai9 h rfl;obtain⟨h2,h⟩:=ai9 h rfl;obtain⟨a0,a1,a2⟩:=x;obtain⟨b0,b1,b2⟩:=y;obtain rfl:a0=b0:=q5m _ _ (ai8 h0).1;obtain rfl:a1=b1:=v6k _ _ (ai8 h1).1;obtain rfl:a2=b2:=w7m _ _ (ai8 h2).1;rfl
def q8q(v:Value):Prop:=∃x:q0a,v=.agg (q1i x).toArray
theorem q1k:∀a b:q0a,(Value.agg (q1i a).toArray)=.agg (q1i b).toArray->a=b:=fun a b h=>j5z a b (by simpa using congrArg Array.toList (Value.agg.inj h))
theorem y0p {d:Nat}:j6k Tryz.prog (d+2) 108 3 true (fun l=>∃x:q0a,l=q1i x):=(z8d (d:=d+1) (fs:=[(Field.mk "name" 9 0 false "" "provender/provenderref6" 0),(Field.mk "call" 3 1 false "" "provender/provenderref6" 16),(Field.mk "end" 4 2 false "" "provender/provenderref6" 24)]) (by kernel_rfl) (by kernel_rfl) (by kernel_rfl) (by kernel_rfl) (q0u y1c (by simp) rfl (by simp) (q0u eqp3 (by simp) rfl (by simp) (q0u eqp4 (by simp) rfl (by simp) j5t)))).weaken (fun l ⟨x,hx⟩=>by subst hx;exact⟨_,_,rfl,⟨_,rfl⟩,⟨_,_,rfl,⟨_,rfl⟩,⟨_,_,rfl,⟨_,rfl⟩,rfl⟩⟩⟩)
theorem w9s:j6k Tryz.prog 10000 108 3 true (fun l=>∃x:q0a,l=q1i x):=y0p (d:=9998)
def v6q(x:q4e):List Value:=[.int .i64 x.Kind]++([str x.Target]++([str x.Method]++([str x.Feature]++[])))
theorem w6m(x y:q4e)(h:v6q x=v6q y):x=y:=by
 obtain⟨h0,h⟩:=ai9 h rfl;obtain⟨h1,h⟩:=ai9 h rfl;obtain⟨h2,h⟩:=ai9 h rfl;obtain⟨h3,h⟩:=ai9 h rfl;obtain⟨a0,a1,a2,a3⟩:=x;obtain⟨b0,b1,b2,b3⟩:=y;obtain rfl:a0=b0:=v6k _ _ (ai8 h0).1;obtain rfl:a1=b1:=q5m _ _ (ai8 h1).1;obtain rfl:a2=b2:=q5m _ _ (ai8 h2).1;obtain rfl:a3=b3:=q5m _ _ (ai8 h3).1;rfl
def w2c(v:Value):Prop:=∃x:q4e,v=.agg (v6q x).toArray
theorem j6z:∀a b:q4e,(Value.agg (v6q a).toArray)=.agg (v6q b).toArray->a=b:=fun a b h=>w6m a b (by simpa using congrArg Array.toList (Value.agg.inj h))
theorem eqp54 {d:Nat}:j6k Tryz.prog (d+2) 54 4 true (fun l=>∃x:q4e,l=v6q x):=(z8d (d:=d+1) (fs:=[(Field.mk "Kind" 3 0 false "" "" 0),(Field.mk "Target" 9 1 false "" "" 8),(Field.mk "Method" 9 2 false "" "" 24),(Field.mk "Feature" 9 3 false "" "" 40)]) (by kernel_rfl) (by kernel_rfl) (by kernel_rfl) (by kernel_rfl) (q0u eqp3 (by simp) rfl (by simp) (q0u y1c (by simp) rfl (by simp) (q0u y1c (by simp) rfl (by simp) (q0u y1c (by simp) rfl (by simp) j5t))))).weaken (fun l ⟨x,hx⟩=>by subst hx;exact⟨_,_,rfl,⟨_,rfl⟩,⟨_,_,rfl,⟨_,rfl⟩,⟨_,_,rfl,⟨_,rfl⟩,⟨_,_,rfl,⟨_,rfl⟩,rfl⟩⟩⟩⟩)
theorem eqk54:j6k Tryz.prog 10000 54 4 true (fun l=>∃x:q4e,l=v6q x):=eqp54 (d:=9998)
def q3h(p:B8×Int):Value×V:=(str p.1,(iV p.2))
abbrev q9k(v:Int):V:=(iV v)
theorem z1v(xs:List (B8×Int))(k:B8)(v:Int):z5q (str k) (q9k v) (xs.map q3h) ((q0d xs k v).map q3h):=q6x (kv:=fun k=>str k) (ev:=q9k) q5m xs k v
theorem q7m(xs:List (B8×Int))(k:B8):z8m (str k) (xs.map q3h) ((q3b xs k).map q9k):=q7q (kv:=fun k=>str k) (ev:=q9k) q5m xs k
theorem j1f{xs:List (B8×Int)}:∀p,p∈xs.map q3h->Imm p.2:=by
 intro p hp;obtain⟨x,_,rfl⟩:=bk9.1 hp;exact(Imm.con _)
instance:EM q3h:=⟨fun _=>(Imm.con _)⟩
theorem q1l{xs:List (B8×Int)}:∀p,p∈xs.map q3h->z6o p.1:=by
 intro p hp;obtain⟨x,_,rfl⟩:=bk9.1 hp;exact⟨_,rfl⟩
def q7s(p:B8×(List Int)):Value×V:=(str p.1,(V.lst 1 (p.2.map q7a)))
abbrev q9w(v:(List Int)):V:=(V.lst 1 (v.map q7a))
theorem z9d(xs:List (B8×(List Int)))(k:B8):z8m (str k) (xs.map q7s) ((q3b xs k).map q9w):=q7q (kv:=fun k=>str k) (ev:=q9w) q5m xs k
instance:EM q7s:=⟨fun _=>(Imm.lst _ _)⟩
theorem z0e{xs:List (B8×(List Int))}:∀p,p∈xs.map q7s->z6o p.1:=by
 intro p hp;obtain⟨x,_,rfl⟩:=bk9.1 hp;exact⟨_,rfl⟩
def q6d(p:B8×Bool):Value×V:=(str p.1,(bV p.2))
abbrev q8k(v:Bool):V:=(bV v)
theorem q5n(xs:List (B8×Bool))(k:B8)(v:Bool):z5q (str k) (q8k v) (xs.map q6d) ((q0d xs k v).map q6d):=q6x (kv:=fun k=>str k) (ev:=q8k) q5m xs k v
theorem q6m(xs:List (B8×Bool))(k:B8):z8m (str k) (xs.map q6d) ((q3b xs k).map q8k):=q7q (kv:=fun k=>str k) (ev:=q8k) q5m xs k
theorem q0v{xs:List (B8×Bool)}:∀p,p∈xs.map q6d->Imm p.2:=by
 intro p hp;obtain⟨x,_,rfl⟩:=bk9.1 hp;exact(Imm.con _)
theorem z1t(p:B8×Bool):Imm (q6d p).2:=(Imm.con _)
instance:EM q6d:=⟨fun _=>(Imm.con _)⟩
theorem q5h{xs:List (B8×Bool)}:∀p,p∈xs.map q6d->z6o p.1:=by
 intro p hp;obtain⟨x,_,rfl⟩:=bk9.1 hp;exact⟨_,rfl⟩
def q5a(x:q8b):List V:=[(V.lst 2 (x.g.Ifaces.map q7b)),(V.lst 2 (x.g.Types.map q2c)),(V.lst 4 (x.g.Funcs.map q9b)),(V.lst 1 (x.g.Entries.map q0g)),(V.imap (x.funcs.map q3h)),(V.imap (x.types.map q3h)),(V.imap (x.fitting.map q7s)),(V.imap (x.on.map q6d)),(bV x.made)]
theorem z9j(x:q8b):q1t (q5a x):=(.cons (Imm.lst _ _) (.cons (Imm.lst _ _) (.cons (Imm.lst _ _) (.cons (Imm.lst _ _) (.cons (Imm.imap _) (.cons (Imm.imap _) (.cons (Imm.imap _) (.cons (Imm.imap _) (.cons (Imm.con _) .nil)))))))))
theorem z5l(x:q8b):(q5a x).all z3c=true:=rfl
instance:EI q5a:=⟨z9j,z5l⟩
@[simp] theorem v3k(x:q8b):(q5a x).length=9:=rfl
def q3c(x:q3a):List V:=[(sV x.iface),(sV x.method)]
theorem q7e(x:q3a):q1t (q3c x):=(.cons (Imm.con _) (.cons (Imm.con _) .nil))
theorem z7a(x:q3a):(q3c x).all z3c=true:=rfl
instance:EI q3c:=⟨q7e,z7a⟩
@[simp] theorem v3p(x:q3a):(q3c x).length=2:=rfl
def q0f(p:q3a×Bool):Value×V:=(.agg (z0q p.1).toArray,(bV p.2))
abbrev q3u(v:Bool):V:=(bV v)
theorem j3m(xs:List (q3a×Bool))(k:q3a)(v:Bool):z5q (.agg (z0q k).toArray) (q3u v) (xs.map q0f) ((q0d xs k v).map q0f):=q6x (kv:=fun k=>.agg (z0q k).toArray) (ev:=q3u) j3p xs k v
theorem j4m(xs:List (q3a×Bool))(k:q3a):z8m (.agg (z0q k).toArray) (xs.map q0f) ((q3b xs k).map q3u):=q7q (kv:=fun k=>.agg (z0q k).toArray) (ev:=q3u) j3p xs k
theorem q4h{xs:List (q3a×Bool)}:∀p,p∈xs.map q0f->Imm p.2:=by
 intro p hp;obtain⟨x,_,rfl⟩:=bk9.1 hp;exact(Imm.con _)
instance:EM q0f:=⟨fun _=>(Imm.con _)⟩
theorem z7k{xs:List (q3a×Bool)}:∀p,p∈xs.map q0f->(v4p) p.1:=by
 intro p hp;obtain⟨x,_,rfl⟩:=bk9.1 hp;exact⟨_,rfl⟩
def q0i(x:q4f):List V:=[(v7j q5a x.w),(V.lst 1 (x.funcs.map q0o)),(V.lst 1 (x.made.map q0o)),(V.imap (x.slots.map q0f)),(V.lst 2 (x.order.map q3c)),(V.lst 1 (x.types.map q7a)),(V.lst 1 (x.queue.map q7a))]
theorem z1g(x:q4f):q1t (q0i x):=(.cons (w9m _) (.cons (Imm.lst _ _) (.cons (Imm.lst _ _) (.cons (Imm.imap _) (.cons (Imm.lst _ _) (.cons (Imm.lst _ _) (.cons (Imm.lst _ _) .nil)))))))
theorem z7j(x:q4f):(q0i x).all z3c=true:=by unfold q0i;simp only[aj9,List.all_nil,w1l,aj8];rfl
instance:EI q0i:=⟨z1g,z7j⟩
@[simp] theorem v3i(x:q4f):(q0i x).length=7:=rfl
def q9d(x:q8a):List V:=[(sV x.typ),(sV x.to)]
theorem q6o(x:q8a):q1t (q9d x):=(.cons (Imm.con _) (.cons (Imm.con _) .nil))
theorem z2b(x:q8a):(q9d x).all z3c=true:=rfl
instance:EI q9d:=⟨q6o,z2b⟩
@[simp] theorem j7l(x:q8a):(q9d x).length=2:=rfl
def q5b(x:q1a):List V:=[(sV x.site.Func),(iV x.site.Call),(V.lst 2 (x.aims.map q9d))]
theorem q2o(x:q1a):q1t (q5b x):=(.cons (Imm.con _) (.cons (Imm.con _) (.cons (Imm.lst _ _) .nil)))
theorem q7r(x:q1a):(q5b x).all z3c=true:=rfl
instance:EI q5b:=⟨q2o,q7r⟩
@[simp] theorem j9k(x:q1a):(q5b x).length=3:=rfl
def q5f(p:B8×(List q1a)):Value×V:=(str p.1,(V.lst 3 (p.2.map q5b)))
abbrev q3r(v:(List q1a)):V:=(V.lst 3 (v.map q5b))
theorem q0w(xs:List (B8×(List q1a)))(k:B8):z8m (str k) (xs.map q5f) ((q3b xs k).map q3r):=q7q (kv:=fun k=>str k) (ev:=q3r) q5m xs k
instance:EM q5f:=⟨fun _=>(Imm.lst _ _)⟩
theorem q1w{xs:List (B8×(List q1a))}:∀p,p∈xs.map q5f->z6o p.1:=by
 intro p hp;obtain⟨x,_,rfl⟩:=bk9.1 hp;exact⟨_,rfl⟩
def q7f(p:B8×q8e):Value×V:=(str p.1,(V.agg [(sV p.2.Name),(sV p.2.Component),(V.lst 4 (p.2.Calls.map q3f)),(V.lst 1 (p.2.Makes.map q0g))]))
abbrev z0v(v:q8e):V:=(V.agg [(sV v.Name),(sV v.Component),(V.lst 4 (v.Calls.map q3f)),(V.lst 1 (v.Makes.map q0g))])
theorem j8t(xs:List (B8×q8e))(k:B8)(v:q8e):z5q (str k) (z0v v) (xs.map q7f) ((q0d xs k v).map q7f):=q6x (kv:=fun k=>str k) (ev:=z0v) q5m xs k v
theorem v9a{xs:List (B8×q8e)}:∀p,p∈xs.map q7f->Imm p.2:=by
 intro p hp;obtain⟨x,_,rfl⟩:=bk9.1 hp;exact(Imm.agg (.cons (Imm.con _) (.cons (Imm.con _) (.cons (Imm.lst _ _) (.cons (Imm.lst _ _) .nil)))))
instance:EM q7f:=⟨fun _=>(Imm.agg (.cons (Imm.con _) (.cons (Imm.con _) (.cons (Imm.lst _ _) (.cons (Imm.lst _ _) .nil)))))⟩
theorem j9t{xs:List (B8×q8e)}:∀p,p∈xs.map q7f->z6o p.1:=by
 intro p hp;obtain⟨x,_,rfl⟩:=bk9.1 hp;exact⟨_,rfl⟩
def q2f(x:q1d):List V:=[(V.lst 2 (x.g.Ifaces.map q7b)),(V.lst 2 (x.g.Types.map q2c)),(V.lst 4 (x.g.Funcs.map q9b)),(V.lst 1 (x.g.Entries.map q0g)),(V.imap (x.links.map q5f)),(V.imap (x.funcs.map q7f))]
theorem q8r(x:q1d):q1t (q2f x):=(.cons (Imm.lst _ _) (.cons (Imm.lst _ _) (.cons (Imm.lst _ _) (.cons (Imm.lst _ _) (.cons (Imm.imap _) (.cons (Imm.imap _) .nil))))))
theorem z1b(x:q1d):(q2f x).all z3c=true:=rfl
instance:EI q2f:=⟨q8r,z1b⟩
@[simp] theorem j6l(x:q1d):(q2f x).length=6:=rfl
def q2a(x:q0a):List V:=[(sV x.name),(iV x.call),(bV x.end_)]
theorem q8f(x:q0a):q1t (q2a x):=(.cons (Imm.con _) (.cons (Imm.con _) (.cons (Imm.con _) .nil)))
theorem z4a(x:q0a):(q2a x).all z3c=true:=rfl
instance:EI q2a:=⟨q8f,z4a⟩
@[simp] theorem j8k(x:q0a):(q2a x).length=3:=rfl
def q6f(p:q1b×Bool):Value×V:=(.agg (j8p p.1).toArray,(bV p.2))
abbrev q4q(v:Bool):V:=(bV v)
theorem z9p(xs:List (q1b×Bool))(k:q1b)(v:Bool):z5q (.agg (j8p k).toArray) (q4q v) (xs.map q6f) ((q0d xs k v).map q6f):=q6x (kv:=fun k=>.agg (j8p k).toArray) (ev:=q4q) j7z xs k v
theorem z1e(xs:List (q1b×Bool))(k:q1b):z8m (.agg (j8p k).toArray) (xs.map q6f) ((q3b xs k).map q4q):=q7q (kv:=fun k=>.agg (j8p k).toArray) (ev:=q4q) j7z xs k
theorem q1p{xs:List (q1b×Bool)}:∀p,p∈xs.map q6f->Imm p.2:=by
 intro p hp;obtain⟨x,_,rfl⟩:=bk9.1 hp;exact(Imm.con _)
instance:EM q6f:=⟨fun _=>(Imm.con _)⟩
theorem q2u{xs:List (q1b×Bool)}:∀p,p∈xs.map q6f->(w3c) p.1:=by
 intro p hp;obtain⟨x,_,rfl⟩:=bk9.1 hp;exact⟨_,rfl⟩
def q3e(p:q0a×Int):Value×V:=(.agg (q1i p.1).toArray,(iV p.2))
abbrev q5k(v:Int):V:=(iV v)
theorem q4s(xs:List (q0a×Int))(k:q0a)(v:Int):z5q (.agg (q1i k).toArray) (q5k v) (xs.map q3e) ((q0d xs k v).map q3e):=q6x (kv:=fun k=>.agg (q1i k).toArray) (ev:=q5k) q1k xs k v
theorem q6n(xs:List (q0a×Int))(k:q0a):z8m (.agg (q1i k).toArray) (xs.map q3e) ((q3b xs k).map q5k):=q7q (kv:=fun k=>.agg (q1i k).toArray) (ev:=q5k) q1k xs k
theorem q8m(p:q0a×Int):Imm (q3e p).2:=(Imm.con _)
instance:EM q3e:=⟨fun _=>(Imm.con _)⟩
theorem q7n{xs:List (q0a×Int)}:∀p,p∈xs.map q3e->(q8q) p.1:=by
 intro p hp;obtain⟨x,_,rfl⟩:=bk9.1 hp;exact⟨_,rfl⟩
def q9j(p:q0a×(List (q0a×Int))):Value×V:=(.agg (q1i p.1).toArray,(V.imap (p.2.map q3e)))
abbrev z5g(v:(List (q0a×Int))):V:=(V.imap (v.map q3e))
theorem q8s(xs:List (q0a×(List (q0a×Int))))(k:q0a):z8m (.agg (q1i k).toArray) (xs.map q9j) ((q3b xs k).map z5g):=q7q (kv:=fun k=>.agg (q1i k).toArray) (ev:=z5g) q1k xs k
instance:EM q9j:=⟨fun _=>(Imm.imap _)⟩
theorem q9s{xs:List (q0a×(List (q0a×Int)))}:∀p,p∈xs.map q9j->(q8q) p.1:=by
 intro p hp;obtain⟨x,_,rfl⟩:=bk9.1 hp;exact⟨_,rfl⟩
def q6i(p:B8×(List q1b)):Value×V:=(str p.1,(V.lst 2 (p.2.map q8c)))
abbrev z3g(v:(List q1b)):V:=(V.lst 2 (v.map q8c))
theorem j0u(xs:List (B8×(List q1b)))(k:B8):z8m (str k) (xs.map q6i) ((q3b xs k).map z3g):=q7q (kv:=fun k=>str k) (ev:=z3g) q5m xs k
instance:EM q6i:=⟨fun _=>(Imm.lst _ _)⟩
theorem j1u{xs:List (B8×(List q1b))}:∀p,p∈xs.map q6i->z6o p.1:=by
 intro p hp;obtain⟨x,_,rfl⟩:=bk9.1 hp;exact⟨_,rfl⟩
def q3d(x:q9c):List V:=[(V.lst 2 (x.n.g.Ifaces.map q7b)),(V.lst 2 (x.n.g.Types.map q2c)),(V.lst 4 (x.n.g.Funcs.map q9b)),(V.lst 1 (x.n.g.Entries.map q0g)),(V.imap (x.n.links.map q5f)),(V.imap (x.n.funcs.map q7f)),(V.imap (x.used.map q6f)),(V.imap (x.units.map q9j)),(V.imap (x.back.map q6i))]
theorem q8z(x:q9c):q1t (q3d x):=(.cons (Imm.lst _ _) (.cons (Imm.lst _ _) (.cons (Imm.lst _ _) (.cons (Imm.lst _ _) (.cons (Imm.imap _) (.cons (Imm.imap _) (.cons (Imm.imap _) (.cons (Imm.imap _) (.cons (Imm.imap _) .nil)))))))))
theorem z5a(x:q9c):(q3d x).all z3c=true:=rfl
instance:EI q3d:=⟨q8z,z5a⟩
@[simp] theorem j0l(x:q9c):(q3d x).length=9:=rfl
def q9a(x:q6a):List V:=[(iV x.to),(iV x.left),(iV x.back)]
theorem q9t(x:q6a):q1t (q9a x):=(.cons (Imm.con _) (.cons (Imm.con _) (.cons (Imm.con _) .nil)))
theorem z3s(x:q6a):(q9a x).all z3c=true:=rfl
instance:EI q9a:=⟨q9t,z3s⟩
@[simp] theorem v5u(x:q6a):(q9a x).length=3:=rfl
def q4o(p:B8×q7d):Value×V:=(str p.1,(V.agg [(sV p.2.Name),(V.lst 1 (p.2.Methods.map q0g))]))
abbrev q8w(v:q7d):V:=(V.agg [(sV v.Name),(V.lst 1 (v.Methods.map q0g))])
theorem j6t(xs:List (B8×q7d))(k:B8)(v:q7d):z5q (str k) (q8w v) (xs.map q4o) ((q0d xs k v).map q4o):=q6x (kv:=fun k=>str k) (ev:=q8w) q5m xs k v
theorem j7t(xs:List (B8×q7d))(k:B8):z8m (str k) (xs.map q4o) ((q3b xs k).map q8w):=q7q (kv:=fun k=>str k) (ev:=q8w) q5m xs k
theorem v8a{xs:List (B8×q7d)}:∀p,p∈xs.map q4o->Imm p.2:=by
 intro p hp;obtain⟨x,_,rfl⟩:=bk9.1 hp;exact(Imm.agg (.cons (Imm.con _) (.cons (Imm.lst _ _) .nil)))
instance:EM q4o:=⟨fun _=>(Imm.agg (.cons (Imm.con _) (.cons (Imm.lst _ _) .nil)))⟩
theorem z2p{xs:List (B8×q7d)}:∀p,p∈xs.map q4o->z6o p.1:=by
 intro p hp;obtain⟨x,_,rfl⟩:=bk9.1 hp;exact⟨_,rfl⟩
def q6e(x:q4d):List V:=[(bV x.loose),(V.imap (x.ifaces.map q4o)),(V.imap (x.types.map q6d)),(V.imap (x.funcs.map q6d))]
theorem z0f(x:q4d):q1t (q6e x):=(.cons (Imm.con _) (.cons (Imm.imap _) (.cons (Imm.imap _) (.cons (Imm.imap _) .nil))))
theorem z9f(x:q4d):(q6e x).all z3c=true:=rfl
instance:EI q6e:=⟨z0f,z9f⟩
@[simp] theorem j1z(x:q4d):(q6e x).length=4:=rfl
def q1u(p:B8×(List (B8×Bool))):Value×V:=(str p.1,(V.imap (p.2.map q6d)))
abbrev z9u(v:(List (B8×Bool))):V:=(V.imap (v.map q6d))
theorem z3p(xs:List (B8×(List (B8×Bool))))(k:B8):z8m (str k) (xs.map q1u) ((q3b xs k).map z9u):=q7q (kv:=fun k=>str k) (ev:=z9u) q5m xs k
instance:EM q1u:=⟨fun _=>(Imm.imap _)⟩
theorem z4p{xs:List (B8×(List (B8×Bool)))}:∀p,p∈xs.map q1u->z6o p.1:=by
 intro p hp;obtain⟨x,_,rfl⟩:=bk9.1 hp;exact⟨_,rfl⟩
def q7j(x:q0e):List V:=[(V.imap (x.ifaces.map q1u)),(V.imap (x.types.map q6d)),(V.imap (x.funcs.map q6d))]
theorem q8x(x:q0e):q1t (q7j x):=(.cons (Imm.imap _) (.cons (Imm.imap _) (.cons (Imm.imap _) .nil)))
theorem q7z(x:q0e):(q7j x).all z3c=true:=rfl
instance:EI q7j:=⟨q8x,q7z⟩
@[simp] theorem j6e(x:q0e):(q7j x).length=3:=rfl
def q6c(x:q1c):List V:=[(V.lst 2 (x.g.Ifaces.map q7b)),(V.lst 2 (x.g.Types.map q2c)),(V.lst 4 (x.g.Funcs.map q9b)),(V.lst 1 (x.g.Entries.map q0g)),(V.imap (x.n.ifaces.map q1u)),(V.imap (x.n.types.map q6d)),(V.imap (x.n.funcs.map q6d)),(bV x.loose)]
theorem q5w(x:q1c):q1t (q6c x):=(.cons (Imm.lst _ _) (.cons (Imm.lst _ _) (.cons (Imm.lst _ _) (.cons (Imm.lst _ _) (.cons (Imm.imap _) (.cons (Imm.imap _) (.cons (Imm.imap _) (.cons (Imm.con _) .nil))))))))
theorem q1x(x:q1c):(q6c x).all z3c=true:=rfl
instance:EI q6c:=⟨q5w,q1x⟩
@[simp] theorem z5z(x:q1c):(q6c x).length=8:=rfl
def q4j(p:B8×(List Int)):Value×V:=(str p.1,(V.dsl 3 1 (p.2.map q7a)))
theorem z8p(p:B8×(List Int)):(q4j p).1=(q7s p).1/\Und (q4j p).2 (q7s p).2/\q9y (q4j p).2:=⟨rfl,j8q q2b _,q9y.dsl _ _ _⟩
instance:EMK q4j:=⟨fun p=>(z8p p).2.2⟩
theorem j2m{xs:List (B8×(List Int))}:∀p,p∈xs.map q4j->z6o p.1:=by
 intro p hp;obtain⟨x,_,rfl⟩:=bk9.1 hp;exact⟨_,rfl⟩
def q2m(p:B8×(List (B8×Bool))):Value×V:=(str p.1,(V.dmp (p.2.map q6d)))
theorem z7p(p:B8×(List (B8×Bool))):(q2m p).1=(q1u p).1/\Und (q2m p).2 (q1u p).2/\q9y (q2m p).2:=⟨rfl,v1n z1t _,q9y.dmp _⟩
instance:EMK q2m:=⟨fun p=>(z7p p).2.2⟩
theorem z6k{xs:List (B8×(List (B8×Bool)))}:∀p,p∈xs.map q2m->z6o p.1:=by
 intro p hp;obtain⟨x,_,rfl⟩:=bk9.1 hp;exact⟨_,rfl⟩
def q9n(p:q4e×(List q8a)):Value×V:=(.agg (v6q p.1).toArray,(V.lst 2 (p.2.map q9d)))
abbrev q3s(v:(List q8a)):V:=(V.lst 2 (v.map q9d))
theorem j2f(xs:List (q4e×(List q8a)))(k:q4e)(v:(List q8a)):z5q (.agg (v6q k).toArray) (q3s v) (xs.map q9n) ((q0d xs k v).map q9n):=q6x (kv:=fun k=>.agg (v6q k).toArray) (ev:=q3s) j6z xs k v
theorem j3f(xs:List (q4e×(List q8a)))(k:q4e):z8m (.agg (v6q k).toArray) (xs.map q9n) ((q3b xs k).map q3s):=q7q (kv:=fun k=>.agg (v6q k).toArray) (ev:=q3s) j6z xs k
instance:EM q9n:=⟨fun _=>(Imm.lst _ _)⟩
theorem z4g{xs:List (q4e×(List q8a))}:∀p,p∈xs.map q9n->(w2c) p.1:=by
 intro p hp;obtain⟨x,_,rfl⟩:=bk9.1 hp;exact⟨_,rfl⟩
def q2k(p:B8×(List q1a)):Value×V:=(str p.1,(V.dsl 119 3 (p.2.map q5b)))
theorem z6p(p:B8×(List q1a)):(q2k p).1=(q5f p).1/\Und (q2k p).2 (q5f p).2/\q9y (q2k p).2:=⟨rfl,j8q q2o _,q9y.dsl _ _ _⟩
instance:EMK q2k:=⟨fun p=>(z6p p).2.2⟩
theorem j1m{xs:List (B8×(List q1a))}:∀p,p∈xs.map q2k->z6o p.1:=by
 intro p hp;obtain⟨x,_,rfl⟩:=bk9.1 hp;exact⟨_,rfl⟩
def q2l(p:B8×(List q1b)):Value×V:=(str p.1,(V.dsl 41 2 (p.2.map q8c)))
theorem z5p(p:B8×(List q1b)):(q2l p).1=(q6i p).1/\Und (q2l p).2 (q6i p).2/\q9y (q2l p).2:=⟨rfl,j8q q2i _,q9y.dsl _ _ _⟩
instance:EMK q2l:=⟨fun p=>(z5p p).2.2⟩
theorem j0m{xs:List (B8×(List q1b))}:∀p,p∈xs.map q2l->z6o p.1:=by
 intro p hp;obtain⟨x,_,rfl⟩:=bk9.1 hp;exact⟨_,rfl⟩
def q0c(p:q0a×(List (q0a×Int))):Value×V:=(.agg (q1i p.1).toArray,(V.dmp (p.2.map q3e)))
theorem z1a(p:q0a×(List (q0a×Int))):(q0c p).1=(q9j p).1/\Und (q0c p).2 (q9j p).2/\q9y (q0c p).2:=⟨rfl,v1n q8m _,q9y.dmp _⟩
instance:EMK q0c:=⟨fun p=>(z1a p).2.2⟩
theorem q3p{xs:List (q0a×(List (q0a×Int)))}:∀p,p∈xs.map q0c->(q8q) p.1:=by
 intro p hp;obtain⟨x,_,rfl⟩:=bk9.1 hp;exact⟨_,rfl⟩
def q3g(p:q0a×q0a):Value×V:=(.agg (q1i p.1).toArray,(V.agg [(sV p.2.name),(iV p.2.call),(bV p.2.end_)]))
abbrev q6j(v:q0a):V:=(V.agg [(sV v.name),(iV v.call),(bV v.end_)])
theorem z7e(xs:List (q0a×q0a))(k:q0a)(v:q0a):z5q (.agg (q1i k).toArray) (q6j v) (xs.map q3g) ((q0d xs k v).map q3g):=q6x (kv:=fun k=>.agg (q1i k).toArray) (ev:=q6j) q1k xs k v
theorem q2n(xs:List (q0a×q0a))(k:q0a):z8m (.agg (q1i k).toArray) (xs.map q3g) ((q3b xs k).map q6j):=q7q (kv:=fun k=>.agg (q1i k).toArray) (ev:=q6j) q1k xs k
theorem z6g{xs:List (q0a×q0a)}:∀p,p∈xs.map q3g->Imm p.2:=by
 intro p hp;obtain⟨x,_,rfl⟩:=bk9.1 hp;exact(Imm.agg (.cons (Imm.con _) (.cons (Imm.con _) (.cons (Imm.con _) .nil))))
instance:EM q3g:=⟨fun _=>(Imm.agg (.cons (Imm.con _) (.cons (Imm.con _) (.cons (Imm.con _) .nil))))⟩
theorem q6k{xs:List (q0a×q0a)}:∀p,p∈xs.map q3g->(q8q) p.1:=by
 intro p hp;obtain⟨x,_,rfl⟩:=bk9.1 hp;exact⟨_,rfl⟩
theorem tS27:tyS Tryz.prog 27 4=true:=by kernel_rfl
theorem tA27:tyA Tryz.prog 27 4=true:=by kernel_rfl
theorem y7t:zeroCells Tryz.prog 132=some [.bool false,.map none,.map none,.map none]:=by kernel_rfl
theorem y0h:q1m Tryz.prog 132=some [(0,1),(1,1),(2,1),(3,1)]:=by kernel_rfl
theorem y5v:tyS Tryz.prog 132 4=true:=by kernel_rfl
theorem y9k:tyF Tryz.prog 27 0 0=true:=by kernel_rfl
theorem tC22:tyC Tryz.prog 22=true:=by kernel_rfl
theorem w5w:q3l Tryz.prog 22=true:=by kernel_rfl
theorem y9u:z1s Tryz.prog 22 2=true:=by kernel_rfl
theorem tA80:tyA Tryz.prog 80 2=true:=by kernel_rfl
theorem tZ80:zeroCells Tryz.prog 80=some [.string ⟨#[]⟩,.slice none 0 0]:=by kernel_rfl
theorem tS80:tyS Tryz.prog 80 2=true:=by kernel_rfl
theorem w9x:tyF Tryz.prog 132 1 1=true:=by kernel_rfl
theorem y2x:tyC Tryz.prog 130=true:=by kernel_rfl
theorem y0i:tyF Tryz.prog 80 0 0=true:=by kernel_rfl
theorem tC9:tyC Tryz.prog 9=true:=by kernel_rfl
theorem v2y:q0s Tryz.prog 130 9 80=true:=by kernel_rfl
theorem q3m:j6b Tryz.prog 9 z6o:=w2m (by kernel_rfl)
theorem y8k:tyF Tryz.prog 27 1 1=true:=by kernel_rfl
theorem tC23:tyC Tryz.prog 23=true:=by kernel_rfl
theorem w4w:q3l Tryz.prog 23=true:=by kernel_rfl
theorem y8u:z1s Tryz.prog 23 2=true:=by kernel_rfl
theorem tA86:tyA Tryz.prog 86 2=true:=by kernel_rfl
theorem tZ86:zeroCells Tryz.prog 86=some [.string ⟨#[]⟩,.slice none 0 0]:=by kernel_rfl
theorem tS86:tyS Tryz.prog 86 2=true:=by kernel_rfl
theorem w8x:tyF Tryz.prog 132 2 2=true:=by kernel_rfl
theorem tC63:tyC Tryz.prog 63=true:=by kernel_rfl
theorem y8h:tyF Tryz.prog 86 0 0=true:=by kernel_rfl
theorem q5r:q0s Tryz.prog 63 9 4=true:=by kernel_rfl
theorem y7k:tyF Tryz.prog 27 2 2=true:=by kernel_rfl
theorem tC24:tyC Tryz.prog 24=true:=by kernel_rfl
theorem w3w:q3l Tryz.prog 24=true:=by kernel_rfl
theorem y7u:z1s Tryz.prog 24 4=true:=by kernel_rfl
theorem tA52:tyA Tryz.prog 52 4=true:=by kernel_rfl
theorem y2t:zeroCells Tryz.prog 52=some [.string ⟨#[]⟩,.string ⟨#[]⟩,.slice none 0 0,.slice none 0 0]:=by kernel_rfl
theorem tS52:tyS Tryz.prog 52 4=true:=by kernel_rfl
theorem w7x:tyF Tryz.prog 132 3 3=true:=by kernel_rfl
theorem y3k:tyF Tryz.prog 52 0 0=true:=by kernel_rfl
theorem y3y:tyA Tryz.prog 132 4=true:=by kernel_rfl
theorem fOk52:q9m Tryz.prog 52=true:=by kernel_rfl
theorem y1u:j1w Tryz.prog 9=true:=by kernel_rfl
theorem y8o:q9m Tryz.prog 108=true:=by kernel_rfl
theorem fOk87:q9m Tryz.prog 87=true:=by kernel_rfl
theorem y9h:tyF Tryz.prog 80 1 1=true:=by kernel_rfl
theorem tC25:tyC Tryz.prog 25=true:=by kernel_rfl
theorem z4l:q3l Tryz.prog 25=true:=by kernel_rfl
theorem j3w:z1s Tryz.prog 25 1=true:=by kernel_rfl
theorem fOk75:q9m Tryz.prog 75=true:=by kernel_rfl
theorem y7h:tyF Tryz.prog 86 1 1=true:=by kernel_rfl
theorem tC84:tyC Tryz.prog 84=true:=by kernel_rfl
theorem v4y:q3l Tryz.prog 84=true:=by kernel_rfl
theorem y2u:z1s Tryz.prog 84 2=true:=by kernel_rfl
theorem y2y:tyA Tryz.prog 144 2=true:=by kernel_rfl
theorem y6t:zeroCells Tryz.prog 144=some [.string ⟨#[]⟩,.string ⟨#[]⟩]:=by kernel_rfl
theorem y4v:tyS Tryz.prog 144 2=true:=by kernel_rfl
theorem w6x:tyF Tryz.prog 144 0 0=true:=by kernel_rfl
theorem w0y:tyF Tryz.prog 132 0 0=true:=by kernel_rfl
theorem tC4:tyC Tryz.prog 4=true:=by kernel_rfl
theorem w5x:tyF Tryz.prog 144 1 1=true:=by kernel_rfl
theorem v0j:(Tryz.prog.info? 4).bind (·.zero)=some (.bool false):=by kernel_rfl
theorem fOk76:q9m Tryz.prog 76=true:=by kernel_rfl
theorem y2k:tyF Tryz.prog 52 1 1=true:=by kernel_rfl
theorem y1k:tyF Tryz.prog 52 2 2=true:=by kernel_rfl
theorem tC50:tyC Tryz.prog 50=true:=by kernel_rfl
theorem w2w:q3l Tryz.prog 50=true:=by kernel_rfl
theorem y5u:z1s Tryz.prog 50 4=true:=by kernel_rfl
theorem tA54:tyA Tryz.prog 54 4=true:=by kernel_rfl
theorem y1t:zeroCells Tryz.prog 54=some [.int .i64 0,.string ⟨#[]⟩,.string ⟨#[]⟩,.string ⟨#[]⟩]:=by kernel_rfl
theorem tS54:tyS Tryz.prog 54 4=true:=by kernel_rfl
theorem y9j:tyF Tryz.prog 54 0 0=true:=by kernel_rfl
theorem tC3:tyC Tryz.prog 3=true:=by kernel_rfl
theorem y8j:tyF Tryz.prog 54 1 1=true:=by kernel_rfl
theorem y7j:tyF Tryz.prog 54 2 2=true:=by kernel_rfl
theorem y0t:(Tryz.prog.info? 80).bind (·.zero)=some (.agg #[.string ⟨#[]⟩,.slice none 0 0]):=by kernel_rfl
theorem fOk35:q9m Tryz.prog 35=true:=by kernel_rfl
theorem fOk10:q9m Tryz.prog 10=true:=by kernel_rfl
theorem y6j:tyF Tryz.prog 54 3 3=true:=by kernel_rfl
theorem y7o:q9m Tryz.prog 109=true:=by kernel_rfl
theorem y0k:tyF Tryz.prog 52 3 3=true:=by kernel_rfl
theorem fOk78:q9m Tryz.prog 78=true:=by kernel_rfl
theorem fOk77:q9m Tryz.prog 77=true:=by kernel_rfl
theorem y6k:tyF Tryz.prog 27 3 3=true:=by kernel_rfl
theorem fOk53:q9m Tryz.prog 53=true:=by kernel_rfl
theorem fOk20:q9m Tryz.prog 20=true:=by kernel_rfl
theorem fOk66:q9m Tryz.prog 66=true:=by kernel_rfl
theorem tZ65:zeroCells Tryz.prog 65=some [.slice none 0 0,.slice none 0 0,.slice none 0 0,.slice none 0 0,.map none,.map none,.map none,.map none,.bool false]:=by kernel_rfl
theorem y3w:q1m Tryz.prog 65=some [(0,4),(4,1),(5,1),(6,1),(7,1),(8,1)]:=by kernel_rfl
theorem tS65:tyS Tryz.prog 65 9=true:=by kernel_rfl
theorem y8i:tyF Tryz.prog 65 1 4=true:=by kernel_rfl
theorem tC61:tyC Tryz.prog 61=true:=by kernel_rfl
theorem z6b:q0s Tryz.prog 61 9 3=true:=by kernel_rfl
theorem y7i:tyF Tryz.prog 65 2 5=true:=by kernel_rfl
theorem y9w:tyI Tryz.prog 169 .u64=true:=by kernel_rfl
theorem tUn3:tyU Tryz.prog 3=true:=by kernel_rfl
theorem tI3:tyI Tryz.prog 3 .i64=true:=by kernel_rfl
theorem y1g:tyU Tryz.prog 169=true:=by kernel_rfl
theorem fOk79:q9m Tryz.prog 79=true:=by kernel_rfl
theorem fOk56:q9m Tryz.prog 56=true:=by kernel_rfl
theorem y6z:q9m Tryz.prog 96=true:=by kernel_rfl
theorem y7z:q9m Tryz.prog 95=true:=by kernel_rfl
theorem fOk72:q9m Tryz.prog 72=true:=by kernel_rfl
theorem fOk54:q9m Tryz.prog 54=true:=by kernel_rfl
theorem y6i:tyF Tryz.prog 65 3 6=true:=by kernel_rfl
theorem tC62:tyC Tryz.prog 62=true:=by kernel_rfl
theorem j5w:q0s Tryz.prog 62 9 58=true:=by kernel_rfl
theorem w8i:(Tryz.prog.info? 58).bind (·.zero)=some (.slice none 0 0):=by kernel_rfl
theorem j5c:z6j Tryz.prog 58 3 1 8=true:=by kernel_rfl
theorem tZ3:zeroCells Tryz.prog 3=some [.int .i64 0]:=by kernel_rfl
theorem v5y:q3l Tryz.prog 58=true:=by kernel_rfl
theorem y5i:tyF Tryz.prog 65 4 7=true:=by kernel_rfl
theorem y5o:q9m Tryz.prog 21=true:=by kernel_rfl
theorem fOk34:q9m Tryz.prog 34=true:=by kernel_rfl
theorem j7k:(Tryz.prog.info? 3).bind (·.zero)=some (.int .i64 0):=by kernel_rfl
theorem fOk15:q9m Tryz.prog 15=true:=by kernel_rfl
theorem y9i:tyF Tryz.prog 65 0 0=true:=by kernel_rfl
theorem tZ60:zeroCells Tryz.prog 60=some [.pointer none,.slice none 0 0,.slice none 0 0,.map none,.slice none 0 0,.slice none 0 0,.slice none 0 0]:=by kernel_rfl
theorem y4w:q1m Tryz.prog 60=some [(0,1),(1,1),(2,1),(3,1),(4,1),(5,1),(6,1)]:=by kernel_rfl
theorem tS60:tyS Tryz.prog 60 7=true:=by kernel_rfl
theorem y3l:z6j Tryz.prog 55 4 1 1=true:=by kernel_rfl
theorem tZ4:zeroCells Tryz.prog 4=some [.bool false]:=by kernel_rfl
theorem y4j:tyF Tryz.prog 60 1 1=true:=by kernel_rfl
theorem tC55:tyC Tryz.prog 55=true:=by kernel_rfl
theorem y4u:z1s Tryz.prog 55 1=true:=by kernel_rfl
theorem tS4:tyS Tryz.prog 4 1=true:=by kernel_rfl
theorem y0j:tyF Tryz.prog 60 6 6=true:=by kernel_rfl
theorem tC58:tyC Tryz.prog 58=true:=by kernel_rfl
theorem tS58:tyS Tryz.prog 58 1=true:=by kernel_rfl
theorem w1e:q9m Tryz.prog 44=true:=by kernel_rfl
theorem w8v:z1s Tryz.prog 58 1=true:=by kernel_rfl
theorem y3j:tyF Tryz.prog 60 2 2=true:=by kernel_rfl
theorem y5j:tyF Tryz.prog 60 0 0=true:=by kernel_rfl
theorem tC45:tyC Tryz.prog 45=true:=by kernel_rfl
theorem y4i:tyF Tryz.prog 65 5 8=true:=by kernel_rfl
theorem y1j:tyF Tryz.prog 60 4 4=true:=by kernel_rfl
theorem tC57:tyC Tryz.prog 57=true:=by kernel_rfl
theorem v6y:q3l Tryz.prog 57=true:=by kernel_rfl
theorem y3u:z1s Tryz.prog 57 2=true:=by kernel_rfl
theorem y9x:tyA Tryz.prog 163 2=true:=by kernel_rfl
theorem y9f:zeroCells Tryz.prog 163=some [.string ⟨#[]⟩,.string ⟨#[]⟩]:=by kernel_rfl
theorem y1v:tyS Tryz.prog 163 2=true:=by kernel_rfl
theorem w8w:tyF Tryz.prog 163 0 0=true:=by kernel_rfl
theorem y8z:q9m Tryz.prog 94=true:=by kernel_rfl
theorem fOk71:q9m Tryz.prog 71=true:=by kernel_rfl
theorem w7w:tyF Tryz.prog 163 1 1=true:=by kernel_rfl
theorem y5w:q1m Tryz.prog 54=some [(0,1),(1,1),(2,1),(3,1)]:=by kernel_rfl
theorem fOk47:q9m Tryz.prog 47=true:=by kernel_rfl
theorem fOk45:q9m Tryz.prog 45=true:=by kernel_rfl
theorem y7g:q1m Tryz.prog 163=some [(0,1),(1,1)]:=by kernel_rfl
theorem y2j:tyF Tryz.prog 60 3 3=true:=by kernel_rfl
theorem tC56:tyC Tryz.prog 56=true:=by kernel_rfl
theorem w6q:q0s Tryz.prog 56 163 4=true:=by kernel_rfl
theorem v3y:j6b Tryz.prog 163 v4p:=j5a y2p (by kernel_rfl) (fun v ⟨x,hx⟩=>⟨_,⟨x,rfl⟩,hx⟩)
theorem tS57:tyS Tryz.prog 57 1=true:=by kernel_rfl
theorem y2l:z6j Tryz.prog 57 163 2 32=true:=by kernel_rfl
theorem fOk46:q9m Tryz.prog 46=true:=by kernel_rfl
theorem fOk16:q9m Tryz.prog 16=true:=by kernel_rfl
theorem y8f:zeroCells Tryz.prog 41=some [.string ⟨#[]⟩,.int .i64 0]:=by kernel_rfl
theorem y7w:q1m Tryz.prog 41=some [(0,1),(1,1)]:=by kernel_rfl
theorem v3j:z6j Tryz.prog 28 41 2 24=true:=by kernel_rfl
theorem v2j:q3l Tryz.prog 28=true:=by kernel_rfl
theorem y0x:z6j Tryz.prog 67 123 1 24=true:=by kernel_rfl
theorem y8t:zeroCells Tryz.prog 123=some [.slice none 0 0]:=by kernel_rfl
theorem tZ69:zeroCells Tryz.prog 69=some [.slice none 0 0,.slice none 0 0,.slice none 0 0]:=by kernel_rfl
theorem y2w:q1m Tryz.prog 69=some [(0,1),(1,1),(2,1)]:=by kernel_rfl
theorem tS69:tyS Tryz.prog 69 3=true:=by kernel_rfl
theorem y6u:z1s Tryz.prog 28 2=true:=by kernel_rfl
theorem tA41:tyA Tryz.prog 41 2=true:=by kernel_rfl
theorem tS41:tyS Tryz.prog 41 2=true:=by kernel_rfl
theorem y5k:tyF Tryz.prog 41 0 0=true:=by kernel_rfl
theorem y3i:tyF Tryz.prog 69 0 0=true:=by kernel_rfl
theorem tC67:tyC Tryz.prog 67=true:=by kernel_rfl
theorem v2t:z1s Tryz.prog 67 1=true:=by kernel_rfl
theorem w7v:zeroCells Tryz.prog 125=some [.int .i64 0,.int .i64 0,.int .i64 0]:=by kernel_rfl
theorem y1h:q1m Tryz.prog 125=some [(0,1),(1,1),(2,1)]:=by kernel_rfl
theorem j7w:tyC Tryz.prog 123=true:=by kernel_rfl
theorem z3i:q3l Tryz.prog 123=true:=by kernel_rfl
theorem v7n:z6j Tryz.prog 123 125 3 24=true:=by kernel_rfl
theorem y5g:tyS Tryz.prog 123 1=true:=by kernel_rfl
theorem y8b:q9m Tryz.prog 17=true:=by kernel_rfl
theorem y4k:tyF Tryz.prog 41 1 1=true:=by kernel_rfl
theorem w1w:q3l Tryz.prog 55=true:=by kernel_rfl
theorem fOk48:q9m Tryz.prog 48=true:=by kernel_rfl
theorem fOk49:q9m Tryz.prog 49=true:=by kernel_rfl
theorem fOk18:q9m Tryz.prog 18=true:=by kernel_rfl
theorem w0w:q3l Tryz.prog 67=true:=by kernel_rfl
theorem y2i:tyF Tryz.prog 69 1 1=true:=by kernel_rfl
theorem tS3:tyS Tryz.prog 3 1=true:=by kernel_rfl
theorem v5n:z1s Tryz.prog 123 3=true:=by kernel_rfl
theorem y4y:tyA Tryz.prog 125 3=true:=by kernel_rfl
theorem y6v:tyS Tryz.prog 125 3=true:=by kernel_rfl
theorem z3f:tyF Tryz.prog 125 1 1=true:=by kernel_rfl
theorem j4c:tyF Tryz.prog 125 0 0=true:=by kernel_rfl
theorem fOk50:q9m Tryz.prog 50=true:=by kernel_rfl
theorem y1i:tyF Tryz.prog 69 2 2=true:=by kernel_rfl
theorem y3o:q9m Tryz.prog 51=true:=by kernel_rfl
theorem w1y:tyF Tryz.prog 125 2 2=true:=by kernel_rfl
theorem fOk19:q9m Tryz.prog 19=true:=by kernel_rfl
theorem fOk5:q9m Tryz.prog 5=true:=by kernel_rfl
theorem y3t:zeroCells Tryz.prog 27=some [.slice none 0 0,.slice none 0 0,.slice none 0 0,.slice none 0 0]:=by kernel_rfl
theorem y8w:q1m Tryz.prog 27=some [(0,1),(1,1),(2,1),(3,1)]:=by kernel_rfl
theorem fOk80:q9m Tryz.prog 80=true:=by kernel_rfl
theorem fOk57:q9m Tryz.prog 57=true:=by kernel_rfl
theorem fOk55:q9m Tryz.prog 55=true:=by kernel_rfl
theorem fOk22:q9m Tryz.prog 22=true:=by kernel_rfl
theorem j4w:q0s Tryz.prog 75 41 4=true:=by kernel_rfl
theorem j6w:j6b Tryz.prog 41 w3c:=j5a y1p (by kernel_rfl) (fun v ⟨x,hx⟩=>⟨_,⟨x,rfl⟩,hx⟩)
theorem tS81:tyS Tryz.prog 81 1=true:=by kernel_rfl
theorem z4f:z6j Tryz.prog 25 9 1 16=true:=by kernel_rfl
theorem fOk29:q9m Tryz.prog 29=true:=by kernel_rfl
theorem tS25:tyS Tryz.prog 25 1=true:=by kernel_rfl
theorem fOk25:q9m Tryz.prog 25=true:=by kernel_rfl
theorem y5l:z6j Tryz.prog 22 80 2 40=true:=by kernel_rfl
theorem tC81:tyC Tryz.prog 81=true:=by kernel_rfl
theorem fOk24:q9m Tryz.prog 24=true:=by kernel_rfl
theorem fOk58:q9m Tryz.prog 58=true:=by kernel_rfl
theorem fOk23:q9m Tryz.prog 23=true:=by kernel_rfl
theorem tS87:tyS Tryz.prog 87 1=true:=by kernel_rfl
theorem y1l:z6j Tryz.prog 84 144 2 32=true:=by kernel_rfl
theorem fOk62:q9m Tryz.prog 62=true:=by kernel_rfl
theorem tS84:tyS Tryz.prog 84 1=true:=by kernel_rfl
theorem fOk28:q9m Tryz.prog 28=true:=by kernel_rfl
theorem y4l:z6j Tryz.prog 23 86 2 40=true:=by kernel_rfl
theorem tC87:tyC Tryz.prog 87=true:=by kernel_rfl
theorem fOk27:q9m Tryz.prog 27=true:=by kernel_rfl
theorem fOk60:q9m Tryz.prog 60=true:=by kernel_rfl
theorem fOk26:q9m Tryz.prog 26=true:=by kernel_rfl
theorem w5z:z6j Tryz.prog 50 54 4 56=true:=by kernel_rfl
theorem tS50:tyS Tryz.prog 50 1=true:=by kernel_rfl
theorem w6z:z6j Tryz.prog 24 52 4 80=true:=by kernel_rfl
theorem tS24:tyS Tryz.prog 24 1=true:=by kernel_rfl
theorem fOk6:q9m Tryz.prog 6=true:=by kernel_rfl
theorem y5t:zeroCells Tryz.prog 147=some [.map none,.map none,.map none]:=by kernel_rfl
theorem y9g:q1m Tryz.prog 147=some [(0,1),(1,1),(2,1)]:=by kernel_rfl
theorem y3v:tyS Tryz.prog 147 3=true:=by kernel_rfl
theorem w4x:tyF Tryz.prog 147 0 0=true:=by kernel_rfl
theorem y1x:tyC Tryz.prog 145=true:=by kernel_rfl
theorem j2r:q0s Tryz.prog 145 9 63=true:=by kernel_rfl
theorem w3x:tyF Tryz.prog 147 1 1=true:=by kernel_rfl
theorem w2x:tyF Tryz.prog 147 2 2=true:=by kernel_rfl
theorem y1y:tyA Tryz.prog 147 3=true:=by kernel_rfl
theorem fOk63:q9m Tryz.prog 63=true:=by kernel_rfl
theorem y4t:zeroCells Tryz.prog 150=some [.slice none 0 0,.slice none 0 0,.slice none 0 0,.slice none 0 0,.map none,.map none,.map none,.bool false]:=by kernel_rfl
theorem y8g:q1m Tryz.prog 150=some [(0,4),(4,3),(7,1)]:=by kernel_rfl
theorem y2v:tyS Tryz.prog 150 8=true:=by kernel_rfl
theorem w1x:tyF Tryz.prog 150 0 0=true:=by kernel_rfl
theorem y0y:tyA Tryz.prog 150 8=true:=by kernel_rfl
theorem fOk88:q9m Tryz.prog 88=true:=by kernel_rfl
theorem fOk86:q9m Tryz.prog 86=true:=by kernel_rfl
theorem fOk83:q9m Tryz.prog 83=true:=by kernel_rfl
theorem w9w:tyF Tryz.prog 150 2 7=true:=by kernel_rfl
theorem w0x:tyF Tryz.prog 150 1 4=true:=by kernel_rfl
theorem fOk84:q9m Tryz.prog 84=true:=by kernel_rfl
theorem y5f:(Tryz.prog.info? 63).bind (·.zero)=some (.map none):=by kernel_rfl
theorem y6o:q9m Tryz.prog 126=true:=by kernel_rfl
theorem fOk85:q9m Tryz.prog 85=true:=by kernel_rfl
theorem fOk64:q9m Tryz.prog 64=true:=by kernel_rfl
theorem fOk30:q9m Tryz.prog 30=true:=by kernel_rfl
theorem y6w:q1m Tryz.prog 52=some [(0,1),(1,1),(2,1),(3,1)]:=by kernel_rfl
theorem fOk65:q9m Tryz.prog 65=true:=by kernel_rfl
theorem fOk31:q9m Tryz.prog 31=true:=by kernel_rfl
theorem fOk32:q9m Tryz.prog 32=true:=by kernel_rfl
theorem fOk7:q9m Tryz.prog 7=true:=by kernel_rfl
theorem tZ9:zeroCells Tryz.prog 9=some [.string ⟨#[]⟩]:=by kernel_rfl
theorem fOk9:q9m Tryz.prog 9=true:=by kernel_rfl
theorem fOk33:q9m Tryz.prog 33=true:=by kernel_rfl
theorem fOk8:q9m Tryz.prog 8=true:=by kernel_rfl
theorem fOk67:q9m Tryz.prog 67=true:=by kernel_rfl
theorem fOk36:q9m Tryz.prog 36=true:=by kernel_rfl
theorem y0u:zeroCells Tryz.prog 103=some [.slice none 0 0,.slice none 0 0,.slice none 0 0,.slice none 0 0,.map none,.map none]:=by kernel_rfl
theorem y5h:q1m Tryz.prog 103=some [(0,4),(4,1),(5,1)]:=by kernel_rfl
theorem y0w:tyS Tryz.prog 103 6=true:=by kernel_rfl
theorem w1z:tyF Tryz.prog 103 2 5=true:=by kernel_rfl
theorem y6x:tyC Tryz.prog 101=true:=by kernel_rfl
theorem w9v:q0s Tryz.prog 101 9 52=true:=by kernel_rfl
theorem v1y:q0s Tryz.prog 156 54 117=true:=by kernel_rfl
theorem w7q:j6b Tryz.prog 54 w2c:=j5a eqk54 (by kernel_rfl) (fun v ⟨x,hx⟩=>⟨_,⟨x,rfl⟩,hx⟩)
theorem y7f:(Tryz.prog.info? 117).bind (·.zero)=some (.slice none 0 0):=by kernel_rfl
theorem w6v:zeroCells Tryz.prog 182=some [.string ⟨#[]⟩,.string ⟨#[]⟩]:=by kernel_rfl
theorem y6g:q1m Tryz.prog 182=some [(0,1),(1,1)]:=by kernel_rfl
theorem v7y:z6j Tryz.prog 117 182 2 32=true:=by kernel_rfl
theorem y1w:q1m Tryz.prog 80=some [(0,1),(1,1)]:=by kernel_rfl
theorem fOk90:q9m Tryz.prog 90=true:=by kernel_rfl
theorem fOk91:q9m Tryz.prog 91=true:=by kernel_rfl
theorem fOk92:q9m Tryz.prog 92=true:=by kernel_rfl
theorem w0j:q3l Tryz.prog 117=true:=by kernel_rfl
theorem fOk69:q9m Tryz.prog 69=true:=by kernel_rfl
theorem w2z:tyF Tryz.prog 103 1 4=true:=by kernel_rfl
theorem y7x:tyC Tryz.prog 100=true:=by kernel_rfl
theorem y0g:zeroCells Tryz.prog 119=some [.string ⟨#[]⟩,.int .i64 0,.slice none 0 0]:=by kernel_rfl
theorem y2h:q1m Tryz.prog 119=some [(0,2),(2,1)]:=by kernel_rfl
theorem z2s:q0s Tryz.prog 100 9 112=true:=by kernel_rfl
theorem j2w:(Tryz.prog.info? 112).bind (·.zero)=some (.slice none 0 0):=by kernel_rfl
theorem w8q:z6j Tryz.prog 112 119 3 48=true:=by kernel_rfl
theorem v6n:q3l Tryz.prog 112=true:=by kernel_rfl
theorem y7y:tyA Tryz.prog 103 6=true:=by kernel_rfl
theorem fOk38:q9m Tryz.prog 38=true:=by kernel_rfl
theorem y9t:zeroCells Tryz.prog 116=some [.slice none 0 0,.slice none 0 0,.slice none 0 0,.slice none 0 0,.map none,.map none,.map none,.map none,.map none]:=by kernel_rfl
theorem y3h:q1m Tryz.prog 116=some [(0,6),(6,1),(7,1),(8,1)]:=by kernel_rfl
theorem y8v:tyS Tryz.prog 116 9=true:=by kernel_rfl
theorem w3z:tyF Tryz.prog 103 0 0=true:=by kernel_rfl
theorem y4g:z1s Tryz.prog 112 3=true:=by kernel_rfl
theorem y5y:tyA Tryz.prog 119 3=true:=by kernel_rfl
theorem y7v:tyS Tryz.prog 119 3=true:=by kernel_rfl
theorem w2y:tyF Tryz.prog 119 1 2=true:=by kernel_rfl
theorem y3x:tyC Tryz.prog 117=true:=by kernel_rfl
theorem y3g:z1s Tryz.prog 117 2=true:=by kernel_rfl
theorem y8x:tyA Tryz.prog 182 2=true:=by kernel_rfl
theorem y0v:tyS Tryz.prog 182 2=true:=by kernel_rfl
theorem w6w:tyF Tryz.prog 182 1 1=true:=by kernel_rfl
theorem w7s:q9m Tryz.prog 127=true:=by kernel_rfl
theorem fOk89:q9m Tryz.prog 89=true:=by kernel_rfl
theorem fOk68:q9m Tryz.prog 68=true:=by kernel_rfl
theorem w4y:tyF Tryz.prog 116 3 8=true:=by kernel_rfl
theorem y4x:tyC Tryz.prog 114=true:=by kernel_rfl
theorem w3y:tyF Tryz.prog 119 0 0=true:=by kernel_rfl
theorem v1j:q0s Tryz.prog 114 9 28=true:=by kernel_rfl
theorem y6f:(Tryz.prog.info? 28).bind (·.zero)=some (.slice none 0 0):=by kernel_rfl
theorem fOk37:q9m Tryz.prog 37=true:=by kernel_rfl
theorem w7y:tyF Tryz.prog 116 0 0=true:=by kernel_rfl
theorem j3c:zeroCells Tryz.prog 108=some [.string ⟨#[]⟩,.int .i64 0,.bool false]:=by kernel_rfl
theorem y4h:q1m Tryz.prog 108=some [(0,1),(1,1),(2,1)]:=by kernel_rfl
theorem y9v:tyS Tryz.prog 108 3=true:=by kernel_rfl
theorem y6y:tyA Tryz.prog 108 3=true:=by kernel_rfl
theorem fOk40:q9m Tryz.prog 40=true:=by kernel_rfl
theorem z2d:q0s Tryz.prog 105 108 108=true:=by kernel_rfl
theorem q1j:j6b Tryz.prog 108 q8q:=j5a w9s (by kernel_rfl) (fun v ⟨x,hx⟩=>⟨_,⟨x,rfl⟩,hx⟩)
theorem z5f:z6j Tryz.prog 159 108 3 32=true:=by kernel_rfl
theorem w9i:q3l Tryz.prog 159=true:=by kernel_rfl
theorem y2g:z1s Tryz.prog 159 3=true:=by kernel_rfl
theorem w9y:tyF Tryz.prog 108 1 1=true:=by kernel_rfl
theorem w0z:tyF Tryz.prog 108 0 0=true:=by kernel_rfl
theorem fOk42:q9m Tryz.prog 42=true:=by kernel_rfl
theorem w5y:tyF Tryz.prog 116 2 7=true:=by kernel_rfl
theorem y5x:tyC Tryz.prog 113=true:=by kernel_rfl
theorem fOk43:q9m Tryz.prog 43=true:=by kernel_rfl
theorem q1q:q0s Tryz.prog 113 108 161=true:=by kernel_rfl
theorem q0z:(Tryz.prog.info? 161).bind (·.zero)=some (.map none):=by kernel_rfl
theorem q1z:q0s Tryz.prog 161 108 3=true:=by kernel_rfl
theorem w8y:tyF Tryz.prog 108 2 2=true:=by kernel_rfl
theorem w6y:tyF Tryz.prog 116 1 6=true:=by kernel_rfl
theorem tC75:tyC Tryz.prog 75=true:=by kernel_rfl
theorem y9z:q9m Tryz.prog 93=true:=by kernel_rfl
theorem fOk70:q9m Tryz.prog 70=true:=by kernel_rfl
theorem j2c:(Tryz.prog.info? 108).bind (·.zero)=some (.agg #[.string ⟨#[]⟩,.int .i64 0,.bool false]):=by kernel_rfl
theorem y4o:q9m Tryz.prog 39=true:=by kernel_rfl
theorem w4z:Tryz.prog.eqGuardType Tryz.prog.depth 108=false:=by kernel_rfl
theorem tB4:tyB Tryz.prog 4=true:=by kernel_rfl
theorem z8z:y1f Tryz.prog 161=true:=by kernel_rfl
theorem fOk41:q9m Tryz.prog 41=true:=by kernel_rfl
theorem fOk11:q9m Tryz.prog 11=true:=by kernel_rfl
theorem y0l:Tryz.prog.eqGuardType Tryz.prog.depth 41=false:=by kernel_rfl
theorem fOk12:q9m Tryz.prog 12=true:=by kernel_rfl
theorem fOk14:q9m Tryz.prog 14=true:=by kernel_rfl
theorem fOk13:q9m Tryz.prog 13=true:=by kernel_rfl
def tt:TT:=[(3,[.C,.U,.I .i64,.S 1]),(4,[.C,.S 1,.B]),(5,[.Fn]),(6,[.Fn]),(7,[.Fn]),(8,[.Fn]),(9,[.C,.Str,.Fn]),(10,[.Fn]),(11,[.Fn]),(12,[.Fn]),(15,[.Fn]),(16,[.Fn]),(18,[.Fn]),(20,[.Fn]),(21,[.Fn]),(22,[.C,.Sn,.Sl 2,.Fn,.El 80 2 40]),(23,[.C,.Sn,.Sl 2,.Fn,.El 86 2 40]),(24,[.C,.Sn,.Sl 4,.Fn,.El 52 4 80,.S 1]),(25,[.C,.Sn,.Sl 1,.El 9 1 16,.S 1,.Fn]),(26,[.Fn]),(27,[.S 4,.A 4,.F 0 0,.F 1 1,.F 2 2,.F 3 3,.Z 4 [.slice none 0 0,.slice none 0 0,.slice none 0 0,.slice none 0 0],.Pl [(0,1),(1,1),(2,1),(3,1)],.Fn]),(28,[.El 41 2 24,.Sn,.Sl 2,.Fn]),(29,[.Fn]),(30,[.Fn]),(31,[.Fn]),(32,[.Fn]),(34,[.Fn]),(35,[.Fn]),(38,[.Fn]),(40,[.Fn]),(41,[.Z 2 [.string ⟨#[]⟩,.int .i64 0],.Pl [(0,1),(1,1)],.A 2,.S 2,.F 0 0,.F 1 1]),(42,[.Fn]),(43,[.Fn]),(45,[.C]),(47,[.Fn]),(50,[.C,.Sn,.Sl 4,.El 54 4 56,.S 1]),(52,[.A 4,.Z 4 [.string ⟨#[]⟩,.string ⟨#[]⟩,.slice none 0 0,.slice none 0 0],.S 4,.F 0 0,.Fn,.F 1 1,.F 2 2,.F 3 3,.Pl [(0,1),(1,1),(2,1),(3,1)]]),(53,[.Fn]),(54,[.A 4,.Z 4 [.int .i64 0,.string ⟨#[]⟩,.string ⟨#[]⟩,.string ⟨#[]⟩],.S 4,.F 0 0,.F 1 1,.F 2 2,.F 3 3,.Fn,.Pl [(0,1),(1,1),(2,1),(3,1)]]),(55,[.C,.Sl 1,.Sn,.Fn]),(56,[.Fn,.C]),(57,[.C,.Sn,.Sl 2,.S 1,.Fn]),(58,[.C,.El 3 1 8,.Sn,.S 1,.Sl 1]),(60,[.Z 7 [.pointer none,.slice none 0 0,.slice none 0 0,.map none,.slice none 0 0,.slice none 0 0,.slice none 0 0],.Pl [(0,1),(1,1),(2,1),(3,1),(4,1),(5,1),(6,1)],.S 7,.F 1 1,.F 6 6,.F 2 2,.F 0 0,.F 4 4,.F 3 3]),(61,[.C]),(62,[.C,.Fn]),(63,[.C,.Fn]),(64,[.Fn]),(65,[.Z 9 [.slice none 0 0,.slice none 0 0,.slice none 0 0,.slice none 0 0,.map none,.map none,.map none,.map none,.bool false],.Pl [(0,4),(4,1),(5,1),(6,1),(7,1),(8,1)],.S 9,.F 1 4,.F 2 5,.F 3 6,.F 4 7,.F 0 0,.F 5 8,.Fn]),(66,[.Fn]),(67,[.C,.Sl 1,.Sn,.Fn]),(68,[.Fn]),(69,[.Z 3 [.slice none 0 0,.slice none 0 0,.slice none 0 0],.Pl [(0,1),(1,1),(2,1)],.S 3,.F 0 0,.F 1 1,.F 2 2,.Fn]),(70,[.Fn]),(71,[.Fn]),(72,[.Fn]),(75,[.Fn,.C]),(76,[.Fn]),(77,[.Fn]),(78,[.Fn]),(79,[.Fn]),(80,[.A 2,.Z 2 [.string ⟨#[]⟩,.slice none 0 0],.S 2,.F 0 0,.F 1 1,.Fn,.Pl [(0,1),(1,1)]]),(81,[.S 1,.C]),(83,[.Fn]),(84,[.C,.Sn,.Sl 2,.El 144 2 32,.S 1,.Fn]),(85,[.Fn]),(86,[.A 2,.Z 2 [.string ⟨#[]⟩,.slice none 0 0],.S 2,.F 0 0,.F 1 1,.Fn]),(87,[.Fn,.S 1,.C]),(88,[.Fn]),(90,[.Fn]),(91,[.Fn]),(92,[.Fn]),(93,[.Fn]),(94,[.Fn]),(95,[.Fn]),(96,[.Fn]),(100,[.C]),(101,[.C]),(103,[.Z 6 [.slice none 0 0,.slice none 0 0,.slice none 0 0,.slice none 0 0,.map none,.map none],.Pl [(0,4),(4,1),(5,1)],.S 6,.F 2 5,.F 1 4,.A 6,.F 0 0]),(108,[.Fn,.Z 3 [.string ⟨#[]⟩,.int .i64 0,.bool false],.Pl [(0,1),(1,1),(2,1)],.S 3,.A 3,.F 1 1,.F 0 0,.F 2 2]),(109,[.Fn]),(112,[.Sn,.Sl 3]),(113,[.C]),(114,[.C]),(116,[.Z 9 [.slice none 0 0,.slice none 0 0,.slice none 0 0,.slice none 0 0,.map none,.map none,.map none,.map none,.map none],.Pl [(0,6),(6,1),(7,1),(8,1)],.S 9,.F 3 8,.F 0 0,.F 2 7,.F 1 6]),(117,[.El 182 2 32,.Sn,.C,.Sl 2]),(119,[.Z 3 [.string ⟨#[]⟩,.int .i64 0,.slice none 0 0],.Pl [(0,2),(2,1)],.A 3,.S 3,.F 1 2,.F 0 0]),(125,[.Z 3 [.int .i64 0,.int .i64 0,.int .i64 0],.Pl [(0,1),(1,1),(2,1)],.S 3,.F 1 1,.F 0 0]),(126,[.Fn]),(127,[.Fn]),(130,[.C]),(132,[.Z 4 [.bool false,.map none,.map none,.map none],.Pl [(0,1),(1,1),(2,1),(3,1)],.S 4,.F 1 1,.F 2 2,.F 3 3,.A 4,.F 0 0]),(144,[.A 2,.Z 2 [.string ⟨#[]⟩,.string ⟨#[]⟩],.S 2,.F 0 0,.F 1 1]),(145,[.C]),(147,[.Z 3 [.map none,.map none,.map none],.Pl [(0,1),(1,1),(2,1)],.S 3,.F 0 0,.F 1 1,.F 2 2,.A 3]),(150,[.Z 8 [.slice none 0 0,.slice none 0 0,.slice none 0 0,.slice none 0 0,.map none,.map none,.map none,.bool false],.Pl [(0,4),(4,3),(7,1)],.S 8,.F 0 0,.A 8,.F 2 7,.F 1 4]),(159,[.El 108 3 32,.Sn,.Sl 3]),(163,[.A 2,.Z 2 [.string ⟨#[]⟩,.string ⟨#[]⟩],.S 2,.F 0 0,.F 1 1,.Pl [(0,1),(1,1)]]),(169,[.I .u64,.U]),(182,[.Z 2 [.string ⟨#[]⟩,.string ⟨#[]⟩],.Pl [(0,1),(1,1)],.A 2,.S 2,.F 1 1])]
theorem ok:z2f Tryz.prog tt:=w4q ⟨⟨tC3,tUn3,tI3,tS3,trivial⟩,⟨tC4,tS4,tB4,trivial⟩,⟨fOk5,trivial⟩,⟨fOk6,trivial⟩,⟨fOk7,trivial⟩,⟨fOk8,trivial⟩,⟨tC9,y1u,fOk9,trivial⟩,⟨fOk10,trivial⟩,⟨fOk11,trivial⟩,⟨fOk12,trivial⟩,⟨fOk15,trivial⟩,⟨fOk16,trivial⟩,⟨fOk18,trivial⟩,⟨fOk20,trivial⟩,⟨y5o,trivial⟩,⟨tC22,w5w,y9u,fOk22,y5l,trivial⟩,⟨tC23,w4w,y8u,fOk23,y4l,trivial⟩,⟨tC24,w3w,y7u,fOk24,w6z,tS24,trivial⟩,⟨tC25,z4l,j3w,z4f,tS25,fOk25,trivial⟩,⟨fOk26,trivial⟩,⟨tS27,tA27,y9k,y8k,y7k,y6k,⟨y3t,rfl⟩,y8w,fOk27,trivial⟩,⟨v3j,v2j,y6u,fOk28,trivial⟩,⟨fOk29,trivial⟩,⟨fOk30,trivial⟩,⟨fOk31,trivial⟩,⟨fOk32,trivial⟩,⟨fOk34,trivial⟩,⟨fOk35,trivial⟩,⟨fOk38,trivial⟩,⟨fOk40,trivial⟩,⟨⟨y8f,rfl⟩,y7w,tA41,tS41,y5k,y4k,trivial⟩,⟨fOk42,trivial⟩,⟨fOk43,trivial⟩,⟨tC45,trivial⟩,⟨fOk47,trivial⟩,⟨tC50,w2w,y5u,w5z,tS50,trivial⟩,⟨tA52,⟨y2t,rfl⟩,tS52,y3k,fOk52,y2k,y1k,y0k,y6w,trivial⟩,⟨fOk53,trivial⟩,⟨tA54,⟨y1t,rfl⟩,tS54,y9j,y8j,y7j,y6j,fOk54,y5w,trivial⟩,⟨tC55,y4u,w1w,fOk55,trivial⟩,⟨fOk56,tC56,trivial⟩,⟨tC57,v6y,y3u,tS57,fOk57,trivial⟩,⟨tC58,j5c,v5y,tS58,w8v,trivial⟩,⟨⟨tZ60,rfl⟩,y4w,tS60,y4j,y0j,y3j,y5j,y1j,y2j,trivial⟩,⟨tC61,trivial⟩,⟨tC62,fOk62,trivial⟩,⟨tC63,fOk63,trivial⟩,⟨fOk64,trivial⟩,⟨⟨tZ65,rfl⟩,y3w,tS65,y8i,y7i,y6i,y5i,y9i,y4i,fOk65,trivial⟩,⟨fOk66,trivial⟩,⟨tC67,v2t,w0w,fOk67,trivial⟩,⟨fOk68,trivial⟩,⟨⟨tZ69,rfl⟩,y2w,tS69,y3i,y2i,y1i,fOk69,trivial⟩,⟨fOk70,trivial⟩,⟨fOk71,trivial⟩,⟨fOk72,trivial⟩,⟨fOk75,tC75,trivial⟩,⟨fOk76,trivial⟩,⟨fOk77,trivial⟩,⟨fOk78,trivial⟩,⟨fOk79,trivial⟩,⟨tA80,⟨tZ80,rfl⟩,tS80,y0i,y9h,fOk80,y1w,trivial⟩,⟨tS81,tC81,trivial⟩,⟨fOk83,trivial⟩,⟨tC84,v4y,y2u,y1l,tS84,fOk84,trivial⟩,⟨fOk85,trivial⟩,⟨tA86,⟨tZ86,rfl⟩,tS86,y8h,y7h,fOk86,trivial⟩,⟨fOk87,tS87,tC87,trivial⟩,⟨fOk88,trivial⟩,⟨fOk90,trivial⟩,⟨fOk91,trivial⟩,⟨fOk92,trivial⟩,⟨y9z,trivial⟩,⟨y8z,trivial⟩,⟨y7z,trivial⟩,⟨y6z,trivial⟩,⟨y7x,trivial⟩,⟨y6x,trivial⟩,⟨⟨y0u,rfl⟩,y5h,y0w,w1z,w2z,y7y,w3z,trivial⟩,⟨y8o,⟨j3c,rfl⟩,y4h,y9v,y6y,w9y,w0z,w8y,trivial⟩,⟨y7o,trivial⟩,⟨v6n,y4g,trivial⟩,⟨y5x,trivial⟩,⟨y4x,trivial⟩,⟨⟨y9t,rfl⟩,y3h,y8v,w4y,w7y,w5y,w6y,trivial⟩,⟨v7y,w0j,y3x,y3g,trivial⟩,⟨⟨y0g,rfl⟩,y2h,y5y,y7v,w2y,w3y,trivial⟩,⟨⟨w7v,rfl⟩,y1h,y6v,z3f,j4c,trivial⟩,⟨y6o,trivial⟩,⟨w7s,trivial⟩,⟨y2x,trivial⟩,⟨⟨y7t,rfl⟩,y0h,y5v,w9x,w8x,w7x,y3y,w0y,trivial⟩,⟨y2y,⟨y6t,rfl⟩,y4v,w6x,w5x,trivial⟩,⟨y1x,trivial⟩,⟨⟨y5t,rfl⟩,y9g,y3v,w4x,w3x,w2x,y1y,trivial⟩,⟨⟨y4t,rfl⟩,y8g,y2v,w1x,y0y,w9w,w0x,trivial⟩,⟨z5f,w9i,y2g,trivial⟩,⟨y9x,⟨y9f,rfl⟩,y1v,w8w,w7w,y7g,trivial⟩,⟨y9w,y1g,trivial⟩,⟨⟨w6v,rfl⟩,y6g,y8x,y0v,w6w,trivial⟩,trivial⟩
instance {N:Nat} {w:World} {m:Mem} {o:Nat->Prop} {p:Nat} {l:Nat->Option (Option (Nat×Cap))} {g:Gl} {h:v5i g m}:TC ⟨Tryz.prog,N,w,m,o,p,l,g,h⟩ tt:=⟨ok⟩
end Go.Proofs.YtcihpgamojpcnaaGreat
