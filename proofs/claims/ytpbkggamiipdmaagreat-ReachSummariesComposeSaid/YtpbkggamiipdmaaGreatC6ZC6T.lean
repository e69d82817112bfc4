/- Part of the proof: ZC6T. -/
import Derived.Test.YtpbkggamiipdmaaGreatC6ZA
import Derived.Test.YtpbkggamiipdmaaGreatC6WA
import Derived.Test.YtpbkggamiipdmaaGreatC6DN
import Derived.Test.YtpbkggamiipdmaaGreatC6ZC
import Derived.Test.YtpbkggamiipdmaaGreatC6ZS
import Derived.Test.YtpbkggamiipdmaaGreatProg
import Derived.KernelRfl
namespace Go.Proofs.YtpbkggamiipdmaaGreat
open Go Go.Pv
set_option linter.unusedVariables false
set_option maxRecDepth 100000
theorem mixed : Tryz.prog.follows .mixedOrders = true := by kernel_rfl
structure q2d where
 Name : (List UInt8)
 Methods : (List (List UInt8))
 deriving DecidableEq
structure q8h where
 Name : (List UInt8)
 Func : (List UInt8)
 deriving DecidableEq
structure TType where
 Name : (List UInt8)
 Methods : (List q8h)
 deriving DecidableEq
structure TCall where
 Kind : Int
 Target : (List UInt8)
 Method : (List UInt8)
 Feature : (List UInt8)
 deriving DecidableEq
structure TFunc where
 Name : (List UInt8)
 Component : (List UInt8)
 Calls : (List TCall)
 Makes : (List (List UInt8))
 deriving DecidableEq
structure q1c where
 Ifaces : (List q2d)
 Types : (List TType)
 Funcs : (List TFunc)
 Entries : (List (List UInt8))
 deriving DecidableEq
structure q9b where
 loose : Bool
 ifaces : (List ((List UInt8) × q2d))
 types : (List ((List UInt8) × Bool))
 funcs : (List ((List UInt8) × Bool))
 deriving DecidableEq
structure q7a where
 g : q1c
 funcs : (List ((List UInt8) × Int))
 types : (List ((List UInt8) × Int))
 fitting : (List ((List UInt8) × (List Int)))
 on : (List ((List UInt8) × Bool))
 made : Bool
 deriving DecidableEq
structure q6a where
 Target : (List UInt8)
 Method : (List UInt8)
 deriving DecidableEq
structure q5a where
 Func : (List UInt8)
 Within : (List (List UInt8))
 Outer : (List q6a)
 deriving DecidableEq
structure q6c where
 ifaces : (List ((List UInt8) × (List ((List UInt8) × Bool))))
 types : (List ((List UInt8) × Bool))
 funcs : (List ((List UInt8) × Bool))
 deriving DecidableEq
structure q0b where
 g : q1c
 n : q6c
 loose : Bool
 deriving DecidableEq
structure TSite where
 Func : (List UInt8)
 Call : Int
 deriving DecidableEq
structure q3a where
 typ : (List UInt8)
 to : (List UInt8)
 deriving DecidableEq
structure q1a where
 site : TSite
 aims : (List q3a)
 deriving DecidableEq
structure q6b where
 g : q1c
 links : (List ((List UInt8) × (List q1a)))
 funcs : (List ((List UInt8) × TFunc))
 deriving DecidableEq
structure q0a where
 iface : (List UInt8)
 method : (List UInt8)
 deriving DecidableEq
structure q7d where
 w : (Option q7a)
 funcs : (List Bool)
 made : (List Bool)
 slots : (List (q0a × Bool))
 order : (List q0a)
 types : (List Int)
 queue : (List Int)
 deriving DecidableEq
def q8a (x : Int) : List V := [(iV x)]
theorem q3b (x : Int) : Imms (q8a x) := (.cons (Imm.con _) .nil)
theorem one_encI_i64 (x : Int) : (q8a x).all oneV = true := rfl
instance : EI q8a := ⟨q3b, one_encI_i64⟩
def encB (x : Bool) : List V := [(bV x)]
theorem q8d (x : Bool) : Imms (encB x) := (.cons (Imm.con _) .nil)
theorem one_encB (x : Bool) : (encB x).all oneV = true := rfl
instance : EI encB := ⟨q8d, one_encB⟩
def encS (x : (List UInt8)) : List V := [(sV x)]
theorem q3j (x : (List UInt8)) : Imms (encS x) := (.cons (Imm.con _) .nil)
theorem one_encS (x : (List UInt8)) : (encS x).all oneV = true := rfl
instance : EI encS := ⟨q3j, one_encS⟩
def q8b (x : q2d) : List V := [(sV x.Name), (V.lst 1 (x.Methods.map encS))]
theorem imms_encTIface (x : q2d) : Imms (q8b x) := (.cons (Imm.con _) (.cons (Imm.lst _ _) .nil))
theorem one_encTIface (x : q2d) : (q8b x).all oneV = true := rfl
instance : EI q8b := ⟨imms_encTIface, one_encTIface⟩
@[simp] theorem len_encTIface (x : q2d) : (q8b x).length = 2 := rfl
def q6g (x : q8h) : List V := [(sV x.Name), (sV x.Func)]
theorem imms_encTMethod (x : q8h) : Imms (q6g x) := (.cons (Imm.con _) (.cons (Imm.con _) .nil))
theorem one_encTMethod (x : q8h) : (q6g x).all oneV = true := rfl
instance : EI q6g := ⟨imms_encTMethod, one_encTMethod⟩
@[simp] theorem len_encTMethod (x : q8h) : (q6g x).length = 2 := rfl
def q1d (x : TType) : List V := [(sV x.Name), (V.lst 2 (x.Methods.map q6g))]
theorem imms_encTType (x : TType) : Imms (q1d x) := (.cons (Imm.con _) (.cons (Imm.lst _ _) .nil))
theorem one_encTType (x : TType) : (q1d x).all oneV = true := rfl
instance : EI q1d := ⟨imms_encTType, one_encTType⟩
@[simp] theorem len_encTType (x : TType) : (q1d x).length = 2 := rfl
def q9d (x : TCall) : List V := [(iV x.Kind), (sV x.Target), (sV x.Method), (sV x.Feature)]
theorem imms_encTCall (x : TCall) : Imms (q9d x) := (.cons (Imm.con _) (.cons (Imm.con _) (.cons (Imm.con _) (.cons (Imm.con _) .nil))))
theorem one_encTCall (x : TCall) : (q9d x).all oneV = true := rfl
instance : EI q9d := ⟨imms_encTCall, one_encTCall⟩
@[simp] theorem len_encTCall (x : TCall) : (q9d x).length = 4 := rfl
def q4c (x : TFunc) : List V := [(sV x.Name), (sV x.Component), (V.lst 4 (x.Calls.map q9d)), (V.lst 1 (x.Makes.map encS))]
theorem imms_encTFunc (x : TFunc) : Imms (q4c x) := (.cons (Imm.con _) (.cons (Imm.con _) (.cons (Imm.lst _ _) (.cons (Imm.lst _ _) .nil))))
theorem one_encTFunc (x : TFunc) : (q4c x).all oneV = true := rfl
instance : EI q4c := ⟨imms_encTFunc, one_encTFunc⟩
@[simp] theorem len_encTFunc (x : TFunc) : (q4c x).length = 4 := rfl
def q3c (x : q1c) : List V := [(V.lst 2 (x.Ifaces.map q8b)), (V.lst 2 (x.Types.map q1d)), (V.lst 4 (x.Funcs.map q4c)), (V.lst 1 (x.Entries.map encS))]
theorem imms_encTGraph (x : q1c) : Imms (q3c x) := (.cons (Imm.lst _ _) (.cons (Imm.lst _ _) (.cons (Imm.lst _ _) (.cons (Imm.lst _ _) .nil))))
theorem one_encTGraph (x : q1c) : (q3c x).all oneV = true := rfl
instance : EI q3c := ⟨imms_encTGraph, one_encTGraph⟩
@[simp] theorem len_encTGraph (x : q1c) : (q3c x).length = 4 := rfl
def q2c (x : q6a) : List V := [(sV x.Target), (sV x.Method)]
theorem q5h (x : q6a) : Imms (q2c x) := (.cons (Imm.con _) (.cons (Imm.con _) .nil))
theorem one_encTOuter (x : q6a) : (q2c x).all oneV = true := rfl
instance : EI q2c := ⟨q5h, one_encTOuter⟩
@[simp] theorem len_encTOuter (x : q6a) : (q2c x).length = 2 := rfl
def q4d (x : q5a) : List V := [(sV x.Func), (V.lst 1 (x.Within.map encS)), (V.lst 2 (x.Outer.map q2c))]
theorem q6j (x : q5a) : Imms (q4d x) := (.cons (Imm.con _) (.cons (Imm.lst _ _) (.cons (Imm.lst _ _) .nil)))
theorem one_encTSummary (x : q5a) : (q4d x).all oneV = true := rfl
instance : EI q4d := ⟨q6j, one_encTSummary⟩
@[simp] theorem len_encTSummary (x : q5a) : (q4d x).length = 3 := rfl
def encL45 (x : (List q5a)) : List V := [V.lst 3 (x.map q4d)]
theorem imms_encL45 (x : (List q5a)) : Imms (encL45 x) := (.cons (Imm.lst _ _) .nil)
theorem one_encL45 (x : (List q5a)) : (encL45 x).all oneV = true := rfl
instance : EI encL45 := ⟨imms_encL45, one_encL45⟩
theorem eqp9 {d : Nat} : EqOk Tryz.prog (d + 1) 9 1 false (fun l => ∃ n, l = [.string n]) := eqOk_str (show Tryz.prog.underlying 9 = some (.string) by kernel_rfl) (show tyC Tryz.prog 9 = true by kernel_rfl)
def cv304 (x : q0a) : List Value := [str x.iface] ++ ([str x.method] ++ [])
theorem inj_cv304 (x y : q0a) (h : cv304 x = cv304 y) : x = y := by
 obtain ⟨h0, h⟩ := List.append_inj h rfl
 obtain ⟨h1, h⟩ := List.append_inj h rfl
 obtain ⟨a0, a1⟩ := x
 obtain ⟨b0, b1⟩ := y
 obtain rfl : a0 = b0 := q2i _ _ (List.cons.inj h0).1
 obtain rfl : a1 = b1 := q2i _ _ (List.cons.inj h1).1
 rfl
def isAgg304 (v : Value) : Prop := ∃ x : q0a, v = .agg (cv304 x).toArray
theorem inj_agg304 : ∀ a b : q0a, (Value.agg (cv304 a).toArray) = .agg (cv304 b).toArray → a = b := fun a b h => inj_cv304 a b (by simpa using congrArg Array.toList (Value.agg.inj h))
theorem eqp304 {d : Nat} : EqOk Tryz.prog (d + 2) 304 2 true (fun l => ∃ x : q0a, l = cv304 x) := (eqOk_struct (d := d + 1) (fs := [(Field.mk "iface" 9 0 false "" "provender/reach" 0), (Field.mk "method" 9 1 false "" "provender/reach" 16)]) (by kernel_rfl) (by kernel_rfl) (by kernel_rfl) (by kernel_rfl) (eqF_cons eqp9 (by simp) rfl (by simp) (eqF_cons eqp9 (by simp) rfl (by simp) eqF_nil))).weaken (fun l ⟨x, hx⟩ => by subst hx; exact ⟨_, _, rfl, ⟨_, rfl⟩, ⟨_, _, rfl, ⟨_, rfl⟩, rfl⟩⟩)
theorem eqk304 : EqOk Tryz.prog 10000 304 2 true (fun l => ∃ x : q0a, l = cv304 x) := eqp304 (d := 9998)
def cv160 (x : q6a) : List Value := [str x.Target] ++ ([str x.Method] ++ [])
theorem inj_cv160 (x y : q6a) (h : cv160 x = cv160 y) : x = y := by
 obtain ⟨h0, h⟩ := List.append_inj h rfl
 obtain ⟨h1, h⟩ := List.append_inj h rfl
 obtain ⟨a0, a1⟩ := x
 obtain ⟨b0, b1⟩ := y
 obtain rfl : a0 = b0 := q2i _ _ (List.cons.inj h0).1
 obtain rfl : a1 = b1 := q2i _ _ (List.cons.inj h1).1
 rfl
def isAgg160 (v : Value) : Prop := ∃ x : q6a, v = .agg (cv160 x).toArray
theorem inj_agg160 : ∀ a b : q6a, (Value.agg (cv160 a).toArray) = .agg (cv160 b).toArray → a = b := fun a b h => inj_cv160 a b (by simpa using congrArg Array.toList (Value.agg.inj h))
theorem eqp160 {d : Nat} : EqOk Tryz.prog (d + 2) 160 2 true (fun l => ∃ x : q6a, l = cv160 x) := (eqOk_struct (d := d + 1) (fs := [(Field.mk "Target" 9 0 false "" "" 0), (Field.mk "Method" 9 1 false "" "" 16)]) (by kernel_rfl) (by kernel_rfl) (by kernel_rfl) (by kernel_rfl) (eqF_cons eqp9 (by simp) rfl (by simp) (eqF_cons eqp9 (by simp) rfl (by simp) eqF_nil))).weaken (fun l ⟨x, hx⟩ => by subst hx; exact ⟨_, _, rfl, ⟨_, rfl⟩, ⟨_, _, rfl, ⟨_, rfl⟩, rfl⟩⟩)
theorem eqk160 : EqOk Tryz.prog 10000 160 2 true (fun l => ∃ x : q6a, l = cv160 x) := eqp160 (d := 9998)
theorem eqp3 {d : Nat} : EqOk Tryz.prog (d + 1) 3 1 false (fun l => ∃ n, l = [.int .i64 n]) := eqOk_int (show Tryz.prog.underlying 3 = some (.int .i64) by kernel_rfl) (show tyC Tryz.prog 3 = true by kernel_rfl)
def cv109 (x : TCall) : List Value := [.int .i64 x.Kind] ++ ([str x.Target] ++ ([str x.Method] ++ ([str x.Feature] ++ [])))
theorem inj_cv109 (x y : TCall) (h : cv109 x = cv109 y) : x = y := by
 obtain ⟨h0, h⟩ := List.append_inj h rfl
 obtain ⟨h1, h⟩ := List.append_inj h rfl
 obtain ⟨h2, h⟩ := List.append_inj h rfl
 obtain ⟨h3, h⟩ := List.append_inj h rfl
 obtain ⟨a0, a1, a2, a3⟩ := x
 obtain ⟨b0, b1, b2, b3⟩ := y
 obtain rfl : a0 = b0 := inj_int _ _ (List.cons.inj h0).1
 obtain rfl : a1 = b1 := q2i _ _ (List.cons.inj h1).1
 obtain rfl : a2 = b2 := q2i _ _ (List.cons.inj h2).1
 obtain rfl : a3 = b3 := q2i _ _ (List.cons.inj h3).1
 rfl
def isAgg109 (v : Value) : Prop := ∃ x : TCall, v = .agg (cv109 x).toArray
theorem inj_agg109 : ∀ a b : TCall, (Value.agg (cv109 a).toArray) = .agg (cv109 b).toArray → a = b := fun a b h => inj_cv109 a b (by simpa using congrArg Array.toList (Value.agg.inj h))
theorem eqp109 {d : Nat} : EqOk Tryz.prog (d + 2) 109 4 true (fun l => ∃ x : TCall, l = cv109 x) := (eqOk_struct (d := d + 1) (fs := [(Field.mk "Kind" 3 0 false "" "" 0), (Field.mk "Target" 9 1 false "" "" 8), (Field.mk "Method" 9 2 false "" "" 24), (Field.mk "Feature" 9 3 false "" "" 40)]) (by kernel_rfl) (by kernel_rfl) (by kernel_rfl) (by kernel_rfl) (eqF_cons eqp3 (by simp) rfl (by simp) (eqF_cons eqp9 (by simp) rfl (by simp) (eqF_cons eqp9 (by simp) rfl (by simp) (eqF_cons eqp9 (by simp) rfl (by simp) eqF_nil))))).weaken (fun l ⟨x, hx⟩ => by subst hx; exact ⟨_, _, rfl, ⟨_, rfl⟩, ⟨_, _, rfl, ⟨_, rfl⟩, ⟨_, _, rfl, ⟨_, rfl⟩, ⟨_, _, rfl, ⟨_, rfl⟩, rfl⟩⟩⟩⟩)
theorem eqk109 : EqOk Tryz.prog 10000 109 4 true (fun l => ∃ x : TCall, l = cv109 x) := eqp109 (d := 9998)
def q5e (p : (List UInt8) × Int) : Value × V := (str p.1, (iV p.2))
abbrev q0i (v : Int) : V := (iV v)
theorem encM9_3_puts (xs : List ((List UInt8) × Int)) (k : (List UInt8)) (v : Int) : Puts (str k) (q0i v) (xs.map q5e) ((mput xs k v).map q5e) := puts_map (kv := fun k => str k) (ev := q0i) q2i xs k v
theorem q7j (xs : List ((List UInt8) × Int)) (k : (List UInt8)) : Look (str k) (xs.map q5e) ((mget xs k).map q0i) := q3n (kv := fun k => str k) (ev := q0i) q2i xs k
theorem encM9_3_imm {xs : List ((List UInt8) × Int)} : ∀ p, p ∈ xs.map q5e → Imm p.2 := by
 intro p hp
 obtain ⟨x, _, rfl⟩ := List.mem_map.1 hp
 exact (Imm.con _)
instance : EM q5e := ⟨fun _ => (Imm.con _)⟩
theorem q5i {xs : List ((List UInt8) × Int)} : ∀ p, p ∈ xs.map q5e → isStr p.1 := by
 intro p hp
 obtain ⟨x, _, rfl⟩ := List.mem_map.1 hp
 exact ⟨_, rfl⟩
def q0j (p : (List UInt8) × (List Int)) : Value × V := (str p.1, (V.lst 1 (p.2.map q8a)))
abbrev q6n (v : (List Int)) : V := (V.lst 1 (v.map q8a))
theorem encM9_165_look (xs : List ((List UInt8) × (List Int))) (k : (List UInt8)) : Look (str k) (xs.map q0j) ((mget xs k).map q6n) := q3n (kv := fun k => str k) (ev := q6n) q2i xs k
instance : EM q0j := ⟨fun _ => (Imm.lst _ _)⟩
theorem encM9_165_good {xs : List ((List UInt8) × (List Int))} : ∀ p, p ∈ xs.map q0j → isStr p.1 := by
 intro p hp
 obtain ⟨x, _, rfl⟩ := List.mem_map.1 hp
 exact ⟨_, rfl⟩
def q5b (p : (List UInt8) × Bool) : Value × V := (str p.1, (bV p.2))
abbrev q0g (v : Bool) : V := (bV v)
theorem q4i (xs : List ((List UInt8) × Bool)) (k : (List UInt8)) (v : Bool) : Puts (str k) (q0g v) (xs.map q5b) ((mput xs k v).map q5b) := puts_map (kv := fun k => str k) (ev := q0g) q2i xs k v
theorem q3h (xs : List ((List UInt8) × Bool)) (k : (List UInt8)) : Look (str k) (xs.map q5b) ((mget xs k).map q0g) := q3n (kv := fun k => str k) (ev := q0g) q2i xs k
theorem q6m {xs : List ((List UInt8) × Bool)} : ∀ p, p ∈ xs.map q5b → Imm p.2 := by
 intro p hp
 obtain ⟨x, _, rfl⟩ := List.mem_map.1 hp
 exact (Imm.con _)
theorem encM9_4_im (p : (List UInt8) × Bool) : Imm (q5b p).2 := (Imm.con _)
instance : EM q5b := ⟨fun _ => (Imm.con _)⟩
theorem q6e {xs : List ((List UInt8) × Bool)} : ∀ p, p ∈ xs.map q5b → isStr p.1 := by
 intro p hp
 obtain ⟨x, _, rfl⟩ := List.mem_map.1 hp
 exact ⟨_, rfl⟩
def q2a (x : q7a) : List V := [(V.lst 2 (x.g.Ifaces.map q8b)), (V.lst 2 (x.g.Types.map q1d)), (V.lst 4 (x.g.Funcs.map q4c)), (V.lst 1 (x.g.Entries.map encS)), (V.imap (x.funcs.map q5e)), (V.imap (x.types.map q5e)), (V.imap (x.fitting.map q0j)), (V.imap (x.on.map q5b)), (bV x.made)]
theorem imms_encTreach_world (x : q7a) : Imms (q2a x) := (.cons (Imm.lst _ _) (.cons (Imm.lst _ _) (.cons (Imm.lst _ _) (.cons (Imm.lst _ _) (.cons (Imm.imap _) (.cons (Imm.imap _) (.cons (Imm.imap _) (.cons (Imm.imap _) (.cons (Imm.con _) .nil)))))))))
theorem one_encTreach_world (x : q7a) : (q2a x).all oneV = true := rfl
instance : EI q2a := ⟨imms_encTreach_world, one_encTreach_world⟩
@[simp] theorem len_encTreach_world (x : q7a) : (q2a x).length = 9 := rfl
def q4j (p : (List UInt8) × q2d) : Value × V := (str p.1, (V.agg [(sV p.2.Name), (V.lst 1 (p.2.Methods.map encS))]))
abbrev encM9_98_val (v : q2d) : V := (V.agg [(sV v.Name), (V.lst 1 (v.Methods.map encS))])
theorem encM9_98_puts (xs : List ((List UInt8) × q2d)) (k : (List UInt8)) (v : q2d) : Puts (str k) (encM9_98_val v) (xs.map q4j) ((mput xs k v).map q4j) := puts_map (kv := fun k => str k) (ev := encM9_98_val) q2i xs k v
theorem encM9_98_look (xs : List ((List UInt8) × q2d)) (k : (List UInt8)) : Look (str k) (xs.map q4j) ((mget xs k).map encM9_98_val) := q3n (kv := fun k => str k) (ev := encM9_98_val) q2i xs k
theorem encM9_98_imm {xs : List ((List UInt8) × q2d)} : ∀ p, p ∈ xs.map q4j → Imm p.2 := by
 intro p hp
 obtain ⟨x, _, rfl⟩ := List.mem_map.1 hp
 exact (Imm.agg (.cons (Imm.con _) (.cons (Imm.lst _ _) .nil)))
instance : EM q4j := ⟨fun _ => (Imm.agg (.cons (Imm.con _) (.cons (Imm.lst _ _) .nil)))⟩
theorem encM9_98_good {xs : List ((List UInt8) × q2d)} : ∀ p, p ∈ xs.map q4j → isStr p.1 := by
 intro p hp
 obtain ⟨x, _, rfl⟩ := List.mem_map.1 hp
 exact ⟨_, rfl⟩
def q9c (x : q9b) : List V := [(bV x.loose), (V.imap (x.ifaces.map q4j)), (V.imap (x.types.map q5b)), (V.imap (x.funcs.map q5b))]
theorem imms_encTreach_checker (x : q9b) : Imms (q9c x) := (.cons (Imm.con _) (.cons (Imm.imap _) (.cons (Imm.imap _) (.cons (Imm.imap _) .nil))))
theorem one_encTreach_checker (x : q9b) : (q9c x).all oneV = true := rfl
instance : EI q9c := ⟨imms_encTreach_checker, one_encTreach_checker⟩
@[simp] theorem len_encTreach_checker (x : q9b) : (q9c x).length = 4 := rfl
def q5n (p : (List UInt8) × (List ((List UInt8) × Bool))) : Value × V := (str p.1, (V.imap (p.2.map q5b)))
abbrev encM9_89_val (v : (List ((List UInt8) × Bool))) : V := (V.imap (v.map q5b))
theorem encM9_89_look (xs : List ((List UInt8) × (List ((List UInt8) × Bool)))) (k : (List UInt8)) : Look (str k) (xs.map q5n) ((mget xs k).map encM9_89_val) := q3n (kv := fun k => str k) (ev := encM9_89_val) q2i xs k
instance : EM q5n := ⟨fun _ => (Imm.imap _)⟩
theorem encM9_89_good {xs : List ((List UInt8) × (List ((List UInt8) × Bool)))} : ∀ p, p ∈ xs.map q5n → isStr p.1 := by
 intro p hp
 obtain ⟨x, _, rfl⟩ := List.mem_map.1 hp
 exact ⟨_, rfl⟩
def q4g (x : q6c) : List V := [(V.imap (x.ifaces.map q5n)), (V.imap (x.types.map q5b)), (V.imap (x.funcs.map q5b))]
theorem imms_encTprovenderref6_names (x : q6c) : Imms (q4g x) := (.cons (Imm.imap _) (.cons (Imm.imap _) (.cons (Imm.imap _) .nil)))
theorem one_encTprovenderref6_names (x : q6c) : (q4g x).all oneV = true := rfl
instance : EI q4g := ⟨imms_encTprovenderref6_names, one_encTprovenderref6_names⟩
@[simp] theorem len_encTprovenderref6_names (x : q6c) : (q4g x).length = 3 := rfl
def q4b (x : q0b) : List V := [(V.lst 2 (x.g.Ifaces.map q8b)), (V.lst 2 (x.g.Types.map q1d)), (V.lst 4 (x.g.Funcs.map q4c)), (V.lst 1 (x.g.Entries.map encS)), (V.imap (x.n.ifaces.map q5n)), (V.imap (x.n.types.map q5b)), (V.imap (x.n.funcs.map q5b)), (bV x.loose)]
theorem imms_encTprovenderref6_checker (x : q0b) : Imms (q4b x) := (.cons (Imm.lst _ _) (.cons (Imm.lst _ _) (.cons (Imm.lst _ _) (.cons (Imm.lst _ _) (.cons (Imm.imap _) (.cons (Imm.imap _) (.cons (Imm.imap _) (.cons (Imm.con _) .nil))))))))
theorem one_encTprovenderref6_checker (x : q0b) : (q4b x).all oneV = true := rfl
instance : EI q4b := ⟨imms_encTprovenderref6_checker, one_encTprovenderref6_checker⟩
@[simp] theorem len_encTprovenderref6_checker (x : q0b) : (q4b x).length = 8 := rfl
def q0c (x : q3a) : List V := [(sV x.typ), (sV x.to)]
theorem q5j (x : q3a) : Imms (q0c x) := (.cons (Imm.con _) (.cons (Imm.con _) .nil))
theorem one_encTprovenderref6_aim (x : q3a) : (q0c x).all oneV = true := rfl
instance : EI q0c := ⟨q5j, one_encTprovenderref6_aim⟩
@[simp] theorem len_encTprovenderref6_aim (x : q3a) : (q0c x).length = 2 := rfl
def q1b (x : q1a) : List V := [(sV x.site.Func), (iV x.site.Call), (V.lst 2 (x.aims.map q0c))]
theorem q2j (x : q1a) : Imms (q1b x) := (.cons (Imm.con _) (.cons (Imm.con _) (.cons (Imm.lst _ _) .nil)))
theorem q8l (x : q1a) : (q1b x).all oneV = true := rfl
instance : EI q1b := ⟨q2j, q8l⟩
@[simp] theorem len_encTprovenderref6_link (x : q1a) : (q1b x).length = 3 := rfl
def q4m (p : (List UInt8) × (List q1a)) : Value × V := (str p.1, (V.lst 3 (p.2.map q1b)))
abbrev encM9_212_val (v : (List q1a)) : V := (V.lst 3 (v.map q1b))
theorem encM9_212_look (xs : List ((List UInt8) × (List q1a))) (k : (List UInt8)) : Look (str k) (xs.map q4m) ((mget xs k).map encM9_212_val) := q3n (kv := fun k => str k) (ev := encM9_212_val) q2i xs k
instance : EM q4m := ⟨fun _ => (Imm.lst _ _)⟩
theorem encM9_212_good {xs : List ((List UInt8) × (List q1a))} : ∀ p, p ∈ xs.map q4m → isStr p.1 := by
 intro p hp
 obtain ⟨x, _, rfl⟩ := List.mem_map.1 hp
 exact ⟨_, rfl⟩
def q7i (p : (List UInt8) × TFunc) : Value × V := (str p.1, (V.agg [(sV p.2.Name), (sV p.2.Component), (V.lst 4 (p.2.Calls.map q9d)), (V.lst 1 (p.2.Makes.map encS))]))
abbrev q1n (v : TFunc) : V := (V.agg [(sV v.Name), (sV v.Component), (V.lst 4 (v.Calls.map q9d)), (V.lst 1 (v.Makes.map encS))])
theorem encM9_94_puts (xs : List ((List UInt8) × TFunc)) (k : (List UInt8)) (v : TFunc) : Puts (str k) (q1n v) (xs.map q7i) ((mput xs k v).map q7i) := puts_map (kv := fun k => str k) (ev := q1n) q2i xs k v
theorem encM9_94_look (xs : List ((List UInt8) × TFunc)) (k : (List UInt8)) : Look (str k) (xs.map q7i) ((mget xs k).map q1n) := q3n (kv := fun k => str k) (ev := q1n) q2i xs k
theorem encM9_94_imm {xs : List ((List UInt8) × TFunc)} : ∀ p, p ∈ xs.map q7i → Imm p.2 := by
 intro p hp
 obtain ⟨x, _, rfl⟩ := List.mem_map.1 hp
 exact (Imm.agg (.cons (Imm.con _) (.cons (Imm.con _) (.cons (Imm.lst _ _) (.cons (Imm.lst _ _) .nil)))))
instance : EM q7i := ⟨fun _ => (Imm.agg (.cons (Imm.con _) (.cons (Imm.con _) (.cons (Imm.lst _ _) (.cons (Imm.lst _ _) .nil)))))⟩
theorem encM9_94_good {xs : List ((List UInt8) × TFunc)} : ∀ p, p ∈ xs.map q7i → isStr p.1 := by
 intro p hp
 obtain ⟨x, _, rfl⟩ := List.mem_map.1 hp
 exact ⟨_, rfl⟩
def q8c (x : q6b) : List V := [(V.lst 2 (x.g.Ifaces.map q8b)), (V.lst 2 (x.g.Types.map q1d)), (V.lst 4 (x.g.Funcs.map q4c)), (V.lst 1 (x.g.Entries.map encS)), (V.imap (x.links.map q4m)), (V.imap (x.funcs.map q7i))]
theorem imms_encTprovenderref6_net (x : q6b) : Imms (q8c x) := (.cons (Imm.lst _ _) (.cons (Imm.lst _ _) (.cons (Imm.lst _ _) (.cons (Imm.lst _ _) (.cons (Imm.imap _) (.cons (Imm.imap _) .nil))))))
theorem one_encTprovenderref6_net (x : q6b) : (q8c x).all oneV = true := rfl
instance : EI q8c := ⟨imms_encTprovenderref6_net, one_encTprovenderref6_net⟩
@[simp] theorem len_encTprovenderref6_net (x : q6b) : (q8c x).length = 6 := rfl
def q2b (x : q0a) : List V := [(sV x.iface), (sV x.method)]
theorem q0d (x : q0a) : Imms (q2b x) := (.cons (Imm.con _) (.cons (Imm.con _) .nil))
theorem one_encTreach_slot (x : q0a) : (q2b x).all oneV = true := rfl
instance : EI q2b := ⟨q0d, one_encTreach_slot⟩
@[simp] theorem len_encTreach_slot (x : q0a) : (q2b x).length = 2 := rfl
def q3d (p : q0a × Bool) : Value × V := (.agg (cv304 p.1).toArray, (bV p.2))
abbrev q7n (v : Bool) : V := (bV v)
theorem encM304_4_puts (xs : List (q0a × Bool)) (k : q0a) (v : Bool) : Puts (.agg (cv304 k).toArray) (q7n v) (xs.map q3d) ((mput xs k v).map q3d) := puts_map (kv := fun k => .agg (cv304 k).toArray) (ev := q7n) inj_agg304 xs k v
theorem encM304_4_look (xs : List (q0a × Bool)) (k : q0a) : Look (.agg (cv304 k).toArray) (xs.map q3d) ((mget xs k).map q7n) := q3n (kv := fun k => .agg (cv304 k).toArray) (ev := q7n) inj_agg304 xs k
theorem q9e {xs : List (q0a × Bool)} : ∀ p, p ∈ xs.map q3d → Imm p.2 := by
 intro p hp
 obtain ⟨x, _, rfl⟩ := List.mem_map.1 hp
 exact (Imm.con _)
instance : EM q3d := ⟨fun _ => (Imm.con _)⟩
theorem encM304_4_good {xs : List (q0a × Bool)} : ∀ p, p ∈ xs.map q3d → (isAgg304) p.1 := by
 intro p hp
 obtain ⟨x, _, rfl⟩ := List.mem_map.1 hp
 exact ⟨_, rfl⟩
def q9i (x : q7d) : List V := [(optr q2a x.w), (V.lst 1 (x.funcs.map encB)), (V.lst 1 (x.made.map encB)), (V.imap (x.slots.map q3d)), (V.lst 2 (x.order.map q2b)), (V.lst 1 (x.types.map q8a)), (V.lst 1 (x.queue.map q8a))]
theorem imms_encTreach_spread (x : q7d) : Imms (q9i x) := (.cons (imm_optr _) (.cons (Imm.lst _ _) (.cons (Imm.lst _ _) (.cons (Imm.imap _) (.cons (Imm.lst _ _) (.cons (Imm.lst _ _) (.cons (Imm.lst _ _) .nil)))))))
theorem one_encTreach_spread (x : q7d) : (q9i x).all oneV = true := by unfold q9i; simp only [List.all_cons, List.all_nil, one_optr, Bool.true_and]; rfl
instance : EI q9i := ⟨imms_encTreach_spread, one_encTreach_spread⟩
@[simp] theorem len_encTreach_spread (x : q7d) : (q9i x).length = 7 := rfl
def q8f (p : (List UInt8) × (List Int)) : Value × V := (str p.1, (V.dsl 3 1 (p.2.map q8a)))
theorem encM9_387_und (p : (List UInt8) × (List Int)) : (q8f p).1 = (q0j p).1 ∧ Und (q8f p).2 (q0j p).2 ∧ Keep (q8f p).2 := ⟨rfl, und_rows q3b _, Keep.dsl _ _ _⟩
instance : EMK q8f := ⟨fun p => (encM9_387_und p).2.2⟩
theorem encM9_387_good {xs : List ((List UInt8) × (List Int))} : ∀ p, p ∈ xs.map q8f → isStr p.1 := by
 intro p hp
 obtain ⟨x, _, rfl⟩ := List.mem_map.1 hp
 exact ⟨_, rfl⟩
def q6i (p : Int × Bool) : Value × V := (.int .i64 p.1, (bV p.2))
abbrev encM3_4_val (v : Bool) : V := (bV v)
theorem encM3_4_puts (xs : List (Int × Bool)) (k : Int) (v : Bool) : Puts (.int .i64 k) (encM3_4_val v) (xs.map q6i) ((mput xs k v).map q6i) := puts_map (kv := fun k => .int .i64 k) (ev := encM3_4_val) inj_int xs k v
theorem encM3_4_look (xs : List (Int × Bool)) (k : Int) : Look (.int .i64 k) (xs.map q6i) ((mget xs k).map encM3_4_val) := q3n (kv := fun k => .int .i64 k) (ev := encM3_4_val) inj_int xs k
theorem encM3_4_imm {xs : List (Int × Bool)} : ∀ p, p ∈ xs.map q6i → Imm p.2 := by
 intro p hp
 obtain ⟨x, _, rfl⟩ := List.mem_map.1 hp
 exact (Imm.con _)
instance : EM q6i := ⟨fun _ => (Imm.con _)⟩
theorem encM3_4_good {xs : List (Int × Bool)} : ∀ p, p ∈ xs.map q6i → (isInt .i64) p.1 := by
 intro p hp
 obtain ⟨x, _, rfl⟩ := List.mem_map.1 hp
 exact ⟨_, rfl⟩
def q5d (p : q6a × Bool) : Value × V := (.agg (cv160 p.1).toArray, (bV p.2))
abbrev encM160_4_val (v : Bool) : V := (bV v)
theorem encM160_4_puts (xs : List (q6a × Bool)) (k : q6a) (v : Bool) : Puts (.agg (cv160 k).toArray) (encM160_4_val v) (xs.map q5d) ((mput xs k v).map q5d) := puts_map (kv := fun k => .agg (cv160 k).toArray) (ev := encM160_4_val) inj_agg160 xs k v
theorem q8n {xs : List (q6a × Bool)} : ∀ p, p ∈ xs.map q5d → Imm p.2 := by
 intro p hp
 obtain ⟨x, _, rfl⟩ := List.mem_map.1 hp
 exact (Imm.con _)
instance : EM q5d := ⟨fun _ => (Imm.con _)⟩
theorem encM160_4_good {xs : List (q6a × Bool)} : ∀ p, p ∈ xs.map q5d → (isAgg160) p.1 := by
 intro p hp
 obtain ⟨x, _, rfl⟩ := List.mem_map.1 hp
 exact ⟨_, rfl⟩
def q9h (p : (List UInt8) × (List ((List UInt8) × Bool))) : Value × V := (str p.1, (V.dmp (p.2.map q5b)))
theorem encM9_388_und (p : (List UInt8) × (List ((List UInt8) × Bool))) : (q9h p).1 = (q5n p).1 ∧ Und (q9h p).2 (q5n p).2 ∧ Keep (q9h p).2 := ⟨rfl, und_ents encM9_4_im _, Keep.dmp _⟩
instance : EMK q9h := ⟨fun p => (encM9_388_und p).2.2⟩
theorem encM9_388_good {xs : List ((List UInt8) × (List ((List UInt8) × Bool)))} : ∀ p, p ∈ xs.map q9h → isStr p.1 := by
 intro p hp
 obtain ⟨x, _, rfl⟩ := List.mem_map.1 hp
 exact ⟨_, rfl⟩
def q8g (p : (List UInt8) × (List q1a)) : Value × V := (str p.1, (V.dsl 219 3 (p.2.map q1b)))
theorem encM9_389_und (p : (List UInt8) × (List q1a)) : (q8g p).1 = (q4m p).1 ∧ Und (q8g p).2 (q4m p).2 ∧ Keep (q8g p).2 := ⟨rfl, und_rows q2j _, Keep.dsl _ _ _⟩
instance : EMK q8g := ⟨fun p => (encM9_389_und p).2.2⟩
theorem encM9_389_good {xs : List ((List UInt8) × (List q1a))} : ∀ p, p ∈ xs.map q8g → isStr p.1 := by
 intro p hp
 obtain ⟨x, _, rfl⟩ := List.mem_map.1 hp
 exact ⟨_, rfl⟩
def q1i (p : TCall × (List q3a)) : Value × V := (.agg (cv109 p.1).toArray, (V.lst 2 (p.2.map q0c)))
abbrev q3l (v : (List q3a)) : V := (V.lst 2 (v.map q0c))
theorem encM109_217_puts (xs : List (TCall × (List q3a))) (k : TCall) (v : (List q3a)) : Puts (.agg (cv109 k).toArray) (q3l v) (xs.map q1i) ((mput xs k v).map q1i) := puts_map (kv := fun k => .agg (cv109 k).toArray) (ev := q3l) inj_agg109 xs k v
theorem encM109_217_look (xs : List (TCall × (List q3a))) (k : TCall) : Look (.agg (cv109 k).toArray) (xs.map q1i) ((mget xs k).map q3l) := q3n (kv := fun k => .agg (cv109 k).toArray) (ev := q3l) inj_agg109 xs k
instance : EM q1i := ⟨fun _ => (Imm.lst _ _)⟩
theorem encM109_217_good {xs : List (TCall × (List q3a))} : ∀ p, p ∈ xs.map q1i → (isAgg109) p.1 := by
 intro p hp
 obtain ⟨x, _, rfl⟩ := List.mem_map.1 hp
 exact ⟨_, rfl⟩
def q5g (p : (List UInt8) × q5a) : Value × V := (str p.1, (V.agg [(sV p.2.Func), (V.lst 1 (p.2.Within.map encS)), (V.lst 2 (p.2.Outer.map q2c))]))
abbrev q2n (v : q5a) : V := (V.agg [(sV v.Func), (V.lst 1 (v.Within.map encS)), (V.lst 2 (v.Outer.map q2c))])
theorem encM9_45_puts (xs : List ((List UInt8) × q5a)) (k : (List UInt8)) (v : q5a) : Puts (str k) (q2n v) (xs.map q5g) ((mput xs k v).map q5g) := puts_map (kv := fun k => str k) (ev := q2n) q2i xs k v
theorem encM9_45_look (xs : List ((List UInt8) × q5a)) (k : (List UInt8)) : Look (str k) (xs.map q5g) ((mget xs k).map q2n) := q3n (kv := fun k => str k) (ev := q2n) q2i xs k
theorem encM9_45_imm {xs : List ((List UInt8) × q5a)} : ∀ p, p ∈ xs.map q5g → Imm p.2 := by
 intro p hp
 obtain ⟨x, _, rfl⟩ := List.mem_map.1 hp
 exact (Imm.agg (.cons (Imm.con _) (.cons (Imm.lst _ _) (.cons (Imm.lst _ _) .nil))))
instance : EM q5g := ⟨fun _ => (Imm.agg (.cons (Imm.con _) (.cons (Imm.lst _ _) (.cons (Imm.lst _ _) .nil))))⟩
theorem encM9_45_good {xs : List ((List UInt8) × q5a)} : ∀ p, p ∈ xs.map q5g → isStr p.1 := by
 intro p hp
 obtain ⟨x, _, rfl⟩ := List.mem_map.1 hp
 exact ⟨_, rfl⟩
theorem tS27 : tyS Tryz.prog 27 4 = true := by kernel_rfl
theorem tIsSl25 : q4f Tryz.prog 25 = true := by kernel_rfl
theorem tSl25 : tySl Tryz.prog 25 1 = true := by kernel_rfl
theorem tC9 : tyC Tryz.prog 9 = true := by kernel_rfl
theorem tA27 : tyA Tryz.prog 27 4 = true := by kernel_rfl
theorem tZ124 : zeroCells Tryz.prog 124 = some [.bool false, .map none, .map none, .map none] := by kernel_rfl
theorem tPl124 : q0h Tryz.prog 124 = some [(0, 1), (1, 1), (2, 1), (3, 1)] := by kernel_rfl
theorem tS124 : tyS Tryz.prog 124 4 = true := by kernel_rfl
theorem tF27_0 : tyF Tryz.prog 27 0 0 = true := by kernel_rfl
theorem tC22 : tyC Tryz.prog 22 = true := by kernel_rfl
theorem tIsSl22 : q4f Tryz.prog 22 = true := by kernel_rfl
theorem tSl22 : tySl Tryz.prog 22 2 = true := by kernel_rfl
theorem tA98 : tyA Tryz.prog 98 2 = true := by kernel_rfl
theorem tZ98 : zeroCells Tryz.prog 98 = some [.string ⟨#[]⟩, .slice none 0 0] := by kernel_rfl
theorem tS98 : tyS Tryz.prog 98 2 = true := by kernel_rfl
theorem tF124_1 : tyF Tryz.prog 124 1 1 = true := by kernel_rfl
theorem tC122 : tyC Tryz.prog 122 = true := by kernel_rfl
theorem tF98_0 : tyF Tryz.prog 98 0 0 = true := by kernel_rfl
theorem tMap122 : tyMap Tryz.prog 122 9 98 = true := by kernel_rfl
theorem tKey9 : KeyT Tryz.prog 9 isStr := keyT_str (by kernel_rfl)
theorem tF27_1 : tyF Tryz.prog 27 1 1 = true := by kernel_rfl
theorem tC23 : tyC Tryz.prog 23 = true := by kernel_rfl
theorem tIsSl23 : q4f Tryz.prog 23 = true := by kernel_rfl
theorem tSl23 : tySl Tryz.prog 23 2 = true := by kernel_rfl
theorem tA104 : tyA Tryz.prog 104 2 = true := by kernel_rfl
theorem tZ104 : zeroCells Tryz.prog 104 = some [.string ⟨#[]⟩, .slice none 0 0] := by kernel_rfl
theorem tS104 : tyS Tryz.prog 104 2 = true := by kernel_rfl
theorem tF124_2 : tyF Tryz.prog 124 2 2 = true := by kernel_rfl
theorem tC89 : tyC Tryz.prog 89 = true := by kernel_rfl
theorem tF104_0 : tyF Tryz.prog 104 0 0 = true := by kernel_rfl
theorem q2k : tyMap Tryz.prog 89 9 4 = true := by kernel_rfl
theorem tF27_2 : tyF Tryz.prog 27 2 2 = true := by kernel_rfl
theorem tC24 : tyC Tryz.prog 24 = true := by kernel_rfl
theorem tIsSl24 : q4f Tryz.prog 24 = true := by kernel_rfl
theorem tSl24 : tySl Tryz.prog 24 4 = true := by kernel_rfl
theorem tA94 : tyA Tryz.prog 94 4 = true := by kernel_rfl
theorem tZ94 : zeroCells Tryz.prog 94 = some [.string ⟨#[]⟩, .string ⟨#[]⟩, .slice none 0 0, .slice none 0 0] := by kernel_rfl
theorem tS94 : tyS Tryz.prog 94 4 = true := by kernel_rfl
theorem tF124_3 : tyF Tryz.prog 124 3 3 = true := by kernel_rfl
theorem tF94_0 : tyF Tryz.prog 94 0 0 = true := by kernel_rfl
theorem tA124 : tyA Tryz.prog 124 4 = true := by kernel_rfl
theorem fOk59 : fnOk Tryz.prog 59 = true := by kernel_rfl
theorem tStr9 : tyStr Tryz.prog 9 = true := by kernel_rfl
theorem fOk79 : fnOk Tryz.prog 79 = true := by kernel_rfl
theorem fOk173 : fnOk Tryz.prog 173 = true := by kernel_rfl
theorem tF98_1 : tyF Tryz.prog 98 1 1 = true := by kernel_rfl
theorem tC25 : tyC Tryz.prog 25 = true := by kernel_rfl
theorem fOk127 : fnOk Tryz.prog 127 = true := by kernel_rfl
theorem tF104_1 : tyF Tryz.prog 104 1 1 = true := by kernel_rfl
theorem tC102 : tyC Tryz.prog 102 = true := by kernel_rfl
theorem tIsSl102 : q4f Tryz.prog 102 = true := by kernel_rfl
theorem tSl102 : tySl Tryz.prog 102 2 = true := by kernel_rfl
theorem tA116 : tyA Tryz.prog 116 2 = true := by kernel_rfl
theorem tZ116 : zeroCells Tryz.prog 116 = some [.string ⟨#[]⟩, .string ⟨#[]⟩] := by kernel_rfl
theorem tS116 : tyS Tryz.prog 116 2 = true := by kernel_rfl
theorem tF116_0 : tyF Tryz.prog 116 0 0 = true := by kernel_rfl
theorem tF124_0 : tyF Tryz.prog 124 0 0 = true := by kernel_rfl
theorem tC4 : tyC Tryz.prog 4 = true := by kernel_rfl
theorem tF116_1 : tyF Tryz.prog 116 1 1 = true := by kernel_rfl
theorem tZo4 : (Tryz.prog.info? 4).bind (·.zero) = some (.bool false) := by kernel_rfl
theorem fOk128 : fnOk Tryz.prog 128 = true := by kernel_rfl
theorem tF94_1 : tyF Tryz.prog 94 1 1 = true := by kernel_rfl
theorem tF94_2 : tyF Tryz.prog 94 2 2 = true := by kernel_rfl
theorem tC92 : tyC Tryz.prog 92 = true := by kernel_rfl
theorem tIsSl92 : q4f Tryz.prog 92 = true := by kernel_rfl
theorem tSl92 : tySl Tryz.prog 92 4 = true := by kernel_rfl
theorem tA109 : tyA Tryz.prog 109 4 = true := by kernel_rfl
theorem tZ109 : zeroCells Tryz.prog 109 = some [.int .i64 0, .string ⟨#[]⟩, .string ⟨#[]⟩, .string ⟨#[]⟩] := by kernel_rfl
theorem tS109 : tyS Tryz.prog 109 4 = true := by kernel_rfl
theorem tF109_0 : tyF Tryz.prog 109 0 0 = true := by kernel_rfl
theorem tC3 : tyC Tryz.prog 3 = true := by kernel_rfl
theorem tF109_1 : tyF Tryz.prog 109 1 1 = true := by kernel_rfl
theorem tF109_2 : tyF Tryz.prog 109 2 2 = true := by kernel_rfl
theorem tZo98 : (Tryz.prog.info? 98).bind (·.zero) = some (.agg #[.string ⟨#[]⟩, .slice none 0 0]) := by kernel_rfl
theorem fOk86 : fnOk Tryz.prog 86 = true := by kernel_rfl
theorem fOk23 : fnOk Tryz.prog 23 = true := by kernel_rfl
theorem tF109_3 : tyF Tryz.prog 109 3 3 = true := by kernel_rfl
theorem fOk174 : fnOk Tryz.prog 174 = true := by kernel_rfl
theorem tF94_3 : tyF Tryz.prog 94 3 3 = true := by kernel_rfl
theorem fOk130 : fnOk Tryz.prog 130 = true := by kernel_rfl
theorem fOk129 : fnOk Tryz.prog 129 = true := by kernel_rfl
theorem tF27_3 : tyF Tryz.prog 27 3 3 = true := by kernel_rfl
theorem fOk60 : fnOk Tryz.prog 60 = true := by kernel_rfl
theorem fOk17 : fnOk Tryz.prog 17 = true := by kernel_rfl
theorem fOk143 : fnOk Tryz.prog 143 = true := by kernel_rfl
theorem tZ91 : zeroCells Tryz.prog 91 = some [.slice none 0 0, .slice none 0 0, .slice none 0 0, .slice none 0 0, .map none, .map none, .map none, .map none, .bool false] := by kernel_rfl
theorem tPl91 : q0h Tryz.prog 91 = some [(0, 4), (4, 1), (5, 1), (6, 1), (7, 1), (8, 1)] := by kernel_rfl
theorem tS91 : tyS Tryz.prog 91 9 = true := by kernel_rfl
theorem tF91_1 : tyF Tryz.prog 91 1 4 = true := by kernel_rfl
theorem tC87 : tyC Tryz.prog 87 = true := by kernel_rfl
theorem tMap87 : tyMap Tryz.prog 87 9 3 = true := by kernel_rfl
theorem tF91_2 : tyF Tryz.prog 91 2 5 = true := by kernel_rfl
theorem tI244 : tyI Tryz.prog 244 .u64 = true := by kernel_rfl
theorem tUn3 : tyU Tryz.prog 3 = true := by kernel_rfl
theorem tI3 : tyI Tryz.prog 3 .i64 = true := by kernel_rfl
theorem tUn244 : tyU Tryz.prog 244 = true := by kernel_rfl
theorem fOk158 : fnOk Tryz.prog 158 = true := by kernel_rfl
theorem fOk100 : fnOk Tryz.prog 100 = true := by kernel_rfl
theorem fOk208 : fnOk Tryz.prog 208 = true := by kernel_rfl
theorem fOk207 : fnOk Tryz.prog 207 = true := by kernel_rfl
theorem fOk169 : fnOk Tryz.prog 169 = true := by kernel_rfl
theorem fOk117 : fnOk Tryz.prog 117 = true := by kernel_rfl
theorem tF91_3 : tyF Tryz.prog 91 3 6 = true := by kernel_rfl
theorem tC88 : tyC Tryz.prog 88 = true := by kernel_rfl
theorem tMap88 : tyMap Tryz.prog 88 9 165 = true := by kernel_rfl
theorem tZo165 : (Tryz.prog.info? 165).bind (·.zero) = some (.slice none 0 0) := by kernel_rfl
theorem tEl165 : tyEl Tryz.prog 165 3 1 8 = true := by kernel_rfl
theorem tZ3 : zeroCells Tryz.prog 3 = some [.int .i64 0] := by kernel_rfl
theorem tIsSl165 : q4f Tryz.prog 165 = true := by kernel_rfl
theorem tF91_4 : tyF Tryz.prog 91 4 7 = true := by kernel_rfl
theorem fOk41 : fnOk Tryz.prog 41 = true := by kernel_rfl
theorem fOk78 : fnOk Tryz.prog 78 = true := by kernel_rfl
theorem tZ45 : zeroCells Tryz.prog 45 = some [.string ⟨#[]⟩, .slice none 0 0, .slice none 0 0] := by kernel_rfl
theorem tF91_0 : tyF Tryz.prog 91 0 0 = true := by kernel_rfl
theorem tMap246 : tyMap Tryz.prog 246 3 4 = true := by kernel_rfl
theorem tKey3 : KeyT Tryz.prog 3 (isInt .i64) := keyT_int (by kernel_rfl)
theorem tSl165 : tySl Tryz.prog 165 1 = true := by kernel_rfl
theorem tZ160 : zeroCells Tryz.prog 160 = some [.string ⟨#[]⟩, .string ⟨#[]⟩] := by kernel_rfl
theorem tPl160 : q0h Tryz.prog 160 = some [(0, 1), (1, 1)] := by kernel_rfl
theorem tMap247 : tyMap Tryz.prog 247 160 4 = true := by kernel_rfl
theorem tKey160 : KeyT Tryz.prog 160 isAgg160 := keyT_agg eqk160 (by kernel_rfl) (fun v ⟨x, hx⟩ => ⟨_, ⟨x, rfl⟩, hx⟩)
theorem tZo3 : (Tryz.prog.info? 3).bind (·.zero) = some (.int .i64 0) := by kernel_rfl
theorem tIsSl164 : q4f Tryz.prog 164 = true := by kernel_rfl
theorem fOk151 : fnOk Tryz.prog 151 = true := by kernel_rfl
theorem fOk152 : fnOk Tryz.prog 152 = true := by kernel_rfl
theorem fOk153 : fnOk Tryz.prog 153 = true := by kernel_rfl
theorem fOk92 : fnOk Tryz.prog 92 = true := by kernel_rfl
theorem tPl45 : q0h Tryz.prog 45 = some [(0, 1), (1, 1), (2, 1)] := by kernel_rfl
theorem tS45 : tyS Tryz.prog 45 3 = true := by kernel_rfl
theorem tF45_1 : tyF Tryz.prog 45 1 1 = true := by kernel_rfl
theorem tS25 : tyS Tryz.prog 25 1 = true := by kernel_rfl
theorem tEl25 : tyEl Tryz.prog 25 9 1 16 = true := by kernel_rfl
theorem tZ9 : zeroCells Tryz.prog 9 = some [.string ⟨#[]⟩] := by kernel_rfl
theorem tS160 : tyS Tryz.prog 160 2 = true := by kernel_rfl
theorem tF45_2 : tyF Tryz.prog 45 2 2 = true := by kernel_rfl
theorem tC43 : tyC Tryz.prog 43 = true := by kernel_rfl
theorem tA160 : tyA Tryz.prog 160 2 = true := by kernel_rfl
theorem tEl43 : tyEl Tryz.prog 43 160 2 32 = true := by kernel_rfl
theorem tIsSl43 : q4f Tryz.prog 43 = true := by kernel_rfl
theorem tS43 : tyS Tryz.prog 43 1 = true := by kernel_rfl
theorem fOk70 : fnOk Tryz.prog 70 = true := by kernel_rfl
theorem tF160_0 : tyF Tryz.prog 160 0 0 = true := by kernel_rfl
theorem tF160_1 : tyF Tryz.prog 160 1 1 = true := by kernel_rfl
theorem fOk118 : fnOk Tryz.prog 118 = true := by kernel_rfl
theorem fOk144 : fnOk Tryz.prog 144 = true := by kernel_rfl
theorem tA45 : tyA Tryz.prog 45 3 = true := by kernel_rfl
theorem fOk80 : fnOk Tryz.prog 80 = true := by kernel_rfl
theorem tEl39 : tyEl Tryz.prog 39 45 3 64 = true := by kernel_rfl
theorem tIsSl39 : q4f Tryz.prog 39 = true := by kernel_rfl
theorem fOk19 : fnOk Tryz.prog 19 = true := by kernel_rfl
theorem tZ138 : zeroCells Tryz.prog 138 = some [.map none, .map none, .map none] := by kernel_rfl
theorem tPl138 : q0h Tryz.prog 138 = some [(0, 1), (1, 1), (2, 1)] := by kernel_rfl
theorem tS138 : tyS Tryz.prog 138 3 = true := by kernel_rfl
theorem tF138_0 : tyF Tryz.prog 138 0 0 = true := by kernel_rfl
theorem tC136 : tyC Tryz.prog 136 = true := by kernel_rfl
theorem tMap136 : tyMap Tryz.prog 136 9 89 = true := by kernel_rfl
theorem tF138_1 : tyF Tryz.prog 138 1 1 = true := by kernel_rfl
theorem tF138_2 : tyF Tryz.prog 138 2 2 = true := by kernel_rfl
theorem tA138 : tyA Tryz.prog 138 3 = true := by kernel_rfl
theorem fOk72 : fnOk Tryz.prog 72 = true := by kernel_rfl
theorem tZ141 : zeroCells Tryz.prog 141 = some [.slice none 0 0, .slice none 0 0, .slice none 0 0, .slice none 0 0, .map none, .map none, .map none, .bool false] := by kernel_rfl
theorem tPl141 : q0h Tryz.prog 141 = some [(0, 4), (4, 3), (7, 1)] := by kernel_rfl
theorem tS141 : tyS Tryz.prog 141 8 = true := by kernel_rfl
theorem tF141_0 : tyF Tryz.prog 141 0 0 = true := by kernel_rfl
theorem tA141 : tyA Tryz.prog 141 8 = true := by kernel_rfl
theorem fOk82 : fnOk Tryz.prog 82 = true := by kernel_rfl
theorem fOk139 : fnOk Tryz.prog 139 = true := by kernel_rfl
theorem fOk136 : fnOk Tryz.prog 136 = true := by kernel_rfl
theorem tF141_2 : tyF Tryz.prog 141 2 7 = true := by kernel_rfl
theorem tF141_1 : tyF Tryz.prog 141 1 4 = true := by kernel_rfl
theorem fOk137 : fnOk Tryz.prog 137 = true := by kernel_rfl
theorem tZo89 : (Tryz.prog.info? 89).bind (·.zero) = some (.map none) := by kernel_rfl
theorem fOk187 : fnOk Tryz.prog 187 = true := by kernel_rfl
theorem fOk138 : fnOk Tryz.prog 138 = true := by kernel_rfl
theorem fOk73 : fnOk Tryz.prog 73 = true := by kernel_rfl
theorem fOk18 : fnOk Tryz.prog 18 = true := by kernel_rfl
theorem fOk81 : fnOk Tryz.prog 81 = true := by kernel_rfl
theorem tZ155 : zeroCells Tryz.prog 155 = some [.slice none 0 0, .slice none 0 0, .slice none 0 0, .slice none 0 0, .map none, .map none] := by kernel_rfl
theorem tPl155 : q0h Tryz.prog 155 = some [(0, 4), (4, 1), (5, 1)] := by kernel_rfl
theorem tS155 : tyS Tryz.prog 155 6 = true := by kernel_rfl
theorem tF155_2 : tyF Tryz.prog 155 2 5 = true := by kernel_rfl
theorem tC153 : tyC Tryz.prog 153 = true := by kernel_rfl
theorem tMap153 : tyMap Tryz.prog 153 9 94 = true := by kernel_rfl
theorem tPl109 : q0h Tryz.prog 109 = some [(0, 1), (1, 1), (2, 1), (3, 1)] := by kernel_rfl
theorem tMap250 : tyMap Tryz.prog 250 109 217 = true := by kernel_rfl
theorem tKey109 : KeyT Tryz.prog 109 isAgg109 := keyT_agg eqk109 (by kernel_rfl) (fun v ⟨x, hx⟩ => ⟨_, ⟨x, rfl⟩, hx⟩)
theorem tZo217 : (Tryz.prog.info? 217).bind (·.zero) = some (.slice none 0 0) := by kernel_rfl
theorem tZ223 : zeroCells Tryz.prog 223 = some [.string ⟨#[]⟩, .string ⟨#[]⟩] := by kernel_rfl
theorem tPl223 : q0h Tryz.prog 223 = some [(0, 1), (1, 1)] := by kernel_rfl
theorem tEl217 : tyEl Tryz.prog 217 223 2 32 = true := by kernel_rfl
theorem tPl98 : q0h Tryz.prog 98 = some [(0, 1), (1, 1)] := by kernel_rfl
theorem fOk190 : fnOk Tryz.prog 190 = true := by kernel_rfl
theorem fOk191 : fnOk Tryz.prog 191 = true := by kernel_rfl
theorem fOk192 : fnOk Tryz.prog 192 = true := by kernel_rfl
theorem tIsSl217 : q4f Tryz.prog 217 = true := by kernel_rfl
theorem fOk146 : fnOk Tryz.prog 146 = true := by kernel_rfl
theorem tF155_1 : tyF Tryz.prog 155 1 4 = true := by kernel_rfl
theorem tC152 : tyC Tryz.prog 152 = true := by kernel_rfl
theorem tZ70 : zeroCells Tryz.prog 70 = some [.string ⟨#[]⟩, .int .i64 0] := by kernel_rfl
theorem tPl70 : q0h Tryz.prog 70 = some [(0, 1), (1, 1)] := by kernel_rfl
theorem tZ219 : zeroCells Tryz.prog 219 = some [.string ⟨#[]⟩, .int .i64 0, .slice none 0 0] := by kernel_rfl
theorem tPl219 : q0h Tryz.prog 219 = some [(0, 2), (2, 1)] := by kernel_rfl
theorem tMap152 : tyMap Tryz.prog 152 9 212 = true := by kernel_rfl
theorem tZo212 : (Tryz.prog.info? 212).bind (·.zero) = some (.slice none 0 0) := by kernel_rfl
theorem tEl212 : tyEl Tryz.prog 212 219 3 48 = true := by kernel_rfl
theorem tIsSl212 : q4f Tryz.prog 212 = true := by kernel_rfl
theorem tA155 : tyA Tryz.prog 155 6 = true := by kernel_rfl
theorem fOk83 : fnOk Tryz.prog 83 = true := by kernel_rfl
theorem tSl212 : tySl Tryz.prog 212 3 = true := by kernel_rfl
theorem tA219 : tyA Tryz.prog 219 3 = true := by kernel_rfl
theorem tS219 : tyS Tryz.prog 219 3 = true := by kernel_rfl
theorem tFC94_2 : tyFC Tryz.prog 94 2 = true := by kernel_rfl
theorem tF219_0 : tyF Tryz.prog 219 0 0 = true := by kernel_rfl
theorem tF70_1 : tyF Tryz.prog 70 1 1 = true := by kernel_rfl
theorem tZo94 : (Tryz.prog.info? 94).bind (·.zero) = some (.agg #[.string ⟨#[]⟩, .string ⟨#[]⟩, .slice none 0 0, .slice none 0 0]) := by kernel_rfl
theorem tF219_1 : tyF Tryz.prog 219 1 2 = true := by kernel_rfl
theorem tC217 : tyC Tryz.prog 217 = true := by kernel_rfl
theorem tSl217 : tySl Tryz.prog 217 2 = true := by kernel_rfl
theorem tA223 : tyA Tryz.prog 223 2 = true := by kernel_rfl
theorem tS223 : tyS Tryz.prog 223 2 = true := by kernel_rfl
theorem tF223_1 : tyF Tryz.prog 223 1 1 = true := by kernel_rfl
theorem tFC94_1 : tyFC Tryz.prog 94 1 = true := by kernel_rfl
theorem tF223_0 : tyF Tryz.prog 223 0 0 = true := by kernel_rfl
theorem fOk161 : fnOk Tryz.prog 161 = true := by kernel_rfl
theorem fOk105 : fnOk Tryz.prog 105 = true := by kernel_rfl
theorem tSl43 : tySl Tryz.prog 43 2 = true := by kernel_rfl
theorem fOk84 : fnOk Tryz.prog 84 = true := by kernel_rfl
theorem fOk20 : fnOk Tryz.prog 20 = true := by kernel_rfl
theorem fOk14 : fnOk Tryz.prog 14 = true := by kernel_rfl
theorem tEl48 : tyEl Tryz.prog 48 39 1 24 = true := by kernel_rfl
theorem tZ39 : zeroCells Tryz.prog 39 = some [.slice none 0 0] := by kernel_rfl
theorem tIsSl48 : q4f Tryz.prog 48 = true := by kernel_rfl
theorem tSl48 : tySl Tryz.prog 48 1 = true := by kernel_rfl
theorem tC39 : tyC Tryz.prog 39 = true := by kernel_rfl
theorem tSl39 : tySl Tryz.prog 39 3 = true := by kernel_rfl
theorem tF45_0 : tyF Tryz.prog 45 0 0 = true := by kernel_rfl
theorem tS9 : tyS Tryz.prog 9 1 = true := by kernel_rfl
theorem fOk194 : fnOk Tryz.prog 194 = true := by kernel_rfl
theorem fOk246 : fnOk Tryz.prog 246 = true := by kernel_rfl
theorem fOk193 : fnOk Tryz.prog 193 = true := by kernel_rfl
theorem fOk147 : fnOk Tryz.prog 147 = true := by kernel_rfl
theorem tMap162 : tyMap Tryz.prog 162 9 45 = true := by kernel_rfl
theorem tZo45 : (Tryz.prog.info? 45).bind (·.zero) = some (.agg #[.string ⟨#[]⟩, .slice none 0 0, .slice none 0 0]) := by kernel_rfl
theorem fOk87 : fnOk Tryz.prog 87 = true := by kernel_rfl
theorem tEl164 : tyEl Tryz.prog 164 4 1 1 = true := by kernel_rfl
theorem tZ4 : zeroCells Tryz.prog 4 = some [.bool false] := by kernel_rfl
theorem tSl164 : tySl Tryz.prog 164 1 = true := by kernel_rfl
theorem tS4 : tyS Tryz.prog 4 1 = true := by kernel_rfl
theorem tS3 : tyS Tryz.prog 3 1 = true := by kernel_rfl
theorem fOk88 : fnOk Tryz.prog 88 = true := by kernel_rfl
theorem fOk24 : fnOk Tryz.prog 24 = true := by kernel_rfl
theorem tZ170 : zeroCells Tryz.prog 170 = some [.pointer none, .slice none 0 0, .slice none 0 0, .map none, .slice none 0 0, .slice none 0 0, .slice none 0 0] := by kernel_rfl
theorem tPl170 : q0h Tryz.prog 170 = some [(0, 1), (1, 1), (2, 1), (3, 1), (4, 1), (5, 1), (6, 1)] := by kernel_rfl
theorem tS170 : tyS Tryz.prog 170 7 = true := by kernel_rfl
theorem tF170_1 : tyF Tryz.prog 170 1 1 = true := by kernel_rfl
theorem tC164 : tyC Tryz.prog 164 = true := by kernel_rfl
theorem tF170_6 : tyF Tryz.prog 170 6 6 = true := by kernel_rfl
theorem tC165 : tyC Tryz.prog 165 = true := by kernel_rfl
theorem tS165 : tyS Tryz.prog 165 1 = true := by kernel_rfl
theorem fOk148 : fnOk Tryz.prog 148 = true := by kernel_rfl
theorem tF170_2 : tyF Tryz.prog 170 2 2 = true := by kernel_rfl
theorem tF170_0 : tyF Tryz.prog 170 0 0 = true := by kernel_rfl
theorem tC83 : tyC Tryz.prog 83 = true := by kernel_rfl
theorem tF91_5 : tyF Tryz.prog 91 5 8 = true := by kernel_rfl
theorem tF170_4 : tyF Tryz.prog 170 4 4 = true := by kernel_rfl
theorem tC168 : tyC Tryz.prog 168 = true := by kernel_rfl
theorem tIsSl168 : q4f Tryz.prog 168 = true := by kernel_rfl
theorem tSl168 : tySl Tryz.prog 168 2 = true := by kernel_rfl
theorem tA304 : tyA Tryz.prog 304 2 = true := by kernel_rfl
theorem tZ304 : zeroCells Tryz.prog 304 = some [.string ⟨#[]⟩, .string ⟨#[]⟩] := by kernel_rfl
theorem tS304 : tyS Tryz.prog 304 2 = true := by kernel_rfl
theorem tF304_0 : tyF Tryz.prog 304 0 0 = true := by kernel_rfl
theorem fOk204 : fnOk Tryz.prog 204 = true := by kernel_rfl
theorem fOk164 : fnOk Tryz.prog 164 = true := by kernel_rfl
theorem tF304_1 : tyF Tryz.prog 304 1 1 = true := by kernel_rfl
theorem fOk149 : fnOk Tryz.prog 149 = true := by kernel_rfl
theorem tPl304 : q0h Tryz.prog 304 = some [(0, 1), (1, 1)] := by kernel_rfl
theorem tF170_3 : tyF Tryz.prog 170 3 3 = true := by kernel_rfl
theorem tC167 : tyC Tryz.prog 167 = true := by kernel_rfl
theorem tMap167 : tyMap Tryz.prog 167 304 4 = true := by kernel_rfl
theorem tKey304 : KeyT Tryz.prog 304 isAgg304 := keyT_agg eqk304 (by kernel_rfl) (fun v ⟨x, hx⟩ => ⟨_, ⟨x, rfl⟩, hx⟩)
theorem tS168 : tyS Tryz.prog 168 1 = true := by kernel_rfl
theorem tEl168 : tyEl Tryz.prog 168 304 2 32 = true := by kernel_rfl
theorem fOk150 : fnOk Tryz.prog 150 = true := by kernel_rfl
theorem fOk89 : fnOk Tryz.prog 89 = true := by kernel_rfl
theorem fOk25 : fnOk Tryz.prog 25 = true := by kernel_rfl
theorem fOk26 : fnOk Tryz.prog 26 = true := by kernel_rfl
def tt : TT := [(3, [.C, .U, .I .i64, .S 1]), (4, [.C, .S 1]), (9, [.C, .Str, .S 1]), (14, [.Fn]), (17, [.Fn]), (18, [.Fn]), (19, [.Fn]), (20, [.Fn]), (22, [.C, .Sn, .Sl 2]), (23, [.C, .Sn, .Sl 2, .Fn]), (24, [.C, .Sn, .Sl 4]), (25, [.Sn, .Sl 1, .C, .S 1, .El 9 1 16, .Fn]), (26, [.Fn]), (27, [.S 4, .A 4, .F 0 0, .F 1 1, .F 2 2, .F 3 3]), (39, [.El 45 3 64, .Sn, .C, .Sl 3]), (41, [.Fn]), (43, [.C, .El 160 2 32, .Sn, .S 1, .Sl 2]), (45, [.Z 3 [.string ⟨#[]⟩, .slice none 0 0, .slice none 0 0], .Pl [(0, 1), (1, 1), (2, 1)], .S 3, .F 1 1, .F 2 2, .A 3, .F 0 0]), (48, [.El 39 1 24, .Sn, .Sl 1]), (59, [.Fn]), (60, [.Fn]), (70, [.Z 2 [.string ⟨#[]⟩, .int .i64 0], .Pl [(0, 1), (1, 1)], .F 1 1]), (72, [.Fn]), (73, [.Fn]), (78, [.Fn]), (79, [.Fn]), (80, [.Fn]), (81, [.Fn]), (82, [.Fn]), (83, [.Fn, .C]), (84, [.Fn]), (86, [.Fn]), (87, [.C]), (88, [.C, .Fn]), (89, [.C, .Fn]), (91, [.Z 9 [.slice none 0 0, .slice none 0 0, .slice none 0 0, .slice none 0 0, .map none, .map none, .map none, .map none, .bool false], .Pl [(0, 4), (4, 1), (5, 1), (6, 1), (7, 1), (8, 1)], .S 9, .F 1 4, .F 2 5, .F 3 6, .F 4 7, .F 0 0, .F 5 8]), (92, [.C, .Sn, .Sl 4, .Fn]), (94, [.A 4, .Z 4 [.string ⟨#[]⟩, .string ⟨#[]⟩, .slice none 0 0, .slice none 0 0], .S 4, .F 0 0, .F 1 1, .F 2 2, .F 3 3, .FC 2, .FC 1]), (98, [.A 2, .Z 2 [.string ⟨#[]⟩, .slice none 0 0], .S 2, .F 0 0, .F 1 1, .Pl [(0, 1), (1, 1)]]), (100, [.Fn]), (102, [.C, .Sn, .Sl 2]), (104, [.A 2, .Z 2 [.string ⟨#[]⟩, .slice none 0 0], .S 2, .F 0 0, .F 1 1]), (109, [.A 4, .Z 4 [.int .i64 0, .string ⟨#[]⟩, .string ⟨#[]⟩, .string ⟨#[]⟩], .S 4, .F 0 0, .F 1 1, .F 2 2, .F 3 3, .Pl [(0, 1), (1, 1), (2, 1), (3, 1)]]), (116, [.A 2, .Z 2 [.string ⟨#[]⟩, .string ⟨#[]⟩], .S 2, .F 0 0, .F 1 1]), (117, [.Fn]), (118, [.Fn]), (122, [.C]), (124, [.Z 4 [.bool false, .map none, .map none, .map none], .Pl [(0, 1), (1, 1), (2, 1), (3, 1)], .S 4, .F 1 1, .F 2 2, .F 3 3, .A 4, .F 0 0]), (127, [.Fn]), (128, [.Fn]), (129, [.Fn]), (130, [.Fn]), (136, [.C, .Fn]), (137, [.Fn]), (138, [.Z 3 [.map none, .map none, .map none], .Pl [(0, 1), (1, 1), (2, 1)], .S 3, .F 0 0, .F 1 1, .F 2 2, .A 3, .Fn]), (139, [.Fn]), (141, [.Z 8 [.slice none 0 0, .slice none 0 0, .slice none 0 0, .slice none 0 0, .map none, .map none, .map none, .bool false], .Pl [(0, 4), (4, 3), (7, 1)], .S 8, .F 0 0, .A 8, .F 2 7, .F 1 4]), (143, [.Fn]), (146, [.Fn]), (147, [.Fn]), (151, [.Fn]), (152, [.C]), (153, [.C]), (155, [.Z 6 [.slice none 0 0, .slice none 0 0, .slice none 0 0, .slice none 0 0, .map none, .map none], .Pl [(0, 4), (4, 1), (5, 1)], .S 6, .F 2 5, .F 1 4, .A 6]), (158, [.Fn]), (160, [.Z 2 [.string ⟨#[]⟩, .string ⟨#[]⟩], .Pl [(0, 1), (1, 1)], .S 2, .A 2, .F 0 0, .F 1 1]), (161, [.Fn]), (164, [.Sn, .Sl 1, .C, .Fn]), (165, [.Sn, .Sl 1, .El 3 1 8, .C, .S 1]), (167, [.C]), (168, [.C, .Sn, .Sl 2, .S 1]), (169, [.Fn]), (170, [.Z 7 [.pointer none, .slice none 0 0, .slice none 0 0, .map none, .slice none 0 0, .slice none 0 0, .slice none 0 0], .Pl [(0, 1), (1, 1), (2, 1), (3, 1), (4, 1), (5, 1), (6, 1)], .S 7, .F 1 1, .F 6 6, .F 2 2, .F 0 0, .F 4 4, .F 3 3]), (173, [.Fn]), (174, [.Fn]), (187, [.Fn]), (190, [.Fn]), (191, [.Fn]), (192, [.Fn]), (194, [.Fn]), (204, [.Fn]), (207, [.Fn]), (208, [.Fn]), (212, [.Sn, .Sl 3]), (217, [.El 223 2 32, .Sn, .C, .Sl 2]), (219, [.Z 3 [.string ⟨#[]⟩, .int .i64 0, .slice none 0 0], .Pl [(0, 2), (2, 1)], .A 3, .S 3, .F 0 0, .F 1 2]), (223, [.Z 2 [.string ⟨#[]⟩, .string ⟨#[]⟩], .Pl [(0, 1), (1, 1)], .A 2, .S 2, .F 1 1, .F 0 0]), (244, [.I .u64, .U]), (246, [.Fn]), (304, [.A 2, .Z 2 [.string ⟨#[]⟩, .string ⟨#[]⟩], .S 2, .F 0 0, .F 1 1, .Pl [(0, 1), (1, 1)]])]
theorem ok : TTok Tryz.prog tt := tt_all ⟨⟨tC3, tUn3, tI3, tS3, trivial⟩, ⟨tC4, tS4, trivial⟩, ⟨tC9, tStr9, tS9, trivial⟩, ⟨fOk14, trivial⟩, ⟨fOk17, trivial⟩, ⟨fOk18, trivial⟩, ⟨fOk19, trivial⟩, ⟨fOk20, trivial⟩, ⟨tC22, tIsSl22, tSl22, trivial⟩, ⟨tC23, tIsSl23, tSl23, fOk23, trivial⟩, ⟨tC24, tIsSl24, tSl24, trivial⟩, ⟨tIsSl25, tSl25, tC25, tS25, tEl25, fOk25, trivial⟩, ⟨fOk26, trivial⟩, ⟨tS27, tA27, tF27_0, tF27_1, tF27_2, tF27_3, trivial⟩, ⟨tEl39, tIsSl39, tC39, tSl39, trivial⟩, ⟨fOk41, trivial⟩, ⟨tC43, tEl43, tIsSl43, tS43, tSl43, trivial⟩, ⟨⟨tZ45, rfl⟩, tPl45, tS45, tF45_1, tF45_2, tA45, tF45_0, trivial⟩, ⟨tEl48, tIsSl48, tSl48, trivial⟩, ⟨fOk59, trivial⟩, ⟨fOk60, trivial⟩, ⟨⟨tZ70, rfl⟩, tPl70, tF70_1, trivial⟩, ⟨fOk72, trivial⟩, ⟨fOk73, trivial⟩, ⟨fOk78, trivial⟩, ⟨fOk79, trivial⟩, ⟨fOk80, trivial⟩, ⟨fOk81, trivial⟩, ⟨fOk82, trivial⟩, ⟨fOk83, tC83, trivial⟩, ⟨fOk84, trivial⟩, ⟨fOk86, trivial⟩, ⟨tC87, trivial⟩, ⟨tC88, fOk88, trivial⟩, ⟨tC89, fOk89, trivial⟩, ⟨⟨tZ91, rfl⟩, tPl91, tS91, tF91_1, tF91_2, tF91_3, tF91_4, tF91_0, tF91_5, trivial⟩, ⟨tC92, tIsSl92, tSl92, fOk92, trivial⟩, ⟨tA94, ⟨tZ94, rfl⟩, tS94, tF94_0, tF94_1, tF94_2, tF94_3, tFC94_2, tFC94_1, trivial⟩, ⟨tA98, ⟨tZ98, rfl⟩, tS98, tF98_0, tF98_1, tPl98, trivial⟩, ⟨fOk100, trivial⟩, ⟨tC102, tIsSl102, tSl102, trivial⟩, ⟨tA104, ⟨tZ104, rfl⟩, tS104, tF104_0, tF104_1, trivial⟩, ⟨tA109, ⟨tZ109, rfl⟩, tS109, tF109_0, tF109_1, tF109_2, tF109_3, tPl109, trivial⟩, ⟨tA116, ⟨tZ116, rfl⟩, tS116, tF116_0, tF116_1, trivial⟩, ⟨fOk117, trivial⟩, ⟨fOk118, trivial⟩, ⟨tC122, trivial⟩, ⟨⟨tZ124, rfl⟩, tPl124, tS124, tF124_1, tF124_2, tF124_3, tA124, tF124_0, trivial⟩, ⟨fOk127, trivial⟩, ⟨fOk128, trivial⟩, ⟨fOk129, trivial⟩, ⟨fOk130, trivial⟩, ⟨tC136, fOk136, trivial⟩, ⟨fOk137, trivial⟩, ⟨⟨tZ138, rfl⟩, tPl138, tS138, tF138_0, tF138_1, tF138_2, tA138, fOk138, trivial⟩, ⟨fOk139, trivial⟩, ⟨⟨tZ141, rfl⟩, tPl141, tS141, tF141_0, tA141, tF141_2, tF141_1, trivial⟩, ⟨fOk143, trivial⟩, ⟨fOk146, trivial⟩, ⟨fOk147, trivial⟩, ⟨fOk151, trivial⟩, ⟨tC152, trivial⟩, ⟨tC153, trivial⟩, ⟨⟨tZ155, rfl⟩, tPl155, tS155, tF155_2, tF155_1, tA155, trivial⟩, ⟨fOk158, trivial⟩, ⟨⟨tZ160, rfl⟩, tPl160, tS160, tA160, tF160_0, tF160_1, trivial⟩, ⟨fOk161, trivial⟩, ⟨tIsSl164, tSl164, tC164, fOk164, trivial⟩, ⟨tIsSl165, tSl165, tEl165, tC165, tS165, trivial⟩, ⟨tC167, trivial⟩, ⟨tC168, tIsSl168, tSl168, tS168, trivial⟩, ⟨fOk169, trivial⟩, ⟨⟨tZ170, rfl⟩, tPl170, tS170, tF170_1, tF170_6, tF170_2, tF170_0, tF170_4, tF170_3, trivial⟩, ⟨fOk173, trivial⟩, ⟨fOk174, trivial⟩, ⟨fOk187, trivial⟩, ⟨fOk190, trivial⟩, ⟨fOk191, trivial⟩, ⟨fOk192, trivial⟩, ⟨fOk194, trivial⟩, ⟨fOk204, trivial⟩, ⟨fOk207, trivial⟩, ⟨fOk208, trivial⟩, ⟨tIsSl212, tSl212, trivial⟩, ⟨tEl217, tIsSl217, tC217, tSl217, trivial⟩, ⟨⟨tZ219, rfl⟩, tPl219, tA219, tS219, tF219_0, tF219_1, trivial⟩, ⟨⟨tZ223, rfl⟩, tPl223, tA223, tS223, tF223_1, tF223_0, trivial⟩, ⟨tI244, tUn244, trivial⟩, ⟨fOk246, trivial⟩, ⟨tA304, ⟨tZ304, rfl⟩, tS304, tF304_0, tF304_1, tPl304, trivial⟩, trivial⟩
instance {N : Nat} {w : World} {m : Mem} {o : Nat → Prop} {p : Nat} {l : Nat → Option (Option (Nat × Cap))} {g : Gl} {h : GlOk g m} : TC ⟨Tryz.prog, N, w, m, o, p, l, g, h⟩ tt := ⟨ok⟩
end Go.Proofs.YtpbkggamiipdmaaGreat
