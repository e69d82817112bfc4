/- Part of the proof: R6T. -/
import Derived.Test.YtpbkggamiipdmaaC8ZA
import Derived.Test.YtpbkggamiipdmaaC8WA
import Derived.Test.YtpbkggamiipdmaaC8DN
import Derived.Test.YtpbkggamiipdmaaC8ZC
import Derived.Test.YtpbkggamiipdmaaProg
import Derived.KernelRfl
namespace Go.Proofs.Ytpbkggamiipdmaa
open Go Go.Pv
set_option linter.unusedVariables false
set_option maxRecDepth 100000
theorem mixed : Try.prog.follows .mixedOrders = true := by kernel_rfl
structure TIface where
 Name : (List UInt8)
 Methods : (List (List UInt8))
 deriving DecidableEq
structure TMethod where
 Name : (List UInt8)
 Func : (List UInt8)
 deriving DecidableEq
structure TType where
 Name : (List UInt8)
 Methods : (List TMethod)
 deriving DecidableEq
structure TCall where
 Kind : Int
 Target : (List UInt8)
 Method : (List UInt8)
 Feature : (List UInt8)
 deriving DecidableEq
structure TFunc where
 Name : (List UInt8)
 Component : (List UInt8)
 Calls : (List TCall)
 Makes : (List (List UInt8))
 deriving DecidableEq
structure TGraph where
 Ifaces : (List TIface)
 Types : (List TType)
 Funcs : (List TFunc)
 Entries : (List (List UInt8))
 deriving DecidableEq
structure Treach_checker where
 loose : Bool
 ifaces : (List ((List UInt8) × TIface))
 types : (List ((List UInt8) × Bool))
 funcs : (List ((List UInt8) × Bool))
 deriving DecidableEq
structure Treach_world where
 g : TGraph
 funcs : (List ((List UInt8) × Int))
 types : (List ((List UInt8) × Int))
 fitting : (List ((List UInt8) × (List Int)))
 on : (List ((List UInt8) × Bool))
 made : Bool
 deriving DecidableEq
structure Treach_slot where
 iface : (List UInt8)
 method : (List UInt8)
 deriving DecidableEq
structure Treach_spread where
 w : (Option Treach_world)
 funcs : (List Bool)
 made : (List Bool)
 slots : (List (Treach_slot × Bool))
 order : (List Treach_slot)
 types : (List Int)
 queue : (List Int)
 deriving DecidableEq
structure Tprovenderref6_names where
 ifaces : (List ((List UInt8) × (List ((List UInt8) × Bool))))
 types : (List ((List UInt8) × Bool))
 funcs : (List ((List UInt8) × Bool))
 deriving DecidableEq
structure Tprovenderref6_checker where
 g : TGraph
 n : Tprovenderref6_names
 loose : Bool
 deriving DecidableEq
structure TSite where
 Func : (List UInt8)
 Call : Int
 deriving DecidableEq
structure Tprovenderref6_aim where
 typ : (List UInt8)
 to : (List UInt8)
 deriving DecidableEq
structure Tprovenderref6_link where
 site : TSite
 aims : (List Tprovenderref6_aim)
 deriving DecidableEq
structure Tprovenderref6_net where
 g : TGraph
 links : (List ((List UInt8) × (List Tprovenderref6_link)))
 funcs : (List ((List UInt8) × TFunc))
 deriving DecidableEq
structure TOuter where
 Target : (List UInt8)
 Method : (List UInt8)
 deriving DecidableEq
structure TSummary where
 Func : (List UInt8)
 Within : (List (List UInt8))
 Outer : (List TOuter)
 deriving DecidableEq
def encI_i64 (x : Int) : List V := [(iV x)]
theorem imms_encI_i64 (x : Int) : Imms (encI_i64 x) := (.cons (Imm.con _) .nil)
theorem one_encI_i64 (x : Int) : (encI_i64 x).all oneV = true := rfl
instance : EI encI_i64 := ⟨imms_encI_i64, one_encI_i64⟩
def encB (x : Bool) : List V := [(bV x)]
theorem imms_encB (x : Bool) : Imms (encB x) := (.cons (Imm.con _) .nil)
theorem one_encB (x : Bool) : (encB x).all oneV = true := rfl
instance : EI encB := ⟨imms_encB, one_encB⟩
def encS (x : (List UInt8)) : List V := [(sV x)]
theorem imms_encS (x : (List UInt8)) : Imms (encS x) := (.cons (Imm.con _) .nil)
theorem one_encS (x : (List UInt8)) : (encS x).all oneV = true := rfl
instance : EI encS := ⟨imms_encS, one_encS⟩
def encTIface (x : TIface) : List V := [(sV x.Name), (V.lst 1 (x.Methods.map encS))]
theorem imms_encTIface (x : TIface) : Imms (encTIface x) := (.cons (Imm.con _) (.cons (Imm.lst _ _) .nil))
theorem one_encTIface (x : TIface) : (encTIface x).all oneV = true := rfl
instance : EI encTIface := ⟨imms_encTIface, one_encTIface⟩
@[simp] theorem len_encTIface (x : TIface) : (encTIface x).length = 2 := rfl
def encTMethod (x : TMethod) : List V := [(sV x.Name), (sV x.Func)]
theorem imms_encTMethod (x : TMethod) : Imms (encTMethod x) := (.cons (Imm.con _) (.cons (Imm.con _) .nil))
theorem one_encTMethod (x : TMethod) : (encTMethod x).all oneV = true := rfl
instance : EI encTMethod := ⟨imms_encTMethod, one_encTMethod⟩
@[simp] theorem len_encTMethod (x : TMethod) : (encTMethod x).length = 2 := rfl
def encTType (x : TType) : List V := [(sV x.Name), (V.lst 2 (x.Methods.map encTMethod))]
theorem imms_encTType (x : TType) : Imms (encTType x) := (.cons (Imm.con _) (.cons (Imm.lst _ _) .nil))
theorem one_encTType (x : TType) : (encTType x).all oneV = true := rfl
instance : EI encTType := ⟨imms_encTType, one_encTType⟩
@[simp] theorem len_encTType (x : TType) : (encTType x).length = 2 := rfl
def encTCall (x : TCall) : List V := [(iV x.Kind), (sV x.Target), (sV x.Method), (sV x.Feature)]
theorem imms_encTCall (x : TCall) : Imms (encTCall x) := (.cons (Imm.con _) (.cons (Imm.con _) (.cons (Imm.con _) (.cons (Imm.con _) .nil))))
theorem one_encTCall (x : TCall) : (encTCall x).all oneV = true := rfl
instance : EI encTCall := ⟨imms_encTCall, one_encTCall⟩
@[simp] theorem len_encTCall (x : TCall) : (encTCall x).length = 4 := rfl
def encTFunc (x : TFunc) : List V := [(sV x.Name), (sV x.Component), (V.lst 4 (x.Calls.map encTCall)), (V.lst 1 (x.Makes.map encS))]
theorem imms_encTFunc (x : TFunc) : Imms (encTFunc x) := (.cons (Imm.con _) (.cons (Imm.con _) (.cons (Imm.lst _ _) (.cons (Imm.lst _ _) .nil))))
theorem one_encTFunc (x : TFunc) : (encTFunc x).all oneV = true := rfl
instance : EI encTFunc := ⟨imms_encTFunc, one_encTFunc⟩
@[simp] theorem len_encTFunc (x : TFunc) : (encTFunc x).length = 4 := rfl
def encTGraph (x : TGraph) : List V := [(V.lst 2 (x.Ifaces.map encTIface)), (V.lst 2 (x.Types.map encTType)), (V.lst 4 (x.Funcs.map encTFunc)), (V.lst 1 (x.Entries.map encS))]
theorem imms_encTGraph (x : TGraph) : Imms (encTGraph x) := (.cons (Imm.lst _ _) (.cons (Imm.lst _ _) (.cons (Imm.lst _ _) (.cons (Imm.lst _ _) .nil))))
theorem one_encTGraph (x : TGraph) : (encTGraph x).all oneV = true := rfl
instance : EI encTGraph := ⟨imms_encTGraph, one_encTGraph⟩
@[simp] theorem len_encTGraph (x : TGraph) : (encTGraph x).length = 4 := rfl
theorem eqp9 {d : Nat} : EqOk Try.prog (d + 1) 9 1 false (fun l => ∃ n, l = [.string n]) := eqOk_str (show Try.prog.underlying 9 = some (.string) by kernel_rfl) (show tyC Try.prog 9 = true by kernel_rfl)
theorem eqp3 {d : Nat} : EqOk Try.prog (d + 1) 3 1 false (fun l => ∃ n, l = [.int .i64 n]) := eqOk_int (show Try.prog.underlying 3 = some (.int .i64) by kernel_rfl) (show tyC Try.prog 3 = true by kernel_rfl)
def cv82 (x : TCall) : List Value := [.int .i64 x.Kind] ++ ([str x.Target] ++ ([str x.Method] ++ ([str x.Feature] ++ [])))
theorem inj_cv82 (x y : TCall) (h : cv82 x = cv82 y) : x = y := by
 obtain ⟨h0, h⟩ := List.append_inj h rfl
 obtain ⟨h1, h⟩ := List.append_inj h rfl
 obtain ⟨h2, h⟩ := List.append_inj h rfl
 obtain ⟨h3, h⟩ := List.append_inj h rfl
 obtain ⟨a0, a1, a2, a3⟩ := x
 obtain ⟨b0, b1, b2, b3⟩ := y
 obtain rfl : a0 = b0 := inj_int _ _ (List.cons.inj h0).1
 obtain rfl : a1 = b1 := inj_str _ _ (List.cons.inj h1).1
 obtain rfl : a2 = b2 := inj_str _ _ (List.cons.inj h2).1
 obtain rfl : a3 = b3 := inj_str _ _ (List.cons.inj h3).1
 rfl
def isAgg82 (v : Value) : Prop := ∃ x : TCall, v = .agg (cv82 x).toArray
theorem inj_agg82 : ∀ a b : TCall, (Value.agg (cv82 a).toArray) = .agg (cv82 b).toArray → a = b := fun a b h => inj_cv82 a b (by simpa using congrArg Array.toList (Value.agg.inj h))
theorem eqp82 {d : Nat} : EqOk Try.prog (d + 2) 82 4 true (fun l => ∃ x : TCall, l = cv82 x) := (eqOk_struct (d := d + 1) (fs := [(Field.mk "Kind" 3 0 false "" "" 0), (Field.mk "Target" 9 1 false "" "" 8), (Field.mk "Method" 9 2 false "" "" 24), (Field.mk "Feature" 9 3 false "" "" 40)]) (by kernel_rfl) (by kernel_rfl) (by kernel_rfl) (by kernel_rfl) (eqF_cons eqp3 (by simp) rfl (by simp) (eqF_cons eqp9 (by simp) rfl (by simp) (eqF_cons eqp9 (by simp) rfl (by simp) (eqF_cons eqp9 (by simp) rfl (by simp) eqF_nil))))).weaken (fun l ⟨x, hx⟩ => by subst hx; exact ⟨_, _, rfl, ⟨_, rfl⟩, ⟨_, _, rfl, ⟨_, rfl⟩, ⟨_, _, rfl, ⟨_, rfl⟩, ⟨_, _, rfl, ⟨_, rfl⟩, rfl⟩⟩⟩⟩)
theorem eqk82 : EqOk Try.prog 10000 82 4 true (fun l => ∃ x : TCall, l = cv82 x) := eqp82 (d := 9998)
def encM9_3 (p : (List UInt8) × Int) : Value × V := (str p.1, (iV p.2))
abbrev encM9_3_val (v : Int) : V := (iV v)
theorem encM9_3_puts (xs : List ((List UInt8) × Int)) (k : (List UInt8)) (v : Int) : Puts (str k) (encM9_3_val v) (xs.map encM9_3) ((mput xs k v).map encM9_3) := puts_map (kv := fun k => str k) (ev := encM9_3_val) inj_str xs k v
theorem encM9_3_look (xs : List ((List UInt8) × Int)) (k : (List UInt8)) : Look (str k) (xs.map encM9_3) ((mget xs k).map encM9_3_val) := look_map (kv := fun k => str k) (ev := encM9_3_val) inj_str xs k
theorem encM9_3_imm {xs : List ((List UInt8) × Int)} : ∀ p, p ∈ xs.map encM9_3 → Imm p.2 := by
 intro p hp
 obtain ⟨x, _, rfl⟩ := List.mem_map.1 hp
 exact (Imm.con _)
instance : EM encM9_3 := ⟨fun _ => (Imm.con _)⟩
theorem encM9_3_good {xs : List ((List UInt8) × Int)} : ∀ p, p ∈ xs.map encM9_3 → isStr p.1 := by
 intro p hp
 obtain ⟨x, _, rfl⟩ := List.mem_map.1 hp
 exact ⟨_, rfl⟩
def encM9_62 (p : (List UInt8) × (List Int)) : Value × V := (str p.1, (V.lst 1 (p.2.map encI_i64)))
abbrev encM9_62_val (v : (List Int)) : V := (V.lst 1 (v.map encI_i64))
theorem encM9_62_look (xs : List ((List UInt8) × (List Int))) (k : (List UInt8)) : Look (str k) (xs.map encM9_62) ((mget xs k).map encM9_62_val) := look_map (kv := fun k => str k) (ev := encM9_62_val) inj_str xs k
instance : EM encM9_62 := ⟨fun _ => (Imm.lst _ _)⟩
theorem encM9_62_good {xs : List ((List UInt8) × (List Int))} : ∀ p, p ∈ xs.map encM9_62 → isStr p.1 := by
 intro p hp
 obtain ⟨x, _, rfl⟩ := List.mem_map.1 hp
 exact ⟨_, rfl⟩
def encM9_4 (p : (List UInt8) × Bool) : Value × V := (str p.1, (bV p.2))
abbrev encM9_4_val (v : Bool) : V := (bV v)
theorem encM9_4_puts (xs : List ((List UInt8) × Bool)) (k : (List UInt8)) (v : Bool) : Puts (str k) (encM9_4_val v) (xs.map encM9_4) ((mput xs k v).map encM9_4) := puts_map (kv := fun k => str k) (ev := encM9_4_val) inj_str xs k v
theorem encM9_4_look (xs : List ((List UInt8) × Bool)) (k : (List UInt8)) : Look (str k) (xs.map encM9_4) ((mget xs k).map encM9_4_val) := look_map (kv := fun k => str k) (ev := encM9_4_val) inj_str xs k
theorem encM9_4_imm {xs : List ((List UInt8) × Bool)} : ∀ p, p ∈ xs.map encM9_4 → Imm p.2 := by
 intro p hp
 obtain ⟨x, _, rfl⟩ := List.mem_map.1 hp
 exact (Imm.con _)
theorem encM9_4_im (p : (List UInt8) × Bool) : Imm (encM9_4 p).2 := (Imm.con _)
instance : EM encM9_4 := ⟨fun _ => (Imm.con _)⟩
theorem encM9_4_good {xs : List ((List UInt8) × Bool)} : ∀ p, p ∈ xs.map encM9_4 → isStr p.1 := by
 intro p hp
 obtain ⟨x, _, rfl⟩ := List.mem_map.1 hp
 exact ⟨_, rfl⟩
def encTreach_world (x : Treach_world) : List V := [(V.lst 2 (x.g.Ifaces.map encTIface)), (V.lst 2 (x.g.Types.map encTType)), (V.lst 4 (x.g.Funcs.map encTFunc)), (V.lst 1 (x.g.Entries.map encS)), (V.imap (x.funcs.map encM9_3)), (V.imap (x.types.map encM9_3)), (V.imap (x.fitting.map encM9_62)), (V.imap (x.on.map encM9_4)), (bV x.made)]
theorem imms_encTreach_world (x : Treach_world) : Imms (encTreach_world x) := (.cons (Imm.lst _ _) (.cons (Imm.lst _ _) (.cons (Imm.lst _ _) (.cons (Imm.lst _ _) (.cons (Imm.imap _) (.cons (Imm.imap _) (.cons (Imm.imap _) (.cons (Imm.imap _) (.cons (Imm.con _) .nil)))))))))
theorem one_encTreach_world (x : Treach_world) : (encTreach_world x).all oneV = true := rfl
instance : EI encTreach_world := ⟨imms_encTreach_world, one_encTreach_world⟩
@[simp] theorem len_encTreach_world (x : Treach_world) : (encTreach_world x).length = 9 := rfl
def encTprovenderref6_aim (x : Tprovenderref6_aim) : List V := [(sV x.typ), (sV x.to)]
theorem imms_encTprovenderref6_aim (x : Tprovenderref6_aim) : Imms (encTprovenderref6_aim x) := (.cons (Imm.con _) (.cons (Imm.con _) .nil))
theorem one_encTprovenderref6_aim (x : Tprovenderref6_aim) : (encTprovenderref6_aim x).all oneV = true := rfl
instance : EI encTprovenderref6_aim := ⟨imms_encTprovenderref6_aim, one_encTprovenderref6_aim⟩
@[simp] theorem len_encTprovenderref6_aim (x : Tprovenderref6_aim) : (encTprovenderref6_aim x).length = 2 := rfl
def encTprovenderref6_link (x : Tprovenderref6_link) : List V := [(sV x.site.Func), (iV x.site.Call), (V.lst 2 (x.aims.map encTprovenderref6_aim))]
theorem imms_encTprovenderref6_link (x : Tprovenderref6_link) : Imms (encTprovenderref6_link x) := (.cons (Imm.con _) (.cons (Imm.con _) (.cons (Imm.lst _ _) .nil)))
theorem one_encTprovenderref6_link (x : Tprovenderref6_link) : (encTprovenderref6_link x).all oneV = true := rfl
instance : EI encTprovenderref6_link := ⟨imms_encTprovenderref6_link, one_encTprovenderref6_link⟩
@[simp] theorem len_encTprovenderref6_link (x : Tprovenderref6_link) : (encTprovenderref6_link x).length = 3 := rfl
def encM9_122 (p : (List UInt8) × (List Tprovenderref6_link)) : Value × V := (str p.1, (V.lst 3 (p.2.map encTprovenderref6_link)))
abbrev encM9_122_val (v : (List Tprovenderref6_link)) : V := (V.lst 3 (v.map encTprovenderref6_link))
theorem encM9_122_look (xs : List ((List UInt8) × (List Tprovenderref6_link))) (k : (List UInt8)) : Look (str k) (xs.map encM9_122) ((mget xs k).map encM9_122_val) := look_map (kv := fun k => str k) (ev := encM9_122_val) inj_str xs k
instance : EM encM9_122 := ⟨fun _ => (Imm.lst _ _)⟩
theorem encM9_122_good {xs : List ((List UInt8) × (List Tprovenderref6_link))} : ∀ p, p ∈ xs.map encM9_122 → isStr p.1 := by
 intro p hp
 obtain ⟨x, _, rfl⟩ := List.mem_map.1 hp
 exact ⟨_, rfl⟩
def encM9_69 (p : (List UInt8) × TFunc) : Value × V := (str p.1, (V.agg [(sV p.2.Name), (sV p.2.Component), (V.lst 4 (p.2.Calls.map encTCall)), (V.lst 1 (p.2.Makes.map encS))]))
abbrev encM9_69_val (v : TFunc) : V := (V.agg [(sV v.Name), (sV v.Component), (V.lst 4 (v.Calls.map encTCall)), (V.lst 1 (v.Makes.map encS))])
theorem encM9_69_puts (xs : List ((List UInt8) × TFunc)) (k : (List UInt8)) (v : TFunc) : Puts (str k) (encM9_69_val v) (xs.map encM9_69) ((mput xs k v).map encM9_69) := puts_map (kv := fun k => str k) (ev := encM9_69_val) inj_str xs k v
theorem encM9_69_imm {xs : List ((List UInt8) × TFunc)} : ∀ p, p ∈ xs.map encM9_69 → Imm p.2 := by
 intro p hp
 obtain ⟨x, _, rfl⟩ := List.mem_map.1 hp
 exact (Imm.agg (.cons (Imm.con _) (.cons (Imm.con _) (.cons (Imm.lst _ _) (.cons (Imm.lst _ _) .nil)))))
instance : EM encM9_69 := ⟨fun _ => (Imm.agg (.cons (Imm.con _) (.cons (Imm.con _) (.cons (Imm.lst _ _) (.cons (Imm.lst _ _) .nil)))))⟩
theorem encM9_69_good {xs : List ((List UInt8) × TFunc)} : ∀ p, p ∈ xs.map encM9_69 → isStr p.1 := by
 intro p hp
 obtain ⟨x, _, rfl⟩ := List.mem_map.1 hp
 exact ⟨_, rfl⟩
def encTprovenderref6_net (x : Tprovenderref6_net) : List V := [(V.lst 2 (x.g.Ifaces.map encTIface)), (V.lst 2 (x.g.Types.map encTType)), (V.lst 4 (x.g.Funcs.map encTFunc)), (V.lst 1 (x.g.Entries.map encS)), (V.imap (x.links.map encM9_122)), (V.imap (x.funcs.map encM9_69))]
theorem imms_encTprovenderref6_net (x : Tprovenderref6_net) : Imms (encTprovenderref6_net x) := (.cons (Imm.lst _ _) (.cons (Imm.lst _ _) (.cons (Imm.lst _ _) (.cons (Imm.lst _ _) (.cons (Imm.imap _) (.cons (Imm.imap _) .nil))))))
theorem one_encTprovenderref6_net (x : Tprovenderref6_net) : (encTprovenderref6_net x).all oneV = true := rfl
instance : EI encTprovenderref6_net := ⟨imms_encTprovenderref6_net, one_encTprovenderref6_net⟩
@[simp] theorem len_encTprovenderref6_net (x : Tprovenderref6_net) : (encTprovenderref6_net x).length = 6 := rfl
def encTOuter (x : TOuter) : List V := [(sV x.Target), (sV x.Method)]
theorem imms_encTOuter (x : TOuter) : Imms (encTOuter x) := (.cons (Imm.con _) (.cons (Imm.con _) .nil))
theorem one_encTOuter (x : TOuter) : (encTOuter x).all oneV = true := rfl
instance : EI encTOuter := ⟨imms_encTOuter, one_encTOuter⟩
@[simp] theorem len_encTOuter (x : TOuter) : (encTOuter x).length = 2 := rfl
def encTSummary (x : TSummary) : List V := [(sV x.Func), (V.lst 1 (x.Within.map encS)), (V.lst 2 (x.Outer.map encTOuter))]
theorem imms_encTSummary (x : TSummary) : Imms (encTSummary x) := (.cons (Imm.con _) (.cons (Imm.lst _ _) (.cons (Imm.lst _ _) .nil)))
theorem one_encTSummary (x : TSummary) : (encTSummary x).all oneV = true := rfl
instance : EI encTSummary := ⟨imms_encTSummary, one_encTSummary⟩
@[simp] theorem len_encTSummary (x : TSummary) : (encTSummary x).length = 3 := rfl
def encL131 (x : (List TSummary)) : List V := [V.lst 3 (x.map encTSummary)]
theorem imms_encL131 (x : (List TSummary)) : Imms (encL131 x) := (.cons (Imm.lst _ _) .nil)
theorem one_encL131 (x : (List TSummary)) : (encL131 x).all oneV = true := rfl
instance : EI encL131 := ⟨imms_encL131, one_encL131⟩
def encM9_72 (p : (List UInt8) × (List ((List UInt8) × Bool))) : Value × V := (str p.1, (V.imap (p.2.map encM9_4)))
abbrev encM9_72_val (v : (List ((List UInt8) × Bool))) : V := (V.imap (v.map encM9_4))
theorem encM9_72_look (xs : List ((List UInt8) × (List ((List UInt8) × Bool)))) (k : (List UInt8)) : Look (str k) (xs.map encM9_72) ((mget xs k).map encM9_72_val) := look_map (kv := fun k => str k) (ev := encM9_72_val) inj_str xs k
instance : EM encM9_72 := ⟨fun _ => (Imm.imap _)⟩
theorem encM9_72_good {xs : List ((List UInt8) × (List ((List UInt8) × Bool)))} : ∀ p, p ∈ xs.map encM9_72 → isStr p.1 := by
 intro p hp
 obtain ⟨x, _, rfl⟩ := List.mem_map.1 hp
 exact ⟨_, rfl⟩
def encTprovenderref6_names (x : Tprovenderref6_names) : List V := [(V.imap (x.ifaces.map encM9_72)), (V.imap (x.types.map encM9_4)), (V.imap (x.funcs.map encM9_4))]
theorem imms_encTprovenderref6_names (x : Tprovenderref6_names) : Imms (encTprovenderref6_names x) := (.cons (Imm.imap _) (.cons (Imm.imap _) (.cons (Imm.imap _) .nil)))
theorem one_encTprovenderref6_names (x : Tprovenderref6_names) : (encTprovenderref6_names x).all oneV = true := rfl
instance : EI encTprovenderref6_names := ⟨imms_encTprovenderref6_names, one_encTprovenderref6_names⟩
@[simp] theorem len_encTprovenderref6_names (x : Tprovenderref6_names) : (encTprovenderref6_names x).length = 3 := rfl
def encM9_101 (p : (List UInt8) × TIface) : Value × V := (str p.1, (V.agg [(sV p.2.Name), (V.lst 1 (p.2.Methods.map encS))]))
abbrev encM9_101_val (v : TIface) : V := (V.agg [(sV v.Name), (V.lst 1 (v.Methods.map encS))])
theorem encM9_101_puts (xs : List ((List UInt8) × TIface)) (k : (List UInt8)) (v : TIface) : Puts (str k) (encM9_101_val v) (xs.map encM9_101) ((mput xs k v).map encM9_101) := puts_map (kv := fun k => str k) (ev := encM9_101_val) inj_str xs k v
theorem encM9_101_look (xs : List ((List UInt8) × TIface)) (k : (List UInt8)) : Look (str k) (xs.map encM9_101) ((mget xs k).map encM9_101_val) := look_map (kv := fun k => str k) (ev := encM9_101_val) inj_str xs k
theorem encM9_101_imm {xs : List ((List UInt8) × TIface)} : ∀ p, p ∈ xs.map encM9_101 → Imm p.2 := by
 intro p hp
 obtain ⟨x, _, rfl⟩ := List.mem_map.1 hp
 exact (Imm.agg (.cons (Imm.con _) (.cons (Imm.lst _ _) .nil)))
instance : EM encM9_101 := ⟨fun _ => (Imm.agg (.cons (Imm.con _) (.cons (Imm.lst _ _) .nil)))⟩
theorem encM9_101_good {xs : List ((List UInt8) × TIface)} : ∀ p, p ∈ xs.map encM9_101 → isStr p.1 := by
 intro p hp
 obtain ⟨x, _, rfl⟩ := List.mem_map.1 hp
 exact ⟨_, rfl⟩
def encTreach_checker (x : Treach_checker) : List V := [(bV x.loose), (V.imap (x.ifaces.map encM9_101)), (V.imap (x.types.map encM9_4)), (V.imap (x.funcs.map encM9_4))]
theorem imms_encTreach_checker (x : Treach_checker) : Imms (encTreach_checker x) := (.cons (Imm.con _) (.cons (Imm.imap _) (.cons (Imm.imap _) (.cons (Imm.imap _) .nil))))
theorem one_encTreach_checker (x : Treach_checker) : (encTreach_checker x).all oneV = true := rfl
instance : EI encTreach_checker := ⟨imms_encTreach_checker, one_encTreach_checker⟩
@[simp] theorem len_encTreach_checker (x : Treach_checker) : (encTreach_checker x).length = 4 := rfl
def encTprovenderref6_checker (x : Tprovenderref6_checker) : List V := [(V.lst 2 (x.g.Ifaces.map encTIface)), (V.lst 2 (x.g.Types.map encTType)), (V.lst 4 (x.g.Funcs.map encTFunc)), (V.lst 1 (x.g.Entries.map encS)), (V.imap (x.n.ifaces.map encM9_72)), (V.imap (x.n.types.map encM9_4)), (V.imap (x.n.funcs.map encM9_4)), (bV x.loose)]
theorem imms_encTprovenderref6_checker (x : Tprovenderref6_checker) : Imms (encTprovenderref6_checker x) := (.cons (Imm.lst _ _) (.cons (Imm.lst _ _) (.cons (Imm.lst _ _) (.cons (Imm.lst _ _) (.cons (Imm.imap _) (.cons (Imm.imap _) (.cons (Imm.imap _) (.cons (Imm.con _) .nil))))))))
theorem one_encTprovenderref6_checker (x : Tprovenderref6_checker) : (encTprovenderref6_checker x).all oneV = true := rfl
instance : EI encTprovenderref6_checker := ⟨imms_encTprovenderref6_checker, one_encTprovenderref6_checker⟩
@[simp] theorem len_encTprovenderref6_checker (x : Tprovenderref6_checker) : (encTprovenderref6_checker x).length = 8 := rfl
def encM9_242 (p : (List UInt8) × (List Int)) : Value × V := (str p.1, (V.dsl 3 1 (p.2.map encI_i64)))
theorem encM9_242_und (p : (List UInt8) × (List Int)) : (encM9_242 p).1 = (encM9_62 p).1 ∧ Und (encM9_242 p).2 (encM9_62 p).2 ∧ Keep (encM9_242 p).2 := ⟨rfl, und_rows imms_encI_i64 _, Keep.dsl _ _ _⟩
instance : EMK encM9_242 := ⟨fun p => (encM9_242_und p).2.2⟩
theorem encM9_242_good {xs : List ((List UInt8) × (List Int))} : ∀ p, p ∈ xs.map encM9_242 → isStr p.1 := by
 intro p hp
 obtain ⟨x, _, rfl⟩ := List.mem_map.1 hp
 exact ⟨_, rfl⟩
def encM9_243 (p : (List UInt8) × (List ((List UInt8) × Bool))) : Value × V := (str p.1, (V.dmp (p.2.map encM9_4)))
theorem encM9_243_und (p : (List UInt8) × (List ((List UInt8) × Bool))) : (encM9_243 p).1 = (encM9_72 p).1 ∧ Und (encM9_243 p).2 (encM9_72 p).2 ∧ Keep (encM9_243 p).2 := ⟨rfl, und_ents encM9_4_im _, Keep.dmp _⟩
instance : EMK encM9_243 := ⟨fun p => (encM9_243_und p).2.2⟩
theorem encM9_243_good {xs : List ((List UInt8) × (List ((List UInt8) × Bool)))} : ∀ p, p ∈ xs.map encM9_243 → isStr p.1 := by
 intro p hp
 obtain ⟨x, _, rfl⟩ := List.mem_map.1 hp
 exact ⟨_, rfl⟩
def encM9_244 (p : (List UInt8) × (List Tprovenderref6_link)) : Value × V := (str p.1, (V.dsl 124 3 (p.2.map encTprovenderref6_link)))
theorem encM9_244_und (p : (List UInt8) × (List Tprovenderref6_link)) : (encM9_244 p).1 = (encM9_122 p).1 ∧ Und (encM9_244 p).2 (encM9_122 p).2 ∧ Keep (encM9_244 p).2 := ⟨rfl, und_rows imms_encTprovenderref6_link _, Keep.dsl _ _ _⟩
instance : EMK encM9_244 := ⟨fun p => (encM9_244_und p).2.2⟩
theorem encM9_244_good {xs : List ((List UInt8) × (List Tprovenderref6_link))} : ∀ p, p ∈ xs.map encM9_244 → isStr p.1 := by
 intro p hp
 obtain ⟨x, _, rfl⟩ := List.mem_map.1 hp
 exact ⟨_, rfl⟩
def encM82_114 (p : TCall × (List Tprovenderref6_aim)) : Value × V := (.agg (cv82 p.1).toArray, (V.lst 2 (p.2.map encTprovenderref6_aim)))
abbrev encM82_114_val (v : (List Tprovenderref6_aim)) : V := (V.lst 2 (v.map encTprovenderref6_aim))
theorem encM82_114_puts (xs : List (TCall × (List Tprovenderref6_aim))) (k : TCall) (v : (List Tprovenderref6_aim)) : Puts (.agg (cv82 k).toArray) (encM82_114_val v) (xs.map encM82_114) ((mput xs k v).map encM82_114) := puts_map (kv := fun k => .agg (cv82 k).toArray) (ev := encM82_114_val) inj_agg82 xs k v
theorem encM82_114_look (xs : List (TCall × (List Tprovenderref6_aim))) (k : TCall) : Look (.agg (cv82 k).toArray) (xs.map encM82_114) ((mget xs k).map encM82_114_val) := look_map (kv := fun k => .agg (cv82 k).toArray) (ev := encM82_114_val) inj_agg82 xs k
instance : EM encM82_114 := ⟨fun _ => (Imm.lst _ _)⟩
theorem encM82_114_good {xs : List (TCall × (List Tprovenderref6_aim))} : ∀ p, p ∈ xs.map encM82_114 → (isAgg82) p.1 := by
 intro p hp
 obtain ⟨x, _, rfl⟩ := List.mem_map.1 hp
 exact ⟨_, rfl⟩
def encM9_131 (p : (List UInt8) × TSummary) : Value × V := (str p.1, (V.agg [(sV p.2.Func), (V.lst 1 (p.2.Within.map encS)), (V.lst 2 (p.2.Outer.map encTOuter))]))
abbrev encM9_131_val (v : TSummary) : V := (V.agg [(sV v.Func), (V.lst 1 (v.Within.map encS)), (V.lst 2 (v.Outer.map encTOuter))])
theorem encM9_131_puts (xs : List ((List UInt8) × TSummary)) (k : (List UInt8)) (v : TSummary) : Puts (str k) (encM9_131_val v) (xs.map encM9_131) ((mput xs k v).map encM9_131) := puts_map (kv := fun k => str k) (ev := encM9_131_val) inj_str xs k v
theorem encM9_131_look (xs : List ((List UInt8) × TSummary)) (k : (List UInt8)) : Look (str k) (xs.map encM9_131) ((mget xs k).map encM9_131_val) := look_map (kv := fun k => str k) (ev := encM9_131_val) inj_str xs k
theorem encM9_131_imm {xs : List ((List UInt8) × TSummary)} : ∀ p, p ∈ xs.map encM9_131 → Imm p.2 := by
 intro p hp
 obtain ⟨x, _, rfl⟩ := List.mem_map.1 hp
 exact (Imm.agg (.cons (Imm.con _) (.cons (Imm.lst _ _) (.cons (Imm.lst _ _) .nil))))
instance : EM encM9_131 := ⟨fun _ => (Imm.agg (.cons (Imm.con _) (.cons (Imm.lst _ _) (.cons (Imm.lst _ _) .nil))))⟩
theorem encM9_131_good {xs : List ((List UInt8) × TSummary)} : ∀ p, p ∈ xs.map encM9_131 → isStr p.1 := by
 intro p hp
 obtain ⟨x, _, rfl⟩ := List.mem_map.1 hp
 exact ⟨_, rfl⟩
theorem tS27 : tyS Try.prog 27 4 = true := by kernel_rfl
theorem tIsSl25 : tySlice Try.prog 25 = true := by kernel_rfl
theorem tSl25 : tySl Try.prog 25 1 = true := by kernel_rfl
theorem tC9 : tyC Try.prog 9 = true := by kernel_rfl
theorem tIsSl28 : tySlice Try.prog 28 = true := by kernel_rfl
theorem tEl25 : tyEl Try.prog 25 9 1 16 = true := by kernel_rfl
theorem tZ9 : zeroCells Try.prog 9 = some [.string ⟨#[]⟩] := by kernel_rfl
theorem tSl28 : tySl Try.prog 28 1 = true := by kernel_rfl
theorem tC4 : tyC Try.prog 4 = true := by kernel_rfl
theorem tA27 : tyA Try.prog 27 4 = true := by kernel_rfl
theorem tZ160 : zeroCells Try.prog 160 = some [.bool false, .map none, .map none, .map none] := by kernel_rfl
theorem tPl160 : tyPlaces Try.prog 160 = some [(0, 1), (1, 1), (2, 1), (3, 1)] := by kernel_rfl
theorem tS160 : tyS Try.prog 160 4 = true := by kernel_rfl
theorem tF27_0 : tyF Try.prog 27 0 0 = true := by kernel_rfl
theorem tC22 : tyC Try.prog 22 = true := by kernel_rfl
theorem tIsSl22 : tySlice Try.prog 22 = true := by kernel_rfl
theorem tSl22 : tySl Try.prog 22 2 = true := by kernel_rfl
theorem tA101 : tyA Try.prog 101 2 = true := by kernel_rfl
theorem tZ101 : zeroCells Try.prog 101 = some [.string ⟨#[]⟩, .slice none 0 0] := by kernel_rfl
theorem tS101 : tyS Try.prog 101 2 = true := by kernel_rfl
theorem tF160_1 : tyF Try.prog 160 1 1 = true := by kernel_rfl
theorem tC158 : tyC Try.prog 158 = true := by kernel_rfl
theorem tF101_0 : tyF Try.prog 101 0 0 = true := by kernel_rfl
theorem tMap158 : tyMap Try.prog 158 9 101 = true := by kernel_rfl
theorem tKey9 : KeyT Try.prog 9 isStr := keyT_str (by kernel_rfl)
theorem tF27_1 : tyF Try.prog 27 1 1 = true := by kernel_rfl
theorem tC23 : tyC Try.prog 23 = true := by kernel_rfl
theorem tIsSl23 : tySlice Try.prog 23 = true := by kernel_rfl
theorem tSl23 : tySl Try.prog 23 2 = true := by kernel_rfl
theorem tA94 : tyA Try.prog 94 2 = true := by kernel_rfl
theorem tZ94 : zeroCells Try.prog 94 = some [.string ⟨#[]⟩, .slice none 0 0] := by kernel_rfl
theorem tS94 : tyS Try.prog 94 2 = true := by kernel_rfl
theorem tF160_2 : tyF Try.prog 160 2 2 = true := by kernel_rfl
theorem tC72 : tyC Try.prog 72 = true := by kernel_rfl
theorem tF94_0 : tyF Try.prog 94 0 0 = true := by kernel_rfl
theorem tMap72 : tyMap Try.prog 72 9 4 = true := by kernel_rfl
theorem tF27_2 : tyF Try.prog 27 2 2 = true := by kernel_rfl
theorem tC24 : tyC Try.prog 24 = true := by kernel_rfl
theorem tIsSl24 : tySlice Try.prog 24 = true := by kernel_rfl
theorem tSl24 : tySl Try.prog 24 4 = true := by kernel_rfl
theorem tA69 : tyA Try.prog 69 4 = true := by kernel_rfl
theorem tZ69 : zeroCells Try.prog 69 = some [.string ⟨#[]⟩, .string ⟨#[]⟩, .slice none 0 0, .slice none 0 0] := by kernel_rfl
theorem tS69 : tyS Try.prog 69 4 = true := by kernel_rfl
theorem tF160_3 : tyF Try.prog 160 3 3 = true := by kernel_rfl
theorem tF69_0 : tyF Try.prog 69 0 0 = true := by kernel_rfl
theorem tA160 : tyA Try.prog 160 4 = true := by kernel_rfl
theorem fOk77 : fnOk Try.prog 77 = true := by kernel_rfl
theorem tStr9 : tyStr Try.prog 9 = true := by kernel_rfl
theorem fOk120 : fnOk Try.prog 120 = true := by kernel_rfl
theorem fOk93 : fnOk Try.prog 93 = true := by kernel_rfl
theorem tF101_1 : tyF Try.prog 101 1 1 = true := by kernel_rfl
theorem tC25 : tyC Try.prog 25 = true := by kernel_rfl
theorem fOk105 : fnOk Try.prog 105 = true := by kernel_rfl
theorem tF94_1 : tyF Try.prog 94 1 1 = true := by kernel_rfl
theorem tC92 : tyC Try.prog 92 = true := by kernel_rfl
theorem tIsSl92 : tySlice Try.prog 92 = true := by kernel_rfl
theorem tSl92 : tySl Try.prog 92 2 = true := by kernel_rfl
theorem tA198 : tyA Try.prog 198 2 = true := by kernel_rfl
theorem tZ198 : zeroCells Try.prog 198 = some [.string ⟨#[]⟩, .string ⟨#[]⟩] := by kernel_rfl
theorem tS198 : tyS Try.prog 198 2 = true := by kernel_rfl
theorem tF198_0 : tyF Try.prog 198 0 0 = true := by kernel_rfl
theorem tF160_0 : tyF Try.prog 160 0 0 = true := by kernel_rfl
theorem tF198_1 : tyF Try.prog 198 1 1 = true := by kernel_rfl
theorem tZo4 : (Try.prog.info? 4).bind (·.zero) = some (.bool false) := by kernel_rfl
theorem fOk106 : fnOk Try.prog 106 = true := by kernel_rfl
theorem tF69_1 : tyF Try.prog 69 1 1 = true := by kernel_rfl
theorem tF69_2 : tyF Try.prog 69 2 2 = true := by kernel_rfl
theorem tC67 : tyC Try.prog 67 = true := by kernel_rfl
theorem tIsSl67 : tySlice Try.prog 67 = true := by kernel_rfl
theorem tSl67 : tySl Try.prog 67 4 = true := by kernel_rfl
theorem tA82 : tyA Try.prog 82 4 = true := by kernel_rfl
theorem tZ82 : zeroCells Try.prog 82 = some [.int .i64 0, .string ⟨#[]⟩, .string ⟨#[]⟩, .string ⟨#[]⟩] := by kernel_rfl
theorem tS82 : tyS Try.prog 82 4 = true := by kernel_rfl
theorem tF82_0 : tyF Try.prog 82 0 0 = true := by kernel_rfl
theorem tC3 : tyC Try.prog 3 = true := by kernel_rfl
theorem tF82_1 : tyF Try.prog 82 1 1 = true := by kernel_rfl
theorem tF82_2 : tyF Try.prog 82 2 2 = true := by kernel_rfl
theorem tZo101 : (Try.prog.info? 101).bind (·.zero) = some (.agg #[.string ⟨#[]⟩, .slice none 0 0]) := by kernel_rfl
theorem fOk41 : fnOk Try.prog 41 = true := by kernel_rfl
theorem fOk16 : fnOk Try.prog 16 = true := by kernel_rfl
theorem tF82_3 : tyF Try.prog 82 3 3 = true := by kernel_rfl
theorem fOk127 : fnOk Try.prog 127 = true := by kernel_rfl
theorem tF69_3 : tyF Try.prog 69 3 3 = true := by kernel_rfl
theorem fOk108 : fnOk Try.prog 108 = true := by kernel_rfl
theorem fOk107 : fnOk Try.prog 107 = true := by kernel_rfl
theorem tF27_3 : tyF Try.prog 27 3 3 = true := by kernel_rfl
theorem fOk78 : fnOk Try.prog 78 = true := by kernel_rfl
theorem fOk44 : fnOk Try.prog 44 = true := by kernel_rfl
theorem fOk67 : fnOk Try.prog 67 = true := by kernel_rfl
theorem tZ88 : zeroCells Try.prog 88 = some [.slice none 0 0, .slice none 0 0, .slice none 0 0, .slice none 0 0, .map none, .map none, .map none, .map none, .bool false] := by kernel_rfl
theorem tPl88 : tyPlaces Try.prog 88 = some [(0, 4), (4, 1), (5, 1), (6, 1), (7, 1), (8, 1)] := by kernel_rfl
theorem tS88 : tyS Try.prog 88 9 = true := by kernel_rfl
theorem tF88_1 : tyF Try.prog 88 1 4 = true := by kernel_rfl
theorem tC85 : tyC Try.prog 85 = true := by kernel_rfl
theorem tMap85 : tyMap Try.prog 85 9 3 = true := by kernel_rfl
theorem tF88_2 : tyF Try.prog 88 2 5 = true := by kernel_rfl
theorem tI157 : tyI Try.prog 157 .u64 = true := by kernel_rfl
theorem tUn3 : tyU Try.prog 3 = true := by kernel_rfl
theorem tI3 : tyI Try.prog 3 .i64 = true := by kernel_rfl
theorem tUn157 : tyU Try.prog 157 = true := by kernel_rfl
theorem fOk126 : fnOk Try.prog 126 = true := by kernel_rfl
theorem fOk111 : fnOk Try.prog 111 = true := by kernel_rfl
theorem fOk110 : fnOk Try.prog 110 = true := by kernel_rfl
theorem fOk109 : fnOk Try.prog 109 = true := by kernel_rfl
theorem fOk79 : fnOk Try.prog 79 = true := by kernel_rfl
theorem fOk49 : fnOk Try.prog 49 = true := by kernel_rfl
theorem tF88_3 : tyF Try.prog 88 3 6 = true := by kernel_rfl
theorem tC86 : tyC Try.prog 86 = true := by kernel_rfl
theorem tMap86 : tyMap Try.prog 86 9 62 = true := by kernel_rfl
theorem tZo62 : (Try.prog.info? 62).bind (·.zero) = some (.slice none 0 0) := by kernel_rfl
theorem tEl62 : tyEl Try.prog 62 3 1 8 = true := by kernel_rfl
theorem tZ3 : zeroCells Try.prog 3 = some [.int .i64 0] := by kernel_rfl
theorem tIsSl62 : tySlice Try.prog 62 = true := by kernel_rfl
theorem tF88_4 : tyF Try.prog 88 4 7 = true := by kernel_rfl
theorem fOk54 : fnOk Try.prog 54 = true := by kernel_rfl
theorem fOk31 : fnOk Try.prog 31 = true := by kernel_rfl
theorem tF88_0 : tyF Try.prog 88 0 0 = true := by kernel_rfl
theorem tZ64 : zeroCells Try.prog 64 = some [.pointer none, .slice none 0 0, .slice none 0 0, .map none, .slice none 0 0, .slice none 0 0, .slice none 0 0] := by kernel_rfl
theorem tPl64 : tyPlaces Try.prog 64 = some [(0, 1), (1, 1), (2, 1), (3, 1), (4, 1), (5, 1), (6, 1)] := by kernel_rfl
theorem tS64 : tyS Try.prog 64 7 = true := by kernel_rfl
theorem tEl28 : tyEl Try.prog 28 4 1 1 = true := by kernel_rfl
theorem tZ4 : zeroCells Try.prog 4 = some [.bool false] := by kernel_rfl
theorem tZo3 : (Try.prog.info? 3).bind (·.zero) = some (.int .i64 0) := by kernel_rfl
theorem tF64_1 : tyF Try.prog 64 1 1 = true := by kernel_rfl
theorem tC28 : tyC Try.prog 28 = true := by kernel_rfl
theorem tS4 : tyS Try.prog 4 1 = true := by kernel_rfl
theorem tF64_6 : tyF Try.prog 64 6 6 = true := by kernel_rfl
theorem tC62 : tyC Try.prog 62 = true := by kernel_rfl
theorem tS62 : tyS Try.prog 62 1 = true := by kernel_rfl
theorem tSl62 : tySl Try.prog 62 1 = true := by kernel_rfl
theorem tF64_2 : tyF Try.prog 64 2 2 = true := by kernel_rfl
theorem tF64_0 : tyF Try.prog 64 0 0 = true := by kernel_rfl
theorem tC57 : tyC Try.prog 57 = true := by kernel_rfl
theorem tF88_5 : tyF Try.prog 88 5 8 = true := by kernel_rfl
theorem tF64_4 : tyF Try.prog 64 4 4 = true := by kernel_rfl
theorem tC61 : tyC Try.prog 61 = true := by kernel_rfl
theorem tIsSl61 : tySlice Try.prog 61 = true := by kernel_rfl
theorem tSl61 : tySl Try.prog 61 2 = true := by kernel_rfl
theorem tA180 : tyA Try.prog 180 2 = true := by kernel_rfl
theorem tZ180 : zeroCells Try.prog 180 = some [.string ⟨#[]⟩, .string ⟨#[]⟩] := by kernel_rfl
theorem tS180 : tyS Try.prog 180 2 = true := by kernel_rfl
theorem tF180_0 : tyF Try.prog 180 0 0 = true := by kernel_rfl
theorem fOk116 : fnOk Try.prog 116 = true := by kernel_rfl
theorem fOk87 : fnOk Try.prog 87 = true := by kernel_rfl
theorem tF180_1 : tyF Try.prog 180 1 1 = true := by kernel_rfl
theorem tPl82 : tyPlaces Try.prog 82 = some [(0, 1), (1, 1), (2, 1), (3, 1)] := by kernel_rfl
theorem fOk82 : fnOk Try.prog 82 = true := by kernel_rfl
theorem tPl180 : tyPlaces Try.prog 180 = some [(0, 1), (1, 1)] := by kernel_rfl
theorem tF64_3 : tyF Try.prog 64 3 3 = true := by kernel_rfl
theorem tC60 : tyC Try.prog 60 = true := by kernel_rfl
theorem tS61 : tyS Try.prog 61 1 = true := by kernel_rfl
theorem fOk32 : fnOk Try.prog 32 = true := by kernel_rfl
theorem fOk9 : fnOk Try.prog 9 = true := by kernel_rfl
theorem tZ138 : zeroCells Try.prog 138 = some [.map none, .map none, .map none] := by kernel_rfl
theorem tPl138 : tyPlaces Try.prog 138 = some [(0, 1), (1, 1), (2, 1)] := by kernel_rfl
theorem tS138 : tyS Try.prog 138 3 = true := by kernel_rfl
theorem tF138_0 : tyF Try.prog 138 0 0 = true := by kernel_rfl
theorem tC136 : tyC Try.prog 136 = true := by kernel_rfl
theorem tMap136 : tyMap Try.prog 136 9 72 = true := by kernel_rfl
theorem tF138_1 : tyF Try.prog 138 1 1 = true := by kernel_rfl
theorem tF138_2 : tyF Try.prog 138 2 2 = true := by kernel_rfl
theorem tA138 : tyA Try.prog 138 3 = true := by kernel_rfl
theorem fOk65 : fnOk Try.prog 65 = true := by kernel_rfl
theorem tZ165 : zeroCells Try.prog 165 = some [.slice none 0 0, .slice none 0 0, .slice none 0 0, .slice none 0 0, .map none, .map none, .map none, .bool false] := by kernel_rfl
theorem tPl165 : tyPlaces Try.prog 165 = some [(0, 4), (4, 3), (7, 1)] := by kernel_rfl
theorem tS165 : tyS Try.prog 165 8 = true := by kernel_rfl
theorem tF165_0 : tyF Try.prog 165 0 0 = true := by kernel_rfl
theorem tA165 : tyA Try.prog 165 8 = true := by kernel_rfl
theorem fOk91 : fnOk Try.prog 91 = true := by kernel_rfl
theorem fOk92 : fnOk Try.prog 92 = true := by kernel_rfl
theorem fOk112 : fnOk Try.prog 112 = true := by kernel_rfl
theorem tF165_2 : tyF Try.prog 165 2 7 = true := by kernel_rfl
theorem tF165_1 : tyF Try.prog 165 1 4 = true := by kernel_rfl
theorem fOk113 : fnOk Try.prog 113 = true := by kernel_rfl
theorem tZo72 : (Try.prog.info? 72).bind (·.zero) = some (.map none) := by kernel_rfl
theorem fOk128 : fnOk Try.prog 128 = true := by kernel_rfl
theorem fOk114 : fnOk Try.prog 114 = true := by kernel_rfl
theorem fOk80 : fnOk Try.prog 80 = true := by kernel_rfl
theorem fOk50 : fnOk Try.prog 50 = true := by kernel_rfl
theorem fOk63 : fnOk Try.prog 63 = true := by kernel_rfl
theorem tPl69 : tyPlaces Try.prog 69 = some [(0, 1), (1, 1), (2, 1), (3, 1)] := by kernel_rfl
theorem fOk71 : fnOk Try.prog 71 = true := by kernel_rfl
theorem fOk33 : fnOk Try.prog 33 = true := by kernel_rfl
theorem tZ78 : zeroCells Try.prog 78 = some [.slice none 0 0, .slice none 0 0, .slice none 0 0, .slice none 0 0, .map none, .map none] := by kernel_rfl
theorem tPl78 : tyPlaces Try.prog 78 = some [(0, 4), (4, 1), (5, 1)] := by kernel_rfl
theorem tS78 : tyS Try.prog 78 6 = true := by kernel_rfl
theorem tF78_2 : tyF Try.prog 78 2 5 = true := by kernel_rfl
theorem tC76 : tyC Try.prog 76 = true := by kernel_rfl
theorem tMap76 : tyMap Try.prog 76 9 69 = true := by kernel_rfl
theorem tMap151 : tyMap Try.prog 151 82 114 = true := by kernel_rfl
theorem tKey82 : KeyT Try.prog 82 isAgg82 := keyT_agg eqk82 (by kernel_rfl) (fun v ⟨x, hx⟩ => ⟨_, ⟨x, rfl⟩, hx⟩)
theorem tZo114 : (Try.prog.info? 114).bind (·.zero) = some (.slice none 0 0) := by kernel_rfl
theorem tZ117 : zeroCells Try.prog 117 = some [.string ⟨#[]⟩, .string ⟨#[]⟩] := by kernel_rfl
theorem tPl117 : tyPlaces Try.prog 117 = some [(0, 1), (1, 1)] := by kernel_rfl
theorem tEl114 : tyEl Try.prog 114 117 2 32 = true := by kernel_rfl
theorem tPl101 : tyPlaces Try.prog 101 = some [(0, 1), (1, 1)] := by kernel_rfl
theorem fOk52 : fnOk Try.prog 52 = true := by kernel_rfl
theorem fOk81 : fnOk Try.prog 81 = true := by kernel_rfl
theorem fOk53 : fnOk Try.prog 53 = true := by kernel_rfl
theorem tIsSl114 : tySlice Try.prog 114 = true := by kernel_rfl
theorem fOk58 : fnOk Try.prog 58 = true := by kernel_rfl
theorem tF78_1 : tyF Try.prog 78 1 4 = true := by kernel_rfl
theorem tC75 : tyC Try.prog 75 = true := by kernel_rfl
theorem tZ43 : zeroCells Try.prog 43 = some [.string ⟨#[]⟩, .int .i64 0] := by kernel_rfl
theorem tPl43 : tyPlaces Try.prog 43 = some [(0, 1), (1, 1)] := by kernel_rfl
theorem tZ124 : zeroCells Try.prog 124 = some [.string ⟨#[]⟩, .int .i64 0, .slice none 0 0] := by kernel_rfl
theorem tPl124 : tyPlaces Try.prog 124 = some [(0, 2), (2, 1)] := by kernel_rfl
theorem tMap75 : tyMap Try.prog 75 9 122 = true := by kernel_rfl
theorem tZo122 : (Try.prog.info? 122).bind (·.zero) = some (.slice none 0 0) := by kernel_rfl
theorem tEl122 : tyEl Try.prog 122 124 3 48 = true := by kernel_rfl
theorem tIsSl122 : tySlice Try.prog 122 = true := by kernel_rfl
theorem tA78 : tyA Try.prog 78 6 = true := by kernel_rfl
theorem fOk35 : fnOk Try.prog 35 = true := by kernel_rfl
theorem tZ74 : zeroCells Try.prog 74 = some [.map none, .map none] := by kernel_rfl
theorem tPl74 : tyPlaces Try.prog 74 = some [(0, 1), (1, 1)] := by kernel_rfl
theorem tS74 : tyS Try.prog 74 2 = true := by kernel_rfl
theorem tA74 : tyA Try.prog 74 2 = true := by kernel_rfl
theorem tF78_0 : tyF Try.prog 78 0 0 = true := by kernel_rfl
theorem tF74_0 : tyF Try.prog 74 0 0 = true := by kernel_rfl
theorem tFC69_3 : tyFC Try.prog 69 3 = true := by kernel_rfl
theorem tF74_1 : tyF Try.prog 74 1 1 = true := by kernel_rfl
theorem tSl122 : tySl Try.prog 122 3 = true := by kernel_rfl
theorem tA124 : tyA Try.prog 124 3 = true := by kernel_rfl
theorem tS124 : tyS Try.prog 124 3 = true := by kernel_rfl
theorem tF124_1 : tyF Try.prog 124 1 2 = true := by kernel_rfl
theorem tC114 : tyC Try.prog 114 = true := by kernel_rfl
theorem tSl114 : tySl Try.prog 114 2 = true := by kernel_rfl
theorem tA117 : tyA Try.prog 117 2 = true := by kernel_rfl
theorem tS117 : tyS Try.prog 117 2 = true := by kernel_rfl
theorem tF117_1 : tyF Try.prog 117 1 1 = true := by kernel_rfl
theorem tF117_0 : tyF Try.prog 117 0 0 = true := by kernel_rfl
theorem fOk73 : fnOk Try.prog 73 = true := by kernel_rfl
theorem fOk36 : fnOk Try.prog 36 = true := by kernel_rfl
theorem tFC74_0 : tyFC Try.prog 74 0 = true := by kernel_rfl
theorem fOk72 : fnOk Try.prog 72 = true := by kernel_rfl
theorem fOk34 : fnOk Try.prog 34 = true := by kernel_rfl
theorem fOk10 : fnOk Try.prog 10 = true := by kernel_rfl
theorem fOk11 : fnOk Try.prog 11 = true := by kernel_rfl
theorem fOk12 : fnOk Try.prog 12 = true := by kernel_rfl
theorem fOk19 : fnOk Try.prog 19 = true := by kernel_rfl
theorem tFC74_1 : tyFC Try.prog 74 1 = true := by kernel_rfl
theorem fOk20 : fnOk Try.prog 20 = true := by kernel_rfl
theorem fOk21 : fnOk Try.prog 21 = true := by kernel_rfl
theorem tFC69_1 : tyFC Try.prog 69 1 = true := by kernel_rfl
theorem fOk22 : fnOk Try.prog 22 = true := by kernel_rfl
theorem fOk15 : fnOk Try.prog 15 = true := by kernel_rfl
theorem tS43 : tyS Try.prog 43 2 = true := by kernel_rfl
theorem tS9 : tyS Try.prog 9 1 = true := by kernel_rfl
theorem fOk46 : fnOk Try.prog 46 = true := by kernel_rfl
theorem fOk48 : fnOk Try.prog 48 = true := by kernel_rfl
theorem fOk47 : fnOk Try.prog 47 = true := by kernel_rfl
theorem fOk23 : fnOk Try.prog 23 = true := by kernel_rfl
theorem tPl94 : tyPlaces Try.prog 94 = some [(0, 1), (1, 1)] := by kernel_rfl
theorem fOk51 : fnOk Try.prog 51 = true := by kernel_rfl
theorem fOk24 : fnOk Try.prog 24 = true := by kernel_rfl
theorem tA43 : tyA Try.prog 43 2 = true := by kernel_rfl
theorem tF43_0 : tyF Try.prog 43 0 0 = true := by kernel_rfl
theorem tF43_1 : tyF Try.prog 43 1 1 = true := by kernel_rfl
theorem fOk83 : fnOk Try.prog 83 = true := by kernel_rfl
theorem fOk84 : fnOk Try.prog 84 = true := by kernel_rfl
theorem fOk56 : fnOk Try.prog 56 = true := by kernel_rfl
theorem fOk55 : fnOk Try.prog 55 = true := by kernel_rfl
theorem fOk25 : fnOk Try.prog 25 = true := by kernel_rfl
theorem fOk57 : fnOk Try.prog 57 = true := by kernel_rfl
theorem fOk26 : fnOk Try.prog 26 = true := by kernel_rfl
theorem tB4 : tyB Try.prog 4 = true := by kernel_rfl
theorem tS51 : tyS Try.prog 51 3 = true := by kernel_rfl
theorem tA51 : tyA Try.prog 51 3 = true := by kernel_rfl
theorem fOk37 : fnOk Try.prog 37 = true := by kernel_rfl
theorem tF51_0 : tyF Try.prog 51 0 0 = true := by kernel_rfl
theorem tF51_2 : tyF Try.prog 51 2 2 = true := by kernel_rfl
theorem tC49 : tyC Try.prog 49 = true := by kernel_rfl
theorem tIsSl49 : tySlice Try.prog 49 = true := by kernel_rfl
theorem tSl49 : tySl Try.prog 49 2 = true := by kernel_rfl
theorem tA126 : tyA Try.prog 126 2 = true := by kernel_rfl
theorem tZ126 : zeroCells Try.prog 126 = some [.string ⟨#[]⟩, .string ⟨#[]⟩] := by kernel_rfl
theorem tS126 : tyS Try.prog 126 2 = true := by kernel_rfl
theorem tF126_1 : tyF Try.prog 126 1 1 = true := by kernel_rfl
theorem tF126_0 : tyF Try.prog 126 0 0 = true := by kernel_rfl
theorem fOk85 : fnOk Try.prog 85 = true := by kernel_rfl
theorem tF51_1 : tyF Try.prog 51 1 1 = true := by kernel_rfl
theorem tC48 : tyC Try.prog 48 = true := by kernel_rfl
theorem tIsSl48 : tySlice Try.prog 48 = true := by kernel_rfl
theorem tSl48 : tySl Try.prog 48 3 = true := by kernel_rfl
theorem tA121 : tyA Try.prog 121 3 = true := by kernel_rfl
theorem tZ121 : zeroCells Try.prog 121 = some [.string ⟨#[]⟩, .int .i64 0, .string ⟨#[]⟩] := by kernel_rfl
theorem tS121 : tyS Try.prog 121 3 = true := by kernel_rfl
theorem tF121_0 : tyF Try.prog 121 0 0 = true := by kernel_rfl
theorem fOk86 : fnOk Try.prog 86 = true := by kernel_rfl
theorem tF121_1 : tyF Try.prog 121 1 2 = true := by kernel_rfl
theorem fOk88 : fnOk Try.prog 88 = true := by kernel_rfl
theorem fOk117 : fnOk Try.prog 117 = true := by kernel_rfl
theorem fOk59 : fnOk Try.prog 59 = true := by kernel_rfl
theorem fOk27 : fnOk Try.prog 27 = true := by kernel_rfl
theorem fOk60 : fnOk Try.prog 60 = true := by kernel_rfl
theorem tF124_0 : tyF Try.prog 124 0 0 = true := by kernel_rfl
theorem fOk28 : fnOk Try.prog 28 = true := by kernel_rfl
theorem tIsSl54 : tySlice Try.prog 54 = true := by kernel_rfl
theorem tSl54 : tySl Try.prog 54 1 = true := by kernel_rfl
theorem tC128 : tyC Try.prog 128 = true := by kernel_rfl
theorem tIsSl128 : tySlice Try.prog 128 = true := by kernel_rfl
theorem tSl128 : tySl Try.prog 128 3 = true := by kernel_rfl
theorem tA131 : tyA Try.prog 131 3 = true := by kernel_rfl
theorem tZ131 : zeroCells Try.prog 131 = some [.string ⟨#[]⟩, .slice none 0 0, .slice none 0 0] := by kernel_rfl
theorem tS131 : tyS Try.prog 131 3 = true := by kernel_rfl
theorem tF131_0 : tyF Try.prog 131 0 0 = true := by kernel_rfl
theorem tF131_1 : tyF Try.prog 131 1 1 = true := by kernel_rfl
theorem tF131_2 : tyF Try.prog 131 2 2 = true := by kernel_rfl
theorem tC129 : tyC Try.prog 129 = true := by kernel_rfl
theorem tIsSl129 : tySlice Try.prog 129 = true := by kernel_rfl
theorem tSl129 : tySl Try.prog 129 2 = true := by kernel_rfl
theorem tA146 : tyA Try.prog 146 2 = true := by kernel_rfl
theorem tZ146 : zeroCells Try.prog 146 = some [.string ⟨#[]⟩, .string ⟨#[]⟩] := by kernel_rfl
theorem tS146 : tyS Try.prog 146 2 = true := by kernel_rfl
theorem tF146_0 : tyF Try.prog 146 0 0 = true := by kernel_rfl
theorem tF146_1 : tyF Try.prog 146 1 1 = true := by kernel_rfl
theorem fOk119 : fnOk Try.prog 119 = true := by kernel_rfl
theorem fOk118 : fnOk Try.prog 118 = true := by kernel_rfl
theorem fOk90 : fnOk Try.prog 90 = true := by kernel_rfl
theorem tMap127 : tyMap Try.prog 127 9 131 = true := by kernel_rfl
theorem tZo131 : (Try.prog.info? 131).bind (·.zero) = some (.agg #[.string ⟨#[]⟩, .slice none 0 0, .slice none 0 0]) := by kernel_rfl
theorem fOk61 : fnOk Try.prog 61 = true := by kernel_rfl
theorem tS3 : tyS Try.prog 3 1 = true := by kernel_rfl
theorem fOk62 : fnOk Try.prog 62 = true := by kernel_rfl
theorem fOk29 : fnOk Try.prog 29 = true := by kernel_rfl
theorem fOk64 : fnOk Try.prog 64 = true := by kernel_rfl
theorem tZ143 : zeroCells Try.prog 143 = some [.map none, .slice none 0 0] := by kernel_rfl
theorem tPl143 : tyPlaces Try.prog 143 = some [(0, 1), (1, 1)] := by kernel_rfl
theorem tS143 : tyS Try.prog 143 2 = true := by kernel_rfl
theorem tF143_0 : tyF Try.prog 143 0 0 = true := by kernel_rfl
theorem tF143_1 : tyF Try.prog 143 1 1 = true := by kernel_rfl
theorem tS25 : tyS Try.prog 25 1 = true := by kernel_rfl
theorem fOk66 : fnOk Try.prog 66 = true := by kernel_rfl
theorem fOk30 : fnOk Try.prog 30 = true := by kernel_rfl
def tt : TT := [(3, [.C, .U, .I .i64, .S 1]), (4, [.C, .S 1, .B]), (9, [.C, .Str, .Fn, .S 1]), (10, [.Fn]), (11, [.Fn]), (12, [.Fn]), (15, [.Fn]), (16, [.Fn]), (19, [.Fn]), (20, [.Fn]), (21, [.Fn]), (22, [.C, .Sn, .Sl 2, .Fn]), (23, [.C, .Sn, .Sl 2, .Fn]), (24, [.C, .Sn, .Sl 4, .Fn]), (25, [.Sn, .Sl 1, .El 9 1 16, .C, .Fn, .S 1]), (26, [.Fn]), (27, [.S 4, .A 4, .F 0 0, .F 1 1, .F 2 2, .F 3 3, .Fn]), (28, [.Sn, .Sl 1, .C, .Fn]), (29, [.Fn]), (30, [.Fn]), (31, [.Fn]), (32, [.Fn]), (33, [.Fn]), (34, [.Fn]), (35, [.Fn]), (36, [.Fn]), (37, [.Fn]), (41, [.Fn]), (43, [.Z 2 [.string ⟨#[]⟩, .int .i64 0], .Pl [(0, 1), (1, 1)], .S 2, .A 2, .F 0 0, .F 1 1]), (44, [.Fn]), (46, [.Fn]), (47, [.Fn]), (48, [.Fn, .C, .Sn, .Sl 3]), (49, [.Fn, .C, .Sn, .Sl 2]), (50, [.Fn]), (51, [.Fn, .S 3, .A 3, .F 0 0, .F 2 2, .F 1 1]), (52, [.Fn]), (53, [.Fn]), (54, [.Fn, .Sn, .Sl 1]), (55, [.Fn]), (56, [.Fn]), (57, [.C, .Fn]), (58, [.Fn]), (59, [.Fn]), (60, [.C, .Fn]), (61, [.C, .Sn, .Sl 2, .S 1]), (62, [.C, .El 3 1 8, .Sn, .S 1, .Sl 1, .Fn]), (63, [.Fn]), (64, [.Z 7 [.pointer none, .slice none 0 0, .slice none 0 0, .map none, .slice none 0 0, .slice none 0 0, .slice none 0 0], .Pl [(0, 1), (1, 1), (2, 1), (3, 1), (4, 1), (5, 1), (6, 1)], .S 7, .F 1 1, .F 6 6, .F 2 2, .F 0 0, .F 4 4, .F 3 3, .Fn]), (65, [.Fn]), (67, [.C, .Sn, .Sl 4, .Fn]), (69, [.A 4, .Z 4 [.string ⟨#[]⟩, .string ⟨#[]⟩, .slice none 0 0, .slice none 0 0], .S 4, .F 0 0, .F 1 1, .F 2 2, .F 3 3, .Pl [(0, 1), (1, 1), (2, 1), (3, 1)], .FC 3, .FC 1]), (71, [.Fn]), (72, [.C, .Fn]), (73, [.Fn]), (74, [.Z 2 [.map none, .map none], .Pl [(0, 1), (1, 1)], .S 2, .A 2, .F 0 0, .F 1 1, .FC 0, .FC 1]), (75, [.C]), (76, [.C]), (77, [.Fn]), (78, [.Fn, .Z 6 [.slice none 0 0, .slice none 0 0, .slice none 0 0, .slice none 0 0, .map none, .map none], .Pl [(0, 4), (4, 1), (5, 1)], .S 6, .F 2 5, .F 1 4, .A 6, .F 0 0]), (79, [.Fn]), (80, [.Fn]), (81, [.Fn]), (82, [.A 4, .Z 4 [.int .i64 0, .string ⟨#[]⟩, .string ⟨#[]⟩, .string ⟨#[]⟩], .S 4, .F 0 0, .F 1 1, .F 2 2, .F 3 3, .Pl [(0, 1), (1, 1), (2, 1), (3, 1)], .Fn]), (85, [.C, .Fn]), (86, [.C, .Fn]), (87, [.Fn]), (88, [.Z 9 [.slice none 0 0, .slice none 0 0, .slice none 0 0, .slice none 0 0, .map none, .map none, .map none, .map none, .bool false], .Pl [(0, 4), (4, 1), (5, 1), (6, 1), (7, 1), (8, 1)], .S 9, .F 1 4, .F 2 5, .F 3 6, .F 4 7, .F 0 0, .F 5 8, .Fn]), (90, [.Fn]), (91, [.Fn]), (92, [.C, .Sn, .Sl 2, .Fn]), (93, [.Fn]), (94, [.A 2, .Z 2 [.string ⟨#[]⟩, .slice none 0 0], .S 2, .F 0 0, .F 1 1, .Pl [(0, 1), (1, 1)]]), (101, [.A 2, .Z 2 [.string ⟨#[]⟩, .slice none 0 0], .S 2, .F 0 0, .F 1 1, .Pl [(0, 1), (1, 1)]]), (105, [.Fn]), (106, [.Fn]), (107, [.Fn]), (108, [.Fn]), (109, [.Fn]), (110, [.Fn]), (111, [.Fn]), (112, [.Fn]), (113, [.Fn]), (114, [.Fn, .El 117 2 32, .Sn, .C, .Sl 2]), (116, [.Fn]), (117, [.Z 2 [.string ⟨#[]⟩, .string ⟨#[]⟩], .Pl [(0, 1), (1, 1)], .A 2, .S 2, .F 1 1, .F 0 0, .Fn]), (119, [.Fn]), (120, [.Fn]), (121, [.A 3, .Z 3 [.string ⟨#[]⟩, .int .i64 0, .string ⟨#[]⟩], .S 3, .F 0 0, .F 1 2]), (122, [.Sn, .Sl 3]), (124, [.Z 3 [.string ⟨#[]⟩, .int .i64 0, .slice none 0 0], .Pl [(0, 2), (2, 1)], .A 3, .S 3, .F 1 2, .F 0 0]), (126, [.Fn, .A 2, .Z 2 [.string ⟨#[]⟩, .string ⟨#[]⟩], .S 2, .F 1 1, .F 0 0]), (127, [.Fn]), (128, [.Fn, .C, .Sn, .Sl 3]), (129, [.C, .Sn, .Sl 2]), (131, [.A 3, .Z 3 [.string ⟨#[]⟩, .slice none 0 0, .slice none 0 0], .S 3, .F 0 0, .F 1 1, .F 2 2]), (136, [.C]), (138, [.Z 3 [.map none, .map none, .map none], .Pl [(0, 1), (1, 1), (2, 1)], .S 3, .F 0 0, .F 1 1, .F 2 2, .A 3]), (143, [.Z 2 [.map none, .slice none 0 0], .Pl [(0, 1), (1, 1)], .S 2, .F 0 0, .F 1 1]), (146, [.A 2, .Z 2 [.string ⟨#[]⟩, .string ⟨#[]⟩], .S 2, .F 0 0, .F 1 1]), (157, [.I .u64, .U]), (158, [.C]), (160, [.Z 4 [.bool false, .map none, .map none, .map none], .Pl [(0, 1), (1, 1), (2, 1), (3, 1)], .S 4, .F 1 1, .F 2 2, .F 3 3, .A 4, .F 0 0]), (165, [.Z 8 [.slice none 0 0, .slice none 0 0, .slice none 0 0, .slice none 0 0, .map none, .map none, .map none, .bool false], .Pl [(0, 4), (4, 3), (7, 1)], .S 8, .F 0 0, .A 8, .F 2 7, .F 1 4]), (180, [.A 2, .Z 2 [.string ⟨#[]⟩, .string ⟨#[]⟩], .S 2, .F 0 0, .F 1 1, .Pl [(0, 1), (1, 1)]]), (198, [.A 2, .Z 2 [.string ⟨#[]⟩, .string ⟨#[]⟩], .S 2, .F 0 0, .F 1 1])]
theorem ok : TTok Try.prog tt := tt_all ⟨⟨tC3, tUn3, tI3, tS3, trivial⟩, ⟨tC4, tS4, tB4, trivial⟩, ⟨tC9, tStr9, fOk9, tS9, trivial⟩, ⟨fOk10, trivial⟩, ⟨fOk11, trivial⟩, ⟨fOk12, trivial⟩, ⟨fOk15, trivial⟩, ⟨fOk16, trivial⟩, ⟨fOk19, trivial⟩, ⟨fOk20, trivial⟩, ⟨fOk21, trivial⟩, ⟨tC22, tIsSl22, tSl22, fOk22, trivial⟩, ⟨tC23, tIsSl23, tSl23, fOk23, trivial⟩, ⟨tC24, tIsSl24, tSl24, fOk24, trivial⟩, ⟨tIsSl25, tSl25, tEl25, tC25, fOk25, tS25, trivial⟩, ⟨fOk26, trivial⟩, ⟨tS27, tA27, tF27_0, tF27_1, tF27_2, tF27_3, fOk27, trivial⟩, ⟨tIsSl28, tSl28, tC28, fOk28, trivial⟩, ⟨fOk29, trivial⟩, ⟨fOk30, trivial⟩, ⟨fOk31, trivial⟩, ⟨fOk32, trivial⟩, ⟨fOk33, trivial⟩, ⟨fOk34, trivial⟩, ⟨fOk35, trivial⟩, ⟨fOk36, trivial⟩, ⟨fOk37, trivial⟩, ⟨fOk41, trivial⟩, ⟨⟨tZ43, rfl⟩, tPl43, tS43, tA43, tF43_0, tF43_1, trivial⟩, ⟨fOk44, trivial⟩, ⟨fOk46, trivial⟩, ⟨fOk47, trivial⟩, ⟨fOk48, tC48, tIsSl48, tSl48, trivial⟩, ⟨fOk49, tC49, tIsSl49, tSl49, trivial⟩, ⟨fOk50, trivial⟩, ⟨fOk51, tS51, tA51, tF51_0, tF51_2, tF51_1, trivial⟩, ⟨fOk52, trivial⟩, ⟨fOk53, trivial⟩, ⟨fOk54, tIsSl54, tSl54, trivial⟩, ⟨fOk55, trivial⟩, ⟨fOk56, trivial⟩, ⟨tC57, fOk57, trivial⟩, ⟨fOk58, trivial⟩, ⟨fOk59, trivial⟩, ⟨tC60, fOk60, trivial⟩, ⟨tC61, tIsSl61, tSl61, tS61, trivial⟩, ⟨tC62, tEl62, tIsSl62, tS62, tSl62, fOk62, trivial⟩, ⟨fOk63, trivial⟩, ⟨⟨tZ64, rfl⟩, tPl64, tS64, tF64_1, tF64_6, tF64_2, tF64_0, tF64_4, tF64_3, fOk64, trivial⟩, ⟨fOk65, trivial⟩, ⟨tC67, tIsSl67, tSl67, fOk67, trivial⟩, ⟨tA69, ⟨tZ69, rfl⟩, tS69, tF69_0, tF69_1, tF69_2, tF69_3, tPl69, tFC69_3, tFC69_1, trivial⟩, ⟨fOk71, trivial⟩, ⟨tC72, fOk72, trivial⟩, ⟨fOk73, trivial⟩, ⟨⟨tZ74, rfl⟩, tPl74, tS74, tA74, tF74_0, tF74_1, tFC74_0, tFC74_1, trivial⟩, ⟨tC75, trivial⟩, ⟨tC76, trivial⟩, ⟨fOk77, trivial⟩, ⟨fOk78, ⟨tZ78, rfl⟩, tPl78, tS78, tF78_2, tF78_1, tA78, tF78_0, trivial⟩, ⟨fOk79, trivial⟩, ⟨fOk80, trivial⟩, ⟨fOk81, trivial⟩, ⟨tA82, ⟨tZ82, rfl⟩, tS82, tF82_0, tF82_1, tF82_2, tF82_3, tPl82, fOk82, trivial⟩, ⟨tC85, fOk85, trivial⟩, ⟨tC86, fOk86, trivial⟩, ⟨fOk87, trivial⟩, ⟨⟨tZ88, rfl⟩, tPl88, tS88, tF88_1, tF88_2, tF88_3, tF88_4, tF88_0, tF88_5, fOk88, trivial⟩, ⟨fOk90, trivial⟩, ⟨fOk91, trivial⟩, ⟨tC92, tIsSl92, tSl92, fOk92, trivial⟩, ⟨fOk93, trivial⟩, ⟨tA94, ⟨tZ94, rfl⟩, tS94, tF94_0, tF94_1, tPl94, trivial⟩, ⟨tA101, ⟨tZ101, rfl⟩, tS101, tF101_0, tF101_1, tPl101, trivial⟩, ⟨fOk105, trivial⟩, ⟨fOk106, trivial⟩, ⟨fOk107, trivial⟩, ⟨fOk108, trivial⟩, ⟨fOk109, trivial⟩, ⟨fOk110, trivial⟩, ⟨fOk111, trivial⟩, ⟨fOk112, trivial⟩, ⟨fOk113, trivial⟩, ⟨fOk114, tEl114, tIsSl114, tC114, tSl114, trivial⟩, ⟨fOk116, trivial⟩, ⟨⟨tZ117, rfl⟩, tPl117, tA117, tS117, tF117_1, tF117_0, fOk117, trivial⟩, ⟨fOk119, trivial⟩, ⟨fOk120, trivial⟩, ⟨tA121, ⟨tZ121, rfl⟩, tS121, tF121_0, tF121_1, trivial⟩, ⟨tIsSl122, tSl122, trivial⟩, ⟨⟨tZ124, rfl⟩, tPl124, tA124, tS124, tF124_1, tF124_0, trivial⟩, ⟨fOk126, tA126, ⟨tZ126, rfl⟩, tS126, tF126_1, tF126_0, trivial⟩, ⟨fOk127, trivial⟩, ⟨fOk128, tC128, tIsSl128, tSl128, trivial⟩, ⟨tC129, tIsSl129, tSl129, trivial⟩, ⟨tA131, ⟨tZ131, rfl⟩, tS131, tF131_0, tF131_1, tF131_2, trivial⟩, ⟨tC136, trivial⟩, ⟨⟨tZ138, rfl⟩, tPl138, tS138, tF138_0, tF138_1, tF138_2, tA138, trivial⟩, ⟨⟨tZ143, rfl⟩, tPl143, tS143, tF143_0, tF143_1, trivial⟩, ⟨tA146, ⟨tZ146, rfl⟩, tS146, tF146_0, tF146_1, trivial⟩, ⟨tI157, tUn157, trivial⟩, ⟨tC158, trivial⟩, ⟨⟨tZ160, rfl⟩, tPl160, tS160, tF160_1, tF160_2, tF160_3, tA160, tF160_0, trivial⟩, ⟨⟨tZ165, rfl⟩, tPl165, tS165, tF165_0, tA165, tF165_2, tF165_1, trivial⟩, ⟨tA180, ⟨tZ180, rfl⟩, tS180, tF180_0, tF180_1, tPl180, trivial⟩, ⟨tA198, ⟨tZ198, rfl⟩, tS198, tF198_0, tF198_1, trivial⟩, trivial⟩
instance {N : Nat} {w : World} {m : Mem} {o : Nat → Prop} {p : Nat} {l : Nat → Option (Option (Nat × Cap))} {g : Gl} {h : GlOk g m} : TC ⟨Try.prog, N, w, m, o, p, l, g, h⟩ tt := ⟨ok⟩
end Go.Proofs.Ytpbkggamiipdmaa
