/- Part of the proof: Z6T. -/
import Derived.Test.YtpbkggamiipdmaaGreatR3PvZ
import Derived.Test.YtpbkggamiipdmaaGreatR3ZA
import Derived.Test.YtpbkggamiipdmaaGreatR3WA
import Derived.Test.YtpbkggamiipdmaaGreatR3LM
import Derived.Test.YtpbkggamiipdmaaGreatR3DO
import Derived.Test.YtpbkggamiipdmaaGreatProg
import Derived.KernelRfl
namespace Go.Proofs.YtpbkggamiipdmaaGreat
open Go Go.Pv
set_option linter.unusedVariables false
set_option maxRecDepth 100000
theorem mixed : Tryz.prog.follows .mixedOrders = true := by kernel_rfl
structure TIface where
  Name : (List UInt8)
  Methods : (List (List UInt8))
  deriving DecidableEq
structure TMethod where
  Name : (List UInt8)
  Func : (List UInt8)
  deriving DecidableEq
structure TType where
  Name : (List UInt8)
  Methods : (List TMethod)
  deriving DecidableEq
structure TCall where
  Kind : Int
  Target : (List UInt8)
  Method : (List UInt8)
  Feature : (List UInt8)
  deriving DecidableEq
structure TFunc where
  Name : (List UInt8)
  Component : (List UInt8)
  Calls : (List TCall)
  Makes : (List (List UInt8))
  deriving DecidableEq
structure TGraph where
  Ifaces : (List TIface)
  Types : (List TType)
  Funcs : (List TFunc)
  Entries : (List (List UInt8))
  deriving DecidableEq
structure TSite where
  Func : (List UInt8)
  Call : Int
  deriving DecidableEq
structure Treach_checker where
  loose : Bool
  ifaces : (List ((List UInt8) × TIface))
  types : (List ((List UInt8) × Bool))
  funcs : (List ((List UInt8) × Bool))
  deriving DecidableEq
structure Treach_world where
  g : TGraph
  funcs : (List ((List UInt8) × Int))
  types : (List ((List UInt8) × Int))
  fitting : (List ((List UInt8) × (List Int)))
  on : (List ((List UInt8) × Bool))
  made : Bool
  deriving DecidableEq
structure Tprovenderref6_names where
  ifaces : (List ((List UInt8) × (List ((List UInt8) × Bool))))
  types : (List ((List UInt8) × Bool))
  funcs : (List ((List UInt8) × Bool))
  deriving DecidableEq
structure Tprovenderref6_checker where
  g : TGraph
  n : Tprovenderref6_names
  loose : Bool
  deriving DecidableEq
def encI_i64 (x : Int) : List V := [(iV x)]
theorem imms_encI_i64 (x : Int) : Imms (encI_i64 x) := (.cons (Imm.con _) .nil)
theorem one_encI_i64 (x : Int) : (encI_i64 x).all oneV = true := rfl
instance : EI encI_i64 := ⟨imms_encI_i64, one_encI_i64⟩
def encS (x : (List UInt8)) : List V := [(sV x)]
theorem imms_encS (x : (List UInt8)) : Imms (encS x) := (.cons (Imm.con _) .nil)
theorem one_encS (x : (List UInt8)) : (encS x).all oneV = true := rfl
instance : EI encS := ⟨imms_encS, one_encS⟩
def encTIface (x : TIface) : List V := [(sV x.Name), (V.lst 1 (x.Methods.map encS))]
theorem imms_encTIface (x : TIface) : Imms (encTIface x) := (.cons (Imm.con _) (.cons (Imm.lst _ _) .nil))
theorem one_encTIface (x : TIface) : (encTIface x).all oneV = true := rfl
instance : EI encTIface := ⟨imms_encTIface, one_encTIface⟩
@[simp] theorem len_encTIface (x : TIface) : (encTIface x).length = 2 := rfl
def encTMethod (x : TMethod) : List V := [(sV x.Name), (sV x.Func)]
theorem imms_encTMethod (x : TMethod) : Imms (encTMethod x) := (.cons (Imm.con _) (.cons (Imm.con _) .nil))
theorem one_encTMethod (x : TMethod) : (encTMethod x).all oneV = true := rfl
instance : EI encTMethod := ⟨imms_encTMethod, one_encTMethod⟩
@[simp] theorem len_encTMethod (x : TMethod) : (encTMethod x).length = 2 := rfl
def encTType (x : TType) : List V := [(sV x.Name), (V.lst 2 (x.Methods.map encTMethod))]
theorem imms_encTType (x : TType) : Imms (encTType x) := (.cons (Imm.con _) (.cons (Imm.lst _ _) .nil))
theorem one_encTType (x : TType) : (encTType x).all oneV = true := rfl
instance : EI encTType := ⟨imms_encTType, one_encTType⟩
@[simp] theorem len_encTType (x : TType) : (encTType x).length = 2 := rfl
def encTCall (x : TCall) : List V := [(iV x.Kind), (sV x.Target), (sV x.Method), (sV x.Feature)]
theorem imms_encTCall (x : TCall) : Imms (encTCall x) := (.cons (Imm.con _) (.cons (Imm.con _) (.cons (Imm.con _) (.cons (Imm.con _) .nil))))
theorem one_encTCall (x : TCall) : (encTCall x).all oneV = true := rfl
instance : EI encTCall := ⟨imms_encTCall, one_encTCall⟩
@[simp] theorem len_encTCall (x : TCall) : (encTCall x).length = 4 := rfl
def encTFunc (x : TFunc) : List V := [(sV x.Name), (sV x.Component), (V.lst 4 (x.Calls.map encTCall)), (V.lst 1 (x.Makes.map encS))]
theorem imms_encTFunc (x : TFunc) : Imms (encTFunc x) := (.cons (Imm.con _) (.cons (Imm.con _) (.cons (Imm.lst _ _) (.cons (Imm.lst _ _) .nil))))
theorem one_encTFunc (x : TFunc) : (encTFunc x).all oneV = true := rfl
instance : EI encTFunc := ⟨imms_encTFunc, one_encTFunc⟩
@[simp] theorem len_encTFunc (x : TFunc) : (encTFunc x).length = 4 := rfl
def encTGraph (x : TGraph) : List V := [(V.lst 2 (x.Ifaces.map encTIface)), (V.lst 2 (x.Types.map encTType)), (V.lst 4 (x.Funcs.map encTFunc)), (V.lst 1 (x.Entries.map encS))]
theorem imms_encTGraph (x : TGraph) : Imms (encTGraph x) := (.cons (Imm.lst _ _) (.cons (Imm.lst _ _) (.cons (Imm.lst _ _) (.cons (Imm.lst _ _) .nil))))
theorem one_encTGraph (x : TGraph) : (encTGraph x).all oneV = true := rfl
instance : EI encTGraph := ⟨imms_encTGraph, one_encTGraph⟩
@[simp] theorem len_encTGraph (x : TGraph) : (encTGraph x).length = 4 := rfl
def encTSite (x : TSite) : List V := [(sV x.Func), (iV x.Call)]
theorem imms_encTSite (x : TSite) : Imms (encTSite x) := (.cons (Imm.con _) (.cons (Imm.con _) .nil))
theorem one_encTSite (x : TSite) : (encTSite x).all oneV = true := rfl
instance : EI encTSite := ⟨imms_encTSite, one_encTSite⟩
@[simp] theorem len_encTSite (x : TSite) : (encTSite x).length = 2 := rfl
theorem eqp9 {d : Nat} : EqOk Tryz.prog (d + 1) 9 1 false (fun l => ∃ n, l = [.string n]) := eqOk_str (show Tryz.prog.underlying 9 = some (.string) by kernel_rfl) (show tyC Tryz.prog 9 = true by kernel_rfl)
theorem eqp3 {d : Nat} : EqOk Tryz.prog (d + 1) 3 1 false (fun l => ∃ n, l = [.int .i64 n]) := eqOk_int (show Tryz.prog.underlying 3 = some (.int .i64) by kernel_rfl) (show tyC Tryz.prog 3 = true by kernel_rfl)
def cv70 (x : TSite) : List Value := [str x.Func] ++ ([.int .i64 x.Call] ++ [])
theorem inj_cv70 (x y : TSite) (h : cv70 x = cv70 y) : x = y := by
  obtain ⟨h0, h⟩ := List.append_inj h rfl
  obtain ⟨h1, h⟩ := List.append_inj h rfl
  obtain ⟨a0, a1⟩ := x
  obtain ⟨b0, b1⟩ := y
  obtain rfl : a0 = b0 := inj_str _ _ (List.cons.inj h0).1
  obtain rfl : a1 = b1 := inj_int _ _ (List.cons.inj h1).1
  rfl
def isAgg70 (v : Value) : Prop := ∃ x : TSite, v = .agg (cv70 x).toArray
theorem inj_agg70 : ∀ a b : TSite, (Value.agg (cv70 a).toArray) = .agg (cv70 b).toArray → a = b := fun a b h => inj_cv70 a b (by simpa using congrArg Array.toList (Value.agg.inj h))
theorem eqp70 {d : Nat} : EqOk Tryz.prog (d + 2) 70 2 true (fun l => ∃ x : TSite, l = cv70 x) := (eqOk_struct (d := d + 1) (fs := [(Field.mk "Func" 9 0 false "" "" 0), (Field.mk "Call" 3 1 false "" "" 16)]) (by kernel_rfl) (by kernel_rfl) (by kernel_rfl) (by kernel_rfl) (eqF_cons eqp9 (by simp) rfl (by simp) (eqF_cons eqp3 (by simp) rfl (by simp) eqF_nil))).weaken (fun l ⟨x, hx⟩ => by subst hx; exact ⟨_, _, rfl, ⟨_, rfl⟩, ⟨_, _, rfl, ⟨_, rfl⟩, rfl⟩⟩)
theorem eqk70 : EqOk Tryz.prog 10000 70 2 true (fun l => ∃ x : TSite, l = cv70 x) := eqp70 (d := 9998)
def cv116 (x : TMethod) : List Value := [str x.Name] ++ ([str x.Func] ++ [])
theorem inj_cv116 (x y : TMethod) (h : cv116 x = cv116 y) : x = y := by
  obtain ⟨h0, h⟩ := List.append_inj h rfl
  obtain ⟨h1, h⟩ := List.append_inj h rfl
  obtain ⟨a0, a1⟩ := x
  obtain ⟨b0, b1⟩ := y
  obtain rfl : a0 = b0 := inj_str _ _ (List.cons.inj h0).1
  obtain rfl : a1 = b1 := inj_str _ _ (List.cons.inj h1).1
  rfl
theorem eqp116 {d : Nat} : EqOk Tryz.prog (d + 2) 116 2 true (fun l => ∃ x : TMethod, l = cv116 x) := (eqOk_struct (d := d + 1) (fs := [(Field.mk "Name" 9 0 false "" "" 0), (Field.mk "Func" 9 1 false "" "" 16)]) (by kernel_rfl) (by kernel_rfl) (by kernel_rfl) (by kernel_rfl) (eqF_cons eqp9 (by simp) rfl (by simp) (eqF_cons eqp9 (by simp) rfl (by simp) eqF_nil))).weaken (fun l ⟨x, hx⟩ => by subst hx; exact ⟨_, _, rfl, ⟨_, rfl⟩, ⟨_, _, rfl, ⟨_, rfl⟩, rfl⟩⟩)
theorem eqk116 : EqOk Tryz.prog 10000 116 2 true (fun l => ∃ x : TMethod, l = cv116 x) := eqp116 (d := 9998)
def cv109 (x : TCall) : List Value := [.int .i64 x.Kind] ++ ([str x.Target] ++ ([str x.Method] ++ ([str x.Feature] ++ [])))
theorem inj_cv109 (x y : TCall) (h : cv109 x = cv109 y) : x = y := by
  obtain ⟨h0, h⟩ := List.append_inj h rfl
  obtain ⟨h1, h⟩ := List.append_inj h rfl
  obtain ⟨h2, h⟩ := List.append_inj h rfl
  obtain ⟨h3, h⟩ := List.append_inj h rfl
  obtain ⟨a0, a1, a2, a3⟩ := x
  obtain ⟨b0, b1, b2, b3⟩ := y
  obtain rfl : a0 = b0 := inj_int _ _ (List.cons.inj h0).1
  obtain rfl : a1 = b1 := inj_str _ _ (List.cons.inj h1).1
  obtain rfl : a2 = b2 := inj_str _ _ (List.cons.inj h2).1
  obtain rfl : a3 = b3 := inj_str _ _ (List.cons.inj h3).1
  rfl
theorem eqp109 {d : Nat} : EqOk Tryz.prog (d + 2) 109 4 true (fun l => ∃ x : TCall, l = cv109 x) := (eqOk_struct (d := d + 1) (fs := [(Field.mk "Kind" 3 0 false "" "" 0), (Field.mk "Target" 9 1 false "" "" 8), (Field.mk "Method" 9 2 false "" "" 24), (Field.mk "Feature" 9 3 false "" "" 40)]) (by kernel_rfl) (by kernel_rfl) (by kernel_rfl) (by kernel_rfl) (eqF_cons eqp3 (by simp) rfl (by simp) (eqF_cons eqp9 (by simp) rfl (by simp) (eqF_cons eqp9 (by simp) rfl (by simp) (eqF_cons eqp9 (by simp) rfl (by simp) eqF_nil))))).weaken (fun l ⟨x, hx⟩ => by subst hx; exact ⟨_, _, rfl, ⟨_, rfl⟩, ⟨_, _, rfl, ⟨_, rfl⟩, ⟨_, _, rfl, ⟨_, rfl⟩, ⟨_, _, rfl, ⟨_, rfl⟩, rfl⟩⟩⟩⟩)
theorem eqk109 : EqOk Tryz.prog 10000 109 4 true (fun l => ∃ x : TCall, l = cv109 x) := eqp109 (d := 9998)
def encM9_3 (p : (List UInt8) × Int) : Value × V := (str p.1, (iV p.2))
abbrev encM9_3_val (v : Int) : V := (iV v)
theorem encM9_3_puts (xs : List ((List UInt8) × Int)) (k : (List UInt8)) (v : Int) : Puts (str k) (encM9_3_val v) (xs.map encM9_3) ((mput xs k v).map encM9_3) := puts_map (kv := fun k => str k) (ev := encM9_3_val) inj_str xs k v
theorem encM9_3_look (xs : List ((List UInt8) × Int)) (k : (List UInt8)) : Look (str k) (xs.map encM9_3) ((mget xs k).map encM9_3_val) := look_map (kv := fun k => str k) (ev := encM9_3_val) inj_str xs k
theorem encM9_3_imm {xs : List ((List UInt8) × Int)} : ∀ p, p ∈ xs.map encM9_3 → Imm p.2 := by
  intro p hp
  obtain ⟨x, _, rfl⟩ := List.mem_map.1 hp
  exact (Imm.con _)
instance : EM encM9_3 := ⟨fun _ => (Imm.con _)⟩
theorem encM9_3_good {xs : List ((List UInt8) × Int)} : ∀ p, p ∈ xs.map encM9_3 → isStr p.1 := by
  intro p hp
  obtain ⟨x, _, rfl⟩ := List.mem_map.1 hp
  exact ⟨_, rfl⟩
def encM9_165 (p : (List UInt8) × (List Int)) : Value × V := (str p.1, (V.lst 1 (p.2.map encI_i64)))
instance : EM encM9_165 := ⟨fun _ => (Imm.lst _ _)⟩
def encM9_4 (p : (List UInt8) × Bool) : Value × V := (str p.1, (bV p.2))
abbrev encM9_4_val (v : Bool) : V := (bV v)
theorem encM9_4_puts (xs : List ((List UInt8) × Bool)) (k : (List UInt8)) (v : Bool) : Puts (str k) (encM9_4_val v) (xs.map encM9_4) ((mput xs k v).map encM9_4) := puts_map (kv := fun k => str k) (ev := encM9_4_val) inj_str xs k v
theorem encM9_4_look (xs : List ((List UInt8) × Bool)) (k : (List UInt8)) : Look (str k) (xs.map encM9_4) ((mget xs k).map encM9_4_val) := look_map (kv := fun k => str k) (ev := encM9_4_val) inj_str xs k
theorem encM9_4_imm {xs : List ((List UInt8) × Bool)} : ∀ p, p ∈ xs.map encM9_4 → Imm p.2 := by
  intro p hp
  obtain ⟨x, _, rfl⟩ := List.mem_map.1 hp
  exact (Imm.con _)
theorem encM9_4_im (p : (List UInt8) × Bool) : Imm (encM9_4 p).2 := (Imm.con _)
instance : EM encM9_4 := ⟨fun _ => (Imm.con _)⟩
theorem encM9_4_good {xs : List ((List UInt8) × Bool)} : ∀ p, p ∈ xs.map encM9_4 → isStr p.1 := by
  intro p hp
  obtain ⟨x, _, rfl⟩ := List.mem_map.1 hp
  exact ⟨_, rfl⟩
def encTreach_world (x : Treach_world) : List V := [(V.lst 2 (x.g.Ifaces.map encTIface)), (V.lst 2 (x.g.Types.map encTType)), (V.lst 4 (x.g.Funcs.map encTFunc)), (V.lst 1 (x.g.Entries.map encS)), (V.imap (x.funcs.map encM9_3)), (V.imap (x.types.map encM9_3)), (V.imap (x.fitting.map encM9_165)), (V.imap (x.on.map encM9_4)), (bV x.made)]
theorem imms_encTreach_world (x : Treach_world) : Imms (encTreach_world x) := (.cons (Imm.lst _ _) (.cons (Imm.lst _ _) (.cons (Imm.lst _ _) (.cons (Imm.lst _ _) (.cons (Imm.imap _) (.cons (Imm.imap _) (.cons (Imm.imap _) (.cons (Imm.imap _) (.cons (Imm.con _) .nil)))))))))
theorem one_encTreach_world (x : Treach_world) : (encTreach_world x).all oneV = true := rfl
instance : EI encTreach_world := ⟨imms_encTreach_world, one_encTreach_world⟩
@[simp] theorem len_encTreach_world (x : Treach_world) : (encTreach_world x).length = 9 := rfl
def encM9_98 (p : (List UInt8) × TIface) : Value × V := (str p.1, (V.agg [(sV p.2.Name), (V.lst 1 (p.2.Methods.map encS))]))
abbrev encM9_98_val (v : TIface) : V := (V.agg [(sV v.Name), (V.lst 1 (v.Methods.map encS))])
theorem encM9_98_puts (xs : List ((List UInt8) × TIface)) (k : (List UInt8)) (v : TIface) : Puts (str k) (encM9_98_val v) (xs.map encM9_98) ((mput xs k v).map encM9_98) := puts_map (kv := fun k => str k) (ev := encM9_98_val) inj_str xs k v
theorem encM9_98_look (xs : List ((List UInt8) × TIface)) (k : (List UInt8)) : Look (str k) (xs.map encM9_98) ((mget xs k).map encM9_98_val) := look_map (kv := fun k => str k) (ev := encM9_98_val) inj_str xs k
theorem encM9_98_imm {xs : List ((List UInt8) × TIface)} : ∀ p, p ∈ xs.map encM9_98 → Imm p.2 := by
  intro p hp
  obtain ⟨x, _, rfl⟩ := List.mem_map.1 hp
  exact (Imm.agg (.cons (Imm.con _) (.cons (Imm.lst _ _) .nil)))
instance : EM encM9_98 := ⟨fun _ => (Imm.agg (.cons (Imm.con _) (.cons (Imm.lst _ _) .nil)))⟩
theorem encM9_98_good {xs : List ((List UInt8) × TIface)} : ∀ p, p ∈ xs.map encM9_98 → isStr p.1 := by
  intro p hp
  obtain ⟨x, _, rfl⟩ := List.mem_map.1 hp
  exact ⟨_, rfl⟩
def encTreach_checker (x : Treach_checker) : List V := [(bV x.loose), (V.imap (x.ifaces.map encM9_98)), (V.imap (x.types.map encM9_4)), (V.imap (x.funcs.map encM9_4))]
theorem imms_encTreach_checker (x : Treach_checker) : Imms (encTreach_checker x) := (.cons (Imm.con _) (.cons (Imm.imap _) (.cons (Imm.imap _) (.cons (Imm.imap _) .nil))))
theorem one_encTreach_checker (x : Treach_checker) : (encTreach_checker x).all oneV = true := rfl
instance : EI encTreach_checker := ⟨imms_encTreach_checker, one_encTreach_checker⟩
@[simp] theorem len_encTreach_checker (x : Treach_checker) : (encTreach_checker x).length = 4 := rfl
def encM9_89 (p : (List UInt8) × (List ((List UInt8) × Bool))) : Value × V := (str p.1, (V.imap (p.2.map encM9_4)))
abbrev encM9_89_val (v : (List ((List UInt8) × Bool))) : V := (V.imap (v.map encM9_4))
theorem encM9_89_look (xs : List ((List UInt8) × (List ((List UInt8) × Bool)))) (k : (List UInt8)) : Look (str k) (xs.map encM9_89) ((mget xs k).map encM9_89_val) := look_map (kv := fun k => str k) (ev := encM9_89_val) inj_str xs k
instance : EM encM9_89 := ⟨fun _ => (Imm.imap _)⟩
theorem encM9_89_good {xs : List ((List UInt8) × (List ((List UInt8) × Bool)))} : ∀ p, p ∈ xs.map encM9_89 → isStr p.1 := by
  intro p hp
  obtain ⟨x, _, rfl⟩ := List.mem_map.1 hp
  exact ⟨_, rfl⟩
def encTprovenderref6_names (x : Tprovenderref6_names) : List V := [(V.imap (x.ifaces.map encM9_89)), (V.imap (x.types.map encM9_4)), (V.imap (x.funcs.map encM9_4))]
theorem imms_encTprovenderref6_names (x : Tprovenderref6_names) : Imms (encTprovenderref6_names x) := (.cons (Imm.imap _) (.cons (Imm.imap _) (.cons (Imm.imap _) .nil)))
theorem one_encTprovenderref6_names (x : Tprovenderref6_names) : (encTprovenderref6_names x).all oneV = true := rfl
instance : EI encTprovenderref6_names := ⟨imms_encTprovenderref6_names, one_encTprovenderref6_names⟩
@[simp] theorem len_encTprovenderref6_names (x : Tprovenderref6_names) : (encTprovenderref6_names x).length = 3 := rfl
def encTprovenderref6_checker (x : Tprovenderref6_checker) : List V := [(V.lst 2 (x.g.Ifaces.map encTIface)), (V.lst 2 (x.g.Types.map encTType)), (V.lst 4 (x.g.Funcs.map encTFunc)), (V.lst 1 (x.g.Entries.map encS)), (V.imap (x.n.ifaces.map encM9_89)), (V.imap (x.n.types.map encM9_4)), (V.imap (x.n.funcs.map encM9_4)), (bV x.loose)]
theorem imms_encTprovenderref6_checker (x : Tprovenderref6_checker) : Imms (encTprovenderref6_checker x) := (.cons (Imm.lst _ _) (.cons (Imm.lst _ _) (.cons (Imm.lst _ _) (.cons (Imm.lst _ _) (.cons (Imm.imap _) (.cons (Imm.imap _) (.cons (Imm.imap _) (.cons (Imm.con _) .nil))))))))
theorem one_encTprovenderref6_checker (x : Tprovenderref6_checker) : (encTprovenderref6_checker x).all oneV = true := rfl
instance : EI encTprovenderref6_checker := ⟨imms_encTprovenderref6_checker, one_encTprovenderref6_checker⟩
@[simp] theorem len_encTprovenderref6_checker (x : Tprovenderref6_checker) : (encTprovenderref6_checker x).length = 8 := rfl
def encM9_387 (p : (List UInt8) × (List Int)) : Value × V := (str p.1, (V.dsl 3 1 (p.2.map encI_i64)))
theorem encM9_387_und (p : (List UInt8) × (List Int)) : (encM9_387 p).1 = (encM9_165 p).1 ∧ Und (encM9_387 p).2 (encM9_165 p).2 ∧ Keep (encM9_387 p).2 := ⟨rfl, und_rows imms_encI_i64 _, Keep.dsl _ _ _⟩
instance : EMK encM9_387 := ⟨fun p => (encM9_387_und p).2.2⟩
theorem encM9_387_good {xs : List ((List UInt8) × (List Int))} : ∀ p, p ∈ xs.map encM9_387 → isStr p.1 := by
  intro p hp
  obtain ⟨x, _, rfl⟩ := List.mem_map.1 hp
  exact ⟨_, rfl⟩
def encM70_4 (p : TSite × Bool) : Value × V := (.agg (cv70 p.1).toArray, (bV p.2))
abbrev encM70_4_val (v : Bool) : V := (bV v)
theorem encM70_4_puts (xs : List (TSite × Bool)) (k : TSite) (v : Bool) : Puts (.agg (cv70 k).toArray) (encM70_4_val v) (xs.map encM70_4) ((mput xs k v).map encM70_4) := puts_map (kv := fun k => .agg (cv70 k).toArray) (ev := encM70_4_val) inj_agg70 xs k v
theorem encM70_4_look (xs : List (TSite × Bool)) (k : TSite) : Look (.agg (cv70 k).toArray) (xs.map encM70_4) ((mget xs k).map encM70_4_val) := look_map (kv := fun k => .agg (cv70 k).toArray) (ev := encM70_4_val) inj_agg70 xs k
theorem encM70_4_imm {xs : List (TSite × Bool)} : ∀ p, p ∈ xs.map encM70_4 → Imm p.2 := by
  intro p hp
  obtain ⟨x, _, rfl⟩ := List.mem_map.1 hp
  exact (Imm.con _)
instance : EM encM70_4 := ⟨fun _ => (Imm.con _)⟩
theorem encM70_4_good {xs : List (TSite × Bool)} : ∀ p, p ∈ xs.map encM70_4 → (isAgg70) p.1 := by
  intro p hp
  obtain ⟨x, _, rfl⟩ := List.mem_map.1 hp
  exact ⟨_, rfl⟩
def encM9_388 (p : (List UInt8) × (List ((List UInt8) × Bool))) : Value × V := (str p.1, (V.dmp (p.2.map encM9_4)))
theorem encM9_388_und (p : (List UInt8) × (List ((List UInt8) × Bool))) : (encM9_388 p).1 = (encM9_89 p).1 ∧ Und (encM9_388 p).2 (encM9_89 p).2 ∧ Keep (encM9_388 p).2 := ⟨rfl, und_ents encM9_4_im _, Keep.dmp _⟩
instance : EMK encM9_388 := ⟨fun p => (encM9_388_und p).2.2⟩
theorem encM9_388_good {xs : List ((List UInt8) × (List ((List UInt8) × Bool)))} : ∀ p, p ∈ xs.map encM9_388 → isStr p.1 := by
  intro p hp
  obtain ⟨x, _, rfl⟩ := List.mem_map.1 hp
  exact ⟨_, rfl⟩
theorem tS27 : tyS Tryz.prog 27 4 = true := by kernel_rfl
theorem tA27 : tyA Tryz.prog 27 4 = true := by kernel_rfl
theorem tZ27 : zeroCells Tryz.prog 27 = some [.slice none 0 0, .slice none 0 0, .slice none 0 0, .slice none 0 0] := by kernel_rfl
theorem tZ124 : zeroCells Tryz.prog 124 = some [.bool false, .map none, .map none, .map none] := by kernel_rfl
theorem tPl124 : tyPlaces Tryz.prog 124 = some [(0, 1), (1, 1), (2, 1), (3, 1)] := by kernel_rfl
theorem tS124 : tyS Tryz.prog 124 4 = true := by kernel_rfl
theorem tF27_0 : tyF Tryz.prog 27 0 0 = true := by kernel_rfl
theorem tC22 : tyC Tryz.prog 22 = true := by kernel_rfl
theorem tIsSl22 : tySlice Tryz.prog 22 = true := by kernel_rfl
theorem tSl22 : tySl Tryz.prog 22 2 = true := by kernel_rfl
theorem tA98 : tyA Tryz.prog 98 2 = true := by kernel_rfl
theorem tZ98 : zeroCells Tryz.prog 98 = some [.string ⟨#[]⟩, .slice none 0 0] := by kernel_rfl
theorem tS98 : tyS Tryz.prog 98 2 = true := by kernel_rfl
theorem tF124_1 : tyF Tryz.prog 124 1 1 = true := by kernel_rfl
theorem tC122 : tyC Tryz.prog 122 = true := by kernel_rfl
theorem tF98_0 : tyF Tryz.prog 98 0 0 = true := by kernel_rfl
theorem tC9 : tyC Tryz.prog 9 = true := by kernel_rfl
theorem tMap122 : tyMap Tryz.prog 122 9 98 = true := by kernel_rfl
theorem tKey9 : KeyT Tryz.prog 9 isStr := keyT_str (by kernel_rfl)
theorem tF27_1 : tyF Tryz.prog 27 1 1 = true := by kernel_rfl
theorem tC23 : tyC Tryz.prog 23 = true := by kernel_rfl
theorem tIsSl23 : tySlice Tryz.prog 23 = true := by kernel_rfl
theorem tSl23 : tySl Tryz.prog 23 2 = true := by kernel_rfl
theorem tA104 : tyA Tryz.prog 104 2 = true := by kernel_rfl
theorem tZ104 : zeroCells Tryz.prog 104 = some [.string ⟨#[]⟩, .slice none 0 0] := by kernel_rfl
theorem tS104 : tyS Tryz.prog 104 2 = true := by kernel_rfl
theorem tF124_2 : tyF Tryz.prog 124 2 2 = true := by kernel_rfl
theorem tC89 : tyC Tryz.prog 89 = true := by kernel_rfl
theorem tF104_0 : tyF Tryz.prog 104 0 0 = true := by kernel_rfl
theorem tMap89 : tyMap Tryz.prog 89 9 4 = true := by kernel_rfl
theorem tF27_2 : tyF Tryz.prog 27 2 2 = true := by kernel_rfl
theorem tC24 : tyC Tryz.prog 24 = true := by kernel_rfl
theorem tIsSl24 : tySlice Tryz.prog 24 = true := by kernel_rfl
theorem tSl24 : tySl Tryz.prog 24 4 = true := by kernel_rfl
theorem tA94 : tyA Tryz.prog 94 4 = true := by kernel_rfl
theorem tZ94 : zeroCells Tryz.prog 94 = some [.string ⟨#[]⟩, .string ⟨#[]⟩, .slice none 0 0, .slice none 0 0] := by kernel_rfl
theorem tS94 : tyS Tryz.prog 94 4 = true := by kernel_rfl
theorem tF124_3 : tyF Tryz.prog 124 3 3 = true := by kernel_rfl
theorem tF94_0 : tyF Tryz.prog 94 0 0 = true := by kernel_rfl
theorem tA124 : tyA Tryz.prog 124 4 = true := by kernel_rfl
theorem fOk59 : fnOk Tryz.prog 59 = true := by kernel_rfl
theorem tStr9 : tyStr Tryz.prog 9 = true := by kernel_rfl
theorem fOk79 : fnOk Tryz.prog 79 = true := by kernel_rfl
theorem fOk173 : fnOk Tryz.prog 173 = true := by kernel_rfl
theorem tF98_1 : tyF Tryz.prog 98 1 1 = true := by kernel_rfl
theorem tC25 : tyC Tryz.prog 25 = true := by kernel_rfl
theorem tIsSl25 : tySlice Tryz.prog 25 = true := by kernel_rfl
theorem tSl25 : tySl Tryz.prog 25 1 = true := by kernel_rfl
theorem fOk127 : fnOk Tryz.prog 127 = true := by kernel_rfl
theorem tF104_1 : tyF Tryz.prog 104 1 1 = true := by kernel_rfl
theorem tC102 : tyC Tryz.prog 102 = true := by kernel_rfl
theorem tIsSl102 : tySlice Tryz.prog 102 = true := by kernel_rfl
theorem tSl102 : tySl Tryz.prog 102 2 = true := by kernel_rfl
theorem tA116 : tyA Tryz.prog 116 2 = true := by kernel_rfl
theorem tZ116 : zeroCells Tryz.prog 116 = some [.string ⟨#[]⟩, .string ⟨#[]⟩] := by kernel_rfl
theorem tS116 : tyS Tryz.prog 116 2 = true := by kernel_rfl
theorem tF116_0 : tyF Tryz.prog 116 0 0 = true := by kernel_rfl
theorem tF124_0 : tyF Tryz.prog 124 0 0 = true := by kernel_rfl
theorem tC4 : tyC Tryz.prog 4 = true := by kernel_rfl
theorem tF116_1 : tyF Tryz.prog 116 1 1 = true := by kernel_rfl
theorem tZo4 : (Tryz.prog.info? 4).bind (·.zero) = some (.bool false) := by kernel_rfl
theorem fOk128 : fnOk Tryz.prog 128 = true := by kernel_rfl
theorem tF94_1 : tyF Tryz.prog 94 1 1 = true := by kernel_rfl
theorem tF94_2 : tyF Tryz.prog 94 2 2 = true := by kernel_rfl
theorem tC92 : tyC Tryz.prog 92 = true := by kernel_rfl
theorem tIsSl92 : tySlice Tryz.prog 92 = true := by kernel_rfl
theorem tSl92 : tySl Tryz.prog 92 4 = true := by kernel_rfl
theorem tA109 : tyA Tryz.prog 109 4 = true := by kernel_rfl
theorem tZ109 : zeroCells Tryz.prog 109 = some [.int .i64 0, .string ⟨#[]⟩, .string ⟨#[]⟩, .string ⟨#[]⟩] := by kernel_rfl
theorem tS109 : tyS Tryz.prog 109 4 = true := by kernel_rfl
theorem tF109_0 : tyF Tryz.prog 109 0 0 = true := by kernel_rfl
theorem tC3 : tyC Tryz.prog 3 = true := by kernel_rfl
theorem tF109_1 : tyF Tryz.prog 109 1 1 = true := by kernel_rfl
theorem tF109_2 : tyF Tryz.prog 109 2 2 = true := by kernel_rfl
theorem tZo98 : (Tryz.prog.info? 98).bind (·.zero) = some (.agg #[.string ⟨#[]⟩, .slice none 0 0]) := by kernel_rfl
theorem fOk86 : fnOk Tryz.prog 86 = true := by kernel_rfl
theorem fOk23 : fnOk Tryz.prog 23 = true := by kernel_rfl
theorem tF109_3 : tyF Tryz.prog 109 3 3 = true := by kernel_rfl
theorem fOk174 : fnOk Tryz.prog 174 = true := by kernel_rfl
theorem tF94_3 : tyF Tryz.prog 94 3 3 = true := by kernel_rfl
theorem fOk130 : fnOk Tryz.prog 130 = true := by kernel_rfl
theorem fOk129 : fnOk Tryz.prog 129 = true := by kernel_rfl
theorem tF27_3 : tyF Tryz.prog 27 3 3 = true := by kernel_rfl
theorem fOk60 : fnOk Tryz.prog 60 = true := by kernel_rfl
theorem fOk17 : fnOk Tryz.prog 17 = true := by kernel_rfl
theorem tPl27 : tyPlaces Tryz.prog 27 = some [(0, 1), (1, 1), (2, 1), (3, 1)] := by kernel_rfl
theorem tZ91 : zeroCells Tryz.prog 91 = some [.slice none 0 0, .slice none 0 0, .slice none 0 0, .slice none 0 0, .map none, .map none, .map none, .map none, .bool false] := by kernel_rfl
theorem tPl91 : tyPlaces Tryz.prog 91 = some [(0, 4), (4, 1), (5, 1), (6, 1), (7, 1), (8, 1)] := by kernel_rfl
theorem tS91 : tyS Tryz.prog 91 9 = true := by kernel_rfl
theorem tF91_1 : tyF Tryz.prog 91 1 4 = true := by kernel_rfl
theorem tC87 : tyC Tryz.prog 87 = true := by kernel_rfl
theorem tMap87 : tyMap Tryz.prog 87 9 3 = true := by kernel_rfl
theorem tF91_2 : tyF Tryz.prog 91 2 5 = true := by kernel_rfl
theorem tI244 : tyI Tryz.prog 244 .u64 = true := by kernel_rfl
theorem tUn3 : tyU Tryz.prog 3 = true := by kernel_rfl
theorem tI3 : tyI Tryz.prog 3 .i64 = true := by kernel_rfl
theorem tUn244 : tyU Tryz.prog 244 = true := by kernel_rfl
theorem fOk158 : fnOk Tryz.prog 158 = true := by kernel_rfl
theorem fOk100 : fnOk Tryz.prog 100 = true := by kernel_rfl
theorem fOk208 : fnOk Tryz.prog 208 = true := by kernel_rfl
theorem fOk207 : fnOk Tryz.prog 207 = true := by kernel_rfl
theorem fOk169 : fnOk Tryz.prog 169 = true := by kernel_rfl
theorem fOk117 : fnOk Tryz.prog 117 = true := by kernel_rfl
theorem tF91_3 : tyF Tryz.prog 91 3 6 = true := by kernel_rfl
theorem tC88 : tyC Tryz.prog 88 = true := by kernel_rfl
theorem tMap88 : tyMap Tryz.prog 88 9 165 = true := by kernel_rfl
theorem tZo165 : (Tryz.prog.info? 165).bind (·.zero) = some (.slice none 0 0) := by kernel_rfl
theorem tEl165 : tyEl Tryz.prog 165 3 1 8 = true := by kernel_rfl
theorem tZ3 : zeroCells Tryz.prog 3 = some [.int .i64 0] := by kernel_rfl
theorem tIsSl165 : tySlice Tryz.prog 165 = true := by kernel_rfl
theorem tF91_4 : tyF Tryz.prog 91 4 7 = true := by kernel_rfl
theorem fOk41 : fnOk Tryz.prog 41 = true := by kernel_rfl
theorem tIsSl28 : tySlice Tryz.prog 28 = true := by kernel_rfl
theorem tSl28 : tySl Tryz.prog 28 2 = true := by kernel_rfl
theorem tA70 : tyA Tryz.prog 70 2 = true := by kernel_rfl
theorem tZ70 : zeroCells Tryz.prog 70 = some [.string ⟨#[]⟩, .int .i64 0] := by kernel_rfl
theorem tS70 : tyS Tryz.prog 70 2 = true := by kernel_rfl
theorem tF70_0 : tyF Tryz.prog 70 0 0 = true := by kernel_rfl
theorem tZo3 : (Tryz.prog.info? 3).bind (·.zero) = some (.int .i64 0) := by kernel_rfl
theorem tF70_1 : tyF Tryz.prog 70 1 1 = true := by kernel_rfl
theorem fOk170 : fnOk Tryz.prog 170 = true := by kernel_rfl
theorem fOk119 : fnOk Tryz.prog 119 = true := by kernel_rfl
theorem tSl165 : tySl Tryz.prog 165 1 = true := by kernel_rfl
theorem fOk118 : fnOk Tryz.prog 118 = true := by kernel_rfl
theorem fOk42 : fnOk Tryz.prog 42 = true := by kernel_rfl
theorem tMap85 : tyMap Tryz.prog 85 70 4 = true := by kernel_rfl
theorem tKey70 : KeyT Tryz.prog 70 isAgg70 := keyT_agg eqk70 (by kernel_rfl) (fun v ⟨x, hx⟩ => ⟨_, ⟨x, rfl⟩, hx⟩)
theorem tS99 : tyS Tryz.prog 99 1 = true := by kernel_rfl
theorem tEl25 : tyEl Tryz.prog 25 9 1 16 = true := by kernel_rfl
theorem fOk49 : fnOk Tryz.prog 49 = true := by kernel_rfl
theorem tS25 : tyS Tryz.prog 25 1 = true := by kernel_rfl
theorem fOk45 : fnOk Tryz.prog 45 = true := by kernel_rfl
theorem tEl22 : tyEl Tryz.prog 22 98 2 40 = true := by kernel_rfl
theorem tI5 : tyI Tryz.prog 5 .u8 = true := by kernel_rfl
theorem tUn297 : tyU Tryz.prog 297 = true := by kernel_rfl
theorem tUn5 : tyU Tryz.prog 5 = true := by kernel_rfl
theorem fOk186 : fnOk Tryz.prog 186 = true := by kernel_rfl
theorem fOk135 : fnOk Tryz.prog 135 = true := by kernel_rfl
theorem tC99 : tyC Tryz.prog 99 = true := by kernel_rfl
theorem fOk44 : fnOk Tryz.prog 44 = true := by kernel_rfl
theorem fOk121 : fnOk Tryz.prog 121 = true := by kernel_rfl
theorem fOk209 : fnOk Tryz.prog 209 = true := by kernel_rfl
theorem fOk259 : fnOk Tryz.prog 259 = true := by kernel_rfl
theorem fOk210 : fnOk Tryz.prog 210 = true := by kernel_rfl
theorem tS3 : tyS Tryz.prog 3 1 = true := by kernel_rfl
theorem fOk276 : fnOk Tryz.prog 276 = true := by kernel_rfl
theorem fOk261 : fnOk Tryz.prog 261 = true := by kernel_rfl
theorem fOk260 : fnOk Tryz.prog 260 = true := by kernel_rfl
theorem fOk212 : fnOk Tryz.prog 212 = true := by kernel_rfl
theorem fOk213 : fnOk Tryz.prog 213 = true := by kernel_rfl
theorem fOk214 : fnOk Tryz.prog 214 = true := by kernel_rfl
theorem fOk215 : fnOk Tryz.prog 215 = true := by kernel_rfl
theorem fOk216 : fnOk Tryz.prog 216 = true := by kernel_rfl
theorem fOk171 : fnOk Tryz.prog 171 = true := by kernel_rfl
theorem tI332 : tyI Tryz.prog 332 .u64 = true := by kernel_rfl
theorem tZ332 : zeroCells Tryz.prog 332 = some [.int .u64 0] := by kernel_rfl
theorem tS332 : tyS Tryz.prog 332 1 = true := by kernel_rfl
theorem fOk234 : fnOk Tryz.prog 234 = true := by kernel_rfl
theorem tC332 : tyC Tryz.prog 332 = true := by kernel_rfl
theorem fOk235 : fnOk Tryz.prog 235 = true := by kernel_rfl
theorem fOk211 : fnOk Tryz.prog 211 = true := by kernel_rfl
theorem fOk120 : fnOk Tryz.prog 120 = true := by kernel_rfl
theorem fOk43 : fnOk Tryz.prog 43 = true := by kernel_rfl
theorem tS105 : tyS Tryz.prog 105 1 = true := by kernel_rfl
theorem tEl102 : tyEl Tryz.prog 102 116 2 32 = true := by kernel_rfl
theorem fOk124 : fnOk Tryz.prog 124 = true := by kernel_rfl
theorem tS102 : tyS Tryz.prog 102 1 = true := by kernel_rfl
theorem fOk48 : fnOk Tryz.prog 48 = true := by kernel_rfl
theorem tEl23 : tyEl Tryz.prog 23 104 2 40 = true := by kernel_rfl
theorem tC105 : tyC Tryz.prog 105 = true := by kernel_rfl
theorem fOk47 : fnOk Tryz.prog 47 = true := by kernel_rfl
theorem fOk123 : fnOk Tryz.prog 123 = true := by kernel_rfl
theorem fOk217 : fnOk Tryz.prog 217 = true := by kernel_rfl
theorem fOk262 : fnOk Tryz.prog 262 = true := by kernel_rfl
theorem fOk218 : fnOk Tryz.prog 218 = true := by kernel_rfl
theorem fOk277 : fnOk Tryz.prog 277 = true := by kernel_rfl
theorem fOk264 : fnOk Tryz.prog 264 = true := by kernel_rfl
theorem fOk263 : fnOk Tryz.prog 263 = true := by kernel_rfl
theorem fOk220 : fnOk Tryz.prog 220 = true := by kernel_rfl
theorem fOk221 : fnOk Tryz.prog 221 = true := by kernel_rfl
theorem fOk222 : fnOk Tryz.prog 222 = true := by kernel_rfl
theorem fOk223 : fnOk Tryz.prog 223 = true := by kernel_rfl
theorem fOk224 : fnOk Tryz.prog 224 = true := by kernel_rfl
theorem fOk172 : fnOk Tryz.prog 172 = true := by kernel_rfl
theorem fOk219 : fnOk Tryz.prog 219 = true := by kernel_rfl
theorem fOk122 : fnOk Tryz.prog 122 = true := by kernel_rfl
theorem fOk46 : fnOk Tryz.prog 46 = true := by kernel_rfl
theorem tPl70 : tyPlaces Tryz.prog 70 = some [(0, 1), (1, 1)] := by kernel_rfl
theorem tEl92 : tyEl Tryz.prog 92 109 4 56 = true := by kernel_rfl
theorem tS92 : tyS Tryz.prog 92 1 = true := by kernel_rfl
theorem tEl24 : tyEl Tryz.prog 24 94 4 80 = true := by kernel_rfl
theorem tS24 : tyS Tryz.prog 24 1 = true := by kernel_rfl
theorem fOk11 : fnOk Tryz.prog 11 = true := by kernel_rfl
theorem tZ138 : zeroCells Tryz.prog 138 = some [.map none, .map none, .map none] := by kernel_rfl
theorem tPl138 : tyPlaces Tryz.prog 138 = some [(0, 1), (1, 1), (2, 1)] := by kernel_rfl
theorem tS138 : tyS Tryz.prog 138 3 = true := by kernel_rfl
theorem tF138_0 : tyF Tryz.prog 138 0 0 = true := by kernel_rfl
theorem tC136 : tyC Tryz.prog 136 = true := by kernel_rfl
theorem tMap136 : tyMap Tryz.prog 136 9 89 = true := by kernel_rfl
theorem tF138_1 : tyF Tryz.prog 138 1 1 = true := by kernel_rfl
theorem tF138_2 : tyF Tryz.prog 138 2 2 = true := by kernel_rfl
theorem tA138 : tyA Tryz.prog 138 3 = true := by kernel_rfl
theorem fOk72 : fnOk Tryz.prog 72 = true := by kernel_rfl
theorem tZ141 : zeroCells Tryz.prog 141 = some [.slice none 0 0, .slice none 0 0, .slice none 0 0, .slice none 0 0, .map none, .map none, .map none, .bool false] := by kernel_rfl
theorem tPl141 : tyPlaces Tryz.prog 141 = some [(0, 4), (4, 3), (7, 1)] := by kernel_rfl
theorem tS141 : tyS Tryz.prog 141 8 = true := by kernel_rfl
theorem tF141_0 : tyF Tryz.prog 141 0 0 = true := by kernel_rfl
theorem tA141 : tyA Tryz.prog 141 8 = true := by kernel_rfl
theorem fOk82 : fnOk Tryz.prog 82 = true := by kernel_rfl
theorem fOk139 : fnOk Tryz.prog 139 = true := by kernel_rfl
theorem fOk136 : fnOk Tryz.prog 136 = true := by kernel_rfl
theorem tF141_2 : tyF Tryz.prog 141 2 7 = true := by kernel_rfl
theorem tF141_1 : tyF Tryz.prog 141 1 4 = true := by kernel_rfl
theorem fOk137 : fnOk Tryz.prog 137 = true := by kernel_rfl
theorem tZo89 : (Tryz.prog.info? 89).bind (·.zero) = some (.map none) := by kernel_rfl
theorem fOk187 : fnOk Tryz.prog 187 = true := by kernel_rfl
theorem fOk138 : fnOk Tryz.prog 138 = true := by kernel_rfl
theorem fOk73 : fnOk Tryz.prog 73 = true := by kernel_rfl
theorem fOk18 : fnOk Tryz.prog 18 = true := by kernel_rfl
theorem tPl94 : tyPlaces Tryz.prog 94 = some [(0, 1), (1, 1), (2, 1), (3, 1)] := by kernel_rfl
theorem fOk125 : fnOk Tryz.prog 125 = true := by kernel_rfl
theorem tPl109 : tyPlaces Tryz.prog 109 = some [(0, 1), (1, 1), (2, 1), (3, 1)] := by kernel_rfl
theorem fOk50 : fnOk Tryz.prog 50 = true := by kernel_rfl
theorem fOk51 : fnOk Tryz.prog 51 = true := by kernel_rfl
theorem fOk12 : fnOk Tryz.prog 12 = true := by kernel_rfl
theorem fOk26 : fnOk Tryz.prog 26 = true := by kernel_rfl
theorem fOk52 : fnOk Tryz.prog 52 = true := by kernel_rfl
theorem fOk55 : fnOk Tryz.prog 55 = true := by kernel_rfl
theorem tEqG116 : Tryz.prog.eqGuardType Tryz.prog.depth 116 = false := by kernel_rfl
theorem fOk54 : fnOk Tryz.prog 54 = true := by kernel_rfl
theorem fOk53 : fnOk Tryz.prog 53 = true := by kernel_rfl
theorem fOk56 : fnOk Tryz.prog 56 = true := by kernel_rfl
theorem tEqG109 : Tryz.prog.eqGuardType Tryz.prog.depth 109 = false := by kernel_rfl
theorem fOk126 : fnOk Tryz.prog 126 = true := by kernel_rfl
theorem fOk58 : fnOk Tryz.prog 58 = true := by kernel_rfl
theorem fOk57 : fnOk Tryz.prog 57 = true := by kernel_rfl
theorem fOk13 : fnOk Tryz.prog 13 = true := by kernel_rfl
theorem fOk14 : fnOk Tryz.prog 14 = true := by kernel_rfl
def tt : TT := [(3, [.C, .U, .I .i64, .Z 1 [.int .i64 0], .S 1]), (4, [.C]), (5, [.I .u8, .U]), (9, [.C, .Str]), (11, [.Fn]), (12, [.Fn]), (13, [.Fn]), (14, [.Fn]), (17, [.Fn]), (18, [.Fn]), (22, [.C, .Sn, .Sl 2, .El 98 2 40]), (23, [.C, .Sn, .Sl 2, .Fn, .El 104 2 40]), (24, [.C, .Sn, .Sl 4, .El 94 4 80, .S 1]), (25, [.C, .Sn, .Sl 1, .El 9 1 16, .S 1]), (26, [.Fn]), (27, [.S 4, .A 4, .Z 4 [.slice none 0 0, .slice none 0 0, .slice none 0 0, .slice none 0 0], .F 0 0, .F 1 1, .F 2 2, .F 3 3, .Pl [(0, 1), (1, 1), (2, 1), (3, 1)]]), (28, [.Sn, .Sl 2]), (41, [.Fn]), (42, [.Fn]), (43, [.Fn]), (44, [.Fn]), (45, [.Fn]), (46, [.Fn]), (47, [.Fn]), (48, [.Fn]), (49, [.Fn]), (50, [.Fn]), (51, [.Fn]), (52, [.Fn]), (53, [.Fn]), (54, [.Fn]), (55, [.Fn]), (56, [.Fn]), (57, [.Fn]), (58, [.Fn]), (59, [.Fn]), (60, [.Fn]), (70, [.A 2, .Z 2 [.string ⟨#[]⟩, .int .i64 0], .S 2, .F 0 0, .F 1 1, .Pl [(0, 1), (1, 1)]]), (72, [.Fn]), (73, [.Fn]), (79, [.Fn]), (82, [.Fn]), (86, [.Fn]), (87, [.C]), (88, [.C]), (89, [.C]), (91, [.Z 9 [.slice none 0 0, .slice none 0 0, .slice none 0 0, .slice none 0 0, .map none, .map none, .map none, .map none, .bool false], .Pl [(0, 4), (4, 1), (5, 1), (6, 1), (7, 1), (8, 1)], .S 9, .F 1 4, .F 2 5, .F 3 6, .F 4 7]), (92, [.C, .Sn, .Sl 4, .El 109 4 56, .S 1]), (94, [.A 4, .Z 4 [.string ⟨#[]⟩, .string ⟨#[]⟩, .slice none 0 0, .slice none 0 0], .S 4, .F 0 0, .F 1 1, .F 2 2, .F 3 3, .Pl [(0, 1), (1, 1), (2, 1), (3, 1)]]), (98, [.A 2, .Z 2 [.string ⟨#[]⟩, .slice none 0 0], .S 2, .F 0 0, .F 1 1]), (99, [.S 1, .C]), (100, [.Fn]), (102, [.C, .Sn, .Sl 2, .El 116 2 32, .S 1]), (104, [.A 2, .Z 2 [.string ⟨#[]⟩, .slice none 0 0], .S 2, .F 0 0, .F 1 1]), (105, [.S 1, .C]), (109, [.A 4, .Z 4 [.int .i64 0, .string ⟨#[]⟩, .string ⟨#[]⟩, .string ⟨#[]⟩], .S 4, .F 0 0, .F 1 1, .F 2 2, .F 3 3, .Pl [(0, 1), (1, 1), (2, 1), (3, 1)]]), (116, [.A 2, .Z 2 [.string ⟨#[]⟩, .string ⟨#[]⟩], .S 2, .F 0 0, .F 1 1]), (117, [.Fn]), (118, [.Fn]), (119, [.Fn]), (121, [.Fn]), (122, [.C]), (123, [.Fn]), (124, [.Z 4 [.bool false, .map none, .map none, .map none], .Pl [(0, 1), (1, 1), (2, 1), (3, 1)], .S 4, .F 1 1, .F 2 2, .F 3 3, .A 4, .F 0 0, .Fn]), (125, [.Fn]), (126, [.Fn]), (127, [.Fn]), (128, [.Fn]), (129, [.Fn]), (130, [.Fn]), (135, [.Fn]), (136, [.C, .Fn]), (137, [.Fn]), (138, [.Z 3 [.map none, .map none, .map none], .Pl [(0, 1), (1, 1), (2, 1)], .S 3, .F 0 0, .F 1 1, .F 2 2, .A 3, .Fn]), (139, [.Fn]), (141, [.Z 8 [.slice none 0 0, .slice none 0 0, .slice none 0 0, .slice none 0 0, .map none, .map none, .map none, .bool false], .Pl [(0, 4), (4, 3), (7, 1)], .S 8, .F 0 0, .A 8, .F 2 7, .F 1 4]), (158, [.Fn]), (165, [.Sn, .Sl 1]), (169, [.Fn]), (170, [.Fn]), (173, [.Fn]), (174, [.Fn]), (186, [.Fn]), (187, [.Fn]), (207, [.Fn]), (208, [.Fn]), (234, [.Fn]), (244, [.I .u64, .U]), (297, [.U]), (332, [.I .u64, .Z 1 [.int .u64 0], .S 1, .C])]
theorem ok : TTok Tryz.prog tt := tt_all ⟨⟨tC3, tUn3, tI3, ⟨tZ3, rfl⟩, tS3, trivial⟩, ⟨tC4, trivial⟩, ⟨tI5, tUn5, trivial⟩, ⟨tC9, tStr9, trivial⟩, ⟨fOk11, trivial⟩, ⟨fOk12, trivial⟩, ⟨fOk13, trivial⟩, ⟨fOk14, trivial⟩, ⟨fOk17, trivial⟩, ⟨fOk18, trivial⟩, ⟨tC22, tIsSl22, tSl22, tEl22, trivial⟩, ⟨tC23, tIsSl23, tSl23, fOk23, tEl23, trivial⟩, ⟨tC24, tIsSl24, tSl24, tEl24, tS24, trivial⟩, ⟨tC25, tIsSl25, tSl25, tEl25, tS25, trivial⟩, ⟨fOk26, trivial⟩, ⟨tS27, tA27, ⟨tZ27, rfl⟩, tF27_0, tF27_1, tF27_2, tF27_3, tPl27, trivial⟩, ⟨tIsSl28, tSl28, trivial⟩, ⟨fOk41, trivial⟩, ⟨fOk42, trivial⟩, ⟨fOk43, trivial⟩, ⟨fOk44, trivial⟩, ⟨fOk45, trivial⟩, ⟨fOk46, trivial⟩, ⟨fOk47, trivial⟩, ⟨fOk48, trivial⟩, ⟨fOk49, trivial⟩, ⟨fOk50, trivial⟩, ⟨fOk51, trivial⟩, ⟨fOk52, trivial⟩, ⟨fOk53, trivial⟩, ⟨fOk54, trivial⟩, ⟨fOk55, trivial⟩, ⟨fOk56, trivial⟩, ⟨fOk57, trivial⟩, ⟨fOk58, trivial⟩, ⟨fOk59, trivial⟩, ⟨fOk60, trivial⟩, ⟨tA70, ⟨tZ70, rfl⟩, tS70, tF70_0, tF70_1, tPl70, trivial⟩, ⟨fOk72, trivial⟩, ⟨fOk73, trivial⟩, ⟨fOk79, trivial⟩, ⟨fOk82, trivial⟩, ⟨fOk86, trivial⟩, ⟨tC87, trivial⟩, ⟨tC88, trivial⟩, ⟨tC89, trivial⟩, ⟨⟨tZ91, rfl⟩, tPl91, tS91, tF91_1, tF91_2, tF91_3, tF91_4, trivial⟩, ⟨tC92, tIsSl92, tSl92, tEl92, tS92, trivial⟩, ⟨tA94, ⟨tZ94, rfl⟩, tS94, tF94_0, tF94_1, tF94_2, tF94_3, tPl94, trivial⟩, ⟨tA98, ⟨tZ98, rfl⟩, tS98, tF98_0, tF98_1, trivial⟩, ⟨tS99, tC99, trivial⟩, ⟨fOk100, trivial⟩, ⟨tC102, tIsSl102, tSl102, tEl102, tS102, trivial⟩, ⟨tA104, ⟨tZ104, rfl⟩, tS104, tF104_0, tF104_1, trivial⟩, ⟨tS105, tC105, trivial⟩, ⟨tA109, ⟨tZ109, rfl⟩, tS109, tF109_0, tF109_1, tF109_2, tF109_3, tPl109, trivial⟩, ⟨tA116, ⟨tZ116, rfl⟩, tS116, tF116_0, tF116_1, trivial⟩, ⟨fOk117, trivial⟩, ⟨fOk118, trivial⟩, ⟨fOk119, trivial⟩, ⟨fOk121, trivial⟩, ⟨tC122, trivial⟩, ⟨fOk123, trivial⟩, ⟨⟨tZ124, rfl⟩, tPl124, tS124, tF124_1, tF124_2, tF124_3, tA124, tF124_0, fOk124, trivial⟩, ⟨fOk125, trivial⟩, ⟨fOk126, trivial⟩, ⟨fOk127, trivial⟩, ⟨fOk128, trivial⟩, ⟨fOk129, trivial⟩, ⟨fOk130, trivial⟩, ⟨fOk135, trivial⟩, ⟨tC136, fOk136, trivial⟩, ⟨fOk137, trivial⟩, ⟨⟨tZ138, rfl⟩, tPl138, tS138, tF138_0, tF138_1, tF138_2, tA138, fOk138, trivial⟩, ⟨fOk139, trivial⟩, ⟨⟨tZ141, rfl⟩, tPl141, tS141, tF141_0, tA141, tF141_2, tF141_1, trivial⟩, ⟨fOk158, trivial⟩, ⟨tIsSl165, tSl165, trivial⟩, ⟨fOk169, trivial⟩, ⟨fOk170, trivial⟩, ⟨fOk173, trivial⟩, ⟨fOk174, trivial⟩, ⟨fOk186, trivial⟩, ⟨fOk187, trivial⟩, ⟨fOk207, trivial⟩, ⟨fOk208, trivial⟩, ⟨fOk234, trivial⟩, ⟨tI244, tUn244, trivial⟩, ⟨tUn297, trivial⟩, ⟨tI332, ⟨tZ332, rfl⟩, tS332, tC332, trivial⟩, trivial⟩
instance {N : Nat} {w : World} {m : Mem} {o : Nat → Prop} {p : Nat} {l : Nat → Option (Option (Nat × Cap))} {g : Gl} {h : GlOk g m} : TC ⟨Tryz.prog, N, w, m, o, p, l, g, h⟩ tt := ⟨ok⟩
end Go.Proofs.YtpbkggamiipdmaaGreat
