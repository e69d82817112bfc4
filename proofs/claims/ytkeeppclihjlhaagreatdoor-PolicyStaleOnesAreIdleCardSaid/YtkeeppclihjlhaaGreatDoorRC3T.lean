/- Part of the proof: DK, C3T. -/
import Derived.Test.YtkeeppclihjlhaaGreatDoorREI
import Derived.Test.YtkeeppclihjlhaaGreatDoorRZA
import Derived.Shelf.Small.Strs
import Derived.Test.YtkeeppclihjlhaaGreatDoorRWA
import Derived.Test.YtkeeppclihjlhaaGreatDoorProg
import Derived.KernelRfl
namespace Go.Pv
open Go
set_option linter.unusedVariables false
structure KRow where
 row : List V
 imm : Imms row
 one : row.all oneV = true
structure KV where
 t : Nat
 d : V
def KV.enc (x : KV) : List V := [.ifc x.t x.d]
theorem KRow.ext' {a b : KRow} (h : a.row = b.row) : a = b := by cases a; cases b; cases h; rfl
theorem KV.enc_imm (x : KV) : Imms x.enc := fun c hc => by
 have : c = .ifc x.t x.d := by simpa [KV.enc] using hc
 rw [this]; exact Imm.ifc _ _
theorem KV.enc_one (x : KV) : x.enc.all oneV = true := rfl
section
variable {τ R : Type}
open Classical in
noncomputable def kdec (enc : τ → List V) (x : KRow) : Option τ := if h : ∃ y, enc y = x.row then some h.choose else none
theorem kdec_some {enc : τ → List V} {x : KRow} {y : τ} (h : kdec enc x = some y) : x.row = enc y := by
 unfold kdec at h
 split at h
 ·rename_i hx; rw [← Option.some.inj h]; exact hx.choose_spec.symm
 ·cases h
theorem kdec_eq {enc : τ → List V} (inj : ∀ a b, enc a = enc b → a = b) {x : KRow} {y : τ} (h : x.row = enc y) : kdec enc x = some y := by
 unfold kdec
 have hx : ∃ y, enc y = x.row := ⟨y, h.symm⟩
 rw [dif_pos hx]
 exact congrArg some (inj _ _ (hx.choose_spec.trans h))
open Classical in
noncomputable def vdec (enc : τ → List V) (T : Nat) (x : KV) : Option τ := if h : ∃ y, x.t = T ∧ x.d = .agg (enc y) then some h.choose else none
theorem vdec_some {enc : τ → List V} {T : Nat} {x : KV} {y : τ} (h : vdec enc T x = some y) : x.t = T ∧ x.d = .agg (enc y) := by
 unfold vdec at h
 split at h
 ·rename_i hx; rw [← Option.some.inj h]; exact hx.choose_spec
 ·cases h
theorem vdec_eq {enc : τ → List V} (inj : ∀ a b, enc a = enc b → a = b) {T : Nat} {x : KV} {y : τ} (h : x.t = T) (h' : x.d = .agg (enc y)) : vdec enc T x = some y := by
 unfold vdec
 have hx : ∃ y, x.t = T ∧ x.d = .agg (enc y) := ⟨y, h, h'⟩
 rw [dif_pos hx]
 refine congrArg some (inj _ _ ?_)
 have := hx.choose_spec.2.symm.trans h'
 exact V.agg.inj this
theorem vdec_ne {enc : τ → List V} {T : Nat} {x : KV} (h : x.t ≠ T) : vdec enc T x = none := by
 unfold vdec
 rw [dif_neg]
 rintro ⟨y, h1, _⟩; exact h h1
def mkK (T : Nat) (enc : τ → List V) (y : τ) : KV := ⟨T, .agg (enc y)⟩
def oel (o : Option τ) (f : τ → Option R) (g : Option R) : Option R := match o with | some y => f y | none => g
theorem oeK {o : Option τ} {f : τ → Option R} {g : Option R} {r : R} {P : Prop} (h : oel o f g = some r) (k1 : ∀ y, o = some y → f y = some r → P) (k2 : g = some r → P) : P := by
 cases o with
 | none => exact k2 h
 | some y => exact k1 y rfl h
end
section
variable {K : Ctx} {Q : Post} {S : St} {s : List It}
variable {ops : Array Oper} {l rest : List Oper} {ty : TypeId} {pos : String} {after : Array Edge} {g : Option (Nat × Bool)}
theorem ghost_eqv (t : Nat) {v v' : V} (ht : get S.env t = v) (h : v = v') : Ghost K S ⟨(t, v') :: S.env, S.hp, S.nx⟩ := by
 subst h
 refine Ghost.env (S := S) (fun q => ?_)
 show (bif Nat.beq t q then v else get S.env q) = get S.env q
 cases hq : Nat.beq t q
 ·rfl
 ·have := Nat.eq_of_beq_eq_true hq
  subst this
  exact ht.symm
theorem kroO {τ : Type} {enc : τ → List V} {x : KRow} {y : τ} (t : Nat) (h : kdec enc x = some y) (ht : gtC S.env t = some (.iptr x.row 0)) (k : WG K Q (.o ops l :: s) ⟨(t, .iptr (enc y) 0) :: S.env, S.hp, S.nx⟩) : WG K Q (.o ops l :: s) S :=
 wg_cl (.inr ⟨_, _, rfl⟩) (ghost_eqv t (gtC_ok ht) (by rw [kdec_some h])) k
theorem aops_mkIfc {d : Nat} {T : TypeId} {x : Operand} {v : V} (hT : K.P.concrete T = true) (hw : Wants ops S ⟨some d, .makeInterface T x, ty, pos, after, g⟩ true) (hx : evl K S x = v) (hi : Imm v) (hN : Nat.blt d K.N = true)
  (k : AOps K ops rest Q (S.put d (.ifc T v))) : AOps K ops (⟨some d, .makeInterface T x, ty, pos, after, g⟩ :: rest) Q S :=
 aops_val _ hw hN (fun m β w a r => by
  have := r.reads x
  rw [hx] at this
  exact ⟨.iface T (a.eval x), by simp only [execOp]; exact run_value (Go.run_makeInterface w T _ hT), .imm (.ifc (hi.2 _ _ _ this))⟩) k
theorem aops_invoke {d f : Nat} {T : TypeId} {x : Operand} {name : String} {args : Array Operand} {at' : Array TypeId} {dv dr : V} {avs : List V} (hm : ∀ (v : Value) (args : Array Value) (w : World), (callMethod (.iface T v) name args).run K.P w = .ok (.enter f (#[v] ++ args)) w)
  (hw : Wants ops S ⟨some d, .call ⟨.invoke x name, args, at'⟩, ty, pos, after, g⟩ true) (hx : evl K S x = .ifc T dv) (ha : args.toList.map (evl K S) = avs) (hi : Imms avs) (hc : PureG K.gl K.P f (dv :: avs) dr) (hN : Nat.blt d K.N = true)
  (kk : AOps K ops rest Q (S.put d dr)) : AOps K ops (⟨some d, .call ⟨.invoke x name, args, at'⟩, ty, pos, after, g⟩ :: rest) Q S := by
 refine aops_calls hw rfl hN (fun m β w a r => ?_) hc kk
 have hr := r.reads x
 rw [hx] at hr
 obtain ⟨v, hv, hd⟩ : ∃ v, a.eval x = .iface T v ∧ IRel m dv v := by
  generalize a.eval x = u at hr
  cases hr with
  | imm h => cases h with | ifc h => exact ⟨_, rfl, h⟩
 refine ⟨#[v] ++ args.map a.eval, ?_, ?_⟩
 ·have : (execOp a.eval ⟨some d, .call ⟨.invoke x name, args, at'⟩, ty, pos, after, g⟩) = callMethod (.iface T v) name (args.map a.eval) := by
   simp only [execOp, resolve, hv, pure_bind]
   show invoke (.fn (.method name) #[]) (#[Value.iface T v] ++ args.map a.eval) = _
   simp only [invoke]
   rw [show (#[Value.iface T v] ++ args.map a.eval)[0]? = some (Value.iface T v) by rw [Array.getElem?_append_left (by simp)]; rfl]
   simp only
   congr 1
   apply Array.ext'
   simp
   exact List.take_of_length_le (by simp)
  rw [this]
  exact hm v (args.map a.eval) w
 ·refine ⟨by simp [← ha]; omega, fun i c u h1 h2 => ?_⟩
  cases i with
  | zero =>
   rw [Array.getElem?_append_left (by simp)] at h2
   simp at h1 h2; subst h1; subst h2; exact hd
  | succ i =>
   rw [List.getElem?_cons_succ] at h1
   have h1' := h1
   rw [← ha, List.getElem?_map, Array.getElem?_toList] at h1
   rw [Array.getElem?_append_right (by simp)] at h2
   simp only [List.size_toArray, List.length_cons, List.length_nil, Nat.zero_add, Nat.add_sub_cancel, Array.getElem?_map] at h2
   cases ho : args[i]? with
   | none => rw [ho] at h1; simp at h1
   | some y =>
    rw [ho] at h1 h2
    simp at h1 h2
    subst h2
    exact (hi.get h1').2 m β _ (h1 ▸ r.reads y)
end
theorem pure_indexByte {gl : Gl} {P : Program} {f : FuncId} {s : List UInt8} {c : Int} (h : ∀ (c : Int) (w : World), Calls P f #[.string ⟨s.toArray⟩, .int .u8 c] w fun e w' => e = .returned (.int .i64 (Lib.indexByte (⟨s.toArray⟩ : ByteArray).data.toList c.toNat.toUInt8)) ∧ w' = w) :
  PureG gl P f [sV s, V.con (.int .u8 c)] (iV (Lib.indexByte s c.toNat.toUInt8)) :=
 pure_same (l := [str s, .int .u8 c]) (v := .int .i64 (Lib.indexByte s c.toNat.toUInt8)) (fun w => h c w) (fun m => .con _)
instance : EI KRow.row := ⟨KRow.imm, KRow.one⟩
instance : EI KV.enc := ⟨KV.enc_imm, KV.enc_one⟩
def DispG (gl : Gl) (P : Program) (name : String) (k : KV) (avs : List V) (dr : V) : Prop :=
 ∃ f : FuncId, (∀ (v : Value) (args : Array Value) (w : World), (callMethod (.iface k.t v) name args).run P w = .ok (.enter f (#[v] ++ args)) w) ∧ PureG gl P f (k.d :: avs) dr
theorem disp_of {gl : Gl} {P : Program} {name : String} {k : KV} {avs : List V} {dr : V} {τ : Type} {enc : τ → List V} {T f : Nat} {y : τ} (hm : ∀ (v : Value) (args : Array Value) (w : World), (callMethod (.iface T v) name args).run P w = .ok (.enter f (#[v] ++ args)) w)
  (hy : vdec enc T k = some y) (hc : PureG gl P f (V.agg (enc y) :: avs) dr) : DispG gl P name k avs dr := by
 obtain ⟨h1, h2⟩ := vdec_some hy
 exact ⟨f, by rw [h1]; exact hm, by rw [h2]; exact hc⟩
section
variable {K : Ctx} {Q : Post} {S : St}
variable {ops : Array Oper} {l rest : List Oper} {ty : TypeId} {pos : String} {after : Array Edge} {g : Option (Nat × Bool)}
theorem aops_mkMethI {d : Nat} {T : TypeId} {name : String} {x : Operand} {dv : V} (hw : Wants ops S ⟨some d, .makeFunc (.method name) #[x] #[], ty, pos, after, g⟩ true) (hx : evl K S x = .ifc T dv) (hN : Nat.blt d K.N = true)
  (k : AOps K ops rest Q (S.put d (.fn (.method name) [.ifc T dv] []))) : AOps K ops (⟨some d, .makeFunc (.method name) #[x] #[], ty, pos, after, g⟩ :: rest) Q S :=
 aops_val _ hw hN (fun m β w a r => by
  have hr := r.reads x
  rw [hx] at hr
  refine ⟨.func (.method name) #[a.eval x] #[], by simp only [execOp]; exact run_value (by simp [Instr.makeFunc, pure]), .imm (.fn rfl rfl (fun i c v h1 h2 => ?_) (fun i c v h1 h2 => by simp at h1))⟩
  cases i with
  | zero =>
   simp at h1 h2; subst h1; subst h2
   generalize a.eval x = u at hr
   cases hr with
   | imm h => exact h
  | succ i => simp at h1) k
theorem aops_nilMethI {d : Nat} {name : String} {x : Operand} {T : TypeId} {dv : V} (hT : ∀ (v : Value) (w : World), (nilAhead (K.P.types.size + Made.depth) T v name).run K.P w = .ok (some false) w) (hw : Wants ops S ⟨some d, .nilCheck x, ty, pos, after, g⟩ true)
  (hx : evl K S x = .fn (.method name) [.ifc T dv] []) (hN : Nat.blt d K.N = true)
  (k : AOps K ops rest Q (S.put d (.fn (.method name) [.ifc T dv] []))) : AOps K ops (⟨some d, .nilCheck x, ty, pos, after, g⟩ :: rest) Q S :=
 aops_val _ hw hN (fun m β w a r => by
  have hr := r.reads x
  rw [hx] at hr
  have hr2 := hr
  obtain ⟨v, hv⟩ : ∃ v, a.eval x = .func (.method name) #[.iface T v] #[] := by
   generalize a.eval x = u at hr
   have key : ∀ (fs cs : Array Value), 1 = fs.size → 0 = cs.size → (∀ (i : Nat) (c : V) (v : Value), [V.ifc T dv][i]? = some c → fs[i]? = some v → VRel m β c v) → ∃ v, (Value.func (.method name) fs cs) = .func (.method name) #[.iface T v] #[] := by
    intro fs cs h1 h2 h3
    obtain ⟨l⟩ := fs
    obtain ⟨l2⟩ := cs
    match l, l2, h1, h2 with
    | [y], [], _, _ =>
     have := h3 0 _ y rfl rfl
     cases this with
     | imm h => cases h with | ifc h => exact ⟨_, rfl⟩
   cases hr with
   | imm h => cases h with | fn h1 h2 h3 h4 => exact key _ _ h1 h2 (fun i c v a b => .imm (h3 i c v a b))
   | fn h1 h2 h3 h4 => exact key _ _ h1 h2 h3
  refine ⟨.func (.method name) #[.iface T v] #[], ?_, by rw [← hv]; exact hr2⟩
  simp only [execOp, hv]
  simp [Sem.run_bind, hT, Result.andThen, pure]) k
theorem aops_invokeD {d : Nat} {k : KV} {x : Operand} {name : String} {args : Array Operand} {at' : Array TypeId} (dr : V) (avs : List V)
  (hw : Wants ops S ⟨some d, .call ⟨.invoke x name, args, at'⟩, ty, pos, after, g⟩ true) (hx : evl K S x = .ifc k.t k.d) (ha : args.toList.map (evl K S) = avs) (hi : Imms avs) (hc : DispG K.gl K.P name k avs dr) (hN : Nat.blt d K.N = true)
  (kk : AOps K ops rest Q (S.put d dr)) : AOps K ops (⟨some d, .call ⟨.invoke x name, args, at'⟩, ty, pos, after, g⟩ :: rest) Q S := by
 obtain ⟨f, hm, hc⟩ := hc
 exact aops_invoke hm hw hx ha hi hc hN kk
end
end Go.Pv
namespace Go.Proofs.YtkeeppclihjlhaaGreatDoor
open Go Go.Pv
set_option linter.unusedVariables false
set_option maxRecDepth 100000
theorem mixed : Tryz.prog.follows .mixedOrders = true := by kernel_rfl
structure TPair where
 Name : (List UInt8)
 Value : (List UInt8)
 deriving DecidableEq
structure TAmount where
 Name : (List UInt8)
 N : Int
 deriving DecidableEq
structure TFact where
 Kind : (List UInt8)
 Subject : (List UInt8)
 Texts : (List TPair)
 Numbers : (List TAmount)
 deriving DecidableEq
structure TTest where
 Kind : Int
 Name : (List UInt8)
 Texts : (List (List UInt8))
 Op : Int
 N : Int
 Kids : (List KRow)
structure TPolicyRule where
 Name : (List UInt8)
 About : (List UInt8)
 When : TTest
 Level : Int
structure TWaiver where
 Rule : (List UInt8)
 Subject : (List UInt8)
 From : Int
 To : Int
 Owner : (List UInt8)
 Level : Int
 deriving DecidableEq
structure TPolicy where
 Rules : (List TPolicyRule)
 Waivers : (List TWaiver)
structure Tpolicy_uses where
 name : Bool
 texts : Bool
 number : Bool
 kids : Int
 deriving DecidableEq
structure Tpolicy_condIs where
 name : (List UInt8)
 texts : (List (List UInt8))
 deriving DecidableEq
structure Tpolicy_condBegins where
 name : (List UInt8)
 texts : (List (List UInt8))
 deriving DecidableEq
structure Tpolicy_condHas where
 name : (List UInt8)
 deriving DecidableEq
structure Tpolicy_condNumber where
 name : (List UInt8)
 op : Int
 n : Int
 deriving DecidableEq
structure Tpolicy_condNot where
 kid : KV
structure Tpolicy_condAll where
 kids : (List KV)
structure Tpolicy_condAny where
 kids : (List KV)
structure Tpolicy_condTrue where
 deriving DecidableEq
structure Tpolicy_value where
 hasText : Bool
 hasNumber : Bool
 text : (List UInt8)
 number : Int
 deriving DecidableEq
structure Tpolicy_values where
 by_ : (List ((List UInt8) × Tpolicy_value))
 known : Unit
 deriving DecidableEq
structure Tprovenderref9_field where
 isText : Bool
 isNumber : Bool
 text : (List UInt8)
 number : Int
 deriving DecidableEq
structure TDecision where
 Fact : Int
 Rule : Int
 Waiver : Int
 Level : Int
 deriving DecidableEq
structure Tpolicy_ruling where
 rule : Int
 level : Int
 waivers : (List Int)
 deriving DecidableEq
def encI_i64 (x : Int) : List V := [(iV x)]
theorem imms_encI_i64 (x : Int) : Imms (encI_i64 x) := (.cons (Imm.con _) .nil)
theorem one_encI_i64 (x : Int) : (encI_i64 x).all oneV = true := rfl
instance : EI encI_i64 := ⟨imms_encI_i64, one_encI_i64⟩
def encS (x : (List UInt8)) : List V := [(sV x)]
theorem imms_encS (x : (List UInt8)) : Imms (encS x) := (.cons (Imm.con _) .nil)
theorem one_encS (x : (List UInt8)) : (encS x).all oneV = true := rfl
instance : EI encS := ⟨imms_encS, one_encS⟩
def encTPair (x : TPair) : List V := [(sV x.Name), (sV x.Value)]
theorem imms_encTPair (x : TPair) : Imms (encTPair x) := (.cons (Imm.con _) (.cons (Imm.con _) .nil))
theorem one_encTPair (x : TPair) : (encTPair x).all oneV = true := rfl
instance : EI encTPair := ⟨imms_encTPair, one_encTPair⟩
@[simp] theorem len_encTPair (x : TPair) : (encTPair x).length = 2 := rfl
def encTAmount (x : TAmount) : List V := [(sV x.Name), (iV x.N)]
theorem imms_encTAmount (x : TAmount) : Imms (encTAmount x) := (.cons (Imm.con _) (.cons (Imm.con _) .nil))
theorem one_encTAmount (x : TAmount) : (encTAmount x).all oneV = true := rfl
instance : EI encTAmount := ⟨imms_encTAmount, one_encTAmount⟩
@[simp] theorem len_encTAmount (x : TAmount) : (encTAmount x).length = 2 := rfl
def encTFact (x : TFact) : List V := [(sV x.Kind), (sV x.Subject), (V.lst 2 (x.Texts.map encTPair)), (V.lst 2 (x.Numbers.map encTAmount))]
theorem imms_encTFact (x : TFact) : Imms (encTFact x) := (.cons (Imm.con _) (.cons (Imm.con _) (.cons (Imm.lst _ _) (.cons (Imm.lst _ _) .nil))))
theorem one_encTFact (x : TFact) : (encTFact x).all oneV = true := rfl
instance : EI encTFact := ⟨imms_encTFact, one_encTFact⟩
@[simp] theorem len_encTFact (x : TFact) : (encTFact x).length = 4 := rfl
def encTTest (x : TTest) : List V := [(iV x.Kind), (sV x.Name), (V.lst 1 (x.Texts.map encS)), (iV x.Op), (iV x.N), (V.lst 6 (x.Kids.map KRow.row))]
theorem imms_encTTest (x : TTest) : Imms (encTTest x) := (.cons (Imm.con _) (.cons (Imm.con _) (.cons (Imm.lst _ _) (.cons (Imm.con _) (.cons (Imm.con _) (.cons (Imm.lst _ _) .nil))))))
theorem one_encTTest (x : TTest) : (encTTest x).all oneV = true := rfl
instance : EI encTTest := ⟨imms_encTTest, one_encTTest⟩
@[simp] theorem len_encTTest (x : TTest) : (encTTest x).length = 6 := rfl
def encTPolicyRule (x : TPolicyRule) : List V := [(sV x.Name), (sV x.About), (iV x.When.Kind), (sV x.When.Name), (V.lst 1 (x.When.Texts.map encS)), (iV x.When.Op), (iV x.When.N), (V.lst 6 (x.When.Kids.map KRow.row)), (iV x.Level)]
theorem imms_encTPolicyRule (x : TPolicyRule) : Imms (encTPolicyRule x) := (.cons (Imm.con _) (.cons (Imm.con _) (.cons (Imm.con _) (.cons (Imm.con _) (.cons (Imm.lst _ _) (.cons (Imm.con _) (.cons (Imm.con _) (.cons (Imm.lst _ _) (.cons (Imm.con _) .nil)))))))))
theorem one_encTPolicyRule (x : TPolicyRule) : (encTPolicyRule x).all oneV = true := rfl
instance : EI encTPolicyRule := ⟨imms_encTPolicyRule, one_encTPolicyRule⟩
@[simp] theorem len_encTPolicyRule (x : TPolicyRule) : (encTPolicyRule x).length = 9 := rfl
def encTWaiver (x : TWaiver) : List V := [(sV x.Rule), (sV x.Subject), (iV x.From), (iV x.To), (sV x.Owner), (iV x.Level)]
theorem imms_encTWaiver (x : TWaiver) : Imms (encTWaiver x) := (.cons (Imm.con _) (.cons (Imm.con _) (.cons (Imm.con _) (.cons (Imm.con _) (.cons (Imm.con _) (.cons (Imm.con _) .nil))))))
theorem one_encTWaiver (x : TWaiver) : (encTWaiver x).all oneV = true := rfl
instance : EI encTWaiver := ⟨imms_encTWaiver, one_encTWaiver⟩
@[simp] theorem len_encTWaiver (x : TWaiver) : (encTWaiver x).length = 6 := rfl
def encTPolicy (x : TPolicy) : List V := [(V.lst 9 (x.Rules.map encTPolicyRule)), (V.lst 6 (x.Waivers.map encTWaiver))]
theorem imms_encTPolicy (x : TPolicy) : Imms (encTPolicy x) := (.cons (Imm.lst _ _) (.cons (Imm.lst _ _) .nil))
theorem one_encTPolicy (x : TPolicy) : (encTPolicy x).all oneV = true := rfl
instance : EI encTPolicy := ⟨imms_encTPolicy, one_encTPolicy⟩
@[simp] theorem len_encTPolicy (x : TPolicy) : (encTPolicy x).length = 2 := rfl
def encTDecision (x : TDecision) : List V := [(iV x.Fact), (iV x.Rule), (iV x.Waiver), (iV x.Level)]
theorem imms_encTDecision (x : TDecision) : Imms (encTDecision x) := (.cons (Imm.con _) (.cons (Imm.con _) (.cons (Imm.con _) (.cons (Imm.con _) .nil))))
theorem one_encTDecision (x : TDecision) : (encTDecision x).all oneV = true := rfl
instance : EI encTDecision := ⟨imms_encTDecision, one_encTDecision⟩
@[simp] theorem len_encTDecision (x : TDecision) : (encTDecision x).length = 4 := rfl
theorem eqp3 {d : Nat} : EqOk Tryz.prog (d + 1) 3 1 false (fun l => ∃ n, l = [.int .i64 n]) := eqOk_int (show Tryz.prog.underlying 3 = some (.int .i64) by kernel_rfl) (show tyC Tryz.prog 3 = true by kernel_rfl)
def cv50 (x : TDecision) : List Value := [.int .i64 x.Fact] ++ ([.int .i64 x.Rule] ++ ([.int .i64 x.Waiver] ++ ([.int .i64 x.Level] ++ [])))
theorem inj_cv50 (x y : TDecision) (h : cv50 x = cv50 y) : x = y := by
 obtain ⟨h0, h⟩ := List.append_inj h rfl
 obtain ⟨h1, h⟩ := List.append_inj h rfl
 obtain ⟨h2, h⟩ := List.append_inj h rfl
 obtain ⟨h3, h⟩ := List.append_inj h rfl
 obtain ⟨a0, a1, a2, a3⟩ := x
 obtain ⟨b0, b1, b2, b3⟩ := y
 obtain rfl : a0 = b0 := inj_int _ _ (List.cons.inj h0).1
 obtain rfl : a1 = b1 := inj_int _ _ (List.cons.inj h1).1
 obtain rfl : a2 = b2 := inj_int _ _ (List.cons.inj h2).1
 obtain rfl : a3 = b3 := inj_int _ _ (List.cons.inj h3).1
 rfl
theorem eqp50 {d : Nat} : EqOk Tryz.prog (d + 2) 50 4 true (fun l => ∃ x : TDecision, l = cv50 x) := (eqOk_struct (d := d + 1) (fs := [(Field.mk "Fact" 3 0 false "" "" 0), (Field.mk "Rule" 3 1 false "" "" 8), (Field.mk "Waiver" 3 2 false "" "" 16), (Field.mk "Level" 3 3 false "" "" 24)]) (by kernel_rfl) (by kernel_rfl) (by kernel_rfl) (by kernel_rfl) (eqF_cons eqp3 (by simp) rfl (by simp) (eqF_cons eqp3 (by simp) rfl (by simp) (eqF_cons eqp3 (by simp) rfl (by simp) (eqF_cons eqp3 (by simp) rfl (by simp) eqF_nil))))).weaken (fun l ⟨x, hx⟩ => by subst hx; exact ⟨_, _, rfl, ⟨_, rfl⟩, ⟨_, _, rfl, ⟨_, rfl⟩, ⟨_, _, rfl, ⟨_, rfl⟩, ⟨_, _, rfl, ⟨_, rfl⟩, rfl⟩⟩⟩⟩)
theorem eqk50 : EqOk Tryz.prog 10000 50 4 true (fun l => ∃ x : TDecision, l = cv50 x) := eqp50 (d := 9998)
def encM9_119 (p : (List UInt8) × Tpolicy_value) : Value × V := (str p.1, (V.agg [(bV p.2.hasText), (bV p.2.hasNumber), (sV p.2.text), (iV p.2.number)]))
abbrev encM9_119_val (v : Tpolicy_value) : V := (V.agg [(bV v.hasText), (bV v.hasNumber), (sV v.text), (iV v.number)])
theorem encM9_119_puts (xs : List ((List UInt8) × Tpolicy_value)) (k : (List UInt8)) (v : Tpolicy_value) : Puts (str k) (encM9_119_val v) (xs.map encM9_119) ((mput xs k v).map encM9_119) := puts_map (kv := fun k => str k) (ev := encM9_119_val) inj_str xs k v
theorem encM9_119_look (xs : List ((List UInt8) × Tpolicy_value)) (k : (List UInt8)) : Look (str k) (xs.map encM9_119) ((mget xs k).map encM9_119_val) := look_map (kv := fun k => str k) (ev := encM9_119_val) inj_str xs k
theorem encM9_119_imm {xs : List ((List UInt8) × Tpolicy_value)} : ∀ p, p ∈ xs.map encM9_119 → Imm p.2 := by
 intro p hp
 obtain ⟨x, _, rfl⟩ := List.mem_map.1 hp
 exact (Imm.agg (.cons (Imm.con _) (.cons (Imm.con _) (.cons (Imm.con _) (.cons (Imm.con _) .nil)))))
instance : EM encM9_119 := ⟨fun _ => (Imm.agg (.cons (Imm.con _) (.cons (Imm.con _) (.cons (Imm.con _) (.cons (Imm.con _) .nil)))))⟩
theorem encM9_119_good {xs : List ((List UInt8) × Tpolicy_value)} : ∀ p, p ∈ xs.map encM9_119 → isStr p.1 := by
 intro p hp
 obtain ⟨x, _, rfl⟩ := List.mem_map.1 hp
 exact ⟨_, rfl⟩
def encTpolicy_values (x : Tpolicy_values) : List V := [(V.imap (x.by_.map encM9_119)), (V.con (.map none))]
theorem imms_encTpolicy_values (x : Tpolicy_values) : Imms (encTpolicy_values x) := (.cons (Imm.imap _) (.cons (Imm.con _) .nil))
theorem one_encTpolicy_values (x : Tpolicy_values) : (encTpolicy_values x).all oneV = true := rfl
instance : EI encTpolicy_values := ⟨imms_encTpolicy_values, one_encTpolicy_values⟩
@[simp] theorem len_encTpolicy_values (x : Tpolicy_values) : (encTpolicy_values x).length = 2 := rfl
def encTpolicy_condIs (x : Tpolicy_condIs) : List V := [(sV x.name), (V.lst 1 (x.texts.map encS))]
theorem imms_encTpolicy_condIs (x : Tpolicy_condIs) : Imms (encTpolicy_condIs x) := (.cons (Imm.con _) (.cons (Imm.lst _ _) .nil))
theorem one_encTpolicy_condIs (x : Tpolicy_condIs) : (encTpolicy_condIs x).all oneV = true := rfl
instance : EI encTpolicy_condIs := ⟨imms_encTpolicy_condIs, one_encTpolicy_condIs⟩
@[simp] theorem len_encTpolicy_condIs (x : Tpolicy_condIs) : (encTpolicy_condIs x).length = 2 := rfl
def encTpolicy_condBegins (x : Tpolicy_condBegins) : List V := [(sV x.name), (V.lst 1 (x.texts.map encS))]
theorem imms_encTpolicy_condBegins (x : Tpolicy_condBegins) : Imms (encTpolicy_condBegins x) := (.cons (Imm.con _) (.cons (Imm.lst _ _) .nil))
theorem one_encTpolicy_condBegins (x : Tpolicy_condBegins) : (encTpolicy_condBegins x).all oneV = true := rfl
instance : EI encTpolicy_condBegins := ⟨imms_encTpolicy_condBegins, one_encTpolicy_condBegins⟩
@[simp] theorem len_encTpolicy_condBegins (x : Tpolicy_condBegins) : (encTpolicy_condBegins x).length = 2 := rfl
def encTpolicy_condHas (x : Tpolicy_condHas) : List V := [(sV x.name)]
theorem imms_encTpolicy_condHas (x : Tpolicy_condHas) : Imms (encTpolicy_condHas x) := (.cons (Imm.con _) .nil)
theorem one_encTpolicy_condHas (x : Tpolicy_condHas) : (encTpolicy_condHas x).all oneV = true := rfl
instance : EI encTpolicy_condHas := ⟨imms_encTpolicy_condHas, one_encTpolicy_condHas⟩
@[simp] theorem len_encTpolicy_condHas (x : Tpolicy_condHas) : (encTpolicy_condHas x).length = 1 := rfl
def encTpolicy_condNumber (x : Tpolicy_condNumber) : List V := [(sV x.name), (iV x.op), (iV x.n)]
theorem imms_encTpolicy_condNumber (x : Tpolicy_condNumber) : Imms (encTpolicy_condNumber x) := (.cons (Imm.con _) (.cons (Imm.con _) (.cons (Imm.con _) .nil)))
theorem one_encTpolicy_condNumber (x : Tpolicy_condNumber) : (encTpolicy_condNumber x).all oneV = true := rfl
instance : EI encTpolicy_condNumber := ⟨imms_encTpolicy_condNumber, one_encTpolicy_condNumber⟩
@[simp] theorem len_encTpolicy_condNumber (x : Tpolicy_condNumber) : (encTpolicy_condNumber x).length = 3 := rfl
def encTpolicy_condNot (x : Tpolicy_condNot) : List V := [(V.ifc x.kid.t x.kid.d)]
theorem imms_encTpolicy_condNot (x : Tpolicy_condNot) : Imms (encTpolicy_condNot x) := (.cons (Imm.ifc _ _) .nil)
theorem one_encTpolicy_condNot (x : Tpolicy_condNot) : (encTpolicy_condNot x).all oneV = true := rfl
instance : EI encTpolicy_condNot := ⟨imms_encTpolicy_condNot, one_encTpolicy_condNot⟩
@[simp] theorem len_encTpolicy_condNot (x : Tpolicy_condNot) : (encTpolicy_condNot x).length = 1 := rfl
def encTpolicy_condAll (x : Tpolicy_condAll) : List V := [(V.lst 1 (x.kids.map KV.enc))]
theorem imms_encTpolicy_condAll (x : Tpolicy_condAll) : Imms (encTpolicy_condAll x) := (.cons (Imm.lst _ _) .nil)
theorem one_encTpolicy_condAll (x : Tpolicy_condAll) : (encTpolicy_condAll x).all oneV = true := rfl
instance : EI encTpolicy_condAll := ⟨imms_encTpolicy_condAll, one_encTpolicy_condAll⟩
@[simp] theorem len_encTpolicy_condAll (x : Tpolicy_condAll) : (encTpolicy_condAll x).length = 1 := rfl
def encTpolicy_condAny (x : Tpolicy_condAny) : List V := [(V.lst 1 (x.kids.map KV.enc))]
theorem imms_encTpolicy_condAny (x : Tpolicy_condAny) : Imms (encTpolicy_condAny x) := (.cons (Imm.lst _ _) .nil)
theorem one_encTpolicy_condAny (x : Tpolicy_condAny) : (encTpolicy_condAny x).all oneV = true := rfl
instance : EI encTpolicy_condAny := ⟨imms_encTpolicy_condAny, one_encTpolicy_condAny⟩
@[simp] theorem len_encTpolicy_condAny (x : Tpolicy_condAny) : (encTpolicy_condAny x).length = 1 := rfl
def encTpolicy_condTrue (x : Tpolicy_condTrue) : List V := []
theorem imms_encTpolicy_condTrue (x : Tpolicy_condTrue) : Imms (encTpolicy_condTrue x) := .nil
theorem one_encTpolicy_condTrue (x : Tpolicy_condTrue) : (encTpolicy_condTrue x).all oneV = true := rfl
instance : EI encTpolicy_condTrue := ⟨imms_encTpolicy_condTrue, one_encTpolicy_condTrue⟩
@[simp] theorem len_encTpolicy_condTrue (x : Tpolicy_condTrue) : (encTpolicy_condTrue x).length = 0 := rfl
def encTpolicy_value (x : Tpolicy_value) : List V := [(bV x.hasText), (bV x.hasNumber), (sV x.text), (iV x.number)]
theorem imms_encTpolicy_value (x : Tpolicy_value) : Imms (encTpolicy_value x) := (.cons (Imm.con _) (.cons (Imm.con _) (.cons (Imm.con _) (.cons (Imm.con _) .nil))))
theorem one_encTpolicy_value (x : Tpolicy_value) : (encTpolicy_value x).all oneV = true := rfl
instance : EI encTpolicy_value := ⟨imms_encTpolicy_value, one_encTpolicy_value⟩
@[simp] theorem len_encTpolicy_value (x : Tpolicy_value) : (encTpolicy_value x).length = 4 := rfl
def encTpolicy_uses (x : Tpolicy_uses) : List V := [(bV x.name), (bV x.texts), (bV x.number), (iV x.kids)]
theorem imms_encTpolicy_uses (x : Tpolicy_uses) : Imms (encTpolicy_uses x) := (.cons (Imm.con _) (.cons (Imm.con _) (.cons (Imm.con _) (.cons (Imm.con _) .nil))))
theorem one_encTpolicy_uses (x : Tpolicy_uses) : (encTpolicy_uses x).all oneV = true := rfl
instance : EI encTpolicy_uses := ⟨imms_encTpolicy_uses, one_encTpolicy_uses⟩
@[simp] theorem len_encTpolicy_uses (x : Tpolicy_uses) : (encTpolicy_uses x).length = 4 := rfl
def encTpolicy_ruling (x : Tpolicy_ruling) : List V := [(iV x.rule), (iV x.level), (V.lst 1 (x.waivers.map encI_i64))]
theorem imms_encTpolicy_ruling (x : Tpolicy_ruling) : Imms (encTpolicy_ruling x) := (.cons (Imm.con _) (.cons (Imm.con _) (.cons (Imm.lst _ _) .nil)))
theorem one_encTpolicy_ruling (x : Tpolicy_ruling) : (encTpolicy_ruling x).all oneV = true := rfl
instance : EI encTpolicy_ruling := ⟨imms_encTpolicy_ruling, one_encTpolicy_ruling⟩
@[simp] theorem len_encTpolicy_ruling (x : Tpolicy_ruling) : (encTpolicy_ruling x).length = 3 := rfl
def encM9_4 (p : (List UInt8) × Bool) : Value × V := (str p.1, (bV p.2))
abbrev encM9_4_val (v : Bool) : V := (bV v)
theorem encM9_4_puts (xs : List ((List UInt8) × Bool)) (k : (List UInt8)) (v : Bool) : Puts (str k) (encM9_4_val v) (xs.map encM9_4) ((mput xs k v).map encM9_4) := puts_map (kv := fun k => str k) (ev := encM9_4_val) inj_str xs k v
theorem encM9_4_look (xs : List ((List UInt8) × Bool)) (k : (List UInt8)) : Look (str k) (xs.map encM9_4) ((mget xs k).map encM9_4_val) := look_map (kv := fun k => str k) (ev := encM9_4_val) inj_str xs k
instance : EM encM9_4 := ⟨fun _ => (Imm.con _)⟩
theorem encM9_4_good {xs : List ((List UInt8) × Bool)} : ∀ p, p ∈ xs.map encM9_4 → isStr p.1 := by
 intro p hp
 obtain ⟨x, _, rfl⟩ := List.mem_map.1 hp
 exact ⟨_, rfl⟩
def encM3_4 (p : Int × Bool) : Value × V := (.int .i64 p.1, (bV p.2))
abbrev encM3_4_val (v : Bool) : V := (bV v)
theorem encM3_4_puts (xs : List (Int × Bool)) (k : Int) (v : Bool) : Puts (.int .i64 k) (encM3_4_val v) (xs.map encM3_4) ((mput xs k v).map encM3_4) := puts_map (kv := fun k => .int .i64 k) (ev := encM3_4_val) inj_int xs k v
theorem encM3_4_look (xs : List (Int × Bool)) (k : Int) : Look (.int .i64 k) (xs.map encM3_4) ((mget xs k).map encM3_4_val) := look_map (kv := fun k => .int .i64 k) (ev := encM3_4_val) inj_int xs k
theorem encM3_4_imm {xs : List (Int × Bool)} : ∀ p, p ∈ xs.map encM3_4 → Imm p.2 := by
 intro p hp
 obtain ⟨x, _, rfl⟩ := List.mem_map.1 hp
 exact (Imm.con _)
instance : EM encM3_4 := ⟨fun _ => (Imm.con _)⟩
theorem encM3_4_good {xs : List (Int × Bool)} : ∀ p, p ∈ xs.map encM3_4 → (isInt .i64) p.1 := by
 intro p hp
 obtain ⟨x, _, rfl⟩ := List.mem_map.1 hp
 exact ⟨_, rfl⟩
theorem tS25 : tyS Tryz.prog 25 4 = true := by kernel_rfl
theorem tS29 : tyS Tryz.prog 29 6 = true := by kernel_rfl
theorem tS33 : tyS Tryz.prog 33 2 = true := by kernel_rfl
theorem tA29 : tyA Tryz.prog 29 6 = true := by kernel_rfl
theorem tA25 : tyA Tryz.prog 25 4 = true := by kernel_rfl
theorem tF29_5 : tyF Tryz.prog 29 5 5 = true := by kernel_rfl
theorem tC27 : tyC Tryz.prog 27 = true := by kernel_rfl
theorem tIsSl27 : tySlice Tryz.prog 27 = true := by kernel_rfl
theorem tSl27 : tySl Tryz.prog 27 6 = true := by kernel_rfl
theorem tZ29 : zeroCells Tryz.prog 29 = some [.int .i64 0, .string ⟨#[]⟩, .slice none 0 0, .int .i64 0, .int .i64 0, .slice none 0 0] := by kernel_rfl
theorem fOk40 : fnOk Tryz.prog 40 = true := by kernel_rfl
theorem tF29_0 : tyF Tryz.prog 29 0 0 = true := by kernel_rfl
theorem tC3 : tyC Tryz.prog 3 = true := by kernel_rfl
theorem tZ127 : zeroCells Tryz.prog 127 = some [.bool false, .bool false, .bool false, .int .i64 0, .bool false, .bool false, .bool false, .int .i64 0, .bool false, .bool false, .bool false, .int .i64 0, .bool false, .bool false, .bool false, .int .i64 0, .bool false, .bool false, .bool false, .int .i64 0, .bool false, .bool false, .bool false, .int .i64 0, .bool false, .bool false, .bool false, .int .i64 0, .bool false, .bool false, .bool false, .int .i64 0, .bool false, .bool false, .bool false, .int .i64 0] := by kernel_rfl
theorem tZ126 : zeroCells Tryz.prog 126 = some [.bool false, .bool false, .bool false, .int .i64 0] := by kernel_rfl
theorem tPl126 : tyPlaces Tryz.prog 126 = some [(0, 1), (1, 1), (2, 1), (3, 1)] := by kernel_rfl
theorem tArr127 : tyArr Tryz.prog 127 9 4 = true := by kernel_rfl
theorem tS127 : tyS Tryz.prog 127 36 = true := by kernel_rfl
theorem tA127 : tyA Tryz.prog 127 36 = true := by kernel_rfl
theorem fOk65 : fnOk Tryz.prog 65 = true := by kernel_rfl
theorem tS126 : tyS Tryz.prog 126 4 = true := by kernel_rfl
theorem tAA127 : tyArrA Tryz.prog 127 9 4 126 = true := by kernel_rfl
theorem tF126_0 : tyF Tryz.prog 126 0 0 = true := by kernel_rfl
theorem tC4 : tyC Tryz.prog 4 = true := by kernel_rfl
theorem tF29_1 : tyF Tryz.prog 29 1 1 = true := by kernel_rfl
theorem tC9 : tyC Tryz.prog 9 = true := by kernel_rfl
theorem tF126_1 : tyF Tryz.prog 126 1 1 = true := by kernel_rfl
theorem tF29_2 : tyF Tryz.prog 29 2 2 = true := by kernel_rfl
theorem tC26 : tyC Tryz.prog 26 = true := by kernel_rfl
theorem tIsSl26 : tySlice Tryz.prog 26 = true := by kernel_rfl
theorem tF126_2 : tyF Tryz.prog 126 2 2 = true := by kernel_rfl
theorem tF29_3 : tyF Tryz.prog 29 3 3 = true := by kernel_rfl
theorem tF29_4 : tyF Tryz.prog 29 4 4 = true := by kernel_rfl
theorem tF126_3 : tyF Tryz.prog 126 3 3 = true := by kernel_rfl
theorem fOk66 : fnOk Tryz.prog 66 = true := by kernel_rfl
theorem tStr9 : tyStr Tryz.prog 9 = true := by kernel_rfl
theorem fOk62 : fnOk Tryz.prog 62 = true := by kernel_rfl
theorem fOk34 : fnOk Tryz.prog 34 = true := by kernel_rfl
theorem tSl26 : tySl Tryz.prog 26 1 = true := by kernel_rfl
theorem fOk35 : fnOk Tryz.prog 35 = true := by kernel_rfl
theorem fOk67 : fnOk Tryz.prog 67 = true := by kernel_rfl
theorem fOk36 : fnOk Tryz.prog 36 = true := by kernel_rfl
theorem fOk41 : fnOk Tryz.prog 41 = true := by kernel_rfl
theorem fOk12 : fnOk Tryz.prog 12 = true := by kernel_rfl
theorem tF25_0 : tyF Tryz.prog 25 0 0 = true := by kernel_rfl
theorem tF25_1 : tyF Tryz.prog 25 1 1 = true := by kernel_rfl
theorem tF25_2 : tyF Tryz.prog 25 2 2 = true := by kernel_rfl
theorem tC22 : tyC Tryz.prog 22 = true := by kernel_rfl
theorem tIsSl22 : tySlice Tryz.prog 22 = true := by kernel_rfl
theorem tSl22 : tySl Tryz.prog 22 2 = true := by kernel_rfl
theorem tA77 : tyA Tryz.prog 77 2 = true := by kernel_rfl
theorem tZ77 : zeroCells Tryz.prog 77 = some [.string ⟨#[]⟩, .string ⟨#[]⟩] := by kernel_rfl
theorem tS77 : tyS Tryz.prog 77 2 = true := by kernel_rfl
theorem tF77_0 : tyF Tryz.prog 77 0 0 = true := by kernel_rfl
theorem tF77_1 : tyF Tryz.prog 77 1 1 = true := by kernel_rfl
theorem tF25_3 : tyF Tryz.prog 25 3 3 = true := by kernel_rfl
theorem tC23 : tyC Tryz.prog 23 = true := by kernel_rfl
theorem tIsSl23 : tySlice Tryz.prog 23 = true := by kernel_rfl
theorem tSl23 : tySl Tryz.prog 23 2 = true := by kernel_rfl
theorem tA79 : tyA Tryz.prog 79 2 = true := by kernel_rfl
theorem tZ79 : zeroCells Tryz.prog 79 = some [.string ⟨#[]⟩, .int .i64 0] := by kernel_rfl
theorem tS79 : tyS Tryz.prog 79 2 = true := by kernel_rfl
theorem tF79_0 : tyF Tryz.prog 79 0 0 = true := by kernel_rfl
theorem tF79_1 : tyF Tryz.prog 79 1 1 = true := by kernel_rfl
theorem fOk10 : fnOk Tryz.prog 10 = true := by kernel_rfl
theorem fOk31 : fnOk Tryz.prog 31 = true := by kernel_rfl
theorem tEl103 : tyEl Tryz.prog 103 66 1 16 = true := by kernel_rfl
theorem tZ66 : zeroCells Tryz.prog 66 = some [.nilIface] := by kernel_rfl
theorem tIsSl103 : tySlice Tryz.prog 103 = true := by kernel_rfl
theorem tZ105 : zeroCells Tryz.prog 105 = some [.string ⟨#[]⟩, .slice none 0 0] := by kernel_rfl
theorem tPl105 : tyPlaces Tryz.prog 105 = some [(0, 1), (1, 1)] := by kernel_rfl
theorem tCn105 : Program.concrete Tryz.prog 105 = true := by kernel_rfl
theorem tZ106 : zeroCells Tryz.prog 106 = some [.string ⟨#[]⟩, .slice none 0 0] := by kernel_rfl
theorem tPl106 : tyPlaces Tryz.prog 106 = some [(0, 1), (1, 1)] := by kernel_rfl
theorem tCn106 : Program.concrete Tryz.prog 106 = true := by kernel_rfl
theorem tZ108 : zeroCells Tryz.prog 108 = some [.string ⟨#[]⟩] := by kernel_rfl
theorem tPl108 : tyPlaces Tryz.prog 108 = some [(0, 1)] := by kernel_rfl
theorem tCn108 : Program.concrete Tryz.prog 108 = true := by kernel_rfl
theorem tZ110 : zeroCells Tryz.prog 110 = some [.string ⟨#[]⟩, .int .i64 0, .int .i64 0] := by kernel_rfl
theorem tPl110 : tyPlaces Tryz.prog 110 = some [(0, 1), (1, 1), (2, 1)] := by kernel_rfl
theorem tCn110 : Program.concrete Tryz.prog 110 = true := by kernel_rfl
theorem tSl103 : tySl Tryz.prog 103 1 = true := by kernel_rfl
theorem tC66 : tyC Tryz.prog 66 = true := by kernel_rfl
theorem tZ112 : zeroCells Tryz.prog 112 = some [.nilIface] := by kernel_rfl
theorem tPl112 : tyPlaces Tryz.prog 112 = some [(0, 1)] := by kernel_rfl
theorem tCn112 : Program.concrete Tryz.prog 112 = true := by kernel_rfl
theorem tZ114 : zeroCells Tryz.prog 114 = some [.slice none 0 0] := by kernel_rfl
theorem tPl114 : tyPlaces Tryz.prog 114 = some [(0, 1)] := by kernel_rfl
theorem tCn114 : Program.concrete Tryz.prog 114 = true := by kernel_rfl
theorem tZ115 : zeroCells Tryz.prog 115 = some [.slice none 0 0] := by kernel_rfl
theorem tPl115 : tyPlaces Tryz.prog 115 = some [(0, 1)] := by kernel_rfl
theorem tCn115 : Program.concrete Tryz.prog 115 = true := by kernel_rfl
theorem tZ117 : zeroCells Tryz.prog 117 = some [] := by kernel_rfl
theorem tPl117 : tyPlaces Tryz.prog 117 = some [] := by kernel_rfl
theorem tCn117 : Program.concrete Tryz.prog 117 = true := by kernel_rfl
theorem tZ72 : zeroCells Tryz.prog 72 = some [.map none, .map none] := by kernel_rfl
theorem tPl72 : tyPlaces Tryz.prog 72 = some [(0, 1), (1, 1)] := by kernel_rfl
theorem tS72 : tyS Tryz.prog 72 2 = true := by kernel_rfl
theorem tF72_0 : tyF Tryz.prog 72 0 0 = true := by kernel_rfl
theorem tC69 : tyC Tryz.prog 69 = true := by kernel_rfl
theorem tMap69 : tyMap Tryz.prog 69 9 119 = true := by kernel_rfl
theorem tKey9 : KeyT Tryz.prog 9 isStr := keyT_str (by kernel_rfl)
theorem tZo119 : (Tryz.prog.info? 119).bind (·.zero) = some (.agg #[.bool false, .bool false, .string ⟨#[]⟩, .int .i64 0]) := by kernel_rfl
theorem tZ119 : zeroCells Tryz.prog 119 = some [.bool false, .bool false, .string ⟨#[]⟩, .int .i64 0] := by kernel_rfl
theorem tS119 : tyS Tryz.prog 119 4 = true := by kernel_rfl
theorem tF119_0 : tyF Tryz.prog 119 0 0 = true := by kernel_rfl
theorem tS4 : tyS Tryz.prog 4 1 = true := by kernel_rfl
theorem tF119_2 : tyF Tryz.prog 119 2 2 = true := by kernel_rfl
theorem tS9 : tyS Tryz.prog 9 1 = true := by kernel_rfl
theorem tA119 : tyA Tryz.prog 119 4 = true := by kernel_rfl
theorem tF119_1 : tyF Tryz.prog 119 1 1 = true := by kernel_rfl
theorem tF119_3 : tyF Tryz.prog 119 3 3 = true := by kernel_rfl
theorem tS3 : tyS Tryz.prog 3 1 = true := by kernel_rfl
theorem tA72 : tyA Tryz.prog 72 2 = true := by kernel_rfl
theorem fOk32 : fnOk Tryz.prog 32 = true := by kernel_rfl
theorem tNil_holds : ∀ T, T ∈ ([105, 106, 108, 110, 112, 114, 115, 117] : List Nat) → ∀ (v : Value) (w : World), (nilAhead (Tryz.prog.types.size + Made.depth) T v "provender/policy.holds").run Tryz.prog w = .ok (some false) w := fun T h => by
 simp only [List.mem_cons, List.not_mem_nil, or_false] at h
 rcases h with rfl | rfl | rfl | rfl | rfl | rfl | rfl | rfl
 all_goals exact fun v w => by kernel_rfl
theorem tS105 : tyS Tryz.prog 105 2 = true := by kernel_rfl
theorem tF105_0 : tyF Tryz.prog 105 0 0 = true := by kernel_rfl
theorem tF72_1 : tyF Tryz.prog 72 1 1 = true := by kernel_rfl
theorem tC70 : tyC Tryz.prog 70 = true := by kernel_rfl
theorem tIsMp70 : tyMp Tryz.prog 70 = true := by kernel_rfl
theorem fOk177 : fnOk Tryz.prog 177 = true := by kernel_rfl
theorem tF105_1 : tyF Tryz.prog 105 1 1 = true := by kernel_rfl
theorem fOk115 : fnOk Tryz.prog 115 = true := by kernel_rfl
theorem fOk180 : fnOk Tryz.prog 180 = true := by kernel_rfl
theorem fOk179 : fnOk Tryz.prog 179 = true := by kernel_rfl
theorem tS106 : tyS Tryz.prog 106 2 = true := by kernel_rfl
theorem tF106_0 : tyF Tryz.prog 106 0 0 = true := by kernel_rfl
theorem tF106_1 : tyF Tryz.prog 106 1 1 = true := by kernel_rfl
theorem fOk114 : fnOk Tryz.prog 114 = true := by kernel_rfl
theorem fOk93 : fnOk Tryz.prog 93 = true := by kernel_rfl
theorem fOk183 : fnOk Tryz.prog 183 = true := by kernel_rfl
theorem fOk184 : fnOk Tryz.prog 184 = true := by kernel_rfl
theorem fOk182 : fnOk Tryz.prog 182 = true := by kernel_rfl
theorem tS108 : tyS Tryz.prog 108 1 = true := by kernel_rfl
theorem tF108_0 : tyF Tryz.prog 108 0 0 = true := by kernel_rfl
theorem tS110 : tyS Tryz.prog 110 3 = true := by kernel_rfl
theorem tF110_0 : tyF Tryz.prog 110 0 0 = true := by kernel_rfl
theorem tF110_1 : tyF Tryz.prog 110 1 1 = true := by kernel_rfl
theorem tF110_2 : tyF Tryz.prog 110 2 2 = true := by kernel_rfl
theorem fOk187 : fnOk Tryz.prog 187 = true := by kernel_rfl
theorem tS112 : tyS Tryz.prog 112 1 = true := by kernel_rfl
theorem tF112_0 : tyF Tryz.prog 112 0 0 = true := by kernel_rfl
theorem fOk176 : fnOk Tryz.prog 176 = true := by kernel_rfl
theorem tS114 : tyS Tryz.prog 114 1 = true := by kernel_rfl
theorem tF114_0 : tyF Tryz.prog 114 0 0 = true := by kernel_rfl
theorem tC103 : tyC Tryz.prog 103 = true := by kernel_rfl
theorem tS115 : tyS Tryz.prog 115 1 = true := by kernel_rfl
theorem tF115_0 : tyF Tryz.prog 115 0 0 = true := by kernel_rfl
theorem tS117 : tyS Tryz.prog 117 0 = true := by kernel_rfl
theorem tM105_iholds : ∀ (v : Value) (args : Array Value) (w : World), (callMethod (.iface 105 v) "provender/policy.holds" args).run Tryz.prog w = .ok (.enter 178 (#[v] ++ args)) w := fun v args w => by kernel_rfl
theorem tM106_iholds : ∀ (v : Value) (args : Array Value) (w : World), (callMethod (.iface 106 v) "provender/policy.holds" args).run Tryz.prog w = .ok (.enter 181 (#[v] ++ args)) w := fun v args w => by kernel_rfl
theorem tM108_iholds : ∀ (v : Value) (args : Array Value) (w : World), (callMethod (.iface 108 v) "provender/policy.holds" args).run Tryz.prog w = .ok (.enter 185 (#[v] ++ args)) w := fun v args w => by kernel_rfl
theorem tM110_iholds : ∀ (v : Value) (args : Array Value) (w : World), (callMethod (.iface 110 v) "provender/policy.holds" args).run Tryz.prog w = .ok (.enter 186 (#[v] ++ args)) w := fun v args w => by kernel_rfl
theorem tM112_iholds : ∀ (v : Value) (args : Array Value) (w : World), (callMethod (.iface 112 v) "provender/policy.holds" args).run Tryz.prog w = .ok (.enter 188 (#[v] ++ args)) w := fun v args w => by kernel_rfl
theorem tM114_iholds : ∀ (v : Value) (args : Array Value) (w : World), (callMethod (.iface 114 v) "provender/policy.holds" args).run Tryz.prog w = .ok (.enter 189 (#[v] ++ args)) w := fun v args w => by kernel_rfl
theorem tM115_iholds : ∀ (v : Value) (args : Array Value) (w : World), (callMethod (.iface 115 v) "provender/policy.holds" args).run Tryz.prog w = .ok (.enter 190 (#[v] ++ args)) w := fun v args w => by kernel_rfl
theorem tM117_iholds : ∀ (v : Value) (args : Array Value) (w : World), (callMethod (.iface 117 v) "provender/policy.holds" args).run Tryz.prog w = .ok (.enter 191 (#[v] ++ args)) w := fun v args w => by kernel_rfl
theorem fOk8 : fnOk Tryz.prog 8 = true := by kernel_rfl
theorem fOk42 : fnOk Tryz.prog 42 = true := by kernel_rfl
theorem fOk43 : fnOk Tryz.prog 43 = true := by kernel_rfl
theorem fOk39 : fnOk Tryz.prog 39 = true := by kernel_rfl
theorem fOk88 : fnOk Tryz.prog 88 = true := by kernel_rfl
theorem tZ154 : zeroCells Tryz.prog 154 = some [.string ⟨#[]⟩, .string ⟨#[]⟩, .string ⟨#[]⟩, .string ⟨#[]⟩, .string ⟨#[]⟩, .string ⟨#[]⟩, .string ⟨#[]⟩, .string ⟨#[]⟩, .string ⟨#[]⟩, .string ⟨#[]⟩, .string ⟨#[]⟩, .string ⟨#[]⟩, .string ⟨#[]⟩, .string ⟨#[]⟩, .string ⟨#[]⟩, .string ⟨#[]⟩, .string ⟨#[]⟩, .string ⟨#[]⟩, .string ⟨#[]⟩, .string ⟨#[]⟩] := by kernel_rfl
theorem tArr154 : tyArr Tryz.prog 154 20 1 = true := by kernel_rfl
theorem tS154 : tyS Tryz.prog 154 20 = true := by kernel_rfl
theorem fOk63 : fnOk Tryz.prog 63 = true := by kernel_rfl
theorem fOk64 : fnOk Tryz.prog 64 = true := by kernel_rfl
theorem fOk37 : fnOk Tryz.prog 37 = true := by kernel_rfl
theorem fOk38 : fnOk Tryz.prog 38 = true := by kernel_rfl
theorem fOk68 : fnOk Tryz.prog 68 = true := by kernel_rfl
theorem fOk44 : fnOk Tryz.prog 44 = true := by kernel_rfl
theorem fOk13 : fnOk Tryz.prog 13 = true := by kernel_rfl
theorem fOk11 : fnOk Tryz.prog 11 = true := by kernel_rfl
theorem fOk33 : fnOk Tryz.prog 33 = true := by kernel_rfl
theorem tB4 : tyB Tryz.prog 4 = true := by kernel_rfl
theorem tZ122 : zeroCells Tryz.prog 122 = some [.bool false, .bool false, .string ⟨#[]⟩, .int .i64 0] := by kernel_rfl
theorem tPl122 : tyPlaces Tryz.prog 122 = some [(0, 1), (1, 1), (2, 1), (3, 1)] := by kernel_rfl
theorem tS122 : tyS Tryz.prog 122 4 = true := by kernel_rfl
theorem tF122_0 : tyF Tryz.prog 122 0 0 = true := by kernel_rfl
theorem tF122_2 : tyF Tryz.prog 122 2 2 = true := by kernel_rfl
theorem tF122_1 : tyF Tryz.prog 122 1 1 = true := by kernel_rfl
theorem tF122_3 : tyF Tryz.prog 122 3 3 = true := by kernel_rfl
theorem tA122 : tyA Tryz.prog 122 4 = true := by kernel_rfl
theorem fOk61 : fnOk Tryz.prog 61 = true := by kernel_rfl
theorem fOk86 : fnOk Tryz.prog 86 = true := by kernel_rfl
theorem fOk87 : fnOk Tryz.prog 87 = true := by kernel_rfl
theorem fOk60 : fnOk Tryz.prog 60 = true := by kernel_rfl
theorem fOk9 : fnOk Tryz.prog 9 = true := by kernel_rfl
theorem tA33 : tyA Tryz.prog 33 2 = true := by kernel_rfl
theorem tF33_0 : tyF Tryz.prog 33 0 0 = true := by kernel_rfl
theorem tC30 : tyC Tryz.prog 30 = true := by kernel_rfl
theorem tIsSl30 : tySlice Tryz.prog 30 = true := by kernel_rfl
theorem tF33_1 : tyF Tryz.prog 33 1 1 = true := by kernel_rfl
theorem tC31 : tyC Tryz.prog 31 = true := by kernel_rfl
theorem tIsSl31 : tySlice Tryz.prog 31 = true := by kernel_rfl
theorem tSl30 : tySl Tryz.prog 30 9 = true := by kernel_rfl
theorem tA87 : tyA Tryz.prog 87 9 = true := by kernel_rfl
theorem tZ87 : zeroCells Tryz.prog 87 = some [.string ⟨#[]⟩, .string ⟨#[]⟩, .int .i64 0, .string ⟨#[]⟩, .slice none 0 0, .int .i64 0, .int .i64 0, .slice none 0 0, .int .i64 0] := by kernel_rfl
theorem tS87 : tyS Tryz.prog 87 9 = true := by kernel_rfl
theorem tF87_0 : tyF Tryz.prog 87 0 0 = true := by kernel_rfl
theorem tMap70 : tyMap Tryz.prog 70 9 4 = true := by kernel_rfl
theorem tZo4 : (Tryz.prog.info? 4).bind (·.zero) = some (.bool false) := by kernel_rfl
theorem tF87_1 : tyF Tryz.prog 87 1 1 = true := by kernel_rfl
theorem tF87_2 : tyF Tryz.prog 87 2 2 = true := by kernel_rfl
theorem tF87_3 : tyF Tryz.prog 87 3 8 = true := by kernel_rfl
theorem tSl31 : tySl Tryz.prog 31 6 = true := by kernel_rfl
theorem tA44 : tyA Tryz.prog 44 6 = true := by kernel_rfl
theorem tZ44 : zeroCells Tryz.prog 44 = some [.string ⟨#[]⟩, .string ⟨#[]⟩, .int .i64 0, .int .i64 0, .string ⟨#[]⟩, .int .i64 0] := by kernel_rfl
theorem tS44 : tyS Tryz.prog 44 6 = true := by kernel_rfl
theorem tF44_1 : tyF Tryz.prog 44 1 1 = true := by kernel_rfl
theorem fOk69 : fnOk Tryz.prog 69 = true := by kernel_rfl
theorem tF44_0 : tyF Tryz.prog 44 0 0 = true := by kernel_rfl
theorem fOk71 : fnOk Tryz.prog 71 = true := by kernel_rfl
theorem fOk80 : fnOk Tryz.prog 80 = true := by kernel_rfl
theorem fOk70 : fnOk Tryz.prog 70 = true := by kernel_rfl
theorem tF44_2 : tyF Tryz.prog 44 2 2 = true := by kernel_rfl
theorem tF44_3 : tyF Tryz.prog 44 3 3 = true := by kernel_rfl
theorem tF44_4 : tyF Tryz.prog 44 4 4 = true := by kernel_rfl
theorem tF44_5 : tyF Tryz.prog 44 5 5 = true := by kernel_rfl
theorem fOk45 : fnOk Tryz.prog 45 = true := by kernel_rfl
theorem fOk14 : fnOk Tryz.prog 14 = true := by kernel_rfl
theorem fOk72 : fnOk Tryz.prog 72 = true := by kernel_rfl
theorem fOk46 : fnOk Tryz.prog 46 = true := by kernel_rfl
theorem fOk47 : fnOk Tryz.prog 47 = true := by kernel_rfl
theorem fOk15 : fnOk Tryz.prog 15 = true := by kernel_rfl
theorem fOk16 : fnOk Tryz.prog 16 = true := by kernel_rfl
theorem fOk81 : fnOk Tryz.prog 81 = true := by kernel_rfl
theorem fOk52 : fnOk Tryz.prog 52 = true := by kernel_rfl
theorem fOk19 : fnOk Tryz.prog 19 = true := by kernel_rfl
theorem fOk53 : fnOk Tryz.prog 53 = true := by kernel_rfl
theorem fOk20 : fnOk Tryz.prog 20 = true := by kernel_rfl
theorem tIsSl42 : tySlice Tryz.prog 42 = true := by kernel_rfl
theorem tSl42 : tySl Tryz.prog 42 4 = true := by kernel_rfl
theorem tZ25 : zeroCells Tryz.prog 25 = some [.string ⟨#[]⟩, .string ⟨#[]⟩, .slice none 0 0, .slice none 0 0] := by kernel_rfl
theorem fOk78 : fnOk Tryz.prog 78 = true := by kernel_rfl
theorem fOk49 : fnOk Tryz.prog 49 = true := by kernel_rfl
theorem tZ146 : zeroCells Tryz.prog 146 = some [.int .i64 0, .int .i64 0, .slice none 0 0] := by kernel_rfl
theorem tPl146 : tyPlaces Tryz.prog 146 = some [(0, 1), (1, 1), (2, 1)] := by kernel_rfl
theorem tS146 : tyS Tryz.prog 146 3 = true := by kernel_rfl
theorem tF146_0 : tyF Tryz.prog 146 0 0 = true := by kernel_rfl
theorem tF146_1 : tyF Tryz.prog 146 1 1 = true := by kernel_rfl
theorem fOk134 : fnOk Tryz.prog 134 = true := by kernel_rfl
theorem fOk123 : fnOk Tryz.prog 123 = true := by kernel_rfl
theorem fOk100 : fnOk Tryz.prog 100 = true := by kernel_rfl
theorem fOk79 : fnOk Tryz.prog 79 = true := by kernel_rfl
theorem tF146_2 : tyF Tryz.prog 146 2 2 = true := by kernel_rfl
theorem tC57 : tyC Tryz.prog 57 = true := by kernel_rfl
theorem tEl57 : tyEl Tryz.prog 57 3 1 8 = true := by kernel_rfl
theorem tZ3 : zeroCells Tryz.prog 3 = some [.int .i64 0] := by kernel_rfl
theorem tIsSl57 : tySlice Tryz.prog 57 = true := by kernel_rfl
theorem tS57 : tyS Tryz.prog 57 1 = true := by kernel_rfl
theorem tA146 : tyA Tryz.prog 146 3 = true := by kernel_rfl
theorem tEl94 : tyEl Tryz.prog 94 146 3 40 = true := by kernel_rfl
theorem tIsSl94 : tySlice Tryz.prog 94 = true := by kernel_rfl
theorem fOk51 : fnOk Tryz.prog 51 = true := by kernel_rfl
theorem tSl94 : tySl Tryz.prog 94 3 = true := by kernel_rfl
theorem tZ50 : zeroCells Tryz.prog 50 = some [.int .i64 0, .int .i64 0, .int .i64 0, .int .i64 0] := by kernel_rfl
theorem tPl50 : tyPlaces Tryz.prog 50 = some [(0, 1), (1, 1), (2, 1), (3, 1)] := by kernel_rfl
theorem tS50 : tyS Tryz.prog 50 4 = true := by kernel_rfl
theorem tSl57 : tySl Tryz.prog 57 1 = true := by kernel_rfl
theorem tF50_2 : tyF Tryz.prog 50 2 2 = true := by kernel_rfl
theorem tF50_3 : tyF Tryz.prog 50 3 3 = true := by kernel_rfl
theorem tA50 : tyA Tryz.prog 50 4 = true := by kernel_rfl
theorem tEl45 : tyEl Tryz.prog 45 50 4 32 = true := by kernel_rfl
theorem tIsSl45 : tySlice Tryz.prog 45 = true := by kernel_rfl
theorem fOk50 : fnOk Tryz.prog 50 = true := by kernel_rfl
theorem fOk17 : fnOk Tryz.prog 17 = true := by kernel_rfl
theorem fOk82 : fnOk Tryz.prog 82 = true := by kernel_rfl
theorem fOk54 : fnOk Tryz.prog 54 = true := by kernel_rfl
theorem tF50_1 : tyF Tryz.prog 50 1 1 = true := by kernel_rfl
theorem fOk101 : fnOk Tryz.prog 101 = true := by kernel_rfl
theorem fOk83 : fnOk Tryz.prog 83 = true := by kernel_rfl
theorem fOk55 : fnOk Tryz.prog 55 = true := by kernel_rfl
theorem fOk21 : fnOk Tryz.prog 21 = true := by kernel_rfl
theorem tSl45 : tySl Tryz.prog 45 4 = true := by kernel_rfl
theorem fOk22 : fnOk Tryz.prog 22 = true := by kernel_rfl
theorem fOk23 : fnOk Tryz.prog 23 = true := by kernel_rfl
theorem tEqG50 : Tryz.prog.eqGuardType Tryz.prog.depth 50 = false := by kernel_rfl
theorem fOk24 : fnOk Tryz.prog 24 = true := by kernel_rfl
theorem fOk25 : fnOk Tryz.prog 25 = true := by kernel_rfl
theorem fOk58 : fnOk Tryz.prog 58 = true := by kernel_rfl
theorem fOk59 : fnOk Tryz.prog 59 = true := by kernel_rfl
theorem fOk26 : fnOk Tryz.prog 26 = true := by kernel_rfl
theorem tMap102 : tyMap Tryz.prog 102 3 4 = true := by kernel_rfl
theorem tKey3 : KeyT Tryz.prog 3 (isInt .i64) := keyT_int (by kernel_rfl)
theorem fOk27 : fnOk Tryz.prog 27 = true := by kernel_rfl
theorem fOk28 : fnOk Tryz.prog 28 = true := by kernel_rfl
theorem fOk29 : fnOk Tryz.prog 29 = true := by kernel_rfl
theorem tZ33 : zeroCells Tryz.prog 33 = some [.slice none 0 0, .slice none 0 0] := by kernel_rfl
theorem tPl33 : tyPlaces Tryz.prog 33 = some [(0, 1), (1, 1)] := by kernel_rfl
theorem tEl31 : tyEl Tryz.prog 31 44 6 72 = true := by kernel_rfl
theorem fOk18 : fnOk Tryz.prog 18 = true := by kernel_rfl
theorem tS31 : tyS Tryz.prog 31 1 = true := by kernel_rfl
theorem fOk30 : fnOk Tryz.prog 30 = true := by kernel_rfl
def tt : TT := [(3, [.C, .S 1]), (4, [.C, .S 1, .B]), (8, [.Fn]), (9, [.C, .Str, .S 1, .Fn]), (10, [.Fn]), (11, [.Fn]), (12, [.Fn]), (13, [.Fn]), (14, [.Fn]), (15, [.Fn]), (16, [.Fn]), (17, [.Fn]), (19, [.Fn]), (20, [.Fn]), (21, [.Fn]), (22, [.C, .Sn, .Sl 2, .Fn]), (23, [.C, .Sn, .Sl 2, .Fn]), (24, [.Fn]), (25, [.S 4, .A 4, .F 0 0, .F 1 1, .F 2 2, .F 3 3, .Z 4 [.string ⟨#[]⟩, .string ⟨#[]⟩, .slice none 0 0, .slice none 0 0], .Fn]), (26, [.C, .Sn, .Sl 1, .Fn]), (27, [.C, .Sn, .Sl 6, .Fn]), (28, [.Fn]), (29, [.S 6, .A 6, .F 5 5, .Z 6 [.int .i64 0, .string ⟨#[]⟩, .slice none 0 0, .int .i64 0, .int .i64 0, .slice none 0 0], .F 0 0, .F 1 1, .F 2 2, .F 3 3, .F 4 4, .Fn]), (30, [.C, .Sn, .Sl 9]), (31, [.Fn, .C, .Sn, .Sl 6, .El 44 6 72, .S 1]), (32, [.Fn]), (33, [.S 2, .Fn, .A 2, .F 0 0, .F 1 1, .Z 2 [.slice none 0 0, .slice none 0 0], .Pl [(0, 1), (1, 1)]]), (34, [.Fn]), (35, [.Fn]), (36, [.Fn]), (37, [.Fn]), (38, [.Fn]), (39, [.Fn]), (40, [.Fn]), (41, [.Fn]), (42, [.Fn, .Sn, .Sl 4]), (43, [.Fn]), (44, [.Fn, .A 6, .Z 6 [.string ⟨#[]⟩, .string ⟨#[]⟩, .int .i64 0, .int .i64 0, .string ⟨#[]⟩, .int .i64 0], .S 6, .F 1 1, .F 0 0, .F 2 2, .F 3 3, .F 4 4, .F 5 5]), (45, [.Fn, .El 50 4 32, .Sn, .Sl 4]), (46, [.Fn]), (47, [.Fn]), (49, [.Fn]), (50, [.Z 4 [.int .i64 0, .int .i64 0, .int .i64 0, .int .i64 0], .Pl [(0, 1), (1, 1), (2, 1), (3, 1)], .S 4, .F 2 2, .F 3 3, .A 4, .F 1 1, .Fn]), (51, [.Fn]), (52, [.Fn]), (53, [.Fn]), (54, [.Fn]), (55, [.Fn]), (57, [.C, .El 3 1 8, .Sn, .S 1, .Sl 1]), (58, [.Fn]), (59, [.Fn]), (60, [.Fn]), (61, [.Fn]), (62, [.Fn]), (63, [.Fn]), (64, [.Fn]), (65, [.Fn]), (66, [.Fn, .C]), (67, [.Fn]), (68, [.Fn]), (69, [.C, .Fn]), (70, [.C]), (71, [.Fn]), (72, [.Z 2 [.map none, .map none], .Pl [(0, 1), (1, 1)], .S 2, .F 0 0, .A 2, .F 1 1, .Fn]), (77, [.A 2, .Z 2 [.string ⟨#[]⟩, .string ⟨#[]⟩], .S 2, .F 0 0, .F 1 1]), (78, [.Fn]), (79, [.A 2, .Z 2 [.string ⟨#[]⟩, .int .i64 0], .S 2, .F 0 0, .F 1 1, .Fn]), (80, [.Fn]), (81, [.Fn]), (82, [.Fn]), (83, [.Fn]), (86, [.Fn]), (87, [.Fn, .A 9, .Z 9 [.string ⟨#[]⟩, .string ⟨#[]⟩, .int .i64 0, .string ⟨#[]⟩, .slice none 0 0, .int .i64 0, .int .i64 0, .slice none 0 0, .int .i64 0], .S 9, .F 0 0, .F 1 1, .F 2 2, .F 3 8]), (88, [.Fn]), (93, [.Fn]), (94, [.El 146 3 40, .Sn, .Sl 3]), (100, [.Fn]), (101, [.Fn]), (103, [.El 66 1 16, .Sn, .Sl 1, .C]), (105, [.Z 2 [.string ⟨#[]⟩, .slice none 0 0], .Pl [(0, 1), (1, 1)], .S 2, .F 0 0, .F 1 1]), (106, [.Z 2 [.string ⟨#[]⟩, .slice none 0 0], .Pl [(0, 1), (1, 1)], .S 2, .F 0 0, .F 1 1]), (108, [.Z 1 [.string ⟨#[]⟩], .Pl [(0, 1)], .S 1, .F 0 0]), (110, [.Z 3 [.string ⟨#[]⟩, .int .i64 0, .int .i64 0], .Pl [(0, 1), (1, 1), (2, 1)], .S 3, .F 0 0, .F 1 1, .F 2 2]), (112, [.Z 1 [.nilIface], .Pl [(0, 1)], .S 1, .F 0 0]), (114, [.Z 1 [.slice none 0 0], .Pl [(0, 1)], .Fn, .S 1, .F 0 0]), (115, [.Z 1 [.slice none 0 0], .Pl [(0, 1)], .Fn, .S 1, .F 0 0]), (117, [.Z 0 [], .Pl [], .S 0]), (119, [.Z 4 [.bool false, .bool false, .string ⟨#[]⟩, .int .i64 0], .S 4, .F 0 0, .F 2 2, .A 4, .F 1 1, .F 3 3]), (122, [.Z 4 [.bool false, .bool false, .string ⟨#[]⟩, .int .i64 0], .Pl [(0, 1), (1, 1), (2, 1), (3, 1)], .S 4, .F 0 0, .F 2 2, .F 1 1, .F 3 3, .A 4]), (123, [.Fn]), (126, [.Z 4 [.bool false, .bool false, .bool false, .int .i64 0], .Pl [(0, 1), (1, 1), (2, 1), (3, 1)], .S 4, .F 0 0, .F 1 1, .F 2 2, .F 3 3]), (127, [.Z 36 [.bool false, .bool false, .bool false, .int .i64 0, .bool false, .bool false, .bool false, .int .i64 0, .bool false, .bool false, .bool false, .int .i64 0, .bool false, .bool false, .bool false, .int .i64 0, .bool false, .bool false, .bool false, .int .i64 0, .bool false, .bool false, .bool false, .int .i64 0, .bool false, .bool false, .bool false, .int .i64 0, .bool false, .bool false, .bool false, .int .i64 0, .bool false, .bool false, .bool false, .int .i64 0], .S 36, .A 36]), (134, [.Fn]), (146, [.Z 3 [.int .i64 0, .int .i64 0, .slice none 0 0], .Pl [(0, 1), (1, 1), (2, 1)], .S 3, .F 0 0, .F 1 1, .F 2 2, .A 3]), (154, [.Z 20 [.string ⟨#[]⟩, .string ⟨#[]⟩, .string ⟨#[]⟩, .string ⟨#[]⟩, .string ⟨#[]⟩, .string ⟨#[]⟩, .string ⟨#[]⟩, .string ⟨#[]⟩, .string ⟨#[]⟩, .string ⟨#[]⟩, .string ⟨#[]⟩, .string ⟨#[]⟩, .string ⟨#[]⟩, .string ⟨#[]⟩, .string ⟨#[]⟩, .string ⟨#[]⟩, .string ⟨#[]⟩, .string ⟨#[]⟩, .string ⟨#[]⟩, .string ⟨#[]⟩], .S 20, .Arr 20 1]), (176, [.Fn]), (177, [.Fn]), (179, [.Fn]), (180, [.Fn]), (183, [.Fn]), (184, [.Fn]), (187, [.Fn])]
theorem ok : TTok Tryz.prog tt := tt_all ⟨⟨tC3, tS3, trivial⟩, ⟨tC4, tS4, tB4, trivial⟩, ⟨fOk8, trivial⟩, ⟨tC9, tStr9, tS9, fOk9, trivial⟩, ⟨fOk10, trivial⟩, ⟨fOk11, trivial⟩, ⟨fOk12, trivial⟩, ⟨fOk13, trivial⟩, ⟨fOk14, trivial⟩, ⟨fOk15, trivial⟩, ⟨fOk16, trivial⟩, ⟨fOk17, trivial⟩, ⟨fOk19, trivial⟩, ⟨fOk20, trivial⟩, ⟨fOk21, trivial⟩, ⟨tC22, tIsSl22, tSl22, fOk22, trivial⟩, ⟨tC23, tIsSl23, tSl23, fOk23, trivial⟩, ⟨fOk24, trivial⟩, ⟨tS25, tA25, tF25_0, tF25_1, tF25_2, tF25_3, ⟨tZ25, rfl⟩, fOk25, trivial⟩, ⟨tC26, tIsSl26, tSl26, fOk26, trivial⟩, ⟨tC27, tIsSl27, tSl27, fOk27, trivial⟩, ⟨fOk28, trivial⟩, ⟨tS29, tA29, tF29_5, ⟨tZ29, rfl⟩, tF29_0, tF29_1, tF29_2, tF29_3, tF29_4, fOk29, trivial⟩, ⟨tC30, tIsSl30, tSl30, trivial⟩, ⟨fOk31, tC31, tIsSl31, tSl31, tEl31, tS31, trivial⟩, ⟨fOk32, trivial⟩, ⟨tS33, fOk33, tA33, tF33_0, tF33_1, ⟨tZ33, rfl⟩, tPl33, trivial⟩, ⟨fOk34, trivial⟩, ⟨fOk35, trivial⟩, ⟨fOk36, trivial⟩, ⟨fOk37, trivial⟩, ⟨fOk38, trivial⟩, ⟨fOk39, trivial⟩, ⟨fOk40, trivial⟩, ⟨fOk41, trivial⟩, ⟨fOk42, tIsSl42, tSl42, trivial⟩, ⟨fOk43, trivial⟩, ⟨fOk44, tA44, ⟨tZ44, rfl⟩, tS44, tF44_1, tF44_0, tF44_2, tF44_3, tF44_4, tF44_5, trivial⟩, ⟨fOk45, tEl45, tIsSl45, tSl45, trivial⟩, ⟨fOk46, trivial⟩, ⟨fOk47, trivial⟩, ⟨fOk49, trivial⟩, ⟨⟨tZ50, rfl⟩, tPl50, tS50, tF50_2, tF50_3, tA50, tF50_1, fOk50, trivial⟩, ⟨fOk51, trivial⟩, ⟨fOk52, trivial⟩, ⟨fOk53, trivial⟩, ⟨fOk54, trivial⟩, ⟨fOk55, trivial⟩, ⟨tC57, tEl57, tIsSl57, tS57, tSl57, trivial⟩, ⟨fOk58, trivial⟩, ⟨fOk59, trivial⟩, ⟨fOk60, trivial⟩, ⟨fOk61, trivial⟩, ⟨fOk62, trivial⟩, ⟨fOk63, trivial⟩, ⟨fOk64, trivial⟩, ⟨fOk65, trivial⟩, ⟨fOk66, tC66, trivial⟩, ⟨fOk67, trivial⟩, ⟨fOk68, trivial⟩, ⟨tC69, fOk69, trivial⟩, ⟨tC70, trivial⟩, ⟨fOk71, trivial⟩, ⟨⟨tZ72, rfl⟩, tPl72, tS72, tF72_0, tA72, tF72_1, fOk72, trivial⟩, ⟨tA77, ⟨tZ77, rfl⟩, tS77, tF77_0, tF77_1, trivial⟩, ⟨fOk78, trivial⟩, ⟨tA79, ⟨tZ79, rfl⟩, tS79, tF79_0, tF79_1, fOk79, trivial⟩, ⟨fOk80, trivial⟩, ⟨fOk81, trivial⟩, ⟨fOk82, trivial⟩, ⟨fOk83, trivial⟩, ⟨fOk86, trivial⟩, ⟨fOk87, tA87, ⟨tZ87, rfl⟩, tS87, tF87_0, tF87_1, tF87_2, tF87_3, trivial⟩, ⟨fOk88, trivial⟩, ⟨fOk93, trivial⟩, ⟨tEl94, tIsSl94, tSl94, trivial⟩, ⟨fOk100, trivial⟩, ⟨fOk101, trivial⟩, ⟨tEl103, tIsSl103, tSl103, tC103, trivial⟩, ⟨⟨tZ105, rfl⟩, tPl105, tS105, tF105_0, tF105_1, trivial⟩, ⟨⟨tZ106, rfl⟩, tPl106, tS106, tF106_0, tF106_1, trivial⟩, ⟨⟨tZ108, rfl⟩, tPl108, tS108, tF108_0, trivial⟩, ⟨⟨tZ110, rfl⟩, tPl110, tS110, tF110_0, tF110_1, tF110_2, trivial⟩, ⟨⟨tZ112, rfl⟩, tPl112, tS112, tF112_0, trivial⟩, ⟨⟨tZ114, rfl⟩, tPl114, fOk114, tS114, tF114_0, trivial⟩, ⟨⟨tZ115, rfl⟩, tPl115, fOk115, tS115, tF115_0, trivial⟩, ⟨⟨tZ117, rfl⟩, tPl117, tS117, trivial⟩, ⟨⟨tZ119, rfl⟩, tS119, tF119_0, tF119_2, tA119, tF119_1, tF119_3, trivial⟩, ⟨⟨tZ122, rfl⟩, tPl122, tS122, tF122_0, tF122_2, tF122_1, tF122_3, tA122, trivial⟩, ⟨fOk123, trivial⟩, ⟨⟨tZ126, rfl⟩, tPl126, tS126, tF126_0, tF126_1, tF126_2, tF126_3, trivial⟩, ⟨⟨tZ127, rfl⟩, tS127, tA127, trivial⟩, ⟨fOk134, trivial⟩, ⟨⟨tZ146, rfl⟩, tPl146, tS146, tF146_0, tF146_1, tF146_2, tA146, trivial⟩, ⟨⟨tZ154, rfl⟩, tS154, tArr154, trivial⟩, ⟨fOk176, trivial⟩, ⟨fOk177, trivial⟩, ⟨fOk179, trivial⟩, ⟨fOk180, trivial⟩, ⟨fOk183, trivial⟩, ⟨fOk184, trivial⟩, ⟨fOk187, trivial⟩, trivial⟩
instance {N : Nat} {w : World} {m : Mem} {o : Nat → Prop} {p : Nat} {l : Nat → Option (Option (Nat × Cap))} {g : Gl} {h : GlOk g m} : TC ⟨Tryz.prog, N, w, m, o, p, l, g, h⟩ tt := ⟨ok⟩
end Go.Proofs.YtkeeppclihjlhaaGreatDoor
