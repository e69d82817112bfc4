/- Part of the proof: SB. -/
import Derived.Test.YtpbkggamiipdmaaGreatR3SA
namespace Go.Proofs.YtpbkggamiipdmaaGreat
open Go Go.Pv
set_option linter.unusedVariables false
set_option linter.unusedSimpArgs false
set_option maxRecDepth 100000
abbrev SetM := List (Tx × Bool)
def sset (m : SetM) : List Tx → SetM
  | [] => m
  | x :: l => sset (mput m x true) l
def has (m : SetM) (x : Tx) : Bool := (mget m x).getD false
theorem has_sset (x : Tx) : ∀ (l : List Tx) (m : SetM), has (sset m l) x = (has m x || l.contains x)
  | [], m => by simp [sset]
  | y :: l, m => by
    rw [sset, has_sset x l, List.contains_cons]
    unfold has
    rw [mget_mput]
    by_cases h : y = x
    · subst h; simp
    · rw [if_neg h]
      have : (x == y) = false := by simpa using fun e => h e.symm
      rw [this, Bool.false_or]
theorem has_set (x : Tx) (l : List Tx) : has (sset [] l) x = l.contains x := by rw [has_sset]; simp [has, mget]
def methE : Option Tx → List Tx → Int
  | _, [] => 0
  | p, s :: l => if nme s p ≠ 0 then nme s p else methE (some s) l
def ifE : Option Tx → List TIface → Int
  | _, [] => 0
  | p, x :: l => if nme x.Name p ≠ 0 then nme x.Name p else if x.Methods = [] then 13 else if 200 < x.Methods.length then 3 else if methE none x.Methods ≠ 0 then methE none x.Methods else ifE (some x.Name) l
def mtE (fs : Tx → Bool) (lo : Bool) : Option Tx → List TMethod → Int
  | _, [] => 0
  | p, m :: l => if nme m.Name p ≠ 0 then nme m.Name p else if (!lo && !fs m.Func) = true then 4 else mtE fs lo (some m.Name) l
def tyE (fs : Tx → Bool) (lo : Bool) : Option Tx → List TType → Int
  | _, [] => 0
  | p, x :: l => if nme x.Name p ≠ 0 then nme x.Name p else if 200 < x.Methods.length then 3 else if mtE fs lo none x.Methods ≠ 0 then mtE fs lo none x.Methods else tyE fs lo (some x.Name) l
def clE (fs : Tx → Bool) (is : Tx → Option (List Tx)) (lo : Bool) (c : TCall) : Int :=
  if c.Kind = 1 then (if (!lo && !fs c.Target) = true then 4 else if c.Method ≠ [] then 2 else if c.Feature ≠ [] ∧ nm c.Feature = false then 8 else 0)
  else if c.Kind = 2 then (if (!lo && !((is c.Target).elim false fun l => l.contains c.Method)) = true then 4 else if c.Feature ≠ [] ∧ nm c.Feature = false then 8 else 0) else 7
def csE (fs : Tx → Bool) (is : Tx → Option (List Tx)) (lo : Bool) : List TCall → Int
  | [] => 0
  | c :: l => if clE fs is lo c ≠ 0 then clE fs is lo c else csE fs is lo l
def lsE (there : Tx → Bool) (lo : Bool) : Option Tx → List Tx → Int
  | _, [] => 0
  | p, s :: l => if (!lo && !there s) = true then 4 else if (p.elim false fun b => le s b) = true then 10 else lsE there lo (some s) l
def fnE (fs ts : Tx → Bool) (is : Tx → Option (List Tx)) (lo : Bool) : Option Tx → List TFunc → Int
  | _, [] => 0
  | p, x :: l => if nme x.Name p ≠ 0 then nme x.Name p else if nm x.Component = false then 8 else if 200 < x.Calls.length then 3 else if csE fs is lo x.Calls ≠ 0 then csE fs is lo x.Calls else if lsE ts lo none x.Makes ≠ 0 then lsE ts lo none x.Makes else fnE fs ts is lo (some x.Name) l
def ifm (m : List (Tx × TIface)) : List TIface → List (Tx × TIface)
  | [] => m
  | x :: l => ifm (mput m x.Name x) l
def fsOf (g : TGraph) : Tx → Bool := fun x => (g.Funcs.map (·.Name)).contains x
def tsOf (g : TGraph) : Tx → Bool := fun x => (g.Types.map (·.Name)).contains x
def isOf (g : TGraph) : Tx → Option (List Tx) := fun x => (mget (ifm [] g.Ifaces) x).map (·.Methods)
def chk (lo : Bool) (g : TGraph) : Int :=
  if 200 < g.Ifaces.length then 3 else if 500 < g.Types.length then 3 else if 3000 < g.Funcs.length then 3
  else if ifE none g.Ifaces ≠ 0 then ifE none g.Ifaces
  else if tyE (fsOf g) lo none g.Types ≠ 0 then tyE (fsOf g) lo none g.Types
  else if fnE (fsOf g) (tsOf g) (isOf g) lo none g.Funcs ≠ 0 then fnE (fsOf g) (tsOf g) (isOf g) lo none g.Funcs
  else lsE (fsOf g) lo none g.Entries
theorem M59_L3_eq {F : Nat} (k : SetM → Option Treach_checker) : ∀ (l : List TFunc) (m : SetM), M59_L3 F k l m = k (sset m (l.map (·.Name)))
  | [], m => rfl
  | x :: l, m => by rw [M59_L3, M59_L3_eq k l]; rfl
theorem M59_L2_eq {F : Nat} (k : SetM → Option Treach_checker) : ∀ (l : List TType) (m : SetM), M59_L2 F k l m = k (sset m (l.map (·.Name)))
  | [], m => rfl
  | x :: l, m => by rw [M59_L2, M59_L2_eq k l]; rfl
theorem M59_L1_eq {F : Nat} (k : List (Tx × TIface) → Option Treach_checker) : ∀ (l : List TIface) (m : List (Tx × TIface)), M59_L1 F k l m = k (ifm m l)
  | [], m => rfl
  | x :: l, m => by rw [M59_L1, M59_L1_eq k l]; rfl
def kOf (g : TGraph) (lo : Bool) : Treach_checker := Treach_checker.mk lo (ifm [] g.Ifaces) (sset [] (g.Types.map (·.Name))) (sset [] (g.Funcs.map (·.Name)))
theorem M59_eq (F : Nat) (g : TGraph) (lo : Bool) : M59 F g lo = some (kOf g lo) := by
  unfold M59
  simp only [jn_def, M59_L1_eq, M59_L2_eq, M59_L3_eq]
  rfl
def pz (n : Int) (p : Option Tx) (s : Tx) : Prop := match p with | none => n = 0 | some b => n > 0 ∧ s = b
theorem nmd_pz {n : Int} {p : Option Tx} {s x : Tx} (h : pz n p s) : nmd x s (n == 0) = nme x p := by
  cases p with
  | none => have h : n = 0 := h; subst h; exact nmd_first x s
  | some b =>
    obtain ⟨h1, h2⟩ := h
    subst h2
    rw [show (n == 0) = false by simp; omega]; exact nmd_next x s
theorem M127_L2_eq (F : Nat) (k : Option Int) : ∀ (l : List Tx) (n : Int) (s : Tx) (p : Option Tx), (∀ x, x ∈ l → x.length ≤ maxLen) → 0 ≤ n → pz n p s → M127_L2 F k l n s = if methE p l ≠ 0 then some (methE p l) else k
  | [], n, s, p, _, _, _ => by simp [M127_L2, methE]
  | x :: l, n, s, p, hx, hn, hp => by
    rw [M127_L2, M173_eq F x s _ (hx x (by simp)), Option.bind_some, nmd_pz hp, methE]
    by_cases h : nme x p = 0
    · simp only [h, bne_self_eq_false, Bool.false_eq_true, ne_eq, not_true_eq_false, if_false]
      exact M127_L2_eq F k l (n + 1) x (some x) (fun y hy => hx y (List.mem_cons_of_mem _ hy)) (by omega) ⟨by omega, rfl⟩
    · rw [if_pos (by simpa using h), if_pos h, if_pos h]
theorem M127_L1_eq (F : Nat) (k : Option Int) : ∀ (l : List TIface) (n : Int) (s : Tx) (p : Option Tx), (∀ x, x ∈ l → okTIface x) → 0 ≤ n → pz n p s → M127_L1 F k l n s = if ifE p l ≠ 0 then some (ifE p l) else k
  | [], n, s, p, _, _, _ => by simp [M127_L1, ifE]
  | x :: l, n, s, p, hx, hn, hp => by
    obtain ⟨o1, ⟨o2, _⟩, _⟩ := hx x (by simp)
    rw [M127_L1]
    simp only [jn_def]
    rw [M173_eq F x.Name s _ o1, Option.bind_some, nmd_pz hp, ifE]
    by_cases h : nme x.Name p = 0
    · simp only [h, bne_self_eq_false, Bool.false_eq_true, ne_eq, not_true_eq_false, if_false]
      by_cases h1 : x.Methods = []
      · rw [if_pos (by simp [h1]), if_pos h1]; simp
      · rw [if_neg (by simpa using h1), if_neg h1]
        by_cases h2 : 200 < x.Methods.length
        · rw [if_t (by omega), if_pos h2]; simp
        · rw [if_f (by omega), if_neg h2, M127_L2_eq F _ _ 0 [] none o2 (by omega) rfl]
          by_cases h3 : methE none x.Methods = 0
          · simp only [h3, bne_self_eq_false, Bool.false_eq_true, ne_eq, not_true_eq_false, if_false]
            exact M127_L1_eq F k l (n + 1) x.Name (some x.Name) (fun y hy => hx y (List.mem_cons_of_mem _ hy)) (by omega) ⟨by omega, rfl⟩
          · rw [if_pos h3, if_pos h3, if_pos h3]
    · rw [if_pos (by simpa using h), if_pos h, if_pos h]
theorem M128_L2_eq (F : Nat) (a : Treach_checker) (fs : Tx → Bool) (hf : ∀ x, (mget a.funcs x).getD false = fs x) (k : Option Int) : ∀ (l : List TMethod) (n : Int) (s : Tx) (p : Option Tx), (∀ x, x ∈ l → x.Name.length ≤ maxLen) → 0 ≤ n → pz n p s → M128_L2 F a k l n s = if mtE fs a.loose p l ≠ 0 then some (mtE fs a.loose p l) else k
  | [], n, s, p, _, _, _ => by simp [M128_L2, mtE]
  | x :: l, n, s, p, hx, hn, hp => by
    have ih := M128_L2_eq F a fs hf k l (n + 1) x.Name (some x.Name) (fun y hy => hx y (List.mem_cons_of_mem _ hy)) (by omega) ⟨by omega, rfl⟩
    rw [M128_L2]
    simp only [jn_def]
    rw [M173_eq F x.Name s _ (hx x (by simp)), Option.bind_some, nmd_pz hp, mtE, ih, hf]
    by_cases h : nme x.Name p = 0
    · simp only [h, bne_self_eq_false, Bool.false_eq_true, ne_eq, not_true_eq_false, if_false]
      cases a.loose <;> cases fs x.Func <;> simp
    · rw [if_pos (by simpa using h), if_pos h, if_pos h]
theorem M128_L1_eq (F : Nat) (a : Treach_checker) (fs : Tx → Bool) (hf : ∀ x, (mget a.funcs x).getD false = fs x) (k : Option Int) : ∀ (l : List TType) (n : Int) (s : Tx) (p : Option Tx), (∀ x, x ∈ l → okTType x) → 0 ≤ n → pz n p s → M128_L1 F a k l n s = if tyE fs a.loose p l ≠ 0 then some (tyE fs a.loose p l) else k
  | [], n, s, p, _, _, _ => by simp [M128_L1, tyE]
  | x :: l, n, s, p, hx, hn, hp => by
    obtain ⟨o1, ⟨o2, _⟩, _⟩ := hx x (by simp)
    rw [M128_L1]
    simp only [jn_def]
    rw [M173_eq F x.Name s _ o1, Option.bind_some, nmd_pz hp, tyE]
    by_cases h : nme x.Name p = 0
    · simp only [h, bne_self_eq_false, Bool.false_eq_true, ne_eq, not_true_eq_false, if_false]
      by_cases h2 : 200 < x.Methods.length
      · rw [if_t (by omega), if_pos h2]; simp
      · rw [if_f (by omega), if_neg h2, M128_L2_eq F a fs hf _ _ 0 [] none (fun y hy => (o2 y hy).1) (by omega) rfl]
        by_cases h3 : mtE fs a.loose none x.Methods = 0
        · simp only [h3, bne_self_eq_false, Bool.false_eq_true, ne_eq, not_true_eq_false, if_false]
          exact M128_L1_eq F a fs hf k l (n + 1) x.Name (some x.Name) (fun y hy => hx y (List.mem_cons_of_mem _ hy)) (by omega) ⟨by omega, rfl⟩
        · rw [if_pos h3, if_pos h3, if_pos h3]
    · rw [if_pos (by simpa using h), if_pos h, if_pos h]
theorem M23_eq (F : Nat) (l : List Tx) (x : Tx) : M23 F l x = some (l.contains x) := by
  unfold M23 M86
  rw [jn_def]
  have := idxL (g := M86_L1 F x (some (-1))) (fun y : Tx => x == y) (fun _ => rfl) (fun y l n => by rw [M86_L1]) l 0
  rw [show ((0 : Nat) : Int) = 0 from rfl] at this
  rw [this]
  have e : (l.any fun y => x == y) = l.contains x := by rw [List.contains_eq_any_beq]
  rw [e]
  cases l.contains x
  · rfl
  · simp
theorem M174_eq (F : Nat) (a : Treach_checker) (fs : Tx → Bool) (is : Tx → Option (List Tx)) (hf : ∀ x, (mget a.funcs x).getD false = fs x) (hi : ∀ x, (mget a.ifaces x).map (·.Methods) = is x) (c : TCall) (hc : c.Feature.length ≤ maxLen) : M174 F a c = some (clE fs is a.loose c) := by
  unfold M174 clE
  rw [jn_def, M79_eq F _ hc, ← hi, hf]
  simp only [Option.bind_some, M23_eq]
  have tail : (if (!(c.Feature == ([] : Tx))) = true then if (!nm c.Feature) = true then some (8 : Int) else some 0 else some 0) = some (if c.Feature ≠ [] ∧ nm c.Feature = false then 8 else 0) := by
    by_cases h1 : c.Feature = [] <;> cases h2 : nm c.Feature <;> simp [h1]
  rw [tail]
  by_cases k1 : c.Kind = 1
  · rw [if_pos (by simp [k1]), if_pos k1]
    by_cases k3 : c.Method = [] <;> cases a.loose <;> cases fs c.Target <;> simp [k3]
  · rw [if_neg (by simpa using k1), if_neg k1]
    by_cases k2 : c.Kind = 2
    · rw [if_pos (by simp [k2]), if_pos k2]
      cases hm : mget a.ifaces c.Target with
      | none => cases a.loose <;> simp
      | some x =>
        cases a.loose
        · cases hcc : x.Methods.contains c.Method <;> simp [hcc] <;> simp_all
        · simp
    · rw [if_neg (by simpa using k2), if_neg k2]
theorem M129_L2_eq (F : Nat) (a : Treach_checker) (fs : Tx → Bool) (is : Tx → Option (List Tx)) (hf : ∀ x, (mget a.funcs x).getD false = fs x) (hi : ∀ x, (mget a.ifaces x).map (·.Methods) = is x) (k : Option Int) : ∀ (l : List TCall), (∀ c, c ∈ l → c.Feature.length ≤ maxLen) → M129_L2 F a k l = if csE fs is a.loose l ≠ 0 then some (csE fs is a.loose l) else k
  | [], _ => by simp [M129_L2, csE]
  | c :: l, h => by
    rw [M129_L2, M174_eq F a fs is hf hi c (h c (by simp)), Option.bind_some, csE, M129_L2_eq F a fs is hf hi k l (fun c hc => h c (List.mem_cons_of_mem _ hc))]
    by_cases h1 : clE fs is a.loose c = 0
    · simp only [h1, bne_self_eq_false, Bool.false_eq_true, ne_eq, not_true_eq_false, if_false]
    · rw [if_pos (by simpa using h1), if_pos h1, if_pos h1]
theorem drop_at {α : Type} {a l : List α} {x : α} {n : Nat} (h : a.drop n = x :: l) : ∃ hn : n < a.length, a[n] = x ∧ a.drop (n + 1) = l := by
  have hn : n < a.length := by
    rcases Nat.lt_or_ge n a.length with h2 | h2
    · exact h2
    · rw [List.drop_eq_nil_of_le h2] at h; simp at h
  rw [List.drop_eq_getElem_cons hn] at h
  simp only [List.cons.injEq] at h
  exact ⟨hn, h.1, h.2⟩
theorem prev_idx {α : Type} {a : List α} {n : Nat} (hn : n < a.length) (h0 : n ≠ 0) (hb : a.length ≤ maxLen) : ∃ h : n - 1 < a.length, idx a (w64 ((n : Int) - 1)) = some a[n - 1] := by
  have hb' : a.length ≤ 9223372036854775807 := hb
  refine ⟨by omega, ?_⟩
  rw [w64_id (by omega) (by omega), show (n : Int) - 1 = ((n - 1 : Nat) : Int) by omega]
  exact idx_nat _
def prv (a : List Tx) (n : Nat) : Option Tx := if n = 0 then none else a[n - 1]?
theorem prv_zero (a : List Tx) : prv a 0 = none := rfl
theorem prv_next {a : List Tx} {x : Tx} {n : Nat} (hn : n < a.length) (hx : a[n] = x) : prv a (n + 1) = some x := by
  unfold prv
  rw [if_neg (by omega), Nat.add_sub_cancel, List.getElem?_eq_getElem hn, hx]
theorem prv_some {a : List Tx} {n : Nat} (hn : n < a.length) (h0 : n ≠ 0) : ∃ h : n - 1 < a.length, prv a n = some a[n - 1] := by
  refine ⟨by omega, ?_⟩
  unfold prv
  rw [if_neg h0, List.getElem?_eq_getElem (by omega)]
theorem M130_L1_eq (F : Nat) (a : Treach_checker) (a2 : List Tx) (a3 : SetM) (ha : a2.length ≤ maxLen) (k : Option Int) : ∀ (l : List Tx) (n : Nat), a2.drop n = l → M130_L1 F a a2 a3 k l n = if lsE (has a3) a.loose (prv a2 n) l ≠ 0 then some (lsE (has a3) a.loose (prv a2 n) l) else k
  | [], n, _ => by simp [M130_L1, lsE]
  | x :: l, n, hd => by
    obtain ⟨hn, hx, hl⟩ := drop_at hd
    have ih := M130_L1_eq F a a2 a3 ha k l (n + 1) hl
    rw [prv_next hn hx, show ((n + 1 : Nat) : Int) = (n : Int) + 1 from rfl] at ih
    rw [M130_L1]
    simp only [jn_def]
    rw [ih, lsE]
    have e : (mget a3 x).getD false = has a3 x := rfl
    rw [e]
    by_cases h0 : n = 0
    · subst h0
      rw [prv_zero]
      cases a.loose <;> cases has a3 x <;> simp
    · obtain ⟨_, e1⟩ := prev_idx hn h0 ha
      obtain ⟨_, e2⟩ := prv_some hn h0
      rw [if_t (show (n : Int) > 0 by omega), e1, e2]
      simp only [Option.bind_some, Option.elim_some]
      have e3 : (Op.bytesLess x a2[n - 1] || x == a2[n - 1]) = le x a2[n - 1] := rfl
      rw [e3]
      cases a.loose <;> cases has a3 x <;> by_cases hc : le x a2[n - 1] = true <;> simp [hc]
theorem M130_eq (F : Nat) (a : Treach_checker) (a2 : List Tx) (a3 : SetM) (ha : a2.length ≤ maxLen) : M130 F a a2 a3 = some (lsE (has a3) a.loose none a2) := by
  unfold M130
  rw [jn_def]
  have := M130_L1_eq F a a2 a3 ha (some 0) a2 0 rfl
  rw [show ((0 : Nat) : Int) = 0 from rfl, prv_zero] at this
  rw [this]
  split
  · rfl
  · rename_i h; simp only [ne_eq, Decidable.not_not] at h; rw [h]
theorem M129_L1_eq (F : Nat) (a : Treach_checker) (fs ts : Tx → Bool) (is : Tx → Option (List Tx)) (hf : ∀ x, (mget a.funcs x).getD false = fs x) (hi : ∀ x, (mget a.ifaces x).map (·.Methods) = is x) (ht : has a.types = ts) (k : Option Int) :
    ∀ (l : List TFunc) (n : Int) (s : Tx) (p : Option Tx), (∀ x, x ∈ l → okTFunc x) → 0 ≤ n → pz n p s → M129_L1 F a k l n s = if fnE fs ts is a.loose p l ≠ 0 then some (fnE fs ts is a.loose p l) else k
  | [], n, s, p, _, _, _ => by simp [M129_L1, fnE]
  | x :: l, n, s, p, hx, hn, hp => by
    obtain ⟨o1, o2, ⟨o3, _⟩, ⟨_, o4⟩, _⟩ := hx x (by simp)
    rw [M129_L1]
    simp only [jn_def]
    rw [M173_eq F x.Name s _ o1, Option.bind_some, nmd_pz hp, fnE]
    by_cases h : nme x.Name p = 0
    · simp only [h, bne_self_eq_false, Bool.false_eq_true, ne_eq, not_true_eq_false, if_false]
      rw [M79_eq F _ o2, Option.bind_some]
      by_cases h1 : nm x.Component = false
      · rw [if_pos (by simp [h1]), if_pos h1]; simp
      · rw [if_neg (by simpa using h1), if_neg h1]
        by_cases h2 : 200 < x.Calls.length
        · rw [if_t (by omega), if_pos h2]; simp
        · rw [if_f (by omega), if_neg h2, M129_L2_eq F a fs is hf hi _ _ (fun c hc => (o3 c hc).2.2.2.1)]
          by_cases h3 : csE fs is a.loose x.Calls = 0
          · simp only [h3, bne_self_eq_false, Bool.false_eq_true, ne_eq, not_true_eq_false, if_false]
            rw [M130_eq F a _ _ o4, Option.bind_some, ht]
            by_cases h4 : lsE ts a.loose none x.Makes = 0
            · simp only [h4, bne_self_eq_false, Bool.false_eq_true, ne_eq, not_true_eq_false, if_false]
              exact M129_L1_eq F a fs ts is hf hi ht k l (n + 1) x.Name (some x.Name) (fun y hy => hx y (List.mem_cons_of_mem _ hy)) (by omega) ⟨by omega, rfl⟩
            · rw [if_pos (by simpa using h4), if_pos h4, if_pos h4]
          · rw [if_pos h3, if_pos h3, if_pos h3]
    · rw [if_pos (by simpa using h), if_pos h, if_pos h]
theorem orz {n : Int} : (if n ≠ 0 then some n else some 0) = some n := by split <;> simp_all
theorem M60_eq (F : Nat) (g : TGraph) (lo : Bool) (h : okTGraph g) : M60 F (kOf g lo) g = some (chk lo g) := by
  obtain ⟨⟨o1, _⟩, ⟨o2, _⟩, ⟨o3, _⟩, ⟨_, o4⟩, _⟩ := h
  have hf : ∀ x, (mget (kOf g lo).funcs x).getD false = fsOf g x := fun x => has_set x _
  have ht : has (kOf g lo).types = tsOf g := funext fun x => has_set x _
  have hi : ∀ x, (mget (kOf g lo).ifaces x).map (·.Methods) = isOf g x := fun x => rfl
  have hf' : has (kOf g lo).funcs = fsOf g := funext fun x => has_set x _
  unfold M60 chk M127 M128 M129
  simp only [jn_def]
  rw [M127_L1_eq F _ _ 0 [] none o1 (by omega) rfl, M128_L1_eq F _ _ hf _ _ 0 [] none o2 (by omega) rfl, M129_L1_eq F _ _ _ _ hf hi ht _ _ 0 [] none o3 (by omega) rfl, orz, orz, orz, M130_eq F _ _ _ o4, hf', show (kOf g lo).loose = lo from rfl]
  simp only [Option.bind_some]
  by_cases h1 : 200 < g.Ifaces.length
  · rw [if_t (by omega), if_pos h1]
  rw [if_f (by omega), if_neg h1]
  by_cases h2 : 500 < g.Types.length
  · rw [if_t (by omega), if_pos h2]
  rw [if_f (by omega), if_neg h2]
  by_cases h3 : 3000 < g.Funcs.length
  · rw [if_t (by omega), if_pos h3]
  rw [if_f (by omega), if_neg h3]
  refine ite2 ne0 (fun _ => rfl) (fun _ => ite2 ne0 (fun _ => rfl) (fun _ => ite2 ne0 (fun _ => rfl) (fun _ => rfl)))
theorem M17_eq (F : Nat) (g : TGraph) (h : okTGraph g) : M17 F g = some (chk false g) := by
  unfold M17
  rw [M59_eq, Option.bind_some, M60_eq F g false h]; rfl
end Go.Proofs.YtpbkggamiipdmaaGreat
