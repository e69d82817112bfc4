/- Part of the proof: SC. -/
import Derived.Test.YtpbkggamiipdmaaGreatR3SB
namespace Go.Proofs.YtpbkggamiipdmaaGreat
open Go Go.Pv
set_option linter.unusedVariables false
set_option linter.unusedSimpArgs false
set_option maxRecDepth 100000
theorem mput_mput {α β : Type} [DecidableEq α] (k : α) (a b : β) : ∀ m : List (α × β), mput (mput m k a) k b = mput m k b
  | [] => by simp [mput]
  | (q, v) :: m => by
    by_cases h : q = k
    · simp [mput, h]
    · simp [mput, h, mput_mput k a b m]
abbrev MM := List (Tx × SetM)
theorem M72_L2_eq (F : Nat) (x : TIface) (k : MM → Option Tprovenderref6_names) (m : MM) : ∀ (l : List Tx) (a : SetM), M72_L2 F x k l (mput m x.Name a) = k (mput m x.Name (sset a l))
  | [], a => rfl
  | y :: l, a => by
    rw [M72_L2, mget_mput, if_pos rfl]
    simp only [Option.isSome_some, if_true, Option.getD_some]
    rw [mput_mput, M72_L2_eq F x k m l]; rfl
def rfm (m : MM) : List TIface → MM
  | [] => m
  | x :: l => rfm (mput m x.Name (sset [] x.Methods)) l
theorem M72_L1_eq (F : Nat) (k : MM → Option Tprovenderref6_names) : ∀ (l : List TIface) (m : MM), M72_L1 F k l m = k (rfm m l)
  | [], m => rfl
  | x :: l, m => by
    rw [M72_L1]
    simp only [jn_def]
    rw [M72_L2_eq, M72_L1_eq F k l]; rfl
theorem M72_L3_eq {F : Nat} (k : SetM → Option Tprovenderref6_names) : ∀ (l : List TType) (m : SetM), M72_L3 F k l m = k (sset m (l.map (·.Name)))
  | [], m => rfl
  | x :: l, m => by rw [M72_L3, M72_L3_eq k l]; rfl
theorem M72_L4_eq {F : Nat} (k : SetM → Option Tprovenderref6_names) : ∀ (l : List TFunc) (m : SetM), M72_L4 F k l m = k (sset m (l.map (·.Name)))
  | [], m => rfl
  | x :: l, m => by rw [M72_L4, M72_L4_eq k l]; rfl
def nOf (g : TGraph) : Tprovenderref6_names := Tprovenderref6_names.mk (rfm [] g.Ifaces) (sset [] (g.Types.map (·.Name))) (sset [] (g.Funcs.map (·.Name)))
theorem M72_eq (F : Nat) (g : TGraph) : M72 F g = some (nOf g) := by
  unfold M72
  simp only [jn_def, M72_L1_eq, M72_L3_eq, M72_L4_eq]
  rfl
theorem rfm_get (t : Tx) : ∀ (l : List TIface) (m : MM) (m' : List (Tx × TIface)), mget m t = (mget m' t).map (fun x => sset [] x.Methods) → mget (rfm m l) t = (mget (ifm m' l) t).map (fun x => sset [] x.Methods)
  | [], m, m', h => h
  | x :: l, m, m', h => by
    rw [rfm, ifm]
    refine rfm_get t l _ _ ?_
    rw [mget_mput, mget_mput]
    split
    · rfl
    · exact h
theorem rises_eq (F : Nat) {a : List Tx} {n : Nat} {x : Tx} (hn : n < a.length) (hx : a[n] = x) (ha : a.length ≤ maxLen) : M139 F a n = some (if ((prv a n).elim false fun b => le x b) = true then 10 else 0) := by
  unfold M139
  by_cases h0 : n = 0
  · subst h0
    rw [if_f (by omega), prv_zero]; rfl
  · obtain ⟨_, e1⟩ := prev_idx hn h0 ha
    obtain ⟨_, e2⟩ := prv_some hn h0
    rw [if_t (by omega), idx_nat hn, Option.bind_some, e1, Option.bind_some, e2, hx]
    simp only [Option.elim_some]
    have e3 : (Op.bytesLess x a[n - 1] || x == a[n - 1]) = le x a[n - 1] := rfl
    rw [e3]
    by_cases hc : le x a[n - 1] = true <;> simp [hc]
theorem nme_prv {x : Tx} {p : Option Tx} : (if nm x = false then (8 : Int) else if (p.elim false fun b => le x b) = true then 10 else 0) = nme x p := by
  unfold nme
  cases nm x <;> cases p <;> rfl
theorem M136_L2_eq (F : Nat) (x : TIface) (ha : x.Methods.length ≤ maxLen) (hm : ∀ s, s ∈ x.Methods → s.length ≤ maxLen) (k : Option Int) : ∀ (l : List Tx) (n : Nat), x.Methods.drop n = l → M136_L2 F x k l n = if methE (prv x.Methods n) l ≠ 0 then some (methE (prv x.Methods n) l) else k
  | [], n, _ => by simp [M136_L2, methE]
  | s :: l, n, hd => by
    obtain ⟨hn, hx, hl⟩ := drop_at hd
    have hs : s ∈ x.Methods := by rw [← hx]; exact List.getElem_mem _
    have ih := M136_L2_eq F x ha hm k l (n + 1) hl
    rw [prv_next hn hx, show ((n + 1 : Nat) : Int) = (n : Int) + 1 from rfl] at ih
    rw [M136_L2, M82_eq F s (hm s hs), Option.bind_some, rises_eq F hn hx ha, Option.bind_some, ih, methE, ← nme_prv]
    cases nm s <;> by_cases hc : ((prv x.Methods n).elim false fun b => le s b) = true <;> simp [hc]
/-- The text before, empty if there is none. -/
def bz (s : Tx) (p : Option Tx) : Prop := match p with | none => s = [] | some b => s = b
theorem nme_bz {x s : Tx} {p : Option Tx} (h : bz s p) : (if nm x = false then (8 : Int) else if le x s = true then 10 else 0) = nme x p := by
  unfold nme
  cases p with
  | none =>
    have h : s = [] := h
    subst h
    cases hn : nm x
    · rfl
    · rw [le_nil hn]; rfl
  | some b =>
    have h : s = b := h
    subst h
    cases nm x <;> rfl
theorem M136_L1_eq (F : Nat) (k : Option Int) : ∀ (l : List TIface) (s : Tx) (p : Option Tx), (∀ x, x ∈ l → okTIface x) → bz s p → M136_L1 F k l s = if ifE p l ≠ 0 then some (ifE p l) else k
  | [], s, p, _, _ => by simp [M136_L1, ifE]
  | x :: l, s, p, hx, hp => by
    obtain ⟨o1, ⟨o2, o3⟩, _⟩ := hx x (by simp)
    have ih := M136_L1_eq F k l x.Name (some x.Name) (fun y hy => hx y (List.mem_cons_of_mem _ hy)) rfl
    have e := M136_L2_eq F x o3 o2 (M136_L1 F k l x.Name) x.Methods 0 rfl
    rw [show ((0 : Nat) : Int) = 0 from rfl, prv_zero] at e
    rw [M136_L1]
    simp only [jn_def]
    rw [M82_eq F x.Name o1, Option.bind_some, ifE, e, ih, ← nme_bz hp]
    have e3 : (Op.bytesLess x.Name s || x.Name == s) = le x.Name s := rfl
    rw [e3]
    cases nm x.Name
    · simp
    · by_cases hc : le x.Name s = true
      · simp [hc]
      · by_cases h1 : x.Methods = []
        · simp [hc, h1]
        · by_cases h2 : 200 < x.Methods.length
          · rw [if_neg (by simp), if_neg hc, if_neg (by simpa using h1), if_t (by omega)]; simp [hc, h1, h2]
          · rw [if_neg (by simp), if_neg hc, if_neg (by simpa using h1), if_f (by omega)]; simp [hc, h1, h2]
            by_cases h3 : methE none x.Methods = 0 <;> simp [h3]
theorem M137_L2_eq (F : Nat) (a : Tprovenderref6_checker) (fs : Tx → Bool) (hf : ∀ x, (mget a.n.funcs x).getD false = fs x) (k : Option Int) : ∀ (l : List TMethod) (s : Tx) (p : Option Tx), (∀ x, x ∈ l → x.Name.length ≤ maxLen) → bz s p → M137_L2 F a k l s = if mtE fs a.loose p l ≠ 0 then some (mtE fs a.loose p l) else k
  | [], s, p, _, _ => by simp [M137_L2, mtE]
  | x :: l, s, p, hx, hp => by
    have ih := M137_L2_eq F a fs hf k l x.Name (some x.Name) (fun y hy => hx y (List.mem_cons_of_mem _ hy)) rfl
    rw [M137_L2]
    simp only [jn_def]
    rw [M82_eq F x.Name (hx x (by simp)), Option.bind_some, mtE, ih, hf, ← nme_bz hp]
    have e3 : (Op.bytesLess x.Name s || x.Name == s) = le x.Name s := rfl
    rw [e3]
    cases nm x.Name
    · simp
    · by_cases hc : le x.Name s = true
      · simp [hc]
      · cases a.loose <;> cases fs x.Func <;> simp [hc]
theorem M137_L1_eq (F : Nat) (a : Tprovenderref6_checker) (fs : Tx → Bool) (hf : ∀ x, (mget a.n.funcs x).getD false = fs x) (k : Option Int) : ∀ (l : List TType) (s : Tx) (p : Option Tx), (∀ x, x ∈ l → okTType x) → bz s p → M137_L1 F a k l s = if tyE fs a.loose p l ≠ 0 then some (tyE fs a.loose p l) else k
  | [], s, p, _, _ => by simp [M137_L1, tyE]
  | x :: l, s, p, hx, hp => by
    obtain ⟨o1, ⟨o2, o3⟩, _⟩ := hx x (by simp)
    have ih := M137_L1_eq F a fs hf k l x.Name (some x.Name) (fun y hy => hx y (List.mem_cons_of_mem _ hy)) rfl
    rw [M137_L1]
    simp only [jn_def]
    rw [M82_eq F x.Name o1, Option.bind_some, tyE, M137_L2_eq F a fs hf _ _ [] none (fun y hy => (o2 y hy).1) rfl, ih, ← nme_bz hp]
    have e3 : (Op.bytesLess x.Name s || x.Name == s) = le x.Name s := rfl
    rw [e3]
    cases nm x.Name
    · simp
    · by_cases hc : le x.Name s = true
      · simp [hc]
      · by_cases h2 : 200 < x.Methods.length
        · rw [if_neg (by simp), if_neg hc, if_t (by omega)]; simp [hc, h2]
        · rw [if_neg (by simp), if_neg hc, if_f (by omega)]; simp [hc, h2]
          by_cases h3 : mtE fs a.loose none x.Methods = 0 <;> simp [h3]
theorem M187_eq (F : Nat) (a : Tprovenderref6_checker) (fs : Tx → Bool) (is : Tx → Option (List Tx)) (hf : ∀ x, (mget a.n.funcs x).getD false = fs x) (hi : ∀ x, mget a.n.ifaces x = (is x).map (sset [])) (c : TCall) (hc : c.Feature.length ≤ maxLen) : M187 F a c = some (clE fs is a.loose c) := by
  unfold M187 clE
  rw [jn_def, M82_eq F _ hc, hi, hf]
  simp only [Option.bind_some]
  have tail : (if (!(c.Feature == ([] : Tx))) = true then if (!nm c.Feature) = true then some (8 : Int) else some 0 else some 0) = some (if c.Feature ≠ [] ∧ nm c.Feature = false then 8 else 0) := by
    by_cases h1 : c.Feature = [] <;> cases h2 : nm c.Feature <;> simp [h1]
  rw [tail]
  by_cases k1 : c.Kind = 1
  · rw [if_pos (by simp [k1]), if_pos k1]
    by_cases k3 : c.Method = [] <;> cases a.loose <;> cases fs c.Target <;> simp [k3]
  · rw [if_neg (by simpa using k1), if_neg k1]
    by_cases k2 : c.Kind = 2
    · rw [if_pos (by simp [k2]), if_pos k2]
      cases hm : is c.Target with
      | none => cases a.loose <;> simp
      | some l =>
        have e : (mget (sset [] l) c.Method).getD false = l.contains c.Method := has_set _ _
        simp only [Option.map_some, Option.isSome_some, if_true, Option.getD_some, e, Option.elim_some]
        cases a.loose <;> by_cases hcc : l.contains c.Method = true <;> simp only [hcc] <;> simp
    · rw [if_neg (by simpa using k2), if_neg k2]
theorem M138_L2_eq (F : Nat) (a : Tprovenderref6_checker) (fs : Tx → Bool) (is : Tx → Option (List Tx)) (hf : ∀ x, (mget a.n.funcs x).getD false = fs x) (hi : ∀ x, mget a.n.ifaces x = (is x).map (sset [])) (k : Option Int) : ∀ (l : List TCall), (∀ c, c ∈ l → c.Feature.length ≤ maxLen) → M138_L2 F a k l = if csE fs is a.loose l ≠ 0 then some (csE fs is a.loose l) else k
  | [], _ => by simp [M138_L2, csE]
  | c :: l, h => by
    rw [M138_L2, M187_eq F a fs is hf hi c (h c (by simp)), Option.bind_some, csE, M138_L2_eq F a fs is hf hi k l (fun c hc => h c (List.mem_cons_of_mem _ hc))]
    by_cases h1 : clE fs is a.loose c = 0 <;> simp [h1]
theorem M138_L3_eq (F : Nat) (a : Tprovenderref6_checker) (x : TFunc) (ha : x.Makes.length ≤ maxLen) (k : Option Int) : ∀ (l : List Tx) (n : Nat), x.Makes.drop n = l → M138_L3 F a x k l n = if lsE (has a.n.types) a.loose (prv x.Makes n) l ≠ 0 then some (lsE (has a.n.types) a.loose (prv x.Makes n) l) else k
  | [], n, _ => by simp [M138_L3, lsE]
  | s :: l, n, hd => by
    obtain ⟨hn, hx, hl⟩ := drop_at hd
    have ih := M138_L3_eq F a x ha k l (n + 1) hl
    rw [prv_next hn hx, show ((n + 1 : Nat) : Int) = (n : Int) + 1 from rfl] at ih
    rw [M138_L3]
    simp only [jn_def]
    have e : (mget a.n.types s).getD false = has a.n.types s := rfl
    rw [rises_eq F hn hx ha, Option.bind_some, ih, lsE, e]
    cases a.loose <;> cases has a.n.types s <;> by_cases hc : ((prv x.Makes n).elim false fun b => le s b) = true <;> simp [hc]
theorem M73_L1_eq (F : Nat) (a : Tprovenderref6_checker) (ha : a.g.Entries.length ≤ maxLen) (k : Option Int) : ∀ (l : List Tx) (n : Nat), a.g.Entries.drop n = l → M73_L1 F a k l n = if lsE (has a.n.funcs) a.loose (prv a.g.Entries n) l ≠ 0 then some (lsE (has a.n.funcs) a.loose (prv a.g.Entries n) l) else k
  | [], n, _ => by simp [M73_L1, lsE]
  | s :: l, n, hd => by
    obtain ⟨hn, hx, hl⟩ := drop_at hd
    have ih := M73_L1_eq F a ha k l (n + 1) hl
    rw [prv_next hn hx, show ((n + 1 : Nat) : Int) = (n : Int) + 1 from rfl] at ih
    rw [M73_L1]
    simp only [jn_def]
    have e : (mget a.n.funcs s).getD false = has a.n.funcs s := rfl
    rw [rises_eq F hn hx ha, Option.bind_some, ih, lsE, e]
    cases a.loose <;> cases has a.n.funcs s <;> by_cases hc : ((prv a.g.Entries n).elim false fun b => le s b) = true <;> simp [hc]
theorem M138_L1_eq (F : Nat) (a : Tprovenderref6_checker) (fs ts : Tx → Bool) (is : Tx → Option (List Tx)) (hf : ∀ x, (mget a.n.funcs x).getD false = fs x) (hi : ∀ x, mget a.n.ifaces x = (is x).map (sset [])) (ht : has a.n.types = ts) (k : Option Int) :
    ∀ (l : List TFunc) (s : Tx) (p : Option Tx), (∀ x, x ∈ l → okTFunc x) → bz s p → M138_L1 F a k l s = if fnE fs ts is a.loose p l ≠ 0 then some (fnE fs ts is a.loose p l) else k
  | [], s, p, _, _ => by simp [M138_L1, fnE]
  | x :: l, s, p, hx, hp => by
    obtain ⟨o1, o2, ⟨o3, _⟩, ⟨_, o4⟩, _⟩ := hx x (by simp)
    have ih := M138_L1_eq F a fs ts is hf hi ht k l x.Name (some x.Name) (fun y hy => hx y (List.mem_cons_of_mem _ hy)) rfl
    have e := M138_L3_eq F a x o4 (M138_L1 F a k l x.Name) x.Makes 0 rfl
    rw [show ((0 : Nat) : Int) = 0 from rfl, prv_zero] at e
    rw [M138_L1]
    simp only [jn_def]
    rw [M82_eq F x.Name o1, Option.bind_some, M82_eq F x.Component o2, Option.bind_some, fnE, M138_L2_eq F a fs is hf hi _ _ (fun c hc => (o3 c hc).2.2.2.1), e, ht, ih, ← nme_bz hp]
    have e3 : (Op.bytesLess x.Name s || x.Name == s) = le x.Name s := rfl
    rw [e3]
    cases nm x.Name
    · simp
    · by_cases hc : le x.Name s = true
      · simp [hc]
      · cases hcm : nm x.Component
        · simp [hc, hcm]
        · by_cases h2 : 200 < x.Calls.length
          · rw [if_neg (by simp), if_neg hc, if_neg (by simp), if_t (by omega)]; simp [hc, h2, hcm]
          · rw [if_neg (by simp), if_neg hc, if_neg (by simp), if_f (by omega)]; simp [hc, h2, hcm]
            by_cases h3 : csE fs is a.loose x.Calls = 0
            · by_cases h4 : lsE ts a.loose none x.Makes = 0 <;> simp [h3, h4]
            · simp [h3]
theorem M73_eq (F : Nat) (g : TGraph) (lo : Bool) (h : okTGraph g) : M73 F (Tprovenderref6_checker.mk g (nOf g) lo) = some (chk lo g) := by
  obtain ⟨⟨o1, _⟩, ⟨o2, _⟩, ⟨o3, _⟩, ⟨_, o4⟩, _⟩ := h
  have hf : ∀ x, (mget (Tprovenderref6_checker.mk g (nOf g) lo).n.funcs x).getD false = fsOf g x := fun x => has_set x _
  have ht : has (Tprovenderref6_checker.mk g (nOf g) lo).n.types = tsOf g := funext fun x => has_set x _
  have hi : ∀ x, mget (Tprovenderref6_checker.mk g (nOf g) lo).n.ifaces x = (isOf g x).map (sset []) := fun x => by
    show mget (rfm [] g.Ifaces) x = _
    rw [rfm_get x g.Ifaces [] [] rfl]
    unfold isOf
    rw [Option.map_map]; rfl
  have hf' : has (nOf g).funcs = fsOf g := funext fun x => has_set x _
  unfold M73 chk M136 M137 M138
  simp only [jn_def]
  have e := M73_L1_eq F (Tprovenderref6_checker.mk g (nOf g) lo) o4 (some 0) g.Entries 0 rfl
  rw [show ((0 : Nat) : Int) = 0 from rfl, prv_zero] at e
  rw [M136_L1_eq F _ _ [] none o1 rfl, M137_L1_eq F _ _ hf _ _ [] none o2 rfl, M138_L1_eq F _ _ _ _ hf hi ht _ _ [] none o3 rfl, orz, orz, orz]
  simp only at e
  rw [e, hf', orz]
  simp only [Option.bind_some]
  by_cases h1 : 200 < g.Ifaces.length
  · rw [if_t (by omega), if_pos h1]
  rw [if_f (by omega), if_neg h1]
  by_cases h2 : 500 < g.Types.length
  · rw [if_t (by omega), if_pos h2]
  rw [if_f (by omega), if_neg h2]
  by_cases h3 : 3000 < g.Funcs.length
  · rw [if_t (by omega), if_pos h3]
  rw [if_f (by omega), if_neg h3]
  refine ite2 ne0 (fun _ => rfl) (fun _ => ite2 ne0 (fun _ => rfl) (fun _ => ite2 ne0 (fun _ => rfl) (fun _ => rfl)))
theorem M18_eq (F : Nat) (g : TGraph) (h : okTGraph g) : M18 F g = some (chk false g) := by
  unfold M18
  rw [M72_eq, Option.bind_some, M73_eq F g false h]; rfl
end Go.Proofs.YtpbkggamiipdmaaGreat
