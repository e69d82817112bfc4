/- Part of the proof: RC, RD, RW, RS, RU, RV, RX, RN1, RN2, RN3, KW, RP. -/
import Derived.Test.YtpbkggamiipdmaaC8RB
import Derived.Test.YtpbkggamiipdmaaC8R6Ord
import Derived.KernelRfl
namespace Go.Proofs.Ytpbkggamiipdmaa
open Go Go.Pv
set_option linter.unusedVariables false
set_option linter.unusedSimpArgs false
set_option maxRecDepth 100000
theorem mput_mput {α β : Type} [DecidableEq α] (k : α) (a b : β) : ∀ m : List (α × β), mput (mput m k a) k b = mput m k b
 | [] => by simp [mput]
 | (q, v) :: m => by
  by_cases h : q = k
  ·simp [mput, h]
  ·simp [mput, h, mput_mput k a b m]
abbrev MM := List (Tx × SetM)
theorem M65_L2_eq (F : Nat) (x : TIface) (k : MM → Option Tprovenderref6_names) (m : MM) : ∀ (l : List Tx) (a : SetM), M65_L2 F x k l (mput m x.Name a) = k (mput m x.Name (sset a l))
 | [], a => rfl
 | y :: l, a => by
  rw [M65_L2, mget_mput, if_pos rfl]
  simp only [Option.isSome_some, if_true, Option.getD_some]
  rw [mput_mput, M65_L2_eq F x k m l]; rfl
def rfm (m : MM) : List TIface → MM
 | [] => m
 | x :: l => rfm (mput m x.Name (sset [] x.Methods)) l
theorem M65_L1_eq (F : Nat) (k : MM → Option Tprovenderref6_names) : ∀ (l : List TIface) (m : MM), M65_L1 F k l m = k (rfm m l)
 | [], m => rfl
 | x :: l, m => by
  rw [M65_L1]
  simp only [jn_def]
  rw [M65_L2_eq, M65_L1_eq F k l]; rfl
theorem M65_L3_eq {F : Nat} (k : SetM → Option Tprovenderref6_names) : ∀ (l : List TType) (m : SetM), M65_L3 F k l m = k (sset m (l.map (·.Name)))
 | [], m => rfl
 | x :: l, m => by rw [M65_L3, M65_L3_eq k l]; rfl
theorem M65_L4_eq {F : Nat} (k : SetM → Option Tprovenderref6_names) : ∀ (l : List TFunc) (m : SetM), M65_L4 F k l m = k (sset m (l.map (·.Name)))
 | [], m => rfl
 | x :: l, m => by rw [M65_L4, M65_L4_eq k l]; rfl
def nOf (g : TGraph) : Tprovenderref6_names := Tprovenderref6_names.mk (rfm [] g.Ifaces) (sset [] (g.Types.map (·.Name))) (sset [] (g.Funcs.map (·.Name)))
theorem M65_eq (F : Nat) (g : TGraph) : M65 F g = some (nOf g) := by
 unfold M65
 simp only [jn_def, M65_L1_eq, M65_L3_eq, M65_L4_eq]
 rfl
theorem rfm_get (t : Tx) : ∀ (l : List TIface) (m : MM) (m' : List (Tx × TIface)), mget m t = (mget m' t).map (fun x => sset [] x.Methods) → mget (rfm m l) t = (mget (ifm m' l) t).map (fun x => sset [] x.Methods)
 | [], m, m', h => h
 | x :: l, m, m', h => by
  rw [rfm, ifm]
  refine rfm_get t l _ _ ?_
  rw [mget_mput, mget_mput]
  split
  ·rfl
  ·exact h
theorem rises_eq (F : Nat) {a : List Tx} {n : Nat} {x : Tx} (hn : n < a.length) (hx : a[n] = x) (ha : a.length ≤ maxLen) : M92 F a n = some (if ((prv a n).elim false fun b => le x b) = true then 10 else 0) := by
 unfold M92
 by_cases h0 : n = 0
 ·subst h0
  rw [if_f (by omega), prv_zero]; rfl
 ·obtain ⟨_, e1⟩ := prev_idx hn h0 ha
  obtain ⟨_, e2⟩ := prv_some hn h0
  rw [if_t (by omega), idx_nat hn, Option.bind_some, e1, Option.bind_some, e2, hx]
  simp only [Option.elim_some]
  have e3 : (Op.bytesLess x a[n - 1] || x == a[n - 1]) = le x a[n - 1] := rfl
  rw [e3]
  by_cases hc : le x a[n - 1] = true <;> simp [hc]
theorem nme_prv {x : Tx} {p : Option Tx} : (if nm x = false then (8 : Int) else if (p.elim false fun b => le x b) = true then 10 else 0) = nme x p := by
 unfold nme
 cases nm x <;> cases p <;> rfl
theorem M112_L2_eq (F : Nat) (x : TIface) (ha : x.Methods.length ≤ maxLen) (hm : ∀ s, s ∈ x.Methods → s.length ≤ maxLen) (k : Option Int) : ∀ (l : List Tx) (n : Nat), x.Methods.drop n = l → M112_L2 F x k l n = if methE (prv x.Methods n) l ≠ 0 then some (methE (prv x.Methods n) l) else k
 | [], n, _ => by simp [M112_L2, methE]
 | s :: l, n, hd => by
  obtain ⟨hn, hx, hl⟩ := drop_at hd
  have hs : s ∈ x.Methods := by rw [← hx]; exact List.getElem_mem _
  have ih := M112_L2_eq F x ha hm k l (n + 1) hl
  rw [prv_next hn hx, show ((n + 1 : Nat) : Int) = (n : Int) + 1 from rfl] at ih
  rw [M112_L2, M91_eq F s (hm s hs), Option.bind_some, rises_eq F hn hx ha, Option.bind_some, ih, methE, ← nme_prv]
  cases nm s <;> by_cases hc : ((prv x.Methods n).elim false fun b => le s b) = true <;> simp [hc]
def bz (s : Tx) (p : Option Tx) : Prop := match p with | none => s = [] | some b => s = b
theorem nme_bz {x s : Tx} {p : Option Tx} (h : bz s p) : (if nm x = false then (8 : Int) else if le x s = true then 10 else 0) = nme x p := by
 unfold nme
 cases p with
 | none =>
  have h : s = [] := h
  subst h
  cases hn : nm x
  ·rfl
  ·rw [le_nil hn]; rfl
 | some b =>
  have h : s = b := h
  subst h
  cases nm x <;> rfl
theorem M112_L1_eq (F : Nat) (k : Option Int) : ∀ (l : List TIface) (s : Tx) (p : Option Tx), (∀ x, x ∈ l → okTIface x) → bz s p → M112_L1 F k l s = if ifE p l ≠ 0 then some (ifE p l) else k
 | [], s, p, _, _ => by simp [M112_L1, ifE]
 | x :: l, s, p, hx, hp => by
  obtain ⟨o1, ⟨o2, o3⟩, _⟩ := hx x (by simp)
  have ih := M112_L1_eq F k l x.Name (some x.Name) (fun y hy => hx y (List.mem_cons_of_mem _ hy)) rfl
  have e := M112_L2_eq F x o3 o2 (M112_L1 F k l x.Name) x.Methods 0 rfl
  rw [show ((0 : Nat) : Int) = 0 from rfl, prv_zero] at e
  rw [M112_L1]
  simp only [jn_def]
  rw [M91_eq F x.Name o1, Option.bind_some, ifE, e, ih, ← nme_bz hp]
  have e3 : (Op.bytesLess x.Name s || x.Name == s) = le x.Name s := rfl
  rw [e3]
  cases nm x.Name
  ·simp
  ·by_cases hc : le x.Name s = true
   ·simp [hc]
   ·by_cases h1 : x.Methods = []
    ·simp [hc, h1]
    ·by_cases h2 : 200 < x.Methods.length
     ·rw [if_neg (by simp), if_neg hc, if_neg (by simpa using h1), if_t (by omega)]; simp [hc, h1, h2]
     ·rw [if_neg (by simp), if_neg hc, if_neg (by simpa using h1), if_f (by omega)]; simp [hc, h1, h2]
      by_cases h3 : methE none x.Methods = 0 <;> simp [h3]
theorem M113_L2_eq (F : Nat) (a : Tprovenderref6_checker) (fs : Tx → Bool) (hf : ∀ x, (mget a.n.funcs x).getD false = fs x) (k : Option Int) : ∀ (l : List TMethod) (s : Tx) (p : Option Tx), (∀ x, x ∈ l → x.Name.length ≤ maxLen) → bz s p → M113_L2 F a k l s = if mtE fs a.loose p l ≠ 0 then some (mtE fs a.loose p l) else k
 | [], s, p, _, _ => by simp [M113_L2, mtE]
 | x :: l, s, p, hx, hp => by
  have ih := M113_L2_eq F a fs hf k l x.Name (some x.Name) (fun y hy => hx y (List.mem_cons_of_mem _ hy)) rfl
  rw [M113_L2]
  simp only [jn_def]
  rw [M91_eq F x.Name (hx x (by simp)), Option.bind_some, mtE, ih, hf, ← nme_bz hp]
  have e3 : (Op.bytesLess x.Name s || x.Name == s) = le x.Name s := rfl
  rw [e3]
  cases nm x.Name
  ·simp
  ·by_cases hc : le x.Name s = true
   ·simp [hc]
   ·cases a.loose <;> cases fs x.Func <;> simp [hc]
theorem M113_L1_eq (F : Nat) (a : Tprovenderref6_checker) (fs : Tx → Bool) (hf : ∀ x, (mget a.n.funcs x).getD false = fs x) (k : Option Int) : ∀ (l : List TType) (s : Tx) (p : Option Tx), (∀ x, x ∈ l → okTType x) → bz s p → M113_L1 F a k l s = if tyE fs a.loose p l ≠ 0 then some (tyE fs a.loose p l) else k
 | [], s, p, _, _ => by simp [M113_L1, tyE]
 | x :: l, s, p, hx, hp => by
  obtain ⟨o1, ⟨o2, o3⟩, _⟩ := hx x (by simp)
  have ih := M113_L1_eq F a fs hf k l x.Name (some x.Name) (fun y hy => hx y (List.mem_cons_of_mem _ hy)) rfl
  rw [M113_L1]
  simp only [jn_def]
  rw [M91_eq F x.Name o1, Option.bind_some, tyE, M113_L2_eq F a fs hf _ _ [] none (fun y hy => (o2 y hy).1) rfl, ih, ← nme_bz hp]
  have e3 : (Op.bytesLess x.Name s || x.Name == s) = le x.Name s := rfl
  rw [e3]
  cases nm x.Name
  ·simp
  ·by_cases hc : le x.Name s = true
   ·simp [hc]
   ·by_cases h2 : 200 < x.Methods.length
    ·rw [if_neg (by simp), if_neg hc, if_t (by omega)]; simp [hc, h2]
    ·rw [if_neg (by simp), if_neg hc, if_f (by omega)]; simp [hc, h2]
     by_cases h3 : mtE fs a.loose none x.Methods = 0 <;> simp [h3]
theorem M128_eq (F : Nat) (a : Tprovenderref6_checker) (fs : Tx → Bool) (is : Tx → Option (List Tx)) (hf : ∀ x, (mget a.n.funcs x).getD false = fs x) (hi : ∀ x, mget a.n.ifaces x = (is x).map (sset [])) (c : TCall) (hc : c.Feature.length ≤ maxLen) : M128 F a c = some (clE fs is a.loose c) := by
 unfold M128 clE
 rw [jn_def, M91_eq F _ hc, hi, hf]
 simp only [Option.bind_some]
 have tail : (if (!(c.Feature == ([] : Tx))) = true then if (!nm c.Feature) = true then some (8 : Int) else some 0 else some 0) = some (if c.Feature ≠ [] ∧ nm c.Feature = false then 8 else 0) := by
  by_cases h1 : c.Feature = [] <;> cases h2 : nm c.Feature <;> simp [h1]
 rw [tail]
 by_cases k1 : c.Kind = 1
 ·rw [if_pos (by simp [k1]), if_pos k1]
  by_cases k3 : c.Method = [] <;> cases a.loose <;> cases fs c.Target <;> simp [k3]
 ·rw [if_neg (by simpa using k1), if_neg k1]
  by_cases k2 : c.Kind = 2
  ·rw [if_pos (by simp [k2]), if_pos k2]
   cases hm : is c.Target with
   | none => cases a.loose <;> simp
   | some l =>
    have e : (mget (sset [] l) c.Method).getD false = l.contains c.Method := has_set _ _
    simp only [Option.map_some, Option.isSome_some, if_true, Option.getD_some, e, Option.elim_some]
    cases a.loose <;> by_cases hcc : l.contains c.Method = true <;> simp only [hcc] <;> simp
  ·rw [if_neg (by simpa using k2), if_neg k2]
theorem M114_L2_eq (F : Nat) (a : Tprovenderref6_checker) (fs : Tx → Bool) (is : Tx → Option (List Tx)) (hf : ∀ x, (mget a.n.funcs x).getD false = fs x) (hi : ∀ x, mget a.n.ifaces x = (is x).map (sset [])) (k : Option Int) : ∀ (l : List TCall), (∀ c, c ∈ l → c.Feature.length ≤ maxLen) → M114_L2 F a k l = if csE fs is a.loose l ≠ 0 then some (csE fs is a.loose l) else k
 | [], _ => by simp [M114_L2, csE]
 | c :: l, h => by
  rw [M114_L2, M128_eq F a fs is hf hi c (h c (by simp)), Option.bind_some, csE, M114_L2_eq F a fs is hf hi k l (fun c hc => h c (List.mem_cons_of_mem _ hc))]
  by_cases h1 : clE fs is a.loose c = 0 <;> simp [h1]
theorem M114_L3_eq (F : Nat) (a : Tprovenderref6_checker) (x : TFunc) (ha : x.Makes.length ≤ maxLen) (k : Option Int) : ∀ (l : List Tx) (n : Nat), x.Makes.drop n = l → M114_L3 F a x k l n = if lsE (has a.n.types) a.loose (prv x.Makes n) l ≠ 0 then some (lsE (has a.n.types) a.loose (prv x.Makes n) l) else k
 | [], n, _ => by simp [M114_L3, lsE]
 | s :: l, n, hd => by
  obtain ⟨hn, hx, hl⟩ := drop_at hd
  have ih := M114_L3_eq F a x ha k l (n + 1) hl
  rw [prv_next hn hx, show ((n + 1 : Nat) : Int) = (n : Int) + 1 from rfl] at ih
  rw [M114_L3]
  simp only [jn_def]
  have e : (mget a.n.types s).getD false = has a.n.types s := rfl
  rw [rises_eq F hn hx ha, Option.bind_some, ih, lsE, e]
  cases a.loose <;> cases has a.n.types s <;> by_cases hc : ((prv x.Makes n).elim false fun b => le s b) = true <;> simp [hc]
theorem M80_L1_eq (F : Nat) (a : Tprovenderref6_checker) (ha : a.g.Entries.length ≤ maxLen) (k : Option Int) : ∀ (l : List Tx) (n : Nat), a.g.Entries.drop n = l → M80_L1 F a k l n = if lsE (has a.n.funcs) a.loose (prv a.g.Entries n) l ≠ 0 then some (lsE (has a.n.funcs) a.loose (prv a.g.Entries n) l) else k
 | [], n, _ => by simp [M80_L1, lsE]
 | s :: l, n, hd => by
  obtain ⟨hn, hx, hl⟩ := drop_at hd
  have ih := M80_L1_eq F a ha k l (n + 1) hl
  rw [prv_next hn hx, show ((n + 1 : Nat) : Int) = (n : Int) + 1 from rfl] at ih
  rw [M80_L1]
  simp only [jn_def]
  have e : (mget a.n.funcs s).getD false = has a.n.funcs s := rfl
  rw [rises_eq F hn hx ha, Option.bind_some, ih, lsE, e]
  cases a.loose <;> cases has a.n.funcs s <;> by_cases hc : ((prv a.g.Entries n).elim false fun b => le s b) = true <;> simp [hc]
theorem M114_L1_eq (F : Nat) (a : Tprovenderref6_checker) (fs ts : Tx → Bool) (is : Tx → Option (List Tx)) (hf : ∀ x, (mget a.n.funcs x).getD false = fs x) (hi : ∀ x, mget a.n.ifaces x = (is x).map (sset [])) (ht : has a.n.types = ts) (k : Option Int) :
  ∀ (l : List TFunc) (s : Tx) (p : Option Tx), (∀ x, x ∈ l → okTFunc x) → bz s p → M114_L1 F a k l s = if fnE fs ts is a.loose p l ≠ 0 then some (fnE fs ts is a.loose p l) else k
 | [], s, p, _, _ => by simp [M114_L1, fnE]
 | x :: l, s, p, hx, hp => by
  obtain ⟨o1, o2, ⟨o3, _⟩, ⟨_, o4⟩, _⟩ := hx x (by simp)
  have ih := M114_L1_eq F a fs ts is hf hi ht k l x.Name (some x.Name) (fun y hy => hx y (List.mem_cons_of_mem _ hy)) rfl
  have e := M114_L3_eq F a x o4 (M114_L1 F a k l x.Name) x.Makes 0 rfl
  rw [show ((0 : Nat) : Int) = 0 from rfl, prv_zero] at e
  rw [M114_L1]
  simp only [jn_def]
  rw [M91_eq F x.Name o1, Option.bind_some, M91_eq F x.Component o2, Option.bind_some, fnE, M114_L2_eq F a fs is hf hi _ _ (fun c hc => (o3 c hc).2.2.2.1), e, ht, ih, ← nme_bz hp]
  have e3 : (Op.bytesLess x.Name s || x.Name == s) = le x.Name s := rfl
  rw [e3]
  cases nm x.Name
  ·simp
  ·by_cases hc : le x.Name s = true
   ·simp [hc]
   ·cases hcm : nm x.Component
    ·simp [hc, hcm]
    ·by_cases h2 : 200 < x.Calls.length
     ·rw [if_neg (by simp), if_neg hc, if_neg (by simp), if_t (by omega)]; simp [hc, h2, hcm]
     ·rw [if_neg (by simp), if_neg hc, if_neg (by simp), if_f (by omega)]; simp [hc, h2, hcm]
      by_cases h3 : csE fs is a.loose x.Calls = 0
      ·by_cases h4 : lsE ts a.loose none x.Makes = 0 <;> simp [h3, h4]
      ·simp [h3]
theorem M80_eq (F : Nat) (g : TGraph) (lo : Bool) (h : okTGraph g) : M80 F (Tprovenderref6_checker.mk g (nOf g) lo) = some (chk lo g) := by
 obtain ⟨⟨o1, _⟩, ⟨o2, _⟩, ⟨o3, _⟩, ⟨_, o4⟩, _⟩ := h
 have hf : ∀ x, (mget (Tprovenderref6_checker.mk g (nOf g) lo).n.funcs x).getD false = fsOf g x := fun x => has_set x _
 have ht : has (Tprovenderref6_checker.mk g (nOf g) lo).n.types = tsOf g := funext fun x => has_set x _
 have hi : ∀ x, mget (Tprovenderref6_checker.mk g (nOf g) lo).n.ifaces x = (isOf g x).map (sset []) := fun x => by
  show mget (rfm [] g.Ifaces) x = _
  rw [rfm_get x g.Ifaces [] [] rfl]
  unfold isOf
  rw [Option.map_map]; rfl
 have hf' : has (nOf g).funcs = fsOf g := funext fun x => has_set x _
 unfold M80 chk M112 M113 M114
 simp only [jn_def]
 have e := M80_L1_eq F (Tprovenderref6_checker.mk g (nOf g) lo) o4 (some 0) g.Entries 0 rfl
 rw [show ((0 : Nat) : Int) = 0 from rfl, prv_zero] at e
 rw [M112_L1_eq F _ _ [] none o1 rfl, M113_L1_eq F _ _ hf _ _ [] none o2 rfl, M114_L1_eq F _ _ _ _ hf hi ht _ _ [] none o3 rfl, orz, orz, orz]
 simp only at e
 rw [e, hf', orz]
 simp only [Option.bind_some]
 by_cases h1 : 200 < g.Ifaces.length
 ·rw [if_t (by omega), if_pos h1]
 rw [if_f (by omega), if_neg h1]
 by_cases h2 : 500 < g.Types.length
 ·rw [if_t (by omega), if_pos h2]
 rw [if_f (by omega), if_neg h2]
 by_cases h3 : 3000 < g.Funcs.length
 ·rw [if_t (by omega), if_pos h3]
 rw [if_f (by omega), if_neg h3]
 refine ite2 ne0 (fun _ => rfl) (fun _ => ite2 ne0 (fun _ => rfl) (fun _ => ite2 ne0 (fun _ => rfl) (fun _ => rfl)))
theorem M50_eq (F : Nat) (g : TGraph) (h : okTGraph g) : M50 F g = some (chk false g) := by
 unfold M50
 rw [M65_eq, Option.bind_some, M80_eq F g false h]; rfl
theorem M67_L1_eq (F : Nat) (k : Option Int) : ∀ (l : List Tx) (n : Int) (s : Tx) (p : Option Tx), (∀ x, x ∈ l → x.length ≤ maxLen) → 0 ≤ n → pz n p s → M67_L1 F k l n s = if methE p l ≠ 0 then some (methE p l) else k
 | [], n, s, p, _, _, _ => by simp [M67_L1, methE]
 | x :: l, n, s, p, hx, hn, hp => by
  have ih := M67_L1_eq F k l (n + 1) x (some x) (fun y hy => hx y (List.mem_cons_of_mem _ hy)) (by omega) ⟨by omega, rfl⟩
  rw [M67_L1, M93_eq F x s _ (hx x (by simp)), Option.bind_some, nmd_pz hp, methE, ih]
  by_cases h : nme x p = 0 <;> simp [h]
def feE (l : List Tx) : Int := if 30 < l.length then 3 else methE none l
theorem M67_eq (F : Nat) (l : List Tx) (h : ∀ x, x ∈ l → x.length ≤ maxLen) : M67 F l = some (feE l) := by
 unfold M67 feE
 rw [jn_def, M67_L1_eq F _ l 0 [] none h (by omega) rfl, orz]
 by_cases h1 : 30 < l.length
 ·rw [if_t (by omega), if_pos h1]
 ·rw [if_f (by omega), if_neg h1]
theorem M63_L1_eq (F : Nat) (a : List Tx) (ha : a.length ≤ maxLen) (hm : ∀ s, s ∈ a → s.length ≤ maxLen) (k : Option Int) : ∀ (l : List Tx) (n : Nat), a.drop n = l → M63_L1 F a k l n = if methE (prv a n) l ≠ 0 then some (methE (prv a n) l) else k
 | [], n, _ => by simp [M63_L1, methE]
 | s :: l, n, hd => by
  obtain ⟨hn, hx, hl⟩ := drop_at hd
  have hs : s ∈ a := by rw [← hx]; exact List.getElem_mem _
  have ih := M63_L1_eq F a ha hm k l (n + 1) hl
  rw [prv_next hn hx, show ((n + 1 : Nat) : Int) = (n : Int) + 1 from rfl] at ih
  rw [M63_L1, M91_eq F s (hm s hs), Option.bind_some, rises_eq F hn hx ha, Option.bind_some, ih, methE, ← nme_prv]
  cases nm s <;> by_cases hc : ((prv a n).elim false fun b => le s b) = true <;> simp [hc]
theorem M63_eq (F : Nat) (l : List Tx) (h : ∀ x, x ∈ l → x.length ≤ maxLen) (hl : l.length ≤ maxLen) : M63 F l = some (feE l) := by
 unfold M63 feE
 have e := M63_L1_eq F l hl h (some 0) l 0 rfl
 rw [show ((0 : Nat) : Int) = 0 from rfl, prv_zero] at e
 rw [jn_def, e, orz]
 by_cases h1 : 30 < l.length
 ·rw [if_t (by omega), if_pos h1]
 ·rw [if_f (by omega), if_neg h1]
theorem methE_zero : ∀ {l : List Tx} {p : Option Tx}, methE p l = 0 → (∀ b, p = some b → ∀ x, x ∈ l → Op.bytesLess b x = true) ∧ l.Pairwise (fun a b => Op.bytesLess a b = true) ∧ ∀ x, x ∈ l → nm x = true
 | [], p, _ => ⟨by simp, List.Pairwise.nil, by simp⟩
 | s :: l, p, h => by
  rw [methE] at h
  split at h
  ·rename_i hc; exact absurd h hc
  ·rename_i hc
   obtain ⟨h1, h2⟩ := nme_zero (s := s) (p := p) (by simpa using hc)
   obtain ⟨i1, i2, i3⟩ := methE_zero h
   refine ⟨fun b hb x hx => ?_, List.pairwise_cons.2 ⟨i1 s rfl, i2⟩, fun x hx => ?_⟩
   ·rcases List.mem_cons.1 hx with rfl | hx
    ·exact h2 b hb
    ·exact bl_trans (h2 b hb) (i1 s rfl x hx)
   ·rcases List.mem_cons.1 hx with rfl | hx
    ·exact h1
    ·exact i3 x hx
theorem lsE_zero {there : Tx → Bool} : ∀ {l : List Tx} {p : Option Tx}, lsE there false p l = 0 → (∀ b, p = some b → ∀ x, x ∈ l → Op.bytesLess b x = true) ∧ l.Pairwise (fun a b => Op.bytesLess a b = true) ∧ ∀ x, x ∈ l → there x = true
 | [], p, _ => ⟨by simp, List.Pairwise.nil, by simp⟩
 | s :: l, p, h => by
  rw [lsE] at h
  split at h
  ·simp at h
  ·rename_i h1
   split at h
   ·simp at h
   ·rename_i h2
    obtain ⟨i1, i2, i3⟩ := lsE_zero h
    have hb0 : ∀ b, p = some b → Op.bytesLess b s = true := fun b hb => by
     subst hb
     simp only [Option.elim_some] at h2
     exact le_iff.1 (by simpa using h2)
    refine ⟨fun b hb x hx => ?_, List.pairwise_cons.2 ⟨i1 s rfl, i2⟩, fun x hx => ?_⟩
    ·rcases List.mem_cons.1 hx with rfl | hx
     ·exact hb0 b hb
     ·exact bl_trans (hb0 b hb) (i1 s rfl x hx)
    ·rcases List.mem_cons.1 hx with rfl | hx
     ·simpa using h1
     ·exact i3 x hx
theorem mtE_zero {fs : Tx → Bool} : ∀ {l : List TMethod} {p : Option Tx}, mtE fs false p l = 0 → (∀ b, p = some b → ∀ x, x ∈ l → Op.bytesLess b x.Name = true) ∧ l.Pairwise (fun a b => Op.bytesLess a.Name b.Name = true) ∧ ∀ x, x ∈ l → nm x.Name = true ∧ fs x.Func = true
 | [], p, _ => ⟨by simp, List.Pairwise.nil, by simp⟩
 | s :: l, p, h => by
  rw [mtE] at h
  split at h
  ·rename_i hc; exact absurd h hc
  ·rename_i hc
   obtain ⟨h1, h2⟩ := nme_zero (s := s.Name) (p := p) (by simpa using hc)
   split at h
   ·simp at h
   ·rename_i h3
    obtain ⟨i1, i2, i3⟩ := mtE_zero h
    refine ⟨fun b hb x hx => ?_, List.pairwise_cons.2 ⟨i1 s.Name rfl, i2⟩, fun x hx => ?_⟩
    ·rcases List.mem_cons.1 hx with rfl | hx
     ·exact h2 b hb
     ·exact bl_trans (h2 b hb) (i1 s.Name rfl x hx)
    ·rcases List.mem_cons.1 hx with rfl | hx
     ·exact ⟨h1, by simpa using h3⟩
     ·exact i3 x hx
structure RightI (x : TIface) : Prop where
 nam : nm x.Name = true
 ne : x.Methods ≠ []
 len : x.Methods.length ≤ 200
 srt : x.Methods.Pairwise (fun a b => Op.bytesLess a b = true)
 mn : ∀ s, s ∈ x.Methods → nm s = true
theorem ifE_zero : ∀ {l : List TIface} {p : Option Tx}, ifE p l = 0 → (∀ b, p = some b → ∀ x, x ∈ l → Op.bytesLess b x.Name = true) ∧ l.Pairwise (fun a b => Op.bytesLess a.Name b.Name = true) ∧ ∀ x, x ∈ l → RightI x
 | [], p, _ => ⟨by simp, List.Pairwise.nil, by simp⟩
 | s :: l, p, h => by
  rw [ifE] at h
  split at h
  ·rename_i hc; exact absurd h hc
  ·rename_i hc
   obtain ⟨h1, h2⟩ := nme_zero (s := s.Name) (p := p) (by simpa using hc)
   split at h
   ·simp at h
   ·rename_i h3
    split at h
    ·simp at h
    ·rename_i h4
     split at h
     ·rename_i h5; exact absurd h h5
     ·rename_i h5
      obtain ⟨_, m2, m3⟩ := methE_zero (show methE none s.Methods = 0 by simpa using h5)
      obtain ⟨i1, i2, i3⟩ := ifE_zero h
      refine ⟨fun b hb x hx => ?_, List.pairwise_cons.2 ⟨i1 s.Name rfl, i2⟩, fun x hx => ?_⟩
      ·rcases List.mem_cons.1 hx with rfl | hx
       ·exact h2 b hb
       ·exact bl_trans (h2 b hb) (i1 s.Name rfl x hx)
      ·rcases List.mem_cons.1 hx with rfl | hx
       ·exact ⟨h1, h3, by omega, m2, m3⟩
       ·exact i3 x hx
structure RightT (fs : Tx → Bool) (x : TType) : Prop where
 nam : nm x.Name = true
 len : x.Methods.length ≤ 200
 srt : x.Methods.Pairwise (fun a b => Op.bytesLess a.Name b.Name = true)
 mn : ∀ s, s ∈ x.Methods → nm s.Name = true ∧ fs s.Func = true
theorem tyE_zero {fs : Tx → Bool} : ∀ {l : List TType} {p : Option Tx}, tyE fs false p l = 0 → (∀ b, p = some b → ∀ x, x ∈ l → Op.bytesLess b x.Name = true) ∧ l.Pairwise (fun a b => Op.bytesLess a.Name b.Name = true) ∧ ∀ x, x ∈ l → RightT fs x
 | [], p, _ => ⟨by simp, List.Pairwise.nil, by simp⟩
 | s :: l, p, h => by
  rw [tyE] at h
  split at h
  ·rename_i hc; exact absurd h hc
  ·rename_i hc
   obtain ⟨h1, h2⟩ := nme_zero (s := s.Name) (p := p) (by simpa using hc)
   split at h
   ·simp at h
   ·rename_i h4
    split at h
    ·rename_i h5; exact absurd h h5
    ·rename_i h5
     obtain ⟨_, m2, m3⟩ := mtE_zero (show mtE fs false none s.Methods = 0 by simpa using h5)
     obtain ⟨i1, i2, i3⟩ := tyE_zero h
     refine ⟨fun b hb x hx => ?_, List.pairwise_cons.2 ⟨i1 s.Name rfl, i2⟩, fun x hx => ?_⟩
     ·rcases List.mem_cons.1 hx with rfl | hx
      ·exact h2 b hb
      ·exact bl_trans (h2 b hb) (i1 s.Name rfl x hx)
     ·rcases List.mem_cons.1 hx with rfl | hx
      ·exact ⟨h1, by omega, m2, m3⟩
      ·exact i3 x hx
structure RightC (fs : Tx → Bool) (is : Tx → Option (List Tx)) (c : TCall) : Prop where
 feat : c.Feature = [] ∨ nm c.Feature = true
 kind : (c.Kind = 1 ∧ fs c.Target = true ∧ c.Method = []) ∨ (c.Kind = 2 ∧ ∃ l, is c.Target = some l ∧ c.Method ∈ l)
theorem clE_zero {fs : Tx → Bool} {is : Tx → Option (List Tx)} {c : TCall} (h : clE fs is false c = 0) : RightC fs is c := by
 unfold clE at h
 have tail : (if c.Feature ≠ [] ∧ nm c.Feature = false then (8 : Int) else 0) = 0 → c.Feature = [] ∨ nm c.Feature = true := by
  intro h
  split at h
  ·simp at h
  ·rename_i hc
   by_cases h1 : c.Feature = []
   ·exact .inl h1
   ·refine .inr ?_
    cases h2 : nm c.Feature
    ·exact absurd ⟨h1, h2⟩ hc
    ·rfl
 split at h
 ·rename_i k1
  split at h
  ·simp at h
  ·rename_i h1
   split at h
   ·simp at h
   ·rename_i h2
    exact ⟨tail h, .inl ⟨k1, by simpa using h1, by simpa using h2⟩⟩
 ·split at h
  ·rename_i k1 k2
   split at h
   ·simp at h
   ·rename_i h1
    refine ⟨tail h, .inr ⟨k2, ?_⟩⟩
    cases hi : is c.Target with
    | none => rw [hi] at h1; simp at h1
    | some l => rw [hi] at h1; exact ⟨l, rfl, by simpa using h1⟩
  ·simp at h
theorem csE_zero {fs : Tx → Bool} {is : Tx → Option (List Tx)} : ∀ {l : List TCall}, csE fs is false l = 0 → ∀ c, c ∈ l → RightC fs is c
 | [], _, c, hc => by simp at hc
 | x :: l, h, c, hc => by
  rw [csE] at h
  split at h
  ·rename_i h1; exact absurd h h1
  ·rename_i h1
   rcases List.mem_cons.1 hc with rfl | hc
   ·exact clE_zero (by simpa using h1)
   ·exact csE_zero h c hc
structure RightF (fs ts : Tx → Bool) (is : Tx → Option (List Tx)) (x : TFunc) : Prop where
 nam : nm x.Name = true
 comp : nm x.Component = true
 len : x.Calls.length ≤ 200
 calls : ∀ c, c ∈ x.Calls → RightC fs is c
 msrt : x.Makes.Pairwise (fun a b => Op.bytesLess a b = true)
 makes : ∀ t, t ∈ x.Makes → ts t = true
theorem fnE_zero {fs ts : Tx → Bool} {is : Tx → Option (List Tx)} : ∀ {l : List TFunc} {p : Option Tx}, fnE fs ts is false p l = 0 → (∀ b, p = some b → ∀ x, x ∈ l → Op.bytesLess b x.Name = true) ∧ l.Pairwise (fun a b => Op.bytesLess a.Name b.Name = true) ∧ ∀ x, x ∈ l → RightF fs ts is x
 | [], p, _ => ⟨by simp, List.Pairwise.nil, by simp⟩
 | s :: l, p, h => by
  rw [fnE] at h
  split at h
  ·rename_i hc; exact absurd h hc
  ·rename_i hc
   obtain ⟨h1, h2⟩ := nme_zero (s := s.Name) (p := p) (by simpa using hc)
   split at h
   ·simp at h
   ·rename_i h3
    split at h
    ·simp at h
    ·rename_i h4
     split at h
     ·rename_i h5; exact absurd h h5
     ·rename_i h5
      split at h
      ·rename_i h6; exact absurd h h6
      ·rename_i h6
       obtain ⟨_, m2, m3⟩ := lsE_zero (show lsE ts false none s.Makes = 0 by simpa using h6)
       obtain ⟨i1, i2, i3⟩ := fnE_zero h
       refine ⟨fun b hb x hx => ?_, List.pairwise_cons.2 ⟨i1 s.Name rfl, i2⟩, fun x hx => ?_⟩
       ·rcases List.mem_cons.1 hx with rfl | hx
        ·exact h2 b hb
        ·exact bl_trans (h2 b hb) (i1 s.Name rfl x hx)
       ·rcases List.mem_cons.1 hx with rfl | hx
        ·exact ⟨h1, by simpa using h3, by omega, csE_zero (by simpa using h5), m2, m3⟩
        ·exact i3 x hx
structure RightG (g : TGraph) : Prop where
 il : g.Ifaces.length ≤ 200
 tl : g.Types.length ≤ 500
 fl : g.Funcs.length ≤ 3000
 isrt : g.Ifaces.Pairwise (fun a b => Op.bytesLess a.Name b.Name = true)
 tsrt : g.Types.Pairwise (fun a b => Op.bytesLess a.Name b.Name = true)
 fsrt : g.Funcs.Pairwise (fun a b => Op.bytesLess a.Name b.Name = true)
 i : ∀ x, x ∈ g.Ifaces → RightI x
 t : ∀ x, x ∈ g.Types → RightT (fsOf g) x
 f : ∀ x, x ∈ g.Funcs → RightF (fsOf g) (tsOf g) (isOf g) x
 esrt : g.Entries.Pairwise (fun a b => Op.bytesLess a b = true)
 e : ∀ s, s ∈ g.Entries → fsOf g s = true
theorem right_of {g : TGraph} (h : chk false g = 0) : RightG g := by
 unfold chk at h
 split at h
 ·simp at h
 split at h
 ·simp at h
 split at h
 ·simp at h
 rename_i h1 h2 h3
 split at h
 ·rename_i h4; exact absurd h h4
 split at h
 ·rename_i h5; exact absurd h h5
 split at h
 ·rename_i h6; exact absurd h h6
 rename_i h4 h5 h6
 obtain ⟨_, a2, a3⟩ := ifE_zero (show ifE none g.Ifaces = 0 by simpa using h4)
 obtain ⟨_, b2, b3⟩ := tyE_zero (show tyE (fsOf g) false none g.Types = 0 by simpa using h5)
 obtain ⟨_, c2, c3⟩ := fnE_zero (show fnE (fsOf g) (tsOf g) (isOf g) false none g.Funcs = 0 by simpa using h6)
 obtain ⟨_, d2, d3⟩ := lsE_zero h
 exact ⟨by omega, by omega, by omega, a2, b2, c2, a3, b3, c3, d2, d3⟩
theorem M111_eq (F : Nat) (a b : Tx) : M111 F a b = some (if Op.bytesLess a b = true then -1 else if a = b then 0 else 1) := by
 unfold M111 M126
 simp only [beq_self_eq_true, Bool.not_true, Option.bind_some, Bool.false_eq_true, if_false]
 by_cases h : Op.bytesLess a b = true
 ·simp [h]
 ·by_cases h2 : a = b
  ·subst h2; simp [bl_irrefl]
  ·simp [h, h2]
def mlt (x : Tx) (m : TMethod) : Bool := Op.bytesLess m.Name x
theorem bs_loop (F : Nat) (a : List TMethod) (x : Tx) (k : Int → Option (Int × Bool)) (hlen : a.length ≤ 100000) (hs : a.Pairwise (fun p q => Op.bytesLess p.Name q.Name = true)) :
  ∀ (n i j : Nat), i ≤ j → j ≤ a.length → j - i < n → (∀ q (h : q < a.length), q < i → mlt x a[q] = true) → (∀ q (h : q < a.length), j ≤ q → mlt x a[q] = false) →
  ∃ p : Nat, p ≤ a.length ∧ M109_L1 F a x k n i j = k p ∧ (∀ q (h : q < a.length), q < p → mlt x a[q] = true) ∧ ∀ q (h : q < a.length), p ≤ q → mlt x a[q] = false
 | 0, i, j, _, _, h, _, _ => by omega
 | n + 1, i, j, hij, hj, hn, h1, h2 => by
  rw [M109_L1]
  by_cases hc : i < j
  ·have hm : (i + j) / 2 < a.length := by omega
   rw [if_t (by omega), mid_nat (by omega), idx_nat hm, Option.bind_some]
   unfold M110
   rw [M111_eq, Option.bind_some, Option.bind_some]
   simp only [jn_def]
   by_cases hl : Op.bytesLess (a[(i + j) / 2]).Name x = true
   ·rw [if_pos hl, if_t (by omega), show w64 ((((i + j) / 2 : Nat) : Int) + 1) = (((i + j) / 2 + 1 : Nat) : Int) by rw [w64_id (by omega) (by omega)]; rfl]
    refine bs_loop F a x k hlen hs n ((i + j) / 2 + 1) j (by omega) hj (by omega) (fun q h hq => ?_) h2
    rcases Nat.lt_or_ge q ((i + j) / 2) with hq2 | hq2
    ·have := List.pairwise_iff_getElem.1 hs q ((i + j) / 2) h hm hq2
     exact bl_trans this hl
    ·have : q = (i + j) / 2 := by omega
     subst this; exact hl
   ·rw [if_neg hl]
    have e : (if decide ((if a[(i + j) / 2].Name = x then (0 : Int) else 1) < 0) = true then M109_L1 F a x k n (w64 ((((i + j) / 2 : Nat) : Int) + 1)) j else M109_L1 F a x k n i (((i + j) / 2 : Nat) : Int)) = M109_L1 F a x k n i (((i + j) / 2 : Nat) : Int) := by
     have hh : ¬ ((if a[(i + j) / 2].Name = x then (0 : Int) else 1) < 0) := by split <;> omega
     rw [if_f hh]
    rw [e]
    refine bs_loop F a x k hlen hs n i ((i + j) / 2) (by omega) (by omega) (by omega) h1 (fun q h hq => ?_)
    have hl : Op.bytesLess (a[(i + j) / 2]).Name x = false := by simpa using hl
    rcases Nat.lt_or_ge ((i + j) / 2) q with hq2 | hq2
    ·have := List.pairwise_iff_getElem.1 hs ((i + j) / 2) q hm h hq2
     unfold mlt
     cases hh : Op.bytesLess (a[q]).Name x
     ·rfl
     ·rw [bl_trans this hh] at hl; simp at hl
    ·have : q = (i + j) / 2 := by omega
     subst this; exact hl
  ·have : i = j := by omega
   subst this
   rw [if_f (by omega)]
   exact ⟨i, hj, rfl, h1, h2⟩
def mOf (t : TType) (m : Tx) : Tx × Bool := match t.Methods.find? (fun y => y.Name == m) with | some y => (y.Func, true) | none => ([], false)
theorem M79_eq (F : Nat) (t : TType) (x : Tx) (hlen : t.Methods.length ≤ 200) (hs : t.Methods.Pairwise (fun p q => Op.bytesLess p.Name q.Name = true)) (hF : 1000 ≤ F) : M79 F t x = some (mOf t x) := by
 unfold M79 M109 mOf
 simp only [jn_def]
 obtain ⟨p, p1, p2, p3, p4⟩ := bs_loop F t.Methods x (fun n4 => if decide (n4 < ((t.Methods.length : Nat) : Int)) = true then (idx t.Methods n4).bind fun x19 => (M110 F x19 x).bind fun y21 => some (n4, y21 == 0) else some (n4, false)) (by omega) hs F 0 t.Methods.length (by omega) (Nat.le_refl _) (by omega) (fun q h hq => by omega) (fun q h hq => by omega)
 rw [show ((0 : Nat) : Int) = 0 from rfl] at p2
 rw [p2]
 by_cases hp : p < t.Methods.length
 ·rw [if_t (by omega), idx_nat hp, Option.bind_some]
  unfold M110
  rw [M111_eq, Option.bind_some, Option.bind_some, Option.bind_some]
  have hlt : Op.bytesLess (t.Methods[p]).Name x = false := p4 p hp (Nat.le_refl _)
  have ec : (if Op.bytesLess (t.Methods[p]).Name x = true then (-1 : Int) else if (t.Methods[p]).Name = x then 0 else 1) = if (t.Methods[p]).Name = x then 0 else 1 := by rw [if_neg (by simp [hlt])]
  rw [ec]
  by_cases he : (t.Methods[p]).Name = x
  ·rw [if_pos he]
   have hf : t.Methods.find? (fun y => y.Name == x) = some t.Methods[p] := by
    rw [List.find?_eq_some_iff_getElem]
    refine ⟨by simp [he], p, hp, rfl, fun j hj => ?_⟩
    have := p3 j (by omega) hj
    unfold mlt at this
    simpa using bl_ne this
   rw [hf]
   simp [idx_nat hp]
  ·rw [if_neg he]
   have hf : t.Methods.find? (fun y => y.Name == x) = none := by
    rw [List.find?_eq_none]
    intro y hy
    obtain ⟨q, hq, rfl⟩ := List.getElem_of_mem hy
    rcases Nat.lt_trichotomy q p with h | h | h
    ·have := p3 q hq h
     unfold mlt at this
     simpa using bl_ne this
    ·subst h; simpa using he
    ·have h2 := List.pairwise_iff_getElem.1 hs p q hp hq h
     have h3 : Op.bytesLess x (t.Methods[p]).Name = true := by
      rcases bl_tri (t.Methods[p]).Name x with g | g | g
      ·rw [g] at hlt; simp at hlt
      ·exact absurd g he
      ·exact g
     have := bl_ne (bl_trans h3 h2)
     simpa using fun e => this e.symm
   rw [hf]
   simp
 ·rw [if_f (by omega)]
  have hf : t.Methods.find? (fun y => y.Name == x) = none := by
   rw [List.find?_eq_none]
   intro y hy
   obtain ⟨q, hq, rfl⟩ := List.getElem_of_mem hy
   have := p3 q hq (by omega)
   unfold mlt at this
   simpa using bl_ne this
  rw [hf]
  simp
def fitB (t : TType) (x : TIface) : Bool := x.Methods.all fun m => (mOf t m).2
theorem M49_eq (F : Nat) (t : TType) (x : TIface) (hlen : t.Methods.length ≤ 200) (hs : t.Methods.Pairwise (fun p q => Op.bytesLess p.Name q.Name = true)) (hF : 1000 ≤ F) : M49 F t x = some (fitB t x) := by
 unfold M49 fitB
 rw [jn_def]
 generalize x.Methods = l
 induction l with
 | nil => rfl
 | cons m l ih =>
  rw [M49_L1, M79_eq F t m hlen hs hF, Option.bind_some, ih, List.all_cons]
  cases (mOf t m).2 <;> simp
abbrev NumM := List (Tx × Int)
def nums (m : NumM) : Int → List Tx → NumM
 | _, [] => m
 | n, x :: l => nums (mput m x n) (n + 1) l
theorem nums_other (x : Tx) : ∀ (l : List Tx) (m : NumM) (n : Int), x ∉ l → mget (nums m n l) x = mget m x
 | [], m, n, _ => rfl
 | y :: l, m, n, h => by
  rw [nums, nums_other x l _ _ (fun hh => h (List.mem_cons_of_mem _ hh)), mget_mput, if_neg (fun e => h (by rw [e]; simp))]
theorem nums_get : ∀ (l : List Tx) (m : NumM) (n : Int) (i : Nat) (h : i < l.length), l.Pairwise (fun a b => Op.bytesLess a b = true) → mget (nums m n l) l[i] = some (n + i)
 | [], m, n, i, h, _ => by simp at h
 | x :: l, m, n, 0, h, hp => by
  have hp := List.pairwise_cons.1 hp
  rw [nums, List.getElem_cons_zero, nums_other x l _ _ (fun hh => bl_ne (hp.1 x hh) rfl), mget_mput, if_pos rfl]; simp
 | x :: l, m, n, i + 1, h, hp => by
  have hp := List.pairwise_cons.1 hp
  rw [nums, List.getElem_cons_succ, nums_get l _ (n + 1) i (by simpa using h) hp.2]
  congr 1; omega
theorem M54_L1_eq {F : Nat} (k : NumM → Option (Option Treach_world)) : ∀ (l : List TFunc) (n : Int) (m : NumM), M54_L1 F k l n m = k (nums m n (l.map (·.Name)))
 | [], n, m => rfl
 | x :: l, n, m => by rw [M54_L1, M54_L1_eq k l]; rfl
theorem M54_L2_eq {F : Nat} (k : NumM → Option (Option Treach_world)) : ∀ (l : List TType) (n : Int) (m : NumM), M54_L2 F k l n m = k (nums m n (l.map (·.Name)))
 | [], n, m => rfl
 | x :: l, n, m => by rw [M54_L2, M54_L2_eq k l]; rfl
theorem M54_L5_eq {F : Nat} (k : SetM → Option (Option Treach_world)) : ∀ (l : List Tx) (m : SetM), M54_L5 F k l m = k (sset m l)
 | [], m => rfl
 | x :: l, m => by rw [M54_L5, M54_L5_eq k l]; rfl
abbrev FitM := List (Tx × List Int)
def fitIdx (x : TIface) : Int → List TType → List Int
 | _, [] => []
 | n, t :: l => if fitB t x = true then n :: fitIdx x (n + 1) l else fitIdx x (n + 1) l
theorem fitIdx_len (x : TIface) : ∀ (l : List TType) (n : Int), (fitIdx x n l).length ≤ l.length
 | [], n => by simp [fitIdx]
 | t :: l, n => by
  have := fitIdx_len x l (n + 1)
  rw [fitIdx]
  split <;> simp <;> omega
theorem fitIdx_mem (x : TIface) : ∀ (l : List TType) (n : Int) (t : Int), t ∈ fitIdx x n l ↔ ∃ i : Nat, ∃ h : i < l.length, t = n + i ∧ fitB l[i] x = true
 | [], n, t => by simp [fitIdx]
 | y :: l, n, t => by
  have ih := fitIdx_mem x l (n + 1) t
  rw [fitIdx]
  constructor
  ·intro h
   have : (t = n ∧ fitB y x = true) ∨ t ∈ fitIdx x (n + 1) l := by
    split at h
    ·rename_i hf
     rcases List.mem_cons.1 h with rfl | h
     ·exact .inl ⟨rfl, hf⟩
     ·exact .inr h
    ·exact .inr h
   rcases this with ⟨rfl, hf⟩ | h
   ·exact ⟨0, by simp, by simp, hf⟩
   ·obtain ⟨i, h1, h2, h3⟩ := ih.1 h
    exact ⟨i + 1, by simpa using h1, by rw [h2]; omega, h3⟩
  ·rintro ⟨i, h1, h2, h3⟩
   cases i with
   | zero =>
    have h3 : fitB y x = true := h3
    rw [if_pos h3]; simp at h2; simp [h2]
   | succ i =>
    have : t ∈ fitIdx x (n + 1) l := ih.2 ⟨i, by simpa using h1, by rw [h2]; omega, h3⟩
    split
    ·exact List.mem_cons_of_mem _ this
    ·exact this
def putFit (T : List TType) (m : FitM) (x : TIface) : FitM := if (fitIdx x 0 T).isEmpty = true then m else mput m x.Name ((mget m x.Name).getD [] ++ fitIdx x 0 T)
theorem M54_L4_eq (F : Nat) (x : TIface) (k : FitM → Option (Option Treach_world)) (hF : 1000 ≤ F) : ∀ (l : List TType) (n : Int) (m : FitM), (∀ t, t ∈ l → t.Methods.length ≤ 200 ∧ t.Methods.Pairwise (fun p q => Op.bytesLess p.Name q.Name = true)) →
  ((mget m x.Name).getD []).length + l.length ≤ 100000 → M54_L4 F x k l n m = k (if (fitIdx x n l).isEmpty = true then m else mput m x.Name ((mget m x.Name).getD [] ++ fitIdx x n l))
 | [], n, m, _, _ => by simp [M54_L4, fitIdx]
 | t :: l, n, m, ht, hb => by
  obtain ⟨t1, t2⟩ := ht t (by simp)
  simp only [List.length_cons] at hb
  rw [M54_L4, M49_eq F t x t1 t2 hF, Option.bind_some]
  simp only [jn_def]
  by_cases hf : fitB t x = true
  ·rw [show fitIdx x n (t :: l) = n :: fitIdx x (n + 1) l by rw [fitIdx, if_pos hf]]
   rw [if_pos hf, if_pos (by simp; omega), M54_L4_eq F x k hF l (n + 1) _ (fun q hq => ht q (List.mem_cons_of_mem _ hq)) (by rw [mget_mput, if_pos rfl]; simp; omega)]
   congr 1
   rw [mget_mput, if_pos rfl, Option.getD_some, if_neg (show ¬ (n :: fitIdx x (n + 1) l).isEmpty = true by simp)]
   split
   ·rename_i he; rw [List.isEmpty_iff.1 he]
   ·rw [mput_mput]; simp
  ·rw [show fitIdx x n (t :: l) = fitIdx x (n + 1) l by rw [fitIdx, if_neg hf]]
   rw [if_neg hf, M54_L4_eq F x k hF l (n + 1) m (fun q hq => ht q (List.mem_cons_of_mem _ hq)) (by omega)]
def fitM (T : List TType) (m : FitM) : List TIface → FitM
 | [] => m
 | x :: l => fitM T (putFit T m x) l
theorem putFit_get (T : List TType) (m : FitM) (x : TIface) (n : Tx) : (mget (putFit T m x) n).getD [] = (mget m n).getD [] ++ if x.Name = n then fitIdx x 0 T else [] := by
 unfold putFit
 by_cases h : fitIdx x 0 T = []
 ·rw [if_pos (by rw [h]; rfl), h]; simp
 ·rw [if_neg (by simpa using h), mget_mput]
  by_cases h2 : x.Name = n
  ·subst h2; simp
  ·rw [if_neg h2, if_neg h2]; simp
theorem M54_L3_eq (F : Nat) (g : TGraph) (k : FitM → Option (Option Treach_world)) (hF : 1000 ≤ F) (hT : ∀ t, t ∈ g.Types → t.Methods.length ≤ 200 ∧ t.Methods.Pairwise (fun p q => Op.bytesLess p.Name q.Name = true)) (htl : g.Types.length ≤ 500) :
  ∀ (l : List TIface) (m : FitM), l.Pairwise (fun a b => Op.bytesLess a.Name b.Name = true) → (∀ x, x ∈ l → (mget m x.Name).getD [] = []) → M54_L3 F g k l m = k (fitM g.Types m l)
 | [], m, _, _ => rfl
 | x :: l, m, hp, hm => by
  have hp := List.pairwise_cons.1 hp
  rw [M54_L3]
  simp only [jn_def]
  rw [M54_L4_eq F x _ hF g.Types 0 m hT (by rw [hm x (by simp)]; simp; omega)]
  rw [M54_L3_eq F g k hF hT htl l _ hp.2 (fun y hy => by
   have := putFit_get g.Types m x y.Name
   unfold putFit at this
   rw [this, hm y (List.mem_cons_of_mem _ hy), if_neg (bl_ne (hp.1 y hy))]; rfl)]
  rfl
theorem fitM_get (T : List TType) (n : Tx) : ∀ (l : List TIface) (m : FitM), l.Pairwise (fun a b => Op.bytesLess a.Name b.Name = true) → (mget (fitM T m l) n).getD [] = (mget m n).getD [] ++ ((l.find? fun x => x.Name == n).elim [] fun x => fitIdx x 0 T)
 | [], m, _ => by simp [fitM]
 | x :: l, m, hp => by
  have hp := List.pairwise_cons.1 hp
  rw [fitM, fitM_get T n l _ hp.2, putFit_get, List.find?_cons]
  by_cases h : x.Name = n
  ·have h2 : l.find? (fun x => x.Name == n) = none := by
    rw [List.find?_eq_none]
    intro y hy
    have := bl_ne (hp.1 y hy)
    rw [h] at this
    simpa using fun e => this e.symm
   rw [if_pos h, h2, show (x.Name == n) = true by simpa using h]; simp
  ·rw [if_neg h, show (x.Name == n) = false by simpa using h]; simp
def wOf (g : TGraph) (how : Int) (fs : List Tx) : Treach_world :=
 Treach_world.mk g (nums [] 0 (g.Funcs.map (·.Name))) (nums [] 0 (g.Types.map (·.Name))) (fitM g.Types [] g.Ifaces) (sset (mput [] [] true) fs) (how == 2)
theorem M54_eq (F : Nat) (g : TGraph) (how : Int) (fs : List Tx) (R : RightG g) (hF : 1000 ≤ F) : M54 F g how fs = some (some (wOf g how fs)) := by
 unfold M54
 simp only [jn_def, M54_L1_eq, M54_L2_eq, M54_L5_eq]
 rw [M54_L3_eq F g _ hF (fun t ht => ⟨(R.t t ht).len, (R.t t ht).srt⟩) R.tl g.Ifaces [] R.isrt (fun x _ => rfl)]
 rfl
def opnE (g : TGraph) (how : Int) (fs : List Tx) : Int := if chk false g ≠ 0 then chk false g else if feE fs ≠ 0 then feE fs else if how = 1 ∨ how = 2 then 0 else 7
theorem M31_eq (F : Nat) (g : TGraph) (how : Int) (fs : List Tx) (hg : okTGraph g) (hfs : ∀ x, x ∈ fs → x.length ≤ maxLen) (hF : 1000 ≤ F) : M31 F g how fs = some (if opnE g how fs ≠ 0 then none else some (wOf g how fs), opnE g how fs) := by
 unfold M31 opnE
 rw [M44_eq F g hg, Option.bind_some, M67_eq F fs hfs, Option.bind_some]
 by_cases h1 : chk false g = 0
 ·rw [if_neg (by simp [h1]), if_neg (show ¬ chk false g ≠ 0 by simp [h1])]
  by_cases h2 : feE fs = 0
  ·rw [if_neg (by simp [h2]), if_neg (show ¬ feE fs ≠ 0 by simp [h2]), M54_eq F g how fs (right_of h1) hF]
   by_cases h3 : how = 1
   ·simp [h3]
   ·by_cases h4 : how = 2
    ·simp [h4]
    ·simp [h3, h4]
  ·rw [if_pos (by simpa using h2), if_pos h2]; simp [h2]
 ·rw [if_pos (by simpa using h1), if_pos h1]; simp [h1]
def tru (l : List Bool) (n : Nat) : Prop := l[n]? = some true
def fI (w : Treach_world) (x : Tx) : Int := (mget w.funcs x).getD 0
def fitL (w : Treach_world) (x : Tx) : List Int := (mget w.fitting x).getD []
theorem srt_names {α : Type} {f : α → Tx} {l : List α} (h : l.Pairwise (fun a b => Op.bytesLess (f a) (f b) = true)) : (l.map f).Pairwise (fun a b => Op.bytesLess a b = true) := by
 rw [List.pairwise_map]; exact h
theorem M81_eq (F : Nat) (t : TType) (m : Tx) : M81 F t m = some (mOf t m) := by
 have key : ∀ l : List TMethod, M81_L1 F m (some ([], false)) l = some (match l.find? (fun y => y.Name == m) with | some y => (y.Func, true) | none => ([], false)) := by
  intro l
  induction l with
  | nil => rfl
  | cons x l ih =>
   rw [M81_L1, List.find?_cons]
   by_cases h : (x.Name == m) = true
   ·rw [if_pos h, h]
   ·rw [if_neg h, ih]
    have : (x.Name == m) = false := by simpa using h
    rw [this]
 unfold M81
 rw [jn_def, key]; rfl
theorem M53_eq (F : Nat) (t : TType) (i : TIface) : M53 F t i = some (fitB t i) := by
 have key : ∀ l : List Tx, M53_L1 F t (some true) l = some (l.all fun m => (mOf t m).2) := by
  intro l
  induction l with
  | nil => rfl
  | cons x l ih =>
   rw [M53_L1, M81_eq, Option.bind_some, List.all_cons]
   cases h : (mOf t x).2
   ·simp
   ·rw [if_neg (by simp), ih]; simp
 unfold M53
 rw [jn_def, key]; rfl
def ifG (g : TGraph) (n : Tx) : TIface := (g.Ifaces.find? fun x => x.Name == n).getD (TIface.mk [] [])
theorem M52_eq (F : Nat) (g : TGraph) (n : Tx) : ∃ b, M52 F g n = some (ifG g n, b) := by
 have key : ∀ l : List TIface, ∃ b, M52_L1 F n (some (TIface.mk [] [], false)) l = some ((l.find? fun x => x.Name == n).getD (TIface.mk [] []), b) := by
  intro l
  induction l with
  | nil => exact ⟨false, rfl⟩
  | cons x l ih =>
   rw [M52_L1, List.find?_cons]
   by_cases h : (x.Name == n) = true
   ·rw [if_pos h, h]; exact ⟨true, rfl⟩
   ·rw [if_neg h]
    have : (x.Name == n) = false := by simpa using h
    rw [this]; exact ih
 unfold M52
 rw [jn_def]; exact key _
def aimO (g : TGraph) (c : TCall) (t : TType) : Option Tprovenderref6_aim := if (mOf t c.Method).2 = true ∧ fitB t (ifG g c.Target) = true then some (Tprovenderref6_aim.mk t.Name (mOf t c.Method).1) else none
def aimsG (g : TGraph) (c : TCall) : List Tprovenderref6_aim := if c.Kind = 1 then [Tprovenderref6_aim.mk [] c.Target] else g.Types.filterMap (aimO g c)
theorem M58_L1_eq (F : Nat) (g : TGraph) (c : TCall) (b : Bool) (k : List Tprovenderref6_aim → Option (List Tprovenderref6_aim)) : ∀ (l : List TType) (o : List Tprovenderref6_aim), o.length + l.length ≤ 1000 →
  M58_L1 F c (ifG g c.Target, b) k l o = k (o ++ l.filterMap (aimO g c))
 | [], o, _ => by simp [M58_L1]
 | t :: l, o, h => by
  simp only [List.length_cons] at h
  rw [M58_L1, jn_def]
  simp only [jn_def]
  rw [M81_eq, Option.bind_some]
  by_cases h1 : (mOf t c.Method).2 = true
  ·rw [if_pos h1, M53_eq, Option.bind_some]
   by_cases h2 : fitB t (ifG g c.Target) = true
   ·rw [if_pos h2, if_pos (by simp; omega), M58_L1_eq F g c b k l _ (by simp; omega), List.filterMap_cons]
    simp [aimO, h1, h2]
   ·rw [if_neg h2, M58_L1_eq F g c b k l _ (by omega), List.filterMap_cons]
    simp [aimO, h2]
  ·rw [if_neg h1, M58_L1_eq F g c b k l _ (by omega), List.filterMap_cons]
   simp [aimO, h1]
theorem M58_eq (F : Nat) (g : TGraph) (c : TCall) (h : g.Types.length ≤ 500) : M58 F g c = some (aimsG g c) := by
 unfold M58 aimsG
 by_cases hk : c.Kind = 1
 ·rw [if_pos (by simp [hk]), if_pos hk]
 ·rw [if_neg (by simpa using hk), if_neg hk]
  obtain ⟨b, hb⟩ := M52_eq F g c.Target
  rw [hb, Option.bind_some, jn_def, M58_L1_eq F g c b _ _ _ (by simp; omega)]
  rfl
theorem aimsG_key (g : TGraph) (c : TCall) : aimsG g c = aimsG g (TCall.mk c.Kind c.Target c.Method []) := rfl
def lks (g : TGraph) (on : Tx → Bool) (name : Tx) : Int → List TCall → List Tprovenderref6_link
 | _, [] => []
 | n, c :: l => if on c.Feature = true then Tprovenderref6_link.mk (TSite.mk name n) (aimsG g c) :: lks g on name (n + 1) l else lks g on name (n + 1) l
def KOk (g : TGraph) (m : List (TCall × (List Tprovenderref6_aim))) : Prop := ∀ k l, mget m k = some l → l = aimsG g k
def lkD (m : List (Tx × (List Tprovenderref6_link))) (x : Tx) : List Tprovenderref6_link := (mget m x).getD []
theorem lkD_put (m : List (Tx × (List Tprovenderref6_link))) (x y : Tx) (v : List Tprovenderref6_link) : lkD (mput m x v) y = if x = y then v else lkD m y := by
 unfold lkD
 rw [mget_mput]
 split <;> rfl
theorem M35_L3_eq (F : Nat) (g : TGraph) (hg : g.Types.length ≤ 500) (m4 : SetM) (x : TFunc) (k : List (TCall × (List Tprovenderref6_aim)) → List (Tx × (List Tprovenderref6_link)) → Option Tprovenderref6_net) :
  ∀ (l : List TCall) (n : Int) (kn : List (TCall × (List Tprovenderref6_aim))) (lk : List (Tx × (List Tprovenderref6_link))), KOk g kn → (lkD lk x.Name).length + l.length ≤ 1000 →
  ∃ kn' lk', M35_L3 F g m4 x k l n kn lk = k kn' lk' ∧ KOk g kn' ∧ ∀ y, lkD lk' y = if x.Name = y then lkD lk x.Name ++ lks g (has m4) x.Name n l else lkD lk y
 | [], n, kn, lk, hk, _ => ⟨kn, lk, rfl, hk, fun y => by simp only [lks, List.append_nil]; split; rename_i h; rw [h]; rfl⟩
 | c :: l, n, kn, lk, hk, hs => by
  simp only [List.length_cons] at hs
  rw [M35_L3, jn_def]
  simp only [jn_def]
  by_cases ho : has m4 c.Feature = true
  ·have ho' : (mget m4 c.Feature).getD false = true := ho
   rw [if_neg (by rw [ho']; simp)]
   have step : ∀ kn2, KOk g kn2 → ∃ kn' lk', (if ((mget lk x.Name).getD [] ++ [Tprovenderref6_link.mk (TSite.mk x.Name n) (aimsG g c)]).length * 48 ≤ 140737488355328 then
     M35_L3 F g m4 x k l (n + 1) kn2 (mput lk x.Name ((mget lk x.Name).getD [] ++ [Tprovenderref6_link.mk (TSite.mk x.Name n) (aimsG g c)])) else none) = k kn' lk' ∧ KOk g kn' ∧
     ∀ y, lkD lk' y = if x.Name = y then lkD lk x.Name ++ lks g (has m4) x.Name n (c :: l) else lkD lk y := by
    intro kn2 hk2
    have hlen : ((mget lk x.Name).getD []).length + l.length + 1 ≤ 1000 := by
     have : (lkD lk x.Name).length + (l.length + 1) ≤ 1000 := hs
     unfold lkD at this; omega
    rw [if_pos (by simp; omega)]
    obtain ⟨kn', lk', e1, e2, e3⟩ := M35_L3_eq F g hg m4 x k l (n + 1) kn2 (mput lk x.Name ((mget lk x.Name).getD [] ++ [Tprovenderref6_link.mk (TSite.mk x.Name n) (aimsG g c)])) hk2 (by rw [lkD_put, if_pos rfl]; simp; omega)
    refine ⟨kn', lk', e1, e2, fun y => ?_⟩
    rw [e3, lkD_put, if_pos rfl, lkD_put]
    by_cases hy : x.Name = y
    ·rw [if_pos hy, if_pos hy, lks, if_pos ho, List.append_assoc]; rfl
    ·rw [if_neg hy, if_neg hy, if_neg hy]
   by_cases hm : (mget kn (TCall.mk c.Kind c.Target c.Method [])).isSome = true
   ·rw [if_neg (by rw [hm]; simp)]
    obtain ⟨v, hv⟩ := Option.isSome_iff_exists.1 hm
    rw [hv, Option.getD_some, hk _ _ hv, ← aimsG_key]
    exact step kn hk
   ·have hm' : (mget kn (TCall.mk c.Kind c.Target c.Method [])).isSome = false := by simpa using hm
    rw [if_pos (by rw [hm']; rfl), M58_eq F g c hg, Option.bind_some]
    refine step _ (fun k' l' h => ?_)
    rw [mget_mput] at h
    split at h
    ·rename_i e; subst e; simp at h; rw [← h]; exact aimsG_key g c
    ·exact hk k' l' h
  ·have ho' : (mget m4 c.Feature).getD false = false := by simpa [has] using ho
   rw [if_pos (by rw [ho']; rfl)]
   obtain ⟨kn', lk', e1, e2, e3⟩ := M35_L3_eq F g hg m4 x k l (n + 1) kn lk hk (by omega)
   exact ⟨kn', lk', e1, e2, fun y => by rw [e3, lks, if_neg ho]⟩
theorem M35_L2_eq (F : Nat) (g : TGraph) (hg : g.Types.length ≤ 500) (m4 : SetM) (k : List (Tx × (List Tprovenderref6_link)) → List (Tx × TFunc) → Option Tprovenderref6_net) :
  ∀ (l : List TFunc) (kn : List (TCall × (List Tprovenderref6_aim))) (lk : List (Tx × (List Tprovenderref6_link))) (fm : List (Tx × TFunc)), KOk g kn → (∀ x, x ∈ l → x.Calls.length ≤ 200) → (∀ x, x ∈ l → lkD lk x.Name = []) →
  l.Pairwise (fun a b => Op.bytesLess a.Name b.Name = true) →
  ∃ lk' fm', M35_L2 F g m4 k l kn lk fm = k lk' fm' ∧ (∀ x, x ∈ l → lkD lk' x.Name = lks g (has m4) x.Name 0 x.Calls ∧ mget fm' x.Name = some x) ∧ ∀ y, (∀ x, x ∈ l → x.Name ≠ y) → lkD lk' y = lkD lk y ∧ mget fm' y = mget fm y
 | [], kn, lk, fm, _, _, _, _ => ⟨lk, fm, rfl, by simp, fun _ _ => ⟨rfl, rfl⟩⟩
 | x :: l, kn, lk, fm, hk, hc, hz, hp => by
  rw [M35_L2, jn_def]
  simp only [jn_def]
  obtain ⟨kn1, lk1, e1, e2, e3⟩ := M35_L3_eq F g hg m4 x (fun m32 m33 => M35_L2 F g m4 k l m32 m33 (mput fm x.Name x)) x.Calls 0 kn lk hk (by rw [hz x (by simp)]; have := hc x (by simp); simp; omega)
  rw [e1]
  rw [List.pairwise_cons] at hp
  have hne : ∀ z, z ∈ l → x.Name ≠ z.Name := fun z hz => bl_ne (hp.1 z hz)
  obtain ⟨lk', fm', f1, f2, f3⟩ := M35_L2_eq F g hg m4 k l kn1 lk1 (mput fm x.Name x) e2 (fun z hz => hc z (List.mem_cons_of_mem _ hz)) (fun z hz' => by rw [e3, if_neg (hne z hz')]; exact hz z (List.mem_cons_of_mem _ hz')) hp.2
  refine ⟨lk', fm', f1, fun z hz' => ?_, fun y hy => ?_⟩
  ·rcases List.mem_cons.1 hz' with e | e
   ·subst e
    obtain ⟨g1, g2⟩ := f3 z.Name (fun q hq => Ne.symm (hne q hq))
    rw [g1, g2, e3, if_pos rfl, hz z (by simp), mget_mput, if_pos rfl]
    exact ⟨rfl, rfl⟩
   ·exact f2 z e
  ·obtain ⟨g1, g2⟩ := f3 y (fun q hq => hy q (List.mem_cons_of_mem _ hq))
   rw [g1, g2, e3, if_neg (hy x (by simp)), mget_mput, if_neg (hy x (by simp))]
   exact ⟨rfl, rfl⟩
theorem M35_L1_eq (F : Nat) (k : SetM → Option Tprovenderref6_net) : ∀ (l : List Tx) (m : SetM), M35_L1 F k l m = k (sset m l)
 | [], m => rfl
 | x :: l, m => by rw [M35_L1, M35_L1_eq F k l]; rfl
def onF (fs : List Tx) (x : Tx) : Bool := decide (x = []) || fs.contains x
theorem has_onF (fs : List Tx) (x : Tx) : has (sset (mput [] [] true) fs) x = onF fs x := by
 rw [has_sset]
 unfold onF
 congr 1
 unfold has
 rw [mget_mput]
 by_cases h : x = []
 ·subst h; simp
 ·rw [if_neg (fun e => h e.symm)]; simp [mget, h]
structure NetOk (g : TGraph) (fs : List Tx) (n : Tprovenderref6_net) : Prop where
 gr : n.g = g
 l : ∀ x, x ∈ g.Funcs → linksN n x.Name = lks g (onF fs) x.Name 0 x.Calls
 f : ∀ x, x ∈ g.Funcs → funcN n x.Name = x
theorem lks_congr (g : TGraph) {on on' : Tx → Bool} (h : ∀ x, on x = on' x) (name : Tx) : ∀ (l : List TCall) (n : Int), lks g on name n l = lks g on' name n l
 | [], _ => rfl
 | c :: l, n => by rw [lks, lks, h, lks_congr g h name l]
theorem M35_eq (F : Nat) (g : TGraph) (fs : List Tx) (R : RightG g) : ∃ n, M35 F g fs = some n ∧ NetOk g fs n := by
 unfold M35
 rw [jn_def, M35_L1_eq]
 simp only [jn_def]
 obtain ⟨lk, fm, e1, e2, _⟩ := M35_L2_eq F g R.tl (sset (mput [] [] true) fs) (fun m14 m15 => some (Tprovenderref6_net.mk g m14 m15)) g.Funcs [] [] [] (by intro k l h; simp [mget] at h) (fun x hx => (R.f x hx).len) (fun _ _ => rfl) R.fsrt
 rw [e1]
 refine ⟨_, rfl, rfl, fun x hx => ?_, fun x hx => ?_⟩
 ·exact (e2 x hx).1.trans (lks_congr g (has_onF fs) _ _ _)
 ·show (mget fm x.Name).getD _ = x
  rw [(e2 x hx).2]; rfl
theorem in_names {g : TGraph} {x : Tx} : fsOf g x = true ↔ ∃ f, f ∈ g.Funcs ∧ f.Name = x := by
 unfold fsOf; simp
theorem mOf_some {t : TType} {m : Tx} (h : (mOf t m).2 = true) : ∃ y, y ∈ t.Methods ∧ y.Name = m ∧ (mOf t m).1 = y.Func := by
 unfold mOf at h ⊢
 cases hf : t.Methods.find? (fun y => y.Name == m) with
 | none => rw [hf] at h; simp at h
 | some y => exact ⟨y, List.mem_of_find?_eq_some hf, by have := List.find?_some hf; simpa using this, rfl⟩
theorem aim_fs {g : TGraph} (R : RightG g) {x : TFunc} (hx : x ∈ g.Funcs) {c : TCall} (hc : c ∈ x.Calls) {a : Tprovenderref6_aim} (ha : a ∈ aimsG g c) : fsOf g a.to = true := by
 have C := (R.f x hx).calls c hc
 unfold aimsG at ha
 split at ha
 ·rename_i hk
  simp at ha; subst ha
  rcases C.kind with ⟨_, h, _⟩ | ⟨h, _⟩
  ·exact h
  ·rw [hk] at h; simp at h
 ·obtain ⟨t, ht, h⟩ := List.mem_filterMap.1 ha
  unfold aimO at h
  split at h
  ·rename_i h1
   simp at h; subst h
   obtain ⟨y, h2, _, h3⟩ := mOf_some h1.1
   show fsOf g (mOf t c.Method).1 = true
   rw [h3]; exact ((R.t t ht).mn y h2).2
  ·simp at h
section
variable {g : TGraph} {fs : List Tx} {n : Tprovenderref6_net} {how : Int}
end
theorem find_uniq {α : Type} {f : α → Tx} : ∀ {l : List α}, l.Pairwise (fun a b => Op.bytesLess (f a) (f b) = true) → ∀ {x : α}, x ∈ l → l.find? (fun y => f y == f x) = some x
 | y :: l, hp, x, hx => by
  rw [List.pairwise_cons] at hp
  rw [List.find?_cons]
  rcases List.mem_cons.1 hx with e | e
  ·subst e; simp
  ·have : (f y == f x) = false := by simpa using bl_ne (hp.1 x e)
   rw [this]; exact find_uniq hp.2 e
theorem ifm_get (t : Tx) (i : TIface) : ∀ (l : List TIface) (m : List (Tx × TIface)), mget (ifm m l) t = some i → (i ∈ l ∧ i.Name = t) ∨ mget m t = some i
 | [], m, h => .inr h
 | x :: l, m, h => by
  rcases ifm_get t i l _ h with h | h
  ·exact .inl ⟨List.mem_cons_of_mem _ h.1, h.2⟩
  ·rw [mget_mput] at h
   split at h
   ·rename_i e; simp at h; subst h; exact .inl ⟨List.mem_cons_self, e⟩
   ·exact .inr h
theorem is_iface {g : TGraph} (R : RightG g) {t : Tx} {l : List Tx} (h : isOf g t = some l) : ∃ i, i ∈ g.Ifaces ∧ i.Name = t ∧ i.Methods = l ∧ g.Ifaces.find? (fun y => y.Name == t) = some i := by
 unfold isOf at h
 rw [Option.map_eq_some_iff] at h
 obtain ⟨i, h1, h2⟩ := h
 rcases ifm_get t i _ _ h1 with h | h
 ·exact ⟨i, h.1, h.2, h2, by rw [← h.2]; exact find_uniq (f := TIface.Name) R.isrt h.1⟩
 ·simp [mget] at h
theorem fit_iff {g : TGraph} (R : RightG g) (how : Int) (fs : List Tx) {n : Tx} {i : TIface} (hf : g.Ifaces.find? (fun y => y.Name == n) = some i) (t : Int) : t ∈ fitL (wOf g how fs) n ↔ ∃ j : Nat, ∃ h : j < g.Types.length, t = j ∧ fitB g.Types[j] i = true := by
 unfold fitL wOf
 simp only
 rw [fitM_get g.Types n g.Ifaces [] R.isrt]
 simp only [mget, Option.getD_none, List.nil_append]
 rw [hf]
 show t ∈ fitIdx i 0 g.Types ↔ _
 rw [fitIdx_mem]
 simp
theorem fI_at {g : TGraph} (R : RightG g) (how : Int) (fs : List Tx) {i : Nat} (h : i < g.Funcs.length) : fI (wOf g how fs) (g.Funcs[i]).Name = i := by
 unfold fI wOf
 simp only
 have := nums_get (g.Funcs.map (·.Name)) [] 0 i (by simpa using h) (srt_names R.fsrt)
 simp only [List.getElem_map] at this
 rw [this]; simp
theorem fs_at {g : TGraph} {x : Tx} (h : fsOf g x = true) : ∃ i : Nat, ∃ h : i < g.Funcs.length, (g.Funcs[i]).Name = x := by
 obtain ⟨f, hf, rfl⟩ := in_names.1 h
 obtain ⟨i, hi, rfl⟩ := List.getElem_of_mem hf
 exact ⟨i, hi, rfl⟩
theorem M82_at {F : Nat} (hF : 1000 ≤ F) {g : TGraph} (R : RightG g) (how : Int) (fs : List Tx) (c : TCall) {i : Nat} (hi : i < g.Types.length) : M82 F (wOf g how fs) c (i : Int) = some (fI (wOf g how fs) (mOf g.Types[i] c.Method).1) := by
 have hT := R.t g.Types[i] (List.getElem_mem _)
 unfold M82
 rw [show idx (wOf g how fs).g.Types (i : Int) = some g.Types[i] from idx_nat hi, Option.bind_some, M79_eq F _ _ hT.len hT.srt hF, Option.bind_some]
 rfl
theorem dis_aim {g : TGraph} (R : RightG g) {x : TFunc} (hx : x ∈ g.Funcs) {c : TCall} (hc : c ∈ x.Calls) (k : c.Kind ≠ 1) : ∃ i, i ∈ g.Ifaces ∧ g.Ifaces.find? (fun y => y.Name == c.Target) = some i ∧ ifG g c.Target = i ∧ ∀ t, fitB t i = true → (mOf t c.Method).2 = true := by
 rcases ((R.f x hx).calls c hc).kind with ⟨h, _⟩ | ⟨_, l, h1, h2⟩
 ·exact absurd h k
 ·obtain ⟨i, i1, i2, i3, i4⟩ := is_iface R h1
  refine ⟨i, i1, i4, by unfold ifG; rw [i4]; rfl, fun t ht => ?_⟩
  unfold fitB at ht
  rw [List.all_eq_true] at ht
  exact ht _ (by rw [i3]; exact h2)
end Go.Proofs.Ytpbkggamiipdmaa
