/- Part of the proof: QC, QD, QW, QS, QU. -/
import Derived.Test.YtcbkgdagiccfmaaEQB
namespace Go.Proofs.Ytcbkgdagiccfmaa
open Go Go.Pv
set_option linter.unusedVariables false
set_option linter.unusedSimpArgs false
set_option maxRecDepth 100000
theorem mput_mput {α β : Type} [DecidableEq α] (k : α) (a b : β) : ∀ m : List (α × β), mput (mput m k a) k b = mput m k b
 | [] => by simp [mput]
 | (q, v) :: m => by
  by_cases h : q = k
  ·simp [mput, h]
  ·simp [mput, h, mput_mput k a b m]
abbrev MM := List (Tx × SetM)
theorem M34_L2_eq (F : Nat) (x : TIface) (k : MM → Option Tprovenderref6_names) (m : MM) : ∀ (l : List Tx) (a : SetM), M34_L2 F x k l (mput m x.Name a) = k (mput m x.Name (sset a l))
 | [], a => rfl
 | y :: l, a => by
  rw [M34_L2, mget_mput, if_pos rfl]
  simp only [Option.isSome_some, if_true, Option.getD_some]
  rw [mput_mput, M34_L2_eq F x k m l]; rfl
def rfm (m : MM) : List TIface → MM
 | [] => m
 | x :: l => rfm (mput m x.Name (sset [] x.Methods)) l
theorem M34_L1_eq (F : Nat) (k : MM → Option Tprovenderref6_names) : ∀ (l : List TIface) (m : MM), M34_L1 F k l m = k (rfm m l)
 | [], m => rfl
 | x :: l, m => by
  rw [M34_L1]
  simp only [jn_def]
  rw [M34_L2_eq, M34_L1_eq F k l]; rfl
theorem M34_L3_eq {F : Nat} (k : SetM → Option Tprovenderref6_names) : ∀ (l : List TType) (m : SetM), M34_L3 F k l m = k (sset m (l.map (·.Name)))
 | [], m => rfl
 | x :: l, m => by rw [M34_L3, M34_L3_eq k l]; rfl
theorem M34_L4_eq {F : Nat} (k : SetM → Option Tprovenderref6_names) : ∀ (l : List TFunc) (m : SetM), M34_L4 F k l m = k (sset m (l.map (·.Name)))
 | [], m => rfl
 | x :: l, m => by rw [M34_L4, M34_L4_eq k l]; rfl
def nOf (g : TGraph) : Tprovenderref6_names := Tprovenderref6_names.mk (rfm [] g.Ifaces) (sset [] (g.Types.map (·.Name))) (sset [] (g.Funcs.map (·.Name)))
theorem M34_eq (F : Nat) (g : TGraph) : M34 F g = some (nOf g) := by
 unfold M34
 simp only [jn_def, M34_L1_eq, M34_L3_eq, M34_L4_eq]
 rfl
theorem rfm_get (t : Tx) : ∀ (l : List TIface) (m : MM) (m' : List (Tx × TIface)), mget m t = (mget m' t).map (fun x => sset [] x.Methods) → mget (rfm m l) t = (mget (ifm m' l) t).map (fun x => sset [] x.Methods)
 | [], m, m', h => h
 | x :: l, m, m', h => by
  rw [rfm, ifm]
  refine rfm_get t l _ _ ?_
  rw [mget_mput, mget_mput]
  split
  ·rfl
  ·exact h
theorem rises_eq (F : Nat) {a : List Tx} {n : Nat} {x : Tx} (hn : n < a.length) (hx : a[n] = x) (ha : a.length ≤ maxLen) : M37 F a n = some (if ((prv a n).elim false fun b => le x b) = true then 10 else 0) := by
 unfold M37
 by_cases h0 : n = 0
 ·subst h0
  rw [if_f (by omega), prv_zero]; rfl
 ·obtain ⟨_, e1⟩ := prev_idx hn h0 ha
  obtain ⟨_, e2⟩ := prv_some hn h0
  rw [if_t (by omega), idx_nat hn, Option.bind_some, e1, Option.bind_some, e2, hx]
  simp only [Option.elim_some]
  have e3 : (Op.bytesLess x a[n - 1] || x == a[n - 1]) = le x a[n - 1] := rfl
  rw [e3]
  by_cases hc : le x a[n - 1] = true <;> simp [hc]
theorem nme_prv {x : Tx} {p : Option Tx} : (if nm x = false then (8 : Int) else if (p.elim false fun b => le x b) = true then 10 else 0) = nme x p := by
 unfold nme
 cases nm x <;> cases p <;> rfl
theorem M46_L2_eq (F : Nat) (x : TIface) (ha : x.Methods.length ≤ maxLen) (hm : ∀ s, s ∈ x.Methods → s.length ≤ maxLen) (k : Option Int) : ∀ (l : List Tx) (n : Nat), x.Methods.drop n = l → M46_L2 F x k l n = if methE (prv x.Methods n) l ≠ 0 then some (methE (prv x.Methods n) l) else k
 | [], n, _ => by simp [M46_L2, methE]
 | s :: l, n, hd => by
  obtain ⟨hn, hx, hl⟩ := drop_at hd
  have hs : s ∈ x.Methods := by rw [← hx]; exact List.getElem_mem _
  have ih := M46_L2_eq F x ha hm k l (n + 1) hl
  rw [prv_next hn hx, show ((n + 1 : Nat) : Int) = (n : Int) + 1 from rfl] at ih
  rw [M46_L2, M36_eq F s (hm s hs), Option.bind_some, rises_eq F hn hx ha, Option.bind_some, ih, methE, ← nme_prv]
  cases nm s <;> by_cases hc : ((prv x.Methods n).elim false fun b => le s b) = true <;> simp [hc]
def bz (s : Tx) (p : Option Tx) : Prop := match p with | none => s = [] | some b => s = b
theorem nme_bz {x s : Tx} {p : Option Tx} (h : bz s p) : (if nm x = false then (8 : Int) else if le x s = true then 10 else 0) = nme x p := by
 unfold nme
 cases p with
 | none =>
  have h : s = [] := h
  subst h
  cases hn : nm x
  ·rfl
  ·rw [le_nil hn]; rfl
 | some b =>
  have h : s = b := h
  subst h
  cases nm x <;> rfl
theorem M46_L1_eq (F : Nat) (k : Option Int) : ∀ (l : List TIface) (s : Tx) (p : Option Tx), (∀ x, x ∈ l → okTIface x) → bz s p → M46_L1 F k l s = if ifE p l ≠ 0 then some (ifE p l) else k
 | [], s, p, _, _ => by simp [M46_L1, ifE]
 | x :: l, s, p, hx, hp => by
  obtain ⟨o1, ⟨o2, o3⟩, _⟩ := hx x (by simp)
  have ih := M46_L1_eq F k l x.Name (some x.Name) (fun y hy => hx y (List.mem_cons_of_mem _ hy)) rfl
  have e := M46_L2_eq F x o3 o2 (M46_L1 F k l x.Name) x.Methods 0 rfl
  rw [show ((0 : Nat) : Int) = 0 from rfl, prv_zero] at e
  rw [M46_L1]
  simp only [jn_def]
  rw [M36_eq F x.Name o1, Option.bind_some, ifE, e, ih, ← nme_bz hp]
  have e3 : (Op.bytesLess x.Name s || x.Name == s) = le x.Name s := rfl
  rw [e3]
  cases nm x.Name
  ·simp
  ·by_cases hc : le x.Name s = true
   ·simp [hc]
   ·by_cases h1 : x.Methods = []
    ·simp [hc, h1]
    ·by_cases h2 : 200 < x.Methods.length
     ·rw [if_neg (by simp), if_neg hc, if_neg (by simpa using h1), if_t (by omega)]; simp [hc, h1, h2]
     ·rw [if_neg (by simp), if_neg hc, if_neg (by simpa using h1), if_f (by omega)]; simp [hc, h1, h2]
      by_cases h3 : methE none x.Methods = 0 <;> simp [h3]
theorem M47_L2_eq (F : Nat) (a : Tprovenderref6_checker) (fs : Tx → Bool) (hf : ∀ x, (mget a.n.funcs x).getD false = fs x) (k : Option Int) : ∀ (l : List TMethod) (s : Tx) (p : Option Tx), (∀ x, x ∈ l → x.Name.length ≤ maxLen) → bz s p → M47_L2 F a k l s = if mtE fs a.loose p l ≠ 0 then some (mtE fs a.loose p l) else k
 | [], s, p, _, _ => by simp [M47_L2, mtE]
 | x :: l, s, p, hx, hp => by
  have ih := M47_L2_eq F a fs hf k l x.Name (some x.Name) (fun y hy => hx y (List.mem_cons_of_mem _ hy)) rfl
  rw [M47_L2]
  simp only [jn_def]
  rw [M36_eq F x.Name (hx x (by simp)), Option.bind_some, mtE, ih, hf, ← nme_bz hp]
  have e3 : (Op.bytesLess x.Name s || x.Name == s) = le x.Name s := rfl
  rw [e3]
  cases nm x.Name
  ·simp
  ·by_cases hc : le x.Name s = true
   ·simp [hc]
   ·cases a.loose <;> cases fs x.Func <;> simp [hc]
theorem M47_L1_eq (F : Nat) (a : Tprovenderref6_checker) (fs : Tx → Bool) (hf : ∀ x, (mget a.n.funcs x).getD false = fs x) (k : Option Int) : ∀ (l : List TType) (s : Tx) (p : Option Tx), (∀ x, x ∈ l → okTType x) → bz s p → M47_L1 F a k l s = if tyE fs a.loose p l ≠ 0 then some (tyE fs a.loose p l) else k
 | [], s, p, _, _ => by simp [M47_L1, tyE]
 | x :: l, s, p, hx, hp => by
  obtain ⟨o1, ⟨o2, o3⟩, _⟩ := hx x (by simp)
  have ih := M47_L1_eq F a fs hf k l x.Name (some x.Name) (fun y hy => hx y (List.mem_cons_of_mem _ hy)) rfl
  rw [M47_L1]
  simp only [jn_def]
  rw [M36_eq F x.Name o1, Option.bind_some, tyE, M47_L2_eq F a fs hf _ _ [] none (fun y hy => (o2 y hy).1) rfl, ih, ← nme_bz hp]
  have e3 : (Op.bytesLess x.Name s || x.Name == s) = le x.Name s := rfl
  rw [e3]
  cases nm x.Name
  ·simp
  ·by_cases hc : le x.Name s = true
   ·simp [hc]
   ·by_cases h2 : 200 < x.Methods.length
    ·rw [if_neg (by simp), if_neg hc, if_t (by omega)]; simp [hc, h2]
    ·rw [if_neg (by simp), if_neg hc, if_f (by omega)]; simp [hc, h2]
     by_cases h3 : mtE fs a.loose none x.Methods = 0 <;> simp [h3]
theorem M60_eq (F : Nat) (a : Tprovenderref6_checker) (fs : Tx → Bool) (is : Tx → Option (List Tx)) (hf : ∀ x, (mget a.n.funcs x).getD false = fs x) (hi : ∀ x, mget a.n.ifaces x = (is x).map (sset [])) (c : TCall) (hc : c.Feature.length ≤ maxLen) : M60 F a c = some (clE fs is a.loose c) := by
 unfold M60 clE
 rw [jn_def, M36_eq F _ hc, hi, hf]
 simp only [Option.bind_some]
 have tail : (if (!(c.Feature == ([] : Tx))) = true then if (!nm c.Feature) = true then some (8 : Int) else some 0 else some 0) = some (if c.Feature ≠ [] ∧ nm c.Feature = false then 8 else 0) := by
  by_cases h1 : c.Feature = [] <;> cases h2 : nm c.Feature <;> simp [h1]
 rw [tail]
 by_cases k1 : c.Kind = 1
 ·rw [if_pos (by simp [k1]), if_pos k1]
  by_cases k3 : c.Method = [] <;> cases a.loose <;> cases fs c.Target <;> simp [k3]
 ·rw [if_neg (by simpa using k1), if_neg k1]
  by_cases k2 : c.Kind = 2
  ·rw [if_pos (by simp [k2]), if_pos k2]
   cases hm : is c.Target with
   | none => cases a.loose <;> simp
   | some l =>
    have e : (mget (sset [] l) c.Method).getD false = l.contains c.Method := has_set _ _
    simp only [Option.map_some, Option.isSome_some, if_true, Option.getD_some, e, Option.elim_some]
    cases a.loose <;> by_cases hcc : l.contains c.Method = true <;> simp only [hcc] <;> simp
  ·rw [if_neg (by simpa using k2), if_neg k2]
theorem M48_L2_eq (F : Nat) (a : Tprovenderref6_checker) (fs : Tx → Bool) (is : Tx → Option (List Tx)) (hf : ∀ x, (mget a.n.funcs x).getD false = fs x) (hi : ∀ x, mget a.n.ifaces x = (is x).map (sset [])) (k : Option Int) : ∀ (l : List TCall), (∀ c, c ∈ l → c.Feature.length ≤ maxLen) → M48_L2 F a k l = if csE fs is a.loose l ≠ 0 then some (csE fs is a.loose l) else k
 | [], _ => by simp [M48_L2, csE]
 | c :: l, h => by
  rw [M48_L2, M60_eq F a fs is hf hi c (h c (by simp)), Option.bind_some, csE, M48_L2_eq F a fs is hf hi k l (fun c hc => h c (List.mem_cons_of_mem _ hc))]
  by_cases h1 : clE fs is a.loose c = 0 <;> simp [h1]
theorem M48_L3_eq (F : Nat) (a : Tprovenderref6_checker) (x : TFunc) (ha : x.Makes.length ≤ maxLen) (k : Option Int) : ∀ (l : List Tx) (n : Nat), x.Makes.drop n = l → M48_L3 F a x k l n = if lsE (has a.n.types) a.loose (prv x.Makes n) l ≠ 0 then some (lsE (has a.n.types) a.loose (prv x.Makes n) l) else k
 | [], n, _ => by simp [M48_L3, lsE]
 | s :: l, n, hd => by
  obtain ⟨hn, hx, hl⟩ := drop_at hd
  have ih := M48_L3_eq F a x ha k l (n + 1) hl
  rw [prv_next hn hx, show ((n + 1 : Nat) : Int) = (n : Int) + 1 from rfl] at ih
  rw [M48_L3]
  simp only [jn_def]
  have e : (mget a.n.types s).getD false = has a.n.types s := rfl
  rw [rises_eq F hn hx ha, Option.bind_some, ih, lsE, e]
  cases a.loose <;> cases has a.n.types s <;> by_cases hc : ((prv x.Makes n).elim false fun b => le s b) = true <;> simp [hc]
theorem M35_L1_eq (F : Nat) (a : Tprovenderref6_checker) (ha : a.g.Entries.length ≤ maxLen) (k : Option Int) : ∀ (l : List Tx) (n : Nat), a.g.Entries.drop n = l → M35_L1 F a k l n = if lsE (has a.n.funcs) a.loose (prv a.g.Entries n) l ≠ 0 then some (lsE (has a.n.funcs) a.loose (prv a.g.Entries n) l) else k
 | [], n, _ => by simp [M35_L1, lsE]
 | s :: l, n, hd => by
  obtain ⟨hn, hx, hl⟩ := drop_at hd
  have ih := M35_L1_eq F a ha k l (n + 1) hl
  rw [prv_next hn hx, show ((n + 1 : Nat) : Int) = (n : Int) + 1 from rfl] at ih
  rw [M35_L1]
  simp only [jn_def]
  have e : (mget a.n.funcs s).getD false = has a.n.funcs s := rfl
  rw [rises_eq F hn hx ha, Option.bind_some, ih, lsE, e]
  cases a.loose <;> cases has a.n.funcs s <;> by_cases hc : ((prv a.g.Entries n).elim false fun b => le s b) = true <;> simp [hc]
theorem M48_L1_eq (F : Nat) (a : Tprovenderref6_checker) (fs ts : Tx → Bool) (is : Tx → Option (List Tx)) (hf : ∀ x, (mget a.n.funcs x).getD false = fs x) (hi : ∀ x, mget a.n.ifaces x = (is x).map (sset [])) (ht : has a.n.types = ts) (k : Option Int) :
  ∀ (l : List TFunc) (s : Tx) (p : Option Tx), (∀ x, x ∈ l → okTFunc x) → bz s p → M48_L1 F a k l s = if fnE fs ts is a.loose p l ≠ 0 then some (fnE fs ts is a.loose p l) else k
 | [], s, p, _, _ => by simp [M48_L1, fnE]
 | x :: l, s, p, hx, hp => by
  obtain ⟨o1, o2, ⟨o3, _⟩, ⟨_, o4⟩, _⟩ := hx x (by simp)
  have ih := M48_L1_eq F a fs ts is hf hi ht k l x.Name (some x.Name) (fun y hy => hx y (List.mem_cons_of_mem _ hy)) rfl
  have e := M48_L3_eq F a x o4 (M48_L1 F a k l x.Name) x.Makes 0 rfl
  rw [show ((0 : Nat) : Int) = 0 from rfl, prv_zero] at e
  rw [M48_L1]
  simp only [jn_def]
  rw [M36_eq F x.Name o1, Option.bind_some, M36_eq F x.Component o2, Option.bind_some, fnE, M48_L2_eq F a fs is hf hi _ _ (fun c hc => (o3 c hc).2.2.2.1), e, ht, ih, ← nme_bz hp]
  have e3 : (Op.bytesLess x.Name s || x.Name == s) = le x.Name s := rfl
  rw [e3]
  cases nm x.Name
  ·simp
  ·by_cases hc : le x.Name s = true
   ·simp [hc]
   ·cases hcm : nm x.Component
    ·simp [hc, hcm]
    ·by_cases h2 : 200 < x.Calls.length
     ·rw [if_neg (by simp), if_neg hc, if_neg (by simp), if_t (by omega)]; simp [hc, h2, hcm]
     ·rw [if_neg (by simp), if_neg hc, if_neg (by simp), if_f (by omega)]; simp [hc, h2, hcm]
      by_cases h3 : csE fs is a.loose x.Calls = 0
      ·by_cases h4 : lsE ts a.loose none x.Makes = 0 <;> simp [h3, h4]
      ·simp [h3]
theorem M35_eq (F : Nat) (g : TGraph) (lo : Bool) (h : okTGraph g) : M35 F (Tprovenderref6_checker.mk g (nOf g) lo) = some (chk lo g) := by
 obtain ⟨⟨o1, _⟩, ⟨o2, _⟩, ⟨o3, _⟩, ⟨_, o4⟩, _⟩ := h
 have hf : ∀ x, (mget (Tprovenderref6_checker.mk g (nOf g) lo).n.funcs x).getD false = fsOf g x := fun x => has_set x _
 have ht : has (Tprovenderref6_checker.mk g (nOf g) lo).n.types = tsOf g := funext fun x => has_set x _
 have hi : ∀ x, mget (Tprovenderref6_checker.mk g (nOf g) lo).n.ifaces x = (isOf g x).map (sset []) := fun x => by
  show mget (rfm [] g.Ifaces) x = _
  rw [rfm_get x g.Ifaces [] [] rfl]
  unfold isOf
  rw [Option.map_map]; rfl
 have hf' : has (nOf g).funcs = fsOf g := funext fun x => has_set x _
 unfold M35 chk M46 M47 M48
 simp only [jn_def]
 have e := M35_L1_eq F (Tprovenderref6_checker.mk g (nOf g) lo) o4 (some 0) g.Entries 0 rfl
 rw [show ((0 : Nat) : Int) = 0 from rfl, prv_zero] at e
 rw [M46_L1_eq F _ _ [] none o1 rfl, M47_L1_eq F _ _ hf _ _ [] none o2 rfl, M48_L1_eq F _ _ _ _ hf hi ht _ _ [] none o3 rfl, orz, orz, orz]
 simp only at e
 rw [e, hf', orz]
 simp only [Option.bind_some]
 by_cases h1 : 200 < g.Ifaces.length
 ·rw [if_t (by omega), if_pos h1]
 rw [if_f (by omega), if_neg h1]
 by_cases h2 : 500 < g.Types.length
 ·rw [if_t (by omega), if_pos h2]
 rw [if_f (by omega), if_neg h2]
 by_cases h3 : 3000 < g.Funcs.length
 ·rw [if_t (by omega), if_pos h3]
 rw [if_f (by omega), if_neg h3]
 refine ite2 ne0 (fun _ => rfl) (fun _ => ite2 ne0 (fun _ => rfl) (fun _ => ite2 ne0 (fun _ => rfl) (fun _ => rfl)))
theorem M24_eq (F : Nat) (g : TGraph) (h : okTGraph g) : M24 F g = some (chk false g) := by
 unfold M24
 rw [M34_eq, Option.bind_some, M35_eq F g false h]; rfl
theorem M30_L1_eq (F : Nat) (k : Option Int) : ∀ (l : List Tx) (n : Int) (s : Tx) (p : Option Tx), (∀ x, x ∈ l → x.length ≤ maxLen) → 0 ≤ n → pz n p s → M30_L1 F k l n s = if methE p l ≠ 0 then some (methE p l) else k
 | [], n, s, p, _, _, _ => by simp [M30_L1, methE]
 | x :: l, n, s, p, hx, hn, hp => by
  have ih := M30_L1_eq F k l (n + 1) x (some x) (fun y hy => hx y (List.mem_cons_of_mem _ hy)) (by omega) ⟨by omega, rfl⟩
  rw [M30_L1, M42_eq F x s _ (hx x (by simp)), Option.bind_some, nmd_pz hp, methE, ih]
  by_cases h : nme x p = 0 <;> simp [h]
def feE (l : List Tx) : Int := if 30 < l.length then 3 else methE none l
theorem M30_eq (F : Nat) (l : List Tx) (h : ∀ x, x ∈ l → x.length ≤ maxLen) : M30 F l = some (feE l) := by
 unfold M30 feE
 rw [jn_def, M30_L1_eq F _ l 0 [] none h (by omega) rfl, orz]
 by_cases h1 : 30 < l.length
 ·rw [if_t (by omega), if_pos h1]
 ·rw [if_f (by omega), if_neg h1]
theorem M25_L1_eq (F : Nat) (a : List Tx) (ha : a.length ≤ maxLen) (hm : ∀ s, s ∈ a → s.length ≤ maxLen) (k : Option Int) : ∀ (l : List Tx) (n : Nat), a.drop n = l → M25_L1 F a k l n = if methE (prv a n) l ≠ 0 then some (methE (prv a n) l) else k
 | [], n, _ => by simp [M25_L1, methE]
 | s :: l, n, hd => by
  obtain ⟨hn, hx, hl⟩ := drop_at hd
  have hs : s ∈ a := by rw [← hx]; exact List.getElem_mem _
  have ih := M25_L1_eq F a ha hm k l (n + 1) hl
  rw [prv_next hn hx, show ((n + 1 : Nat) : Int) = (n : Int) + 1 from rfl] at ih
  rw [M25_L1, M36_eq F s (hm s hs), Option.bind_some, rises_eq F hn hx ha, Option.bind_some, ih, methE, ← nme_prv]
  cases nm s <;> by_cases hc : ((prv a n).elim false fun b => le s b) = true <;> simp [hc]
theorem M25_eq (F : Nat) (l : List Tx) (h : ∀ x, x ∈ l → x.length ≤ maxLen) (hl : l.length ≤ maxLen) : M25 F l = some (feE l) := by
 unfold M25 feE
 have e := M25_L1_eq F l hl h (some 0) l 0 rfl
 rw [show ((0 : Nat) : Int) = 0 from rfl, prv_zero] at e
 rw [jn_def, e, orz]
 by_cases h1 : 30 < l.length
 ·rw [if_t (by omega), if_pos h1]
 ·rw [if_f (by omega), if_neg h1]
theorem methE_zero : ∀ {l : List Tx} {p : Option Tx}, methE p l = 0 → (∀ b, p = some b → ∀ x, x ∈ l → Op.bytesLess b x = true) ∧ l.Pairwise (fun a b => Op.bytesLess a b = true) ∧ ∀ x, x ∈ l → nm x = true
 | [], p, _ => ⟨by simp, List.Pairwise.nil, by simp⟩
 | s :: l, p, h => by
  rw [methE] at h
  split at h
  ·rename_i hc; exact absurd h hc
  ·rename_i hc
   obtain ⟨h1, h2⟩ := nme_zero (s := s) (p := p) (by simpa using hc)
   obtain ⟨i1, i2, i3⟩ := methE_zero h
   refine ⟨fun b hb x hx => ?_, List.pairwise_cons.2 ⟨i1 s rfl, i2⟩, fun x hx => ?_⟩
   ·rcases List.mem_cons.1 hx with rfl | hx
    ·exact h2 b hb
    ·exact bl_trans (h2 b hb) (i1 s rfl x hx)
   ·rcases List.mem_cons.1 hx with rfl | hx
    ·exact h1
    ·exact i3 x hx
theorem lsE_zero {there : Tx → Bool} : ∀ {l : List Tx} {p : Option Tx}, lsE there false p l = 0 → (∀ b, p = some b → ∀ x, x ∈ l → Op.bytesLess b x = true) ∧ l.Pairwise (fun a b => Op.bytesLess a b = true) ∧ ∀ x, x ∈ l → there x = true
 | [], p, _ => ⟨by simp, List.Pairwise.nil, by simp⟩
 | s :: l, p, h => by
  rw [lsE] at h
  split at h
  ·simp at h
  ·rename_i h1
   split at h
   ·simp at h
   ·rename_i h2
    obtain ⟨i1, i2, i3⟩ := lsE_zero h
    have hb0 : ∀ b, p = some b → Op.bytesLess b s = true := fun b hb => by
     subst hb
     simp only [Option.elim_some] at h2
     exact le_iff.1 (by simpa using h2)
    refine ⟨fun b hb x hx => ?_, List.pairwise_cons.2 ⟨i1 s rfl, i2⟩, fun x hx => ?_⟩
    ·rcases List.mem_cons.1 hx with rfl | hx
     ·exact hb0 b hb
     ·exact bl_trans (hb0 b hb) (i1 s rfl x hx)
    ·rcases List.mem_cons.1 hx with rfl | hx
     ·simpa using h1
     ·exact i3 x hx
theorem mtE_zero {fs : Tx → Bool} : ∀ {l : List TMethod} {p : Option Tx}, mtE fs false p l = 0 → (∀ b, p = some b → ∀ x, x ∈ l → Op.bytesLess b x.Name = true) ∧ l.Pairwise (fun a b => Op.bytesLess a.Name b.Name = true) ∧ ∀ x, x ∈ l → nm x.Name = true ∧ fs x.Func = true
 | [], p, _ => ⟨by simp, List.Pairwise.nil, by simp⟩
 | s :: l, p, h => by
  rw [mtE] at h
  split at h
  ·rename_i hc; exact absurd h hc
  ·rename_i hc
   obtain ⟨h1, h2⟩ := nme_zero (s := s.Name) (p := p) (by simpa using hc)
   split at h
   ·simp at h
   ·rename_i h3
    obtain ⟨i1, i2, i3⟩ := mtE_zero h
    refine ⟨fun b hb x hx => ?_, List.pairwise_cons.2 ⟨i1 s.Name rfl, i2⟩, fun x hx => ?_⟩
    ·rcases List.mem_cons.1 hx with rfl | hx
     ·exact h2 b hb
     ·exact bl_trans (h2 b hb) (i1 s.Name rfl x hx)
    ·rcases List.mem_cons.1 hx with rfl | hx
     ·exact ⟨h1, by simpa using h3⟩
     ·exact i3 x hx
structure RightI (x : TIface) : Prop where
 nam : nm x.Name = true
 ne : x.Methods ≠ []
 len : x.Methods.length ≤ 200
 srt : x.Methods.Pairwise (fun a b => Op.bytesLess a b = true)
 mn : ∀ s, s ∈ x.Methods → nm s = true
theorem ifE_zero : ∀ {l : List TIface} {p : Option Tx}, ifE p l = 0 → (∀ b, p = some b → ∀ x, x ∈ l → Op.bytesLess b x.Name = true) ∧ l.Pairwise (fun a b => Op.bytesLess a.Name b.Name = true) ∧ ∀ x, x ∈ l → RightI x
 | [], p, _ => ⟨by simp, List.Pairwise.nil, by simp⟩
 | s :: l, p, h => by
  rw [ifE] at h
  split at h
  ·rename_i hc; exact absurd h hc
  ·rename_i hc
   obtain ⟨h1, h2⟩ := nme_zero (s := s.Name) (p := p) (by simpa using hc)
   split at h
   ·simp at h
   ·rename_i h3
    split at h
    ·simp at h
    ·rename_i h4
     split at h
     ·rename_i h5; exact absurd h h5
     ·rename_i h5
      obtain ⟨_, m2, m3⟩ := methE_zero (show methE none s.Methods = 0 by simpa using h5)
      obtain ⟨i1, i2, i3⟩ := ifE_zero h
      refine ⟨fun b hb x hx => ?_, List.pairwise_cons.2 ⟨i1 s.Name rfl, i2⟩, fun x hx => ?_⟩
      ·rcases List.mem_cons.1 hx with rfl | hx
       ·exact h2 b hb
       ·exact bl_trans (h2 b hb) (i1 s.Name rfl x hx)
      ·rcases List.mem_cons.1 hx with rfl | hx
       ·exact ⟨h1, h3, by omega, m2, m3⟩
       ·exact i3 x hx
structure RightT (fs : Tx → Bool) (x : TType) : Prop where
 nam : nm x.Name = true
 len : x.Methods.length ≤ 200
 srt : x.Methods.Pairwise (fun a b => Op.bytesLess a.Name b.Name = true)
 mn : ∀ s, s ∈ x.Methods → nm s.Name = true ∧ fs s.Func = true
theorem tyE_zero {fs : Tx → Bool} : ∀ {l : List TType} {p : Option Tx}, tyE fs false p l = 0 → (∀ b, p = some b → ∀ x, x ∈ l → Op.bytesLess b x.Name = true) ∧ l.Pairwise (fun a b => Op.bytesLess a.Name b.Name = true) ∧ ∀ x, x ∈ l → RightT fs x
 | [], p, _ => ⟨by simp, List.Pairwise.nil, by simp⟩
 | s :: l, p, h => by
  rw [tyE] at h
  split at h
  ·rename_i hc; exact absurd h hc
  ·rename_i hc
   obtain ⟨h1, h2⟩ := nme_zero (s := s.Name) (p := p) (by simpa using hc)
   split at h
   ·simp at h
   ·rename_i h4
    split at h
    ·rename_i h5; exact absurd h h5
    ·rename_i h5
     obtain ⟨_, m2, m3⟩ := mtE_zero (show mtE fs false none s.Methods = 0 by simpa using h5)
     obtain ⟨i1, i2, i3⟩ := tyE_zero h
     refine ⟨fun b hb x hx => ?_, List.pairwise_cons.2 ⟨i1 s.Name rfl, i2⟩, fun x hx => ?_⟩
     ·rcases List.mem_cons.1 hx with rfl | hx
      ·exact h2 b hb
      ·exact bl_trans (h2 b hb) (i1 s.Name rfl x hx)
     ·rcases List.mem_cons.1 hx with rfl | hx
      ·exact ⟨h1, by omega, m2, m3⟩
      ·exact i3 x hx
structure RightC (fs : Tx → Bool) (is : Tx → Option (List Tx)) (c : TCall) : Prop where
 feat : c.Feature = [] ∨ nm c.Feature = true
 kind : (c.Kind = 1 ∧ fs c.Target = true ∧ c.Method = []) ∨ (c.Kind = 2 ∧ ∃ l, is c.Target = some l ∧ c.Method ∈ l)
theorem clE_zero {fs : Tx → Bool} {is : Tx → Option (List Tx)} {c : TCall} (h : clE fs is false c = 0) : RightC fs is c := by
 unfold clE at h
 have tail : (if c.Feature ≠ [] ∧ nm c.Feature = false then (8 : Int) else 0) = 0 → c.Feature = [] ∨ nm c.Feature = true := by
  intro h
  split at h
  ·simp at h
  ·rename_i hc
   by_cases h1 : c.Feature = []
   ·exact .inl h1
   ·refine .inr ?_
    cases h2 : nm c.Feature
    ·exact absurd ⟨h1, h2⟩ hc
    ·rfl
 split at h
 ·rename_i k1
  split at h
  ·simp at h
  ·rename_i h1
   split at h
   ·simp at h
   ·rename_i h2
    exact ⟨tail h, .inl ⟨k1, by simpa using h1, by simpa using h2⟩⟩
 ·split at h
  ·rename_i k1 k2
   split at h
   ·simp at h
   ·rename_i h1
    refine ⟨tail h, .inr ⟨k2, ?_⟩⟩
    cases hi : is c.Target with
    | none => rw [hi] at h1; simp at h1
    | some l => rw [hi] at h1; exact ⟨l, rfl, by simpa using h1⟩
  ·simp at h
theorem csE_zero {fs : Tx → Bool} {is : Tx → Option (List Tx)} : ∀ {l : List TCall}, csE fs is false l = 0 → ∀ c, c ∈ l → RightC fs is c
 | [], _, c, hc => by simp at hc
 | x :: l, h, c, hc => by
  rw [csE] at h
  split at h
  ·rename_i h1; exact absurd h h1
  ·rename_i h1
   rcases List.mem_cons.1 hc with rfl | hc
   ·exact clE_zero (by simpa using h1)
   ·exact csE_zero h c hc
structure RightF (fs ts : Tx → Bool) (is : Tx → Option (List Tx)) (x : TFunc) : Prop where
 nam : nm x.Name = true
 comp : nm x.Component = true
 len : x.Calls.length ≤ 200
 calls : ∀ c, c ∈ x.Calls → RightC fs is c
 msrt : x.Makes.Pairwise (fun a b => Op.bytesLess a b = true)
 makes : ∀ t, t ∈ x.Makes → ts t = true
theorem fnE_zero {fs ts : Tx → Bool} {is : Tx → Option (List Tx)} : ∀ {l : List TFunc} {p : Option Tx}, fnE fs ts is false p l = 0 → (∀ b, p = some b → ∀ x, x ∈ l → Op.bytesLess b x.Name = true) ∧ l.Pairwise (fun a b => Op.bytesLess a.Name b.Name = true) ∧ ∀ x, x ∈ l → RightF fs ts is x
 | [], p, _ => ⟨by simp, List.Pairwise.nil, by simp⟩
 | s :: l, p, h => by
  rw [fnE] at h
  split at h
  ·rename_i hc; exact absurd h hc
  ·rename_i hc
   obtain ⟨h1, h2⟩ := nme_zero (s := s.Name) (p := p) (by simpa using hc)
   split at h
   ·simp at h
   ·rename_i h3
    split at h
    ·simp at h
    ·rename_i h4
     split at h
     ·rename_i h5; exact absurd h h5
     ·rename_i h5
      split at h
      ·rename_i h6; exact absurd h h6
      ·rename_i h6
       obtain ⟨_, m2, m3⟩ := lsE_zero (show lsE ts false none s.Makes = 0 by simpa using h6)
       obtain ⟨i1, i2, i3⟩ := fnE_zero h
       refine ⟨fun b hb x hx => ?_, List.pairwise_cons.2 ⟨i1 s.Name rfl, i2⟩, fun x hx => ?_⟩
       ·rcases List.mem_cons.1 hx with rfl | hx
        ·exact h2 b hb
        ·exact bl_trans (h2 b hb) (i1 s.Name rfl x hx)
       ·rcases List.mem_cons.1 hx with rfl | hx
        ·exact ⟨h1, by simpa using h3, by omega, csE_zero (by simpa using h5), m2, m3⟩
        ·exact i3 x hx
structure RightG (g : TGraph) : Prop where
 il : g.Ifaces.length ≤ 200
 tl : g.Types.length ≤ 500
 fl : g.Funcs.length ≤ 3000
 isrt : g.Ifaces.Pairwise (fun a b => Op.bytesLess a.Name b.Name = true)
 tsrt : g.Types.Pairwise (fun a b => Op.bytesLess a.Name b.Name = true)
 fsrt : g.Funcs.Pairwise (fun a b => Op.bytesLess a.Name b.Name = true)
 i : ∀ x, x ∈ g.Ifaces → RightI x
 t : ∀ x, x ∈ g.Types → RightT (fsOf g) x
 f : ∀ x, x ∈ g.Funcs → RightF (fsOf g) (tsOf g) (isOf g) x
 esrt : g.Entries.Pairwise (fun a b => Op.bytesLess a b = true)
 e : ∀ s, s ∈ g.Entries → fsOf g s = true
theorem right_of {g : TGraph} (h : chk false g = 0) : RightG g := by
 unfold chk at h
 split at h
 ·simp at h
 split at h
 ·simp at h
 split at h
 ·simp at h
 rename_i h1 h2 h3
 split at h
 ·rename_i h4; exact absurd h h4
 split at h
 ·rename_i h5; exact absurd h h5
 split at h
 ·rename_i h6; exact absurd h h6
 rename_i h4 h5 h6
 obtain ⟨_, a2, a3⟩ := ifE_zero (show ifE none g.Ifaces = 0 by simpa using h4)
 obtain ⟨_, b2, b3⟩ := tyE_zero (show tyE (fsOf g) false none g.Types = 0 by simpa using h5)
 obtain ⟨_, c2, c3⟩ := fnE_zero (show fnE (fsOf g) (tsOf g) (isOf g) false none g.Funcs = 0 by simpa using h6)
 obtain ⟨_, d2, d3⟩ := lsE_zero h
 exact ⟨by omega, by omega, by omega, a2, b2, c2, a3, b3, c3, d2, d3⟩
theorem M59_eq (F : Nat) (a b : Tx) : M59 F a b = some (if Op.bytesLess a b = true then -1 else if a = b then 0 else 1) := by
 unfold M59 M62
 simp only [beq_self_eq_true, Bool.not_true, Option.bind_some, Bool.false_eq_true, if_false]
 by_cases h : Op.bytesLess a b = true
 ·simp [h]
 ·by_cases h2 : a = b
  ·subst h2; simp [bl_irrefl]
  ·simp [h, h2]
def mlt (x : Tx) (m : TMethod) : Bool := Op.bytesLess m.Name x
theorem bs_loop (F : Nat) (a : List TMethod) (x : Tx) (k : Int → Option (Int × Bool)) (hlen : a.length ≤ 100000) (hs : a.Pairwise (fun p q => Op.bytesLess p.Name q.Name = true)) :
  ∀ (n i j : Nat), i ≤ j → j ≤ a.length → j - i < n → (∀ q (h : q < a.length), q < i → mlt x a[q] = true) → (∀ q (h : q < a.length), j ≤ q → mlt x a[q] = false) →
  ∃ p : Nat, p ≤ a.length ∧ M57_L1 F a x k n i j = k p ∧ (∀ q (h : q < a.length), q < p → mlt x a[q] = true) ∧ ∀ q (h : q < a.length), p ≤ q → mlt x a[q] = false
 | 0, i, j, _, _, h, _, _ => by omega
 | n + 1, i, j, hij, hj, hn, h1, h2 => by
  rw [M57_L1]
  by_cases hc : i < j
  ·have hm : (i + j) / 2 < a.length := by omega
   rw [if_t (by omega), mid_nat (by omega), idx_nat hm, Option.bind_some]
   unfold M58
   rw [M59_eq, Option.bind_some, Option.bind_some]
   simp only [jn_def]
   by_cases hl : Op.bytesLess (a[(i + j) / 2]).Name x = true
   ·rw [if_pos hl, if_t (by omega), show w64 ((((i + j) / 2 : Nat) : Int) + 1) = (((i + j) / 2 + 1 : Nat) : Int) by rw [w64_id (by omega) (by omega)]; rfl]
    refine bs_loop F a x k hlen hs n ((i + j) / 2 + 1) j (by omega) hj (by omega) (fun q h hq => ?_) h2
    rcases Nat.lt_or_ge q ((i + j) / 2) with hq2 | hq2
    ·have := List.pairwise_iff_getElem.1 hs q ((i + j) / 2) h hm hq2
     exact bl_trans this hl
    ·have : q = (i + j) / 2 := by omega
     subst this; exact hl
   ·rw [if_neg hl]
    have e : (if decide ((if a[(i + j) / 2].Name = x then (0 : Int) else 1) < 0) = true then M57_L1 F a x k n (w64 ((((i + j) / 2 : Nat) : Int) + 1)) j else M57_L1 F a x k n i (((i + j) / 2 : Nat) : Int)) = M57_L1 F a x k n i (((i + j) / 2 : Nat) : Int) := by
     have hh : ¬ ((if a[(i + j) / 2].Name = x then (0 : Int) else 1) < 0) := by split <;> omega
     rw [if_f hh]
    rw [e]
    refine bs_loop F a x k hlen hs n i ((i + j) / 2) (by omega) (by omega) (by omega) h1 (fun q h hq => ?_)
    have hl : Op.bytesLess (a[(i + j) / 2]).Name x = false := by simpa using hl
    rcases Nat.lt_or_ge ((i + j) / 2) q with hq2 | hq2
    ·have := List.pairwise_iff_getElem.1 hs ((i + j) / 2) q hm h hq2
     unfold mlt
     cases hh : Op.bytesLess (a[q]).Name x
     ·rfl
     ·rw [bl_trans this hh] at hl; simp at hl
    ·have : q = (i + j) / 2 := by omega
     subst this; exact hl
  ·have : i = j := by omega
   subst this
   rw [if_f (by omega)]
   exact ⟨i, hj, rfl, h1, h2⟩
def mOf (t : TType) (m : Tx) : Tx × Bool := match t.Methods.find? (fun y => y.Name == m) with | some y => (y.Func, true) | none => ([], false)
theorem M45_eq (F : Nat) (t : TType) (x : Tx) (hlen : t.Methods.length ≤ 200) (hs : t.Methods.Pairwise (fun p q => Op.bytesLess p.Name q.Name = true)) (hF : 1000 ≤ F) : M45 F t x = some (mOf t x) := by
 unfold M45 M57 mOf
 simp only [jn_def]
 obtain ⟨p, p1, p2, p3, p4⟩ := bs_loop F t.Methods x (fun n4 => if decide (n4 < ((t.Methods.length : Nat) : Int)) = true then (idx t.Methods n4).bind fun x19 => (M58 F x19 x).bind fun y21 => some (n4, y21 == 0) else some (n4, false)) (by omega) hs F 0 t.Methods.length (by omega) (Nat.le_refl _) (by omega) (fun q h hq => by omega) (fun q h hq => by omega)
 rw [show ((0 : Nat) : Int) = 0 from rfl] at p2
 rw [p2]
 by_cases hp : p < t.Methods.length
 ·rw [if_t (by omega), idx_nat hp, Option.bind_some]
  unfold M58
  rw [M59_eq, Option.bind_some, Option.bind_some, Option.bind_some]
  have hlt : Op.bytesLess (t.Methods[p]).Name x = false := p4 p hp (Nat.le_refl _)
  have ec : (if Op.bytesLess (t.Methods[p]).Name x = true then (-1 : Int) else if (t.Methods[p]).Name = x then 0 else 1) = if (t.Methods[p]).Name = x then 0 else 1 := by rw [if_neg (by simp [hlt])]
  rw [ec]
  by_cases he : (t.Methods[p]).Name = x
  ·rw [if_pos he]
   have hf : t.Methods.find? (fun y => y.Name == x) = some t.Methods[p] := by
    rw [List.find?_eq_some_iff_getElem]
    refine ⟨by simp [he], p, hp, rfl, fun j hj => ?_⟩
    have := p3 j (by omega) hj
    unfold mlt at this
    simpa using bl_ne this
   rw [hf]
   simp [idx_nat hp]
  ·rw [if_neg he]
   have hf : t.Methods.find? (fun y => y.Name == x) = none := by
    rw [List.find?_eq_none]
    intro y hy
    obtain ⟨q, hq, rfl⟩ := List.getElem_of_mem hy
    rcases Nat.lt_trichotomy q p with h | h | h
    ·have := p3 q hq h
     unfold mlt at this
     simpa using bl_ne this
    ·subst h; simpa using he
    ·have h2 := List.pairwise_iff_getElem.1 hs p q hp hq h
     have h3 : Op.bytesLess x (t.Methods[p]).Name = true := by
      rcases bl_tri (t.Methods[p]).Name x with g | g | g
      ·rw [g] at hlt; simp at hlt
      ·exact absurd g he
      ·exact g
     have := bl_ne (bl_trans h3 h2)
     simpa using fun e => this e.symm
   rw [hf]
   simp
 ·rw [if_f (by omega)]
  have hf : t.Methods.find? (fun y => y.Name == x) = none := by
   rw [List.find?_eq_none]
   intro y hy
   obtain ⟨q, hq, rfl⟩ := List.getElem_of_mem hy
   have := p3 q hq (by omega)
   unfold mlt at this
   simpa using bl_ne this
  rw [hf]
  simp
def fitB (t : TType) (x : TIface) : Bool := x.Methods.all fun m => (mOf t m).2
theorem M43_eq (F : Nat) (t : TType) (x : TIface) (hlen : t.Methods.length ≤ 200) (hs : t.Methods.Pairwise (fun p q => Op.bytesLess p.Name q.Name = true)) (hF : 1000 ≤ F) : M43 F t x = some (fitB t x) := by
 unfold M43 fitB
 rw [jn_def]
 generalize x.Methods = l
 induction l with
 | nil => rfl
 | cons m l ih =>
  rw [M43_L1, M45_eq F t m hlen hs hF, Option.bind_some, ih, List.all_cons]
  cases (mOf t m).2 <;> simp
abbrev NumM := List (Tx × Int)
def nums (m : NumM) : Int → List Tx → NumM
 | _, [] => m
 | n, x :: l => nums (mput m x n) (n + 1) l
theorem nums_other (x : Tx) : ∀ (l : List Tx) (m : NumM) (n : Int), x ∉ l → mget (nums m n l) x = mget m x
 | [], m, n, _ => rfl
 | y :: l, m, n, h => by
  rw [nums, nums_other x l _ _ (fun hh => h (List.mem_cons_of_mem _ hh)), mget_mput, if_neg (fun e => h (by rw [e]; simp))]
theorem nums_get : ∀ (l : List Tx) (m : NumM) (n : Int) (i : Nat) (h : i < l.length), l.Pairwise (fun a b => Op.bytesLess a b = true) → mget (nums m n l) l[i] = some (n + i)
 | [], m, n, i, h, _ => by simp at h
 | x :: l, m, n, 0, h, hp => by
  have hp := List.pairwise_cons.1 hp
  rw [nums, List.getElem_cons_zero, nums_other x l _ _ (fun hh => bl_ne (hp.1 x hh) rfl), mget_mput, if_pos rfl]; simp
 | x :: l, m, n, i + 1, h, hp => by
  have hp := List.pairwise_cons.1 hp
  rw [nums, List.getElem_cons_succ, nums_get l _ (n + 1) i (by simpa using h) hp.2]
  congr 1; omega
theorem M31_1_L1_eq {F : Nat} (k : NumM → Option (Option Treach_world)) : ∀ (l : List TFunc) (n : Int) (m : NumM), M31_1_L1 F k l n m = k (nums m n (l.map (·.Name)))
 | [], n, m => rfl
 | x :: l, n, m => by rw [M31_1_L1, M31_1_L1_eq k l]; rfl
theorem M31_1_L2_eq {F : Nat} (k : NumM → Option (Option Treach_world)) : ∀ (l : List TType) (n : Int) (m : NumM), M31_1_L2 F k l n m = k (nums m n (l.map (·.Name)))
 | [], n, m => rfl
 | x :: l, n, m => by rw [M31_1_L2, M31_1_L2_eq k l]; rfl
theorem M31_1_L5_eq {F : Nat} (k : SetM → Option (Option Treach_world)) : ∀ (l : List Tx) (m : SetM), M31_1_L5 F k l m = k (sset m l)
 | [], m => rfl
 | x :: l, m => by rw [M31_1_L5, M31_1_L5_eq k l]; rfl
abbrev FitM := List (Tx × List Int)
def fitIdx (x : TIface) : Int → List TType → List Int
 | _, [] => []
 | n, t :: l => if fitB t x = true then n :: fitIdx x (n + 1) l else fitIdx x (n + 1) l
theorem fitIdx_mem (x : TIface) : ∀ (l : List TType) (n : Int) (t : Int), t ∈ fitIdx x n l ↔ ∃ i : Nat, ∃ h : i < l.length, t = n + i ∧ fitB l[i] x = true
 | [], n, t => by simp [fitIdx]
 | y :: l, n, t => by
  have ih := fitIdx_mem x l (n + 1) t
  rw [fitIdx]
  constructor
  ·intro h
   have : (t = n ∧ fitB y x = true) ∨ t ∈ fitIdx x (n + 1) l := by
    split at h
    ·rename_i hf
     rcases List.mem_cons.1 h with rfl | h
     ·exact .inl ⟨rfl, hf⟩
     ·exact .inr h
    ·exact .inr h
   rcases this with ⟨rfl, hf⟩ | h
   ·exact ⟨0, by simp, by simp, hf⟩
   ·obtain ⟨i, h1, h2, h3⟩ := ih.1 h
    exact ⟨i + 1, by simpa using h1, by rw [h2]; omega, h3⟩
  ·rintro ⟨i, h1, h2, h3⟩
   cases i with
   | zero =>
    have h3 : fitB y x = true := h3
    rw [if_pos h3]; simp at h2; simp [h2]
   | succ i =>
    have : t ∈ fitIdx x (n + 1) l := ih.2 ⟨i, by simpa using h1, by rw [h2]; omega, h3⟩
    split
    ·exact List.mem_cons_of_mem _ this
    ·exact this
def putFit (T : List TType) (m : FitM) (x : TIface) : FitM := if (fitIdx x 0 T).isEmpty = true then m else mput m x.Name ((mget m x.Name).getD [] ++ fitIdx x 0 T)
theorem M31_1_L4_eq (F : Nat) (x : TIface) (k : FitM → Option (Option Treach_world)) (hF : 1000 ≤ F) : ∀ (l : List TType) (n : Int) (m : FitM), (∀ t, t ∈ l → t.Methods.length ≤ 200 ∧ t.Methods.Pairwise (fun p q => Op.bytesLess p.Name q.Name = true)) →
  ((mget m x.Name).getD []).length + l.length ≤ 100000 → M31_1_L4 F x k l n m = k (if (fitIdx x n l).isEmpty = true then m else mput m x.Name ((mget m x.Name).getD [] ++ fitIdx x n l))
 | [], n, m, _, _ => by simp [M31_1_L4, fitIdx]
 | t :: l, n, m, ht, hb => by
  obtain ⟨t1, t2⟩ := ht t (by simp)
  simp only [List.length_cons] at hb
  rw [M31_1_L4, M43_eq F t x t1 t2 hF, Option.bind_some]
  simp only [jn_def]
  by_cases hf : fitB t x = true
  ·rw [show fitIdx x n (t :: l) = n :: fitIdx x (n + 1) l by rw [fitIdx, if_pos hf]]
   rw [if_pos hf, if_pos (by simp; omega), M31_1_L4_eq F x k hF l (n + 1) _ (fun q hq => ht q (List.mem_cons_of_mem _ hq)) (by rw [mget_mput, if_pos rfl]; simp; omega)]
   congr 1
   rw [mget_mput, if_pos rfl, Option.getD_some, if_neg (show ¬ (n :: fitIdx x (n + 1) l).isEmpty = true by simp)]
   split
   ·rename_i he; rw [List.isEmpty_iff.1 he]
   ·rw [mput_mput]; simp
  ·rw [show fitIdx x n (t :: l) = fitIdx x (n + 1) l by rw [fitIdx, if_neg hf]]
   rw [if_neg hf, M31_1_L4_eq F x k hF l (n + 1) m (fun q hq => ht q (List.mem_cons_of_mem _ hq)) (by omega)]
def fitM (T : List TType) (m : FitM) : List TIface → FitM
 | [] => m
 | x :: l => fitM T (putFit T m x) l
theorem putFit_get (T : List TType) (m : FitM) (x : TIface) (n : Tx) : (mget (putFit T m x) n).getD [] = (mget m n).getD [] ++ if x.Name = n then fitIdx x 0 T else [] := by
 unfold putFit
 by_cases h : fitIdx x 0 T = []
 ·rw [if_pos (by rw [h]; rfl), h]; simp
 ·rw [if_neg (by simpa using h), mget_mput]
  by_cases h2 : x.Name = n
  ·subst h2; simp
  ·rw [if_neg h2, if_neg h2]; simp
theorem M31_1_L3_eq (F : Nat) (g : TGraph) (k : FitM → Option (Option Treach_world)) (hF : 1000 ≤ F) (hT : ∀ t, t ∈ g.Types → t.Methods.length ≤ 200 ∧ t.Methods.Pairwise (fun p q => Op.bytesLess p.Name q.Name = true)) (htl : g.Types.length ≤ 500) :
  ∀ (l : List TIface) (m : FitM), l.Pairwise (fun a b => Op.bytesLess a.Name b.Name = true) → (∀ x, x ∈ l → (mget m x.Name).getD [] = []) → M31_1_L3 F g k l m = k (fitM g.Types m l)
 | [], m, _, _ => rfl
 | x :: l, m, hp, hm => by
  have hp := List.pairwise_cons.1 hp
  rw [M31_1_L3]
  simp only [jn_def]
  rw [M31_1_L4_eq F x _ hF g.Types 0 m hT (by rw [hm x (by simp)]; simp; omega)]
  rw [M31_1_L3_eq F g k hF hT htl l _ hp.2 (fun y hy => by
   have := putFit_get g.Types m x y.Name
   unfold putFit at this
   rw [this, hm y (List.mem_cons_of_mem _ hy), if_neg (bl_ne (hp.1 y hy))]; rfl)]
  rfl
theorem fitM_get (T : List TType) (n : Tx) : ∀ (l : List TIface) (m : FitM), l.Pairwise (fun a b => Op.bytesLess a.Name b.Name = true) → (mget (fitM T m l) n).getD [] = (mget m n).getD [] ++ ((l.find? fun x => x.Name == n).elim [] fun x => fitIdx x 0 T)
 | [], m, _ => by simp [fitM]
 | x :: l, m, hp => by
  have hp := List.pairwise_cons.1 hp
  rw [fitM, fitM_get T n l _ hp.2, putFit_get, List.find?_cons]
  by_cases h : x.Name = n
  ·have h2 : l.find? (fun x => x.Name == n) = none := by
    rw [List.find?_eq_none]
    intro y hy
    have := bl_ne (hp.1 y hy)
    rw [h] at this
    simpa using fun e => this e.symm
   rw [if_pos h, h2, show (x.Name == n) = true by simpa using h]; simp
  ·rw [if_neg h, show (x.Name == n) = false by simpa using h]; simp
def wOf (g : TGraph) (how : Int) (fs : List Tx) : Treach_world :=
 Treach_world.mk g (nums [] 0 (g.Funcs.map (·.Name))) (nums [] 0 (g.Types.map (·.Name))) (fitM g.Types [] g.Ifaces) (sset (mput [] [] true) fs) (how == 2)
theorem M31_1_eq (F : Nat) (g : TGraph) (how : Int) (fs : List Tx) (R : RightG g) (hF : 1000 ≤ F) : M31_1 F g how fs = some (some (wOf g how fs)) := by
 unfold M31_1
 simp only [jn_def, M31_1_L1_eq, M31_1_L2_eq, M31_1_L5_eq]
 rw [M31_1_L3_eq F g _ hF (fun t ht => ⟨(R.t t ht).len, (R.t t ht).srt⟩) R.tl g.Ifaces [] R.isrt (fun x _ => rfl)]
 rfl
def opnE (g : TGraph) (how : Int) (fs : List Tx) : Int := if chk false g ≠ 0 then chk false g else if feE fs ≠ 0 then feE fs else if how = 1 ∨ how = 2 then 0 else 7
theorem M18_1_eq (F : Nat) (g : TGraph) (how : Int) (fs : List Tx) (hg : okTGraph g) (hfs : ∀ x, x ∈ fs → x.length ≤ maxLen) (hF : 1000 ≤ F) : M18_1 F g how fs = some (if opnE g how fs ≠ 0 then none else some (wOf g how fs), opnE g how fs) := by
 unfold M18_1 opnE
 rw [M29_eq F g hg, Option.bind_some, M30_eq F fs hfs, Option.bind_some]
 by_cases h1 : chk false g = 0
 ·rw [if_neg (by simp [h1]), if_neg (show ¬ chk false g ≠ 0 by simp [h1])]
  by_cases h2 : feE fs = 0
  ·rw [if_neg (by simp [h2]), if_neg (show ¬ feE fs ≠ 0 by simp [h2]), M31_1_eq F g how fs (right_of h1) hF]
   by_cases h3 : how = 1
   ·simp [h3]
   ·by_cases h4 : how = 2
    ·simp [h4]
    ·simp [h3, h4]
  ·rw [if_pos (by simpa using h2), if_pos h2]; simp [h2]
 ·rw [if_pos (by simpa using h1), if_pos h1]; simp [h1]
def tru (l : List Bool) (n : Nat) : Prop := l[n]? = some true
def fls (l : List Bool) : Nat := l.countP fun b => !b
theorem tru_set {l : List Bool} {i n : Nat} (hi : i < l.length) : tru (l.set i true) n ↔ n = i ∨ tru l n := by
 unfold tru
 rw [List.getElem?_set]
 by_cases h : i = n
 ·subst h; simp [hi]
 ·rw [if_neg h]
  constructor
  ·exact .inr
  ·rintro (h2 | h2)
   ·exact absurd h2.symm h
   ·exact h2
theorem fls_set {l : List Bool} {i : Nat} (hi : i < l.length) (h : l[i] = false) : fls (l.set i true) + 1 = fls l := by
 induction l generalizing i with
 | nil => simp at hi
 | cons x l ih =>
  cases i with
  | zero =>
   simp only [List.getElem_cons_zero] at h
   subst h
   simp [fls]
  | succ i =>
   have := ih (i := i) (by simpa using hi) (by simpa using h)
   unfold fls at this ⊢
   rw [List.set_cons_succ, List.countP_cons, List.countP_cons]
   omega
structure Grow (A : Nat → Prop) (l : List Bool) (q : List Int) (l' : List Bool) (q' : List Int) : Prop where
 len : l'.length = l.length
 mu : q'.length + fls l' = q.length + fls l
 old : ∀ n, tru l n → tru l' n
 new : ∀ n, tru l' n → tru l n ∨ (A n ∧ (n : Int) ∈ q')
 qold : ∀ x, x ∈ q → x ∈ q'
 qnew : ∀ x, x ∈ q' → x ∈ q ∨ ∃ n : Nat, x = n ∧ A n ∧ tru l' n
theorem Grow.refl {A : Nat → Prop} {l : List Bool} {q : List Int} : Grow A l q l q := ⟨rfl, rfl, fun _ h => h, fun _ h => .inl h, fun _ h => h, fun _ h => .inl h⟩
theorem Grow.trans {A : Nat → Prop} {l l' l'' : List Bool} {q q' q'' : List Int} (h : Grow A l q l' q') (g : Grow A l' q' l'' q'') : Grow A l q l'' q'' where
 len := g.len.trans h.len
 mu := g.mu.trans h.mu
 old := fun n hn => g.old n (h.old n hn)
 new := fun n hn => by
  rcases g.new n hn with h1 | h1
  ·rcases h.new n h1 with h2 | h2
   ·exact .inl h2
   ·exact .inr ⟨h2.1, g.qold _ h2.2⟩
  ·exact .inr h1
 qold := fun x hx => g.qold x (h.qold x hx)
 qnew := fun x hx => by
  rcases g.qnew x hx with h1 | h1
  ·rcases h.qnew x h1 with h2 | ⟨n, h2, h3, h4⟩
   ·exact .inl h2
   ·exact .inr ⟨n, h2, h3, g.old n h4⟩
  ·exact .inr h1
theorem Grow.weak {A B : Nat → Prop} {l l' : List Bool} {q q' : List Int} (h : Grow A l q l' q') (hab : ∀ n, A n → B n) : Grow B l q l' q' where
 len := h.len
 mu := h.mu
 old := h.old
 new := fun n hn => (h.new n hn).imp id (fun x => ⟨hab n x.1, x.2⟩)
 qold := h.qold
 qnew := fun x hx => (h.qnew x hx).imp id (fun ⟨n, h1, h2, h3⟩ => ⟨n, h1, hab n h2, h3⟩)
theorem add_eq (F : Nat) (w : Treach_world) (l md : List Bool) (m : List (Treach_slot × Bool)) (o : List Treach_slot) (ty q : List Int) (n : Nat) (hn : n < l.length) (hb : q.length + fls l ≤ 100000) :
  ∃ l' q', M20 F (n : Int) w l md m o ty q = some (l', q') ∧ Grow (fun k => k = n) l q l' q' ∧ tru l' n := by
 unfold M20
 rw [idx_nat hn, Option.bind_some]
 cases hl : l[n]
 ·rw [if_pos (by simp), Option.bind_some, if_pos (by simp; omega), Int.toNat_natCast]
  refine ⟨l.set n true, q ++ [(n : Int)], rfl, ⟨by simp, ?_, fun k hk => (tru_set hn).2 (.inr hk), fun k hk => ?_, fun x hx => List.mem_append_left _ hx, fun x hx => ?_⟩, (tru_set hn).2 (.inl rfl)⟩
  ·have := fls_set hn hl
   simp; omega
  ·rcases (tru_set hn).1 hk with rfl | hk
   ·exact .inr ⟨rfl, by simp⟩
   ·exact .inl hk
  ·rcases List.mem_append.1 hx with hx | hx
   ·exact .inl hx
   ·simp at hx
    exact .inr ⟨n, hx, rfl, (tru_set hn).2 (.inl rfl)⟩
 ·rw [if_neg (by simp)]
  exact ⟨l, q, rfl, Grow.refl, by unfold tru; rw [List.getElem?_eq_getElem hn, hl]⟩
def fI (w : Treach_world) (x : Tx) : Int := (mget w.funcs x).getD 0
def tI (w : Treach_world) (x : Tx) : Int := (mget w.types x).getD 0
def onB (w : Treach_world) (x : Tx) : Bool := (mget w.on x).getD false
def fitL (w : Treach_world) (x : Tx) : List Int := (mget w.fitting x).getD []
def slotOf (c : TCall) : Treach_slot := Treach_slot.mk c.Target c.Method
inductive RR (F : Nat) (w : Treach_world) : Bool → Int → Prop
 | entry {e : Tx} (h : e ∈ w.g.Entries) : RR F w false (fI w e)
 | dir {f : Int} {x : TFunc} {c : TCall} (hf : RR F w false f) (hx : idx w.g.Funcs f = some x) (hc : c ∈ x.Calls) (ho : onB w c.Feature = true) (k : c.Kind = 1) : RR F w false (fI w c.Target)
 | dis {f t v : Int} {x : TFunc} {c : TCall} (hf : RR F w false f) (hx : idx w.g.Funcs f = some x) (hc : c ∈ x.Calls) (ho : onB w c.Feature = true) (k : c.Kind ≠ 1) (ht : t ∈ fitL w c.Target) (hm : w.made = true → RR F w true t) (hv : M33 F w c t = some v) : RR F w false v
 | mk {f : Int} {x : TFunc} {t : Tx} (hf : RR F w false f) (hx : idx w.g.Funcs f = some x) (ht : t ∈ x.Makes) : RR F w true (tI w t)
theorem M33_m (F : Nat) (w : Treach_world) {c c' : TCall} (h : c.Method = c'.Method) (t : Int) : M33 F w c t = M33 F w c' t := by unfold M33; rw [h]
structure WOk (F : Nat) (w : Treach_world) : Prop where
 fl : w.g.Funcs.length ≤ 3000
 tl : w.g.Types.length ≤ 500
 ent : ∀ e, e ∈ w.g.Entries → ∃ i : Nat, i < w.g.Funcs.length ∧ fI w e = i
 cl : ∀ x, x ∈ w.g.Funcs → x.Calls.length ≤ 200
 mks : ∀ x, x ∈ w.g.Funcs → ∀ t, t ∈ x.Makes → ∃ i : Nat, i < w.g.Types.length ∧ tI w t = i
 dir : ∀ x, x ∈ w.g.Funcs → ∀ c, c ∈ x.Calls → ∃ i : Nat, i < w.g.Funcs.length ∧ fI w c.Target = i
 fit : ∀ s t, t ∈ fitL w s → ∃ i : Nat, i < w.g.Types.length ∧ t = i
 tgt : ∀ c (t : Int), (∃ i : Nat, i < w.g.Types.length ∧ t = i) → 0 < w.g.Funcs.length → ∃ i : Nat, i < w.g.Funcs.length ∧ M33 F w c t = some (i : Int)
def SC (s : Treach_slot) : TCall := TCall.mk 0 s.iface s.method []
def Done (F : Nat) (w : Treach_world) (l md : List Bool) (o : List Treach_slot) (n : Nat) : Prop :=
 ∀ x, idx w.g.Funcs (n : Int) = some x → (∀ t, t ∈ x.Makes → ∀ i : Nat, tI w t = i → tru md i) ∧ ∀ c, c ∈ x.Calls → onB w c.Feature = true → (c.Kind = 1 → ∀ i : Nat, fI w c.Target = i → tru l i) ∧ (c.Kind ≠ 1 → slotOf c ∈ o)
structure Inv (F : Nat) (w : Treach_world) (l md : List Bool) (m : List (Treach_slot × Bool)) (o : List Treach_slot) (q : List Int) (b z : Nat) (E : Nat → Prop) : Prop where
 ll : l.length = w.g.Funcs.length
 ml : md.length = w.g.Types.length
 mu : o.length + 200 * (q.length + fls l) + b ≤ 600000
 qm : q.length + fls l = z ∧ z ≤ 3000
 qr : ∀ x, x ∈ q → ∃ n : Nat, x = n ∧ tru l n
 sf : ∀ n, tru l n → RR F w false n
 st : ∀ n, tru md n → RR F w true n
 ms : ∀ s, (mget m s).getD false = true ↔ s ∈ o
 so : ∀ s, s ∈ o → ∃ f x c, RR F w false f ∧ idx w.g.Funcs f = some x ∧ c ∈ x.Calls ∧ onB w c.Feature = true ∧ c.Kind ≠ 1 ∧ s = slotOf c
 cls : ∀ s, s ∈ o → ∀ t, t ∈ fitL w s.iface → (w.made = true → tru md t.toNat) → ∀ n : Nat, M33 F w (SC s) t = some (n : Int) → tru l n
 dn : ∀ n, tru l n → (n : Int) ∈ q ∨ Done F w l md o n ∨ E n
theorem Done.mono {F : Nat} {w : Treach_world} {l md l' md' : List Bool} {o o' : List Treach_slot} {n : Nat} (h : Done F w l md o n) (hl : ∀ n, tru l n → tru l' n) (hm : ∀ n, tru md n → tru md' n) (ho : ∀ s, s ∈ o → s ∈ o') : Done F w l' md' o' n := fun x hx =>
 ⟨fun t ht i hi => hm i ((h x hx).1 t ht i hi), fun c hc hon => ⟨fun k i hi => hl i (((h x hx).2 c hc hon).1 k i hi), fun k => ho _ (((h x hx).2 c hc hon).2 k)⟩⟩
theorem tru_lt {l : List Bool} {n : Nat} (h : tru l n) : n < l.length := (List.getElem?_eq_some_iff.1 h).1
theorem Inv.grow {F : Nat} {w : Treach_world} {l md l' : List Bool} {m : List (Treach_slot × Bool)} {o : List Treach_slot} {q q' : List Int} {b z : Nat} {E A : Nat → Prop} (I : Inv F w l md m o q b z E) (G : Grow A l q l' q') (hA : ∀ n, A n → RR F w false n) : Inv F w l' md m o q' b z E where
 ll := G.len.trans I.ll
 ml := I.ml
 mu := by rw [G.mu]; exact I.mu
 qm := by rw [G.mu]; exact I.qm
 qr := fun x hx => by
  rcases G.qnew x hx with h | ⟨n, h1, _, h3⟩
  ·obtain ⟨n, h1, h2⟩ := I.qr x h
   exact ⟨n, h1, G.old n h2⟩
  ·exact ⟨n, h1, h3⟩
 sf := fun n hn => by
  rcases G.new n hn with h | h
  ·exact I.sf n h
  ·exact hA n h.1
 st := I.st
 ms := I.ms
 so := I.so
 cls := fun s hs t ht hm n hn => G.old n (I.cls s hs t ht hm n hn)
 dn := fun n hn => by
  rcases G.new n hn with h | h
  ·rcases I.dn n h with h1 | h1 | h1
   ·exact .inl (G.qold _ h1)
   ·exact .inr (.inl (h1.mono G.old (fun _ h => h) (fun _ h => h)))
   ·exact .inr (.inr h1)
  ·exact .inl h.2
theorem call_loop (F : Nat) (w : Treach_world) (c : TCall) (md : List Bool) (m : List (Treach_slot × Bool)) (o : List Treach_slot) (ty : List Int) (hml : md.length = w.g.Types.length) :
  ∀ (ts : List Int) (l : List Bool) (q : List Int), (∀ t, t ∈ ts → (∃ i : Nat, i < w.g.Types.length ∧ t = i) ∧ ∃ i : Nat, i < l.length ∧ M33 F w c t = some (i : Int)) → q.length + fls l ≤ 100000 →
  ∃ l' q', M22_L1 F c w md m o ty ts l q = some (l', mput m (slotOf c) true, o ++ [slotOf c], q') ∧ Grow (fun n => ∃ t, t ∈ ts ∧ (w.made = true → tru md t.toNat) ∧ M33 F w c t = some (n : Int)) l q l' q' ∧
   ∀ t, t ∈ ts → (w.made = true → tru md t.toNat) → ∀ n : Nat, M33 F w c t = some (n : Int) → tru l' n
 | [], l, q, _, _ => ⟨l, q, rfl, Grow.refl, by simp⟩
 | t :: ts, l, q, h, hb => by
  obtain ⟨⟨i, hi, rfl⟩, v, hv, hM⟩ := h t (by simp)
  -- the step, if it is taken
  have step : (w.made = true → tru md i) → ∃ l' q', (M20 F (v : Int) w l md (mput m (slotOf c) true) (o ++ [slotOf c]) ty q = some (l', q')) ∧ (∃ l'' q'', M22_L1 F c w md m o ty ts l' q' = some (l'', mput m (slotOf c) true, o ++ [slotOf c], q'') ∧ Grow (fun n => ∃ u, u ∈ (i : Int) :: ts ∧ (w.made = true → tru md u.toNat) ∧ M33 F w c u = some (n : Int)) l q l'' q'' ∧
    ∀ u, u ∈ (i : Int) :: ts → (w.made = true → tru md u.toNat) → ∀ n : Nat, M33 F w c u = some (n : Int) → tru l'' n) := by
   intro hm
   obtain ⟨l', q', e1, g1, t1⟩ := add_eq F w l md (mput m (slotOf c) true) (o ++ [slotOf c]) ty q v hv hb
   obtain ⟨l'', q'', e2, g2, t2⟩ := call_loop F w c md m o ty hml ts l' q' (fun u hu => by rw [g1.len]; exact h u (List.mem_cons_of_mem _ hu)) (by rw [g1.mu]; exact hb)
   refine ⟨l', q', e1, l'', q'', e2, (g1.weak (fun n hn => ⟨(i : Int), by simp, by simpa using hm, by subst hn; exact hM⟩)).trans (g2.weak fun n ⟨u, h1, h2⟩ => ⟨u, List.mem_cons_of_mem _ h1, h2⟩), fun u hu hmu n hn => ?_⟩
   rcases List.mem_cons.1 hu with rfl | hu
   ·rw [hM] at hn; simp only [Option.some.injEq] at hn; obtain rfl : v = n := by omega
    exact g2.old _ t1
   ·exact t2 u hu hmu n hn
  have skip : ¬ (w.made = true → tru md i) → ∃ l'' q'', M22_L1 F c w md m o ty ts l q = some (l'', mput m (slotOf c) true, o ++ [slotOf c], q'') ∧ Grow (fun n => ∃ u, u ∈ (i : Int) :: ts ∧ (w.made = true → tru md u.toNat) ∧ M33 F w c u = some (n : Int)) l q l'' q'' ∧
    ∀ u, u ∈ (i : Int) :: ts → (w.made = true → tru md u.toNat) → ∀ n : Nat, M33 F w c u = some (n : Int) → tru l'' n := by
   intro hm
   obtain ⟨l'', q'', e2, g2, t2⟩ := call_loop F w c md m o ty hml ts l q (fun u hu => h u (List.mem_cons_of_mem _ hu)) hb
   refine ⟨l'', q'', e2, g2.weak fun n ⟨u, h1, h2⟩ => ⟨u, List.mem_cons_of_mem _ h1, h2⟩, fun u hu hmu n hn => ?_⟩
   rcases List.mem_cons.1 hu with rfl | hu
   ·exact absurd (by simpa using hmu) hm
   ·exact t2 u hu hmu n hn
  rw [M22_L1]
  simp only [jn_def]
  by_cases hmade : w.made = true
  ·rw [if_neg (by simp [hmade]), idx_nat (by omega : i < md.length), Option.bind_some]
   cases hmd : md[i]
   ·rw [if_neg (by simp)]
    exact skip (fun h => by have := h hmade; unfold tru at this; rw [List.getElem?_eq_getElem (by omega), hmd] at this; simp at this)
   ·rw [if_pos rfl, hM, Option.bind_some]
    obtain ⟨l', q', e1, r⟩ := step (fun _ => by unfold tru; rw [List.getElem?_eq_getElem (by omega), hmd])
    have e1' : M20 F (v : Int) w l md (mput m (Treach_slot.mk c.Target c.Method) true) (o ++ ([(Treach_slot.mk c.Target c.Method)] : List Treach_slot)) ty q = some (l', q') := e1
    rw [e1', Option.bind_some]
    exact r
  ·rw [if_pos (by simpa using hmade), hM, Option.bind_some]
   obtain ⟨l', q', e1, r⟩ := step (fun h => absurd h hmade)
   have e1' : M20 F (v : Int) w l md (mput m (Treach_slot.mk c.Target c.Method) true) (o ++ ([(Treach_slot.mk c.Target c.Method)] : List Treach_slot)) ty q = some (l', q') := e1
   rw [e1', Option.bind_some]
   exact r
structure More (l md : List Bool) (o : List Treach_slot) (l' md' : List Bool) (o' : List Treach_slot) : Prop where
 l : ∀ n, tru l n → tru l' n
 m : ∀ n, tru md n → tru md' n
 o : ∀ s, s ∈ o → s ∈ o'
theorem More.refl {l md : List Bool} {o : List Treach_slot} : More l md o l md o := ⟨fun _ h => h, fun _ h => h, fun _ h => h⟩
theorem More.trans {l md l' md' l'' md'' : List Bool} {o o' o'' : List Treach_slot} (h : More l md o l' md' o') (g : More l' md' o' l'' md'' o'') : More l md o l'' md'' o'' :=
 ⟨fun n x => g.l n (h.l n x), fun n x => g.m n (h.m n x), fun n x => g.o n (h.o n x)⟩
theorem inv_call {F : Nat} {w : Treach_world} (W : WOk F w) {l md : List Bool} {m : List (Treach_slot × Bool)} {o : List Treach_slot} {q : List Int} {b z : Nat} {E : Nat → Prop} (I : Inv F w l md m o q (b + 1) z E)
  {f : Int} {x : TFunc} {c : TCall} (hf : RR F w false f) (hx : idx w.g.Funcs f = some x) (hxm : x ∈ w.g.Funcs) (hc : c ∈ x.Calls) (ho : onB w c.Feature = true) (hN : 0 < w.g.Funcs.length) (ty : List Int) :
  ∃ l' m' o' q', M22 F c w l md m o ty q = some (l', m', o', q') ∧ Inv F w l' md m' o' q' b z E ∧ More l md o l' md o' ∧ (c.Kind = 1 → ∀ i : Nat, fI w c.Target = i → tru l' i) ∧ (c.Kind ≠ 1 → slotOf c ∈ o') := by
 have weak : ∀ {l' : List Bool} {q' : List Int}, Inv F w l' md m o q' (b + 1) z E → Inv F w l' md m o q' b z E := fun J => ⟨J.ll, J.ml, by have := J.mu; omega, J.qm, J.qr, J.sf, J.st, J.ms, J.so, J.cls, J.dn⟩
 unfold M22
 by_cases k1 : c.Kind = 1
 ·rw [if_pos (by simpa using k1)]
  obtain ⟨i, hi, he⟩ := W.dir x hxm c hc
  have he' : (mget w.funcs c.Target).getD 0 = (i : Int) := he
  rw [he']
  obtain ⟨l', q', e1, g1, t1⟩ := add_eq F w l md m o ty q i (by rw [I.ll]; exact hi) (by have := I.qm; omega)
  rw [e1, Option.bind_some]
  refine ⟨l', m, o, q', rfl, weak (I.grow g1 (fun n hn => ?_)), ⟨g1.old, fun _ h => h, fun _ h => h⟩, fun _ j hj => ?_, fun h => absurd k1 h⟩
  ·subst hn
   have := RR.dir hf hx hc ho k1
   rwa [he] at this
  ·rw [he] at hj
   obtain rfl : i = j := by omega
   exact t1
 ·rw [if_neg (by simpa using k1)]
  by_cases hs : slotOf c ∈ o
  ·have := (I.ms (slotOf c)).2 hs
   rw [if_pos (show (mget m (Treach_slot.mk c.Target c.Method)).getD false = true from this)]
   exact ⟨l, m, o, q, rfl, weak I, More.refl, fun h => absurd h k1, fun _ => hs⟩
  ·have hs' : ¬ (mget m (slotOf c)).getD false = true := fun h => hs ((I.ms _).1 h)
   rw [if_neg (show ¬ (mget m (Treach_slot.mk c.Target c.Method)).getD false = true from hs'), if_pos (by have := I.mu; simp; omega)]
   obtain ⟨l', q', e1, g1, t1⟩ := call_loop F w c md m o ty I.ml ((mget w.fitting c.Target).getD []) l q (fun t ht => ⟨W.fit _ t ht, by
    obtain ⟨i, hi, hM⟩ := W.tgt c t (W.fit _ t ht) hN
    exact ⟨i, by rw [I.ll]; exact hi, hM⟩⟩) (by have := I.qm; omega)
   rw [e1]
   have J := I.grow g1 (fun n ⟨t, h1, h2, h3⟩ => RR.dis hf hx hc ho k1 h1 (fun hm => by
    obtain ⟨i, hi, rfl⟩ := W.fit _ t h1
    exact I.st i (by simpa using h2 hm)) h3)
   refine ⟨l', _, _, q', rfl, ⟨J.ll, J.ml, by have := J.mu; simp; omega, J.qm, J.qr, J.sf, J.st, fun s => ?_, fun s hh => ?_, fun s hh t ht hm n hn => ?_, fun n hn => ?_⟩, ⟨g1.old, fun _ h => h, fun s h => List.mem_append_left _ h⟩, fun h => absurd h k1, fun _ => by simp⟩
   ·rw [mget_mput]
    by_cases h : slotOf c = s
    ·subst h; simp
    ·rw [if_neg h, I.ms s]
     constructor
     ·exact fun h2 => List.mem_append_left _ h2
     ·intro h2
      rcases List.mem_append.1 h2 with h2 | h2
      ·exact h2
      ·simp at h2; exact absurd h2.symm h
   ·rcases List.mem_append.1 hh with h | h
    ·exact I.so s h
    ·simp at h; subst h; exact ⟨f, x, c, hf, hx, hc, ho, k1, rfl⟩
   ·rcases List.mem_append.1 hh with h | h
    ·exact J.cls s h t ht hm n hn
    ·simp at h; subst h
     exact t1 t ht hm n (by rw [M33_m F w (show c.Method = (SC (slotOf c)).Method from rfl)]; exact hn)
   ·rcases J.dn n hn with h | h | h
    ·exact .inl h
    ·exact .inr (.inl (h.mono (fun _ h => h) (fun _ h => h) (fun s h => List.mem_append_left _ h)))
    ·exact .inr (.inr h)
theorem M32_eq (F : Nat) (l : List Int) (x : Int) : M32 F l x = some (l.contains x) := by
 unfold M32 M44
 rw [jn_def]
 have := idxL (g := M44_L1 F x (some (-1))) (fun y : Int => x == y) (fun _ => rfl) (fun y l n => by rw [M44_L1]) l 0
 rw [show ((0 : Nat) : Int) = 0 from rfl] at this
 rw [this]
 have e : (l.any fun y => x == y) = l.contains x := by rw [List.contains_eq_any_beq]
 rw [e]
 cases l.contains x
 ·rfl
 ·simp
theorem make_loop (F : Nat) (w : Treach_world) (W : WOk F w) (i : Nat) (hi : i < w.g.Types.length) (hN : 0 < w.g.Funcs.length) (md : List Bool) (m : List (Treach_slot × Bool)) (o : List Treach_slot) (ty : List Int) :
  ∀ (ss : List Treach_slot) (l : List Bool) (q : List Int), l.length = w.g.Funcs.length → q.length + fls l ≤ 100000 →
  ∃ l' q', M21_L1 F i w md m o ty ss l q = some (l', md.set i true, q') ∧ Grow (fun n => ∃ s, s ∈ ss ∧ (i : Int) ∈ fitL w s.iface ∧ M33 F w (SC s) i = some (n : Int)) l q l' q' ∧
   ∀ s, s ∈ ss → (i : Int) ∈ fitL w s.iface → ∀ n : Nat, M33 F w (SC s) i = some (n : Int) → tru l' n
 | [], l, q, _, _ => ⟨l, q, by rw [M21_L1, Int.toNat_natCast], Grow.refl, by simp⟩
 | s :: ss, l, q, hl, hb => by
  rw [M21_L1]
  simp only [jn_def]
  rw [M32_eq, Option.bind_some]
  by_cases h : (i : Int) ∈ fitL w s.iface
  ·have h' : (((mget w.fitting s.iface).getD ([] : List Int)).contains (i : Int)) = true := by
    have : (fitL w s.iface).contains (i : Int) = true := by simpa using h
    exact this
   obtain ⟨v, hv, hM⟩ := W.tgt (SC s) i ⟨i, hi, rfl⟩ hN
   have hM' : M33 F w (TCall.mk 0 s.iface s.method ([] : List UInt8)) i = some (v : Int) := hM
   obtain ⟨l', q', e1, g1, t1⟩ := add_eq F w l (md.set (Int.toNat i) true) m o ty q v (by rw [hl]; exact hv) hb
   rw [if_pos h', hM', Option.bind_some, e1, Option.bind_some]
   obtain ⟨l'', q'', e2, g2, t2⟩ := make_loop F w W i hi hN md m o ty ss l' q' (by rw [g1.len]; exact hl) (by rw [g1.mu]; exact hb)
   refine ⟨l'', q'', e2, (g1.weak (fun n hn => ⟨s, by simp, h, by subst hn; exact hM⟩)).trans (g2.weak fun n ⟨u, h1, h2⟩ => ⟨u, List.mem_cons_of_mem _ h1, h2⟩), fun u hu hm n hn => ?_⟩
   rcases List.mem_cons.1 hu with rfl | hu
   ·rw [hM] at hn; simp only [Option.some.injEq] at hn
    obtain rfl : v = n := by omega
    exact g2.old _ t1
   ·exact t2 u hu hm n hn
  ·have h' : ¬ (((mget w.fitting s.iface).getD ([] : List Int)).contains (i : Int)) = true := by
    have : ¬ (fitL w s.iface).contains (i : Int) = true := by simpa using h
    exact this
   rw [if_neg h']
   obtain ⟨l'', q'', e2, g2, t2⟩ := make_loop F w W i hi hN md m o ty ss l q hl hb
   refine ⟨l'', q'', e2, g2.weak fun n ⟨u, h1, h2⟩ => ⟨u, List.mem_cons_of_mem _ h1, h2⟩, fun u hu hm n hn => ?_⟩
   rcases List.mem_cons.1 hu with rfl | hu
   ·exact absurd hm h
   ·exact t2 u hu hm n hn
theorem inv_make {F : Nat} {w : Treach_world} (W : WOk F w) {l md : List Bool} {m : List (Treach_slot × Bool)} {o : List Treach_slot} {q : List Int} {b z : Nat} {E : Nat → Prop} (I : Inv F w l md m o q b z E)
  (i : Nat) (hi : i < w.g.Types.length) (hN : 0 < w.g.Funcs.length) (hr : RR F w true i) (ty : List Int) :
  ∃ l' md' q', M21 F i w l md m o ty q = some (l', md', q') ∧ Inv F w l' md' m o q' b z E ∧ More l md o l' md' o ∧ tru md' i := by
 have him : i < md.length := by rw [I.ml]; exact hi
 unfold M21
 rw [idx_nat him, Option.bind_some]
 cases hmd : md[i]
 ·rw [if_neg (by simp), Option.bind_some]
  have base : Inv F w l (md.set i true) m o q b z E ∨ w.made = true := by
   by_cases hm : w.made = true
   ·exact .inr hm
   ·refine .inl ⟨I.ll, by simp [I.ml], I.mu, I.qm, I.qr, I.sf, fun n hn => ?_, I.ms, I.so, fun s hs t ht _ n hn => I.cls s hs t ht (fun h => absurd h hm) n hn, fun n hn => ?_⟩
    ·rcases (tru_set him).1 hn with rfl | h
     ·exact hr
     ·exact I.st n h
    ·rcases I.dn n hn with h | h | h
     ·exact .inl h
     ·exact .inr (.inl (h.mono (fun _ h => h) (fun n h => (tru_set him).2 (.inr h)) (fun _ h => h)))
     ·exact .inr (.inr h)
  by_cases hm : w.made = true
  ·rw [if_neg (by simp [hm])]
   obtain ⟨l', q', e1, g1, t1⟩ := make_loop F w W i hi hN md m o ty o l q I.ll (by have := I.qm; omega)
   rw [e1]
   have hA : ∀ n : Nat, (∃ s, s ∈ o ∧ (i : Int) ∈ fitL w s.iface ∧ M33 F w (SC s) i = some (n : Int)) → RR F w false n := by
    rintro n ⟨s, h1, h2, h3⟩
    obtain ⟨f, x, c, c1, c2, c3, c4, c5, rfl⟩ := I.so s h1
    exact RR.dis c1 c2 c3 c4 c5 h2 (fun _ => hr) (by rw [M33_m F w (show c.Method = (SC (slotOf c)).Method from rfl)]; exact h3)
   have J := I.grow g1 hA
   refine ⟨l', md.set i true, q', rfl, ⟨J.ll, by simp [I.ml], J.mu, J.qm, J.qr, J.sf, fun n hn => ?_, J.ms, J.so, fun s hs t ht htm n hn => ?_, fun n hn => ?_⟩, ⟨g1.old, fun n h => (tru_set him).2 (.inr h), fun _ h => h⟩, (tru_set him).2 (.inl rfl)⟩
   ·rcases (tru_set him).1 hn with rfl | h
    ·exact hr
    ·exact I.st n h
   ·obtain ⟨j, hj, rfl⟩ := W.fit _ t ht
    by_cases hij : j = i
    ·subst hij; exact t1 s hs ht n hn
    ·refine J.cls s hs _ ht (fun hm => ?_) n hn
     have := htm hm
     rw [Int.toNat_natCast] at this ⊢
     rcases (tru_set him).1 this with h | h
     ·exact absurd h hij
     ·exact h
   ·rcases J.dn n hn with h | h | h
    ·exact .inl h
    ·exact .inr (.inl (h.mono (fun _ h => h) (fun n h => (tru_set him).2 (.inr h)) (fun _ h => h)))
    ·exact .inr (.inr h)
  ·rw [if_pos (by simpa using hm), Int.toNat_natCast]
   rcases base with J | J
   ·exact ⟨l, md.set i true, q, rfl, J, ⟨fun _ h => h, fun n h => (tru_set him).2 (.inr h), fun _ h => h⟩, (tru_set him).2 (.inl rfl)⟩
   ·exact absurd J hm
 ·rw [if_pos rfl]
  exact ⟨l, md, q, rfl, I, More.refl, by unfold tru; rw [List.getElem?_eq_getElem him, hmd]⟩
end Go.Proofs.Ytcbkgdagiccfmaa
