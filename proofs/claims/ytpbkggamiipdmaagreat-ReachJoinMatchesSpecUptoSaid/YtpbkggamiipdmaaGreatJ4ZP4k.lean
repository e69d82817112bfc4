/- Part of the proof: ZP4b, ZP4c, ZP4e, ZP4d, ZP4f, ZP4g, ZP4h, ZP4i, ZP4j, XR, ZP4l, ZP4k. -/
import Derived.Test.YtpbkggamiipdmaaGreatJ4ZP4a
import Derived.Test.YtpbkggamiipdmaaGreatJ4JD
import Derived.Test.YtpbkggamiipdmaaGreatJ4DR
import Derived.Test.YtpbkggamiipdmaaGreatJ4Z4T
namespace Go.Proofs.YtpbkggamiipdmaaGreat
open Go Go.Pv
set_option linter.unusedVariables false
theorem jnd_len {α : Type} {nm : α → Tx} {same : α → α → Bool} : ∀ (more l l' : List α), jnd nm same more l = some l' → l'.length ≤ l.length + more.length
 | [], l, l', h => by simp [jnd] at h; subst h; simp
 | x :: r, l, l', h => by
  rw [jnd] at h
  split at h
  ·split at h
   ·have := jnd_len r l l' h
    simp only [List.length_cons]; omega
   ·simp at h
  ·have := jnd_len r _ l' h
   simp only [List.length_append, List.length_cons, List.length_nil] at this ⊢
   omega
structure JS where
 i : List TIface
 t : List TType
 f : List TFunc
 e : List Tx
def JS.len (s : JS) : Nat := s.i.length + s.t.length + s.f.length + s.e.length
def gLen (g : TGraph) : Nat := g.Ifaces.length + g.Types.length + g.Funcs.length + g.Entries.length
def joinL : List TGraph → JS → Except Int JS
 | [], s => .ok s
 | g :: r, s => if chk true g ≠ 0 then .error (chk true g) else
  match jnd TIface.Name sameI g.Ifaces s.i, jnd TType.Name sameT g.Types s.t, jnd TFunc.Name sameF g.Funcs s.f with
  | some a, some b, some c => joinL r ⟨a, b, c, s.e ++ g.Entries⟩
  | _, _, _ => .error 5
def zG : TGraph := TGraph.mk [] [] [] []
theorem M15_L1_eq (F : Nat) (k : (List TIface) → (List TType) → (List TFunc) → (List (List UInt8)) → Option (TGraph × Int)) : ∀ (l : List TGraph) (m1 m2 m3 : List ((List UInt8) × Int)) (s : JS), IxM TIface.Name m1 s.i → IxM TType.Name m2 s.t → IxM TFunc.Name m3 s.f → (∀ g, g ∈ l → okTGraph g) → s.len + (l.map gLen).sum ≤ 1000000000000 →
  M15_L1 F k l m1 m2 m3 s.i s.t s.f s.e = match joinL l s with
   | .ok s' => k s'.i s'.t s'.f s'.e
   | .error e => some (zG, e)
 | [], m1, m2, m3, s, _, _, _, _, _ => rfl
 | g :: r, m1, m2, m3, s, h1, h2, h3, hg, hb => by
  rw [List.map_cons, List.sum_cons] at hb
  have hb' : s.i.length + s.t.length + s.f.length + s.e.length + (g.Ifaces.length + g.Types.length + g.Funcs.length + g.Entries.length) + (r.map gLen).sum ≤ 1000000000000 := by
   have q : gLen g = g.Ifaces.length + g.Types.length + g.Funcs.length + g.Entries.length := rfl
   unfold JS.len at hb; omega
  rw [M15_L1, M59_eq, Option.bind_some, M60_eq F g true (hg g (by simp)), Option.bind_some, joinL]
  by_cases hc : chk true g = 0
  ·rw [if_neg (by simp [hc]), if_neg (by simp [hc])]
   obtain ⟨n1, e1⟩ := M61_eq (F := F) h1 (more := g.Ifaces) (by omega)
   obtain ⟨n2, e2⟩ := M63_eq (F := F) h2 (more := g.Types) (by omega)
   obtain ⟨n3, e3⟩ := M65_eq (F := F) h3 (more := g.Funcs) (by omega)
   cases j1 : jnd TIface.Name sameI g.Ifaces s.i with
   | none =>
    rw [j1] at e1
    simp only at e1
    cases j2 : jnd TType.Name sameT g.Types s.t <;> cases j3 : jnd TFunc.Name sameF g.Funcs s.f <;> rw [j2] at e2 <;> rw [j3] at e3 <;> simp only at e2 e3 <;> simp [e1, e2, e3, zG]
   | some a =>
    rw [j1] at e1
    simp only at e1
    cases j2 : jnd TType.Name sameT g.Types s.t with
    | none =>
     rw [j2] at e2
     simp only at e2
     cases j3 : jnd TFunc.Name sameF g.Funcs s.f <;> rw [j3] at e3 <;> simp only at e3 <;> simp [e1, e2, e3, zG]
    | some b =>
     rw [j2] at e2
     simp only at e2
     cases j3 : jnd TFunc.Name sameF g.Funcs s.f with
     | none =>
      rw [j3] at e3
      simp only at e3
      simp [e1, e2, e3, zG]
     | some c =>
      rw [j3] at e3
      simp only at e3
      have l1 := jnd_len _ _ _ j1
      have l2 := jnd_len _ _ _ j2
      have l3 := jnd_len _ _ _ j3
      rw [e1.2, e2.2, e3.2]
      simp only [Option.bind_some, Bool.not_true, Bool.false_eq_true, if_false]
      rw [if_pos (by simp; omega)]
      exact M15_L1_eq F k r n1 n2 n3 ⟨a, b, c, s.e ++ g.Entries⟩ e1.1 e2.1 e3.1 (fun x hx => hg x (List.mem_cons_of_mem _ hx)) (by unfold JS.len; simp; omega)
  ·rw [if_pos (by simpa using hc), if_pos hc]; rfl
def mrg {α : Type} (nm : α → Tx) (sm : α → α → Bool) : List α → List α → Option (List α)
 | [], b => some b
 | x :: a, [] => some (x :: a)
 | x :: a, y :: b => if Op.bytesLess (nm x) (nm y) = true then (mrg nm sm a (y :: b)).map (x :: ·) else if (Op.bytesLess (nm x) (nm y) || nm x == nm y) = false then (mrg nm sm (x :: a) b).map (y :: ·) else if sm x y = true then mrg nm sm (x :: a) b else none
termination_by a b => a.length + b.length
theorem mrg_nil {α : Type} {nm : α → Tx} {sm : α → α → Bool} (a : List α) : mrg nm sm a [] = some a := by cases a <;> simp [mrg]
section
variable {F : Nat}
theorem M140_same (a b : List (List UInt8)) : M140 F a b = some (decide (a = b)) := by
 unfold M140
 rw [jn_def]
 exact eqL_all (g := M140_L1 F b (some true)) b (fun n => rfl) (fun x l n => by rw [M140_L1]; congr 1; funext y; rw [show (x == y) = decide (x = y) from by by_cases e : x = y <;> simp [e]]) a
def smI (x y : TIface) : Bool := decide (x.Methods = y.Methods)
theorem M74_L1_eq (k : (List TIface) → Option ((List TIface) × Bool)) : ∀ (n : Nat) (a b o : List TIface), a.length + b.length < n → o.length + a.length + b.length ≤ 1000000000000 →
  M74_L1 F k n a b o = match mrg TIface.Name smI a b with | some r => k (o ++ r) | none => some ([], false)
 | 0, a, b, o, h, _ => by omega
 | n + 1, [], [], o, h, hb => by simp [M74_L1, mrg]
 | n + 1, [], y :: b, o, h, hb => by
  simp only [List.length_cons, List.length_nil] at h hb
  rw [M74_L1, if_neg (by simp), if_pos (by simp)]
  simp only [jn_def]
  rw [if_neg (by simp; omega), if_pos (by simp), show idx (y :: b) 0 = some y from rfl, Option.bind_some, if_pos (by simp; omega), if_pos (by simp), List.drop_one, List.tail_cons, M74_L1_eq k n [] b _ (by simp; omega) (by simp; omega)]
  simp [mrg]
 | n + 1, x :: a, [], o, h, hb => by
  simp only [List.length_cons, List.length_nil] at h hb
  rw [M74_L1, if_pos (by simp)]
  simp only [jn_def]
  rw [if_pos (by simp), show idx (x :: a) 0 = some x from rfl, Option.bind_some, if_pos (by simp; omega), if_pos (by simp), List.drop_one, List.tail_cons, M74_L1_eq k n a [] _ (by simp; omega) (by simp; omega)]
  simp [mrg_nil]
 | n + 1, x :: a, y :: b, o, h, hb => by
  simp only [List.length_cons] at h hb
  rw [M74_L1, if_pos (by simp)]
  simp only [jn_def, show idx (x :: a) 0 = some x from rfl, show idx (y :: b) 0 = some y from rfl, Option.bind_some]
  rw [if_neg (by simp; omega), mrg]
  by_cases h1 : Op.bytesLess x.Name y.Name = true
  ·rw [if_pos h1, if_pos h1, if_pos (by simp; omega), if_pos (by simp), List.drop_one, List.tail_cons, M74_L1_eq k n a (y :: b) _ (by simp; omega) (by simp; omega)]
   cases mrg TIface.Name smI a (y :: b) <;> simp
  ·rw [if_neg h1, if_neg h1, if_neg (by simp; omega)]
   by_cases h2 : (Op.bytesLess x.Name y.Name || x.Name == y.Name) = false
   ·rw [if_pos (by rw [h2]; rfl), if_pos h2, if_pos (by simp; omega), if_pos (by simp), List.drop_one, List.tail_cons, M74_L1_eq k n (x :: a) b _ (by simp; omega) (by simp; omega)]
    cases mrg TIface.Name smI (x :: a) b <;> simp
   ·rw [if_neg (by simpa using h2), if_neg h2, M140_same, Option.bind_some]
    by_cases h3 : x.Methods = y.Methods
    ·have hs : smI x y = true := by simp [smI, h3]
     rw [if_neg (by simp [h3]), if_pos hs, if_pos (by simp), List.drop_one, List.tail_cons, M74_L1_eq k n (x :: a) b _ (by simp; omega) (by simp; omega)]
    ·have hs : ¬ smI x y = true := by simp [smI, h3]
     rw [if_pos (by simp [h3]), if_neg hs]
theorem M74_eq (a b : List TIface) (h : a.length + b.length < F) (hb : a.length + b.length ≤ 1000000000000) : M74 F a b = match mrg TIface.Name smI a b with | some r => some (r, true) | none => some ([], false) := by
 unfold M74
 rw [jn_def, M74_L1_eq _ F a b [] h (by simp; omega)]
 rfl
end
section
variable {F : Nat}
theorem M77_L1_eq (k : (List Tx) → Option (List Tx)) : ∀ (n : Nat) (a b o : List Tx), a.length + b.length < n → o.length + a.length + b.length ≤ 1000000000000 →
  M77_L1 F k n a b o = match mrg id (fun _ _ => true) a b with | some r => k (o ++ r) | none => none
 | 0, a, b, o, h, _ => by omega
 | n + 1, [], [], o, h, hb => by simp [M77_L1, mrg]
 | n + 1, [], y :: b, o, h, hb => by
  simp only [List.length_cons, List.length_nil] at h hb
  rw [M77_L1, if_neg (by simp), if_pos (by simp)]
  simp only [jn_def]
  rw [if_neg (by simp; omega), if_pos (by simp), show idx (y :: b) 0 = some y from rfl, Option.bind_some, if_pos (by simp; omega), if_pos (by simp), List.drop_one, List.tail_cons, M77_L1_eq k n [] b _ (by simp; omega) (by simp; omega)]
  simp [mrg]
 | n + 1, x :: a, [], o, h, hb => by
  simp only [List.length_cons, List.length_nil] at h hb
  rw [M77_L1, if_pos (by simp)]
  simp only [jn_def]
  rw [if_pos (by simp), show idx (x :: a) 0 = some x from rfl, Option.bind_some, if_pos (by simp; omega), if_pos (by simp), List.drop_one, List.tail_cons, M77_L1_eq k n a [] _ (by simp; omega) (by simp; omega)]
  simp [mrg_nil]
 | n + 1, x :: a, y :: b, o, h, hb => by
  simp only [List.length_cons] at h hb
  rw [M77_L1, if_pos (by simp)]
  simp only [jn_def, show idx (x :: a) 0 = some x from rfl, show idx (y :: b) 0 = some y from rfl, Option.bind_some]
  rw [if_neg (by simp; omega), mrg]
  simp only [id_eq]
  by_cases h1 : Op.bytesLess x y = true
  ·rw [if_pos h1, if_pos h1, if_pos (by simp; omega), if_pos (by simp), List.drop_one, List.tail_cons, M77_L1_eq k n a (y :: b) _ (by simp; omega) (by simp; omega)]
   cases mrg id (fun _ _ => true) a (y :: b) <;> simp
  ·rw [if_neg h1, if_neg h1, if_neg (by simp; omega)]
   by_cases h2 : (Op.bytesLess x y || x == y) = false
   ·rw [if_pos (by rw [h2]; rfl), if_pos h2, if_pos (by simp; omega), if_pos (by simp), List.drop_one, List.tail_cons, M77_L1_eq k n (x :: a) b _ (by simp; omega) (by simp; omega)]
    cases mrg id (fun _ _ => true) (x :: a) b <;> simp
   ·rw [if_neg (by simpa using h2), if_neg h2, if_pos (by simp), if_pos trivial, List.drop_one, List.tail_cons, M77_L1_eq k n (x :: a) b _ (by simp; omega) (by simp; omega)]
theorem mrgX (a b : List Tx) : (mrg id (fun _ _ => true) a b).isSome = true := by
 have key : ∀ (n : Nat) (a b : List Tx), a.length + b.length < n → (mrg id (fun _ _ => true) a b).isSome = true := by
  intro n
  induction n with
  | zero => intro a b h; omega
  | succ n ih =>
   intro a b h
   cases a with
   | nil => simp [mrg]
   | cons x a =>
    cases b with
    | nil => simp [mrg]
    | cons y b =>
     simp only [List.length_cons] at h
     rw [mrg]
     have h1 := ih a (y :: b) (by simp; omega)
     have h2 := ih (x :: a) b (by simp; omega)
     split
     ·rw [Option.isSome_map]; exact h1
     ·split
      ·rw [Option.isSome_map]; exact h2
      ·rw [if_pos rfl]; exact h2
 exact key _ a b (Nat.lt_succ_self _)
theorem M77_eq (a b : List Tx) (h : a.length + b.length < F) (hb : a.length + b.length ≤ 1000000000000) : M77 F a b = mrg id (fun _ _ => true) a b := by
 unfold M77
 rw [jn_def, M77_L1_eq _ F a b [] h (by simp; omega)]
 cases mrg id (fun _ _ => true) a b <;> rfl
end
section
variable {F : Nat}
theorem M141_same (a b : List TMethod) : M141 F a b = some (decide (a = b)) := by
 unfold M141
 rw [jn_def]
 exact eqL_all (g := M141_L1 F b (some true)) b (fun n => rfl) (fun x l n => by rw [M141_L1]) a
theorem M188_same (a b : List TCall) : M188 F a b = some (decide (a = b)) := by
 unfold M188
 rw [jn_def]
 exact eqL_all (g := M188_L1 F b (some true)) b (fun n => rfl) (fun x l n => by rw [M188_L1]) a
def smT (x y : TType) : Bool := decide (x.Methods = y.Methods)
def smF (x y : TFunc) : Bool := x.Component == y.Component && (decide (x.Calls = y.Calls) && decide (x.Makes = y.Makes))
theorem M142_same (x y : TFunc) : M142 F x y = some (smF x y) := by
 unfold M142 smF
 cases h2 : (x.Component == y.Component)
 ·simp
 ·rw [if_pos rfl, M188_same, Option.bind_some]
  by_cases h3 : x.Calls = y.Calls
  ·rw [if_pos (by simpa using h3), M140_same]; simp [h3]
  ·rw [if_neg (by simpa using h3)]; simp [h3]
theorem M75_L1_eq (k : (List TType) → Option ((List TType) × Bool)) : ∀ (n : Nat) (a b o : List TType), a.length + b.length < n → o.length + a.length + b.length ≤ 1000000000000 →
  M75_L1 F k n a b o = match mrg TType.Name smT a b with | some r => k (o ++ r) | none => some ([], false)
 | 0, a, b, o, h, _ => by omega
 | n + 1, [], [], o, h, hb => by simp [M75_L1, mrg]
 | n + 1, [], y :: b, o, h, hb => by
  simp only [List.length_cons, List.length_nil] at h hb
  rw [M75_L1, if_neg (by simp), if_pos (by simp)]
  simp only [jn_def]
  rw [if_neg (by simp; omega), if_pos (by simp), show idx (y :: b) 0 = some y from rfl, Option.bind_some, if_pos (by simp; omega), if_pos (by simp), List.drop_one, List.tail_cons, M75_L1_eq k n [] b _ (by simp; omega) (by simp; omega)]
  simp [mrg]
 | n + 1, x :: a, [], o, h, hb => by
  simp only [List.length_cons, List.length_nil] at h hb
  rw [M75_L1, if_pos (by simp)]
  simp only [jn_def]
  rw [if_pos (by simp), show idx (x :: a) 0 = some x from rfl, Option.bind_some, if_pos (by simp; omega), if_pos (by simp), List.drop_one, List.tail_cons, M75_L1_eq k n a [] _ (by simp; omega) (by simp; omega)]
  simp [mrg_nil]
 | n + 1, x :: a, y :: b, o, h, hb => by
  simp only [List.length_cons] at h hb
  rw [M75_L1, if_pos (by simp)]
  simp only [jn_def, show idx (x :: a) 0 = some x from rfl, show idx (y :: b) 0 = some y from rfl, Option.bind_some]
  rw [if_neg (by simp; omega), mrg]
  by_cases h1 : Op.bytesLess x.Name y.Name = true
  ·rw [if_pos h1, if_pos h1, if_pos (by simp; omega), if_pos (by simp), List.drop_one, List.tail_cons, M75_L1_eq k n a (y :: b) _ (by simp; omega) (by simp; omega)]
   cases mrg TType.Name smT a (y :: b) <;> simp
  ·rw [if_neg h1, if_neg h1, if_neg (by simp; omega)]
   by_cases h2 : (Op.bytesLess x.Name y.Name || x.Name == y.Name) = false
   ·rw [if_pos (by rw [h2]; rfl), if_pos h2, if_pos (by simp; omega), if_pos (by simp), List.drop_one, List.tail_cons, M75_L1_eq k n (x :: a) b _ (by simp; omega) (by simp; omega)]
    cases mrg TType.Name smT (x :: a) b <;> simp
   ·rw [if_neg (by simpa using h2), if_neg h2, M141_same, Option.bind_some]
    by_cases h3 : x.Methods = y.Methods
    ·have hs : smT x y = true := by simp [smT, h3]
     rw [if_neg (by simp [h3]), if_pos hs, if_pos (by simp), List.drop_one, List.tail_cons, M75_L1_eq k n (x :: a) b _ (by simp; omega) (by simp; omega)]
    ·have hs : ¬ smT x y = true := by simp [smT, h3]
     rw [if_pos (by simp [h3]), if_neg hs]
theorem M75_eq (a b : List TType) (h : a.length + b.length < F) (hb : a.length + b.length ≤ 1000000000000) : M75 F a b = match mrg TType.Name smT a b with | some r => some (r, true) | none => some ([], false) := by
 unfold M75
 rw [jn_def, M75_L1_eq _ F a b [] h (by simp; omega)]
 rfl
theorem M76_L1_eq (k : (List TFunc) → Option ((List TFunc) × Bool)) : ∀ (n : Nat) (a b o : List TFunc), a.length + b.length < n → o.length + a.length + b.length ≤ 1000000000000 →
  M76_L1 F k n a b o = match mrg TFunc.Name smF a b with | some r => k (o ++ r) | none => some ([], false)
 | 0, a, b, o, h, _ => by omega
 | n + 1, [], [], o, h, hb => by simp [M76_L1, mrg]
 | n + 1, [], y :: b, o, h, hb => by
  simp only [List.length_cons, List.length_nil] at h hb
  rw [M76_L1, if_neg (by simp), if_pos (by simp)]
  simp only [jn_def]
  rw [if_neg (by simp; omega), if_pos (by simp), show idx (y :: b) 0 = some y from rfl, Option.bind_some, if_pos (by simp; omega), if_pos (by simp), List.drop_one, List.tail_cons, M76_L1_eq k n [] b _ (by simp; omega) (by simp; omega)]
  simp [mrg]
 | n + 1, x :: a, [], o, h, hb => by
  simp only [List.length_cons, List.length_nil] at h hb
  rw [M76_L1, if_pos (by simp)]
  simp only [jn_def]
  rw [if_pos (by simp), show idx (x :: a) 0 = some x from rfl, Option.bind_some, if_pos (by simp; omega), if_pos (by simp), List.drop_one, List.tail_cons, M76_L1_eq k n a [] _ (by simp; omega) (by simp; omega)]
  simp [mrg_nil]
 | n + 1, x :: a, y :: b, o, h, hb => by
  simp only [List.length_cons] at h hb
  rw [M76_L1, if_pos (by simp)]
  simp only [jn_def, show idx (x :: a) 0 = some x from rfl, show idx (y :: b) 0 = some y from rfl, Option.bind_some]
  rw [if_neg (by simp; omega), mrg]
  by_cases h1 : Op.bytesLess x.Name y.Name = true
  ·rw [if_pos h1, if_pos h1, if_pos (by simp; omega), if_pos (by simp), List.drop_one, List.tail_cons, M76_L1_eq k n a (y :: b) _ (by simp; omega) (by simp; omega)]
   cases mrg TFunc.Name smF a (y :: b) <;> simp
  ·rw [if_neg h1, if_neg h1, if_neg (by simp; omega)]
   by_cases h2 : (Op.bytesLess x.Name y.Name || x.Name == y.Name) = false
   ·rw [if_pos (by rw [h2]; rfl), if_pos h2, if_pos (by simp; omega), if_pos (by simp), List.drop_one, List.tail_cons, M76_L1_eq k n (x :: a) b _ (by simp; omega) (by simp; omega)]
    cases mrg TFunc.Name smF (x :: a) b <;> simp
   ·rw [if_neg (by simpa using h2), if_neg h2, M142_same, Option.bind_some]
    cases hs : smF x y
    ·rw [if_pos (by simp), if_neg (by simp)]
    ·rw [if_neg (by simp), if_pos rfl, if_pos (by simp), List.drop_one, List.tail_cons, M76_L1_eq k n (x :: a) b _ (by simp; omega) (by simp; omega)]
theorem M76_eq (a b : List TFunc) (h : a.length + b.length < F) (hb : a.length + b.length ≤ 1000000000000) : M76 F a b = match mrg TFunc.Name smF a b with | some r => some (r, true) | none => some ([], false) := by
 unfold M76
 rw [jn_def, M76_L1_eq _ F a b [] h (by simp; omega)]
 rfl
end
section
variable {α : Type} {nm : α → Tx} {same : α → α → Bool}
def Clash (nm : α → Tx) (same : α → α → Bool) (l more : List α) : Prop := ∃ y, y ∈ l ∧ ∃ x, x ∈ more ∧ nm y = nm x ∧ same y x = false
def DN (nm : α → Tx) (l : List α) : Prop := (l.map nm).Nodup
theorem DN.find {l : List α} (h : DN nm l) {y : α} (hy : y ∈ l) : l.find? (fun z => nm z == nm y) = some y := by
 induction l with
 | nil => simp at hy
 | cons z l ih =>
  unfold DN at h
  rw [List.map_cons, List.nodup_cons] at h
  rw [List.find?_cons]
  rcases List.mem_cons.1 hy with e | e
  ·subst e; simp
  ·have : (nm z == nm y) = false := by
    simp only [beq_eq_false_iff_ne, ne_eq]
    intro hh
    exact h.1 (List.mem_map.2 ⟨y, e, hh.symm⟩)
   rw [this]
   exact ih h.2 e
theorem jnd_spec : ∀ (more l : List α), DN nm l → DN nm more →
  (jnd nm same more l = none ↔ Clash nm same l more) ∧ ∀ l', jnd nm same more l = some l' → DN nm l' ∧ ∀ z, z ∈ l' ↔ z ∈ l ∨ (z ∈ more ∧ nm z ∉ l.map nm)
 | [], l, hl, _ => by
  refine ⟨by simp [jnd, Clash], fun l' h => ?_⟩
  simp only [jnd, Option.some.injEq] at h
  subst h
  exact ⟨hl, by simp⟩
 | x :: r, l, hl, hm => by
  have hm' := hm
  unfold DN at hm
  rw [List.map_cons, List.nodup_cons] at hm
  rw [jnd]
  cases hf : l.find? (fun y => nm y == nm x) with
  | some y =>
   have hy : y ∈ l := List.mem_of_find?_eq_some hf
   have hn : nm y = nm x := by have := List.find?_some hf; simpa using this
   cases hs : same y x
   ·simp only [hs, Bool.false_eq_true, if_false]
    exact ⟨⟨fun _ => ⟨y, hy, x, by simp, hn, hs⟩, fun _ => trivial⟩, fun l' h => by simp at h⟩
   ·simp only [hs, if_true]
    obtain ⟨i1, i2⟩ := jnd_spec r l hl hm.2
    refine ⟨i1.trans ?_, fun l' h => ?_⟩
    ·constructor
     ·rintro ⟨a, ha, b, hb, q⟩; exact ⟨a, ha, b, List.mem_cons_of_mem _ hb, q⟩
     ·rintro ⟨a, ha, b, hb, q1, q2⟩
      rcases List.mem_cons.1 hb with e | e
      ·subst e
       have h1 := hl.find ha
       rw [q1, hf] at h1
       simp only [Option.some.injEq] at h1
       subst h1
       rw [hs] at q2; simp at q2
      ·exact ⟨a, ha, b, e, q1, q2⟩
    ·obtain ⟨j1, j2⟩ := i2 l' h
     refine ⟨j1, fun z => (j2 z).trans ?_⟩
     constructor
     ·rintro (h | ⟨h1, h2⟩)
      ·exact .inl h
      ·exact .inr ⟨List.mem_cons_of_mem _ h1, h2⟩
     ·rintro (h | ⟨h1, h2⟩)
      ·exact .inl h
      ·rcases List.mem_cons.1 h1 with e | e
       ·subst e
        exact absurd (List.mem_map.2 ⟨y, hy, hn⟩) h2
       ·exact .inr ⟨e, h2⟩
  | none =>
   rw [List.find?_eq_none] at hf
   have hx : nm x ∉ l.map nm := by
    intro h
    obtain ⟨y, hy, e⟩ := List.mem_map.1 h
    exact hf y hy (by simpa using e)
   have hl2 : DN nm (l ++ [x]) := by
    unfold DN
    rw [List.map_append, List.nodup_append]
    exact ⟨hl, by simp, fun a ha b hb e => hx (by simp at hb; rw [← hb, ← e]; exact ha)⟩
   obtain ⟨i1, i2⟩ := jnd_spec r (l ++ [x]) hl2 hm.2
   simp only
   refine ⟨i1.trans ?_, fun l' h => ?_⟩
   ·constructor
    ·rintro ⟨a, ha, b, hb, q1, q2⟩
     rcases List.mem_append.1 ha with e | e
     ·exact ⟨a, e, b, List.mem_cons_of_mem _ hb, q1, q2⟩
     ·simp only [List.mem_singleton] at e
      subst e
      exact absurd (List.mem_map.2 ⟨b, hb, q1.symm⟩) hm.1
    ·rintro ⟨a, ha, b, hb, q1, q2⟩
     rcases List.mem_cons.1 hb with e | e
     ·subst e
      exact absurd (List.mem_map.2 ⟨a, ha, q1⟩) hx
     ·exact ⟨a, List.mem_append_left _ ha, b, e, q1, q2⟩
   ·obtain ⟨j1, j2⟩ := i2 l' h
    refine ⟨j1, fun z => (j2 z).trans ?_⟩
    rw [List.mem_append, List.mem_singleton, List.map_append, List.mem_append, List.mem_cons]
    constructor
    ·rintro ((h | h) | ⟨h1, h2⟩)
     ·exact .inl h
     ·subst h; exact .inr ⟨.inl rfl, hx⟩
     ·exact .inr ⟨.inr h1, fun h => h2 (.inl h)⟩
    ·rintro (h | ⟨h1, h2⟩)
     ·exact .inl (.inl h)
     ·rcases h1 with e | e
      ·exact .inl (.inr e)
      ·refine .inr ⟨e, fun h => h.elim h2 (fun h => ?_)⟩
       simp only [List.map_cons, List.map_nil, List.mem_singleton] at h
       exact hm.1 (List.mem_map.2 ⟨z, e, h⟩)
end
section
variable {α : Type} {nm : α → Tx} {sm : α → α → Bool}
def SN (nm : α → Tx) (l : List α) : Prop := l.Pairwise fun a b => Op.bytesLess (nm a) (nm b) = true
theorem mrg_spec : ∀ (n : Nat) (a b : List α), a.length + b.length < n → SN nm a → SN nm b →
  (mrg nm sm a b = none ↔ Clash nm sm a b) ∧ ∀ r, mrg nm sm a b = some r → SN nm r ∧ ∀ z, z ∈ r ↔ z ∈ a ∨ (z ∈ b ∧ nm z ∉ a.map nm)
 | 0, a, b, h, _, _ => by omega
 | n + 1, [], b, h, ha, hb => by
  refine ⟨by simp [mrg, Clash], fun r hr => ?_⟩
  simp only [mrg, Option.some.injEq] at hr
  subst hr
  exact ⟨hb, by simp⟩
 | n + 1, x :: a, [], h, ha, hb => by
  refine ⟨by simp [mrg, Clash], fun r hr => ?_⟩
  simp only [mrg, Option.some.injEq] at hr
  subst hr
  exact ⟨ha, by simp⟩
 | n + 1, x :: a, y :: b, h, ha, hb => by
  simp only [List.length_cons] at h
  have hA := List.pairwise_cons.1 ha
  have hB := List.pairwise_cons.1 hb
  rw [mrg]
  by_cases h1 : Op.bytesLess (nm x) (nm y) = true
  ·rw [if_pos h1]
   have lt : ∀ z, z ∈ y :: b → Op.bytesLess (nm x) (nm z) = true := fun z hz => by
    rcases List.mem_cons.1 hz with e | e
    ·rw [e]; exact h1
    ·exact bl_trans h1 (hB.1 z e)
   obtain ⟨i1, i2⟩ := mrg_spec n a (y :: b) (by simp; omega) hA.2 hb
   refine ⟨?_, fun r hr => ?_⟩
   ·rw [Option.map_eq_none_iff, i1]
    constructor
    ·rintro ⟨p, hp, q, hq, e⟩; exact ⟨p, List.mem_cons_of_mem _ hp, q, hq, e⟩
    ·rintro ⟨p, hp, q, hq, e1, e2⟩
     rcases List.mem_cons.1 hp with e | e
     ·subst e; exact absurd e1 (bl_ne (lt q hq))
     ·exact ⟨p, e, q, hq, e1, e2⟩
   ·rw [Option.map_eq_some_iff] at hr
    obtain ⟨r', hr', rfl⟩ := hr
    obtain ⟨j1, j2⟩ := i2 r' hr'
    refine ⟨List.pairwise_cons.2 ⟨fun z hz => ?_, j1⟩, fun z => ?_⟩
    ·rcases (j2 z).1 hz with e | e
     ·exact hA.1 z e
     ·exact lt z e.1
    ·rw [List.mem_cons, j2, List.mem_cons (a := z) (l := a), List.map_cons, List.mem_cons (l := a.map nm)]
     constructor
     ·rintro (e | e | ⟨e1, e2⟩)
      ·exact .inl (.inl e)
      ·exact .inl (.inr e)
      ·exact .inr ⟨e1, fun hh => hh.elim (fun e => bl_ne (lt z e1) e.symm) e2⟩
     ·rintro ((e | e) | ⟨e1, e2⟩)
      ·exact .inl e
      ·exact .inr (.inl e)
      ·exact .inr (.inr ⟨e1, fun hh => e2 (.inr hh)⟩)
  ·rw [if_neg h1]
   by_cases h2 : (Op.bytesLess (nm x) (nm y) || nm x == nm y) = false
   ·rw [if_pos h2]
    have hyx : Op.bytesLess (nm y) (nm x) = true := by rw [← bl_gt, h2]; rfl
    have lt : ∀ z, z ∈ x :: a → Op.bytesLess (nm y) (nm z) = true := fun z hz => by
     rcases List.mem_cons.1 hz with e | e
     ·rw [e]; exact hyx
     ·exact bl_trans hyx (hA.1 z e)
    have hy : nm y ∉ (x :: a).map nm := fun hh => by
     obtain ⟨z, hz, e⟩ := List.mem_map.1 hh
     exact bl_ne (lt z hz) e.symm
    obtain ⟨i1, i2⟩ := mrg_spec n (x :: a) b (by simp; omega) ha hB.2
    refine ⟨?_, fun r hr => ?_⟩
    ·rw [Option.map_eq_none_iff, i1]
     constructor
     ·rintro ⟨p, hp, q, hq, e⟩; exact ⟨p, hp, q, List.mem_cons_of_mem _ hq, e⟩
     ·rintro ⟨p, hp, q, hq, e1, e2⟩
      rcases List.mem_cons.1 hq with e | e
      ·subst e; exact absurd e1.symm (bl_ne (lt p hp))
      ·exact ⟨p, hp, q, e, e1, e2⟩
    ·rw [Option.map_eq_some_iff] at hr
     obtain ⟨r', hr', rfl⟩ := hr
     obtain ⟨j1, j2⟩ := i2 r' hr'
     refine ⟨List.pairwise_cons.2 ⟨fun z hz => ?_, j1⟩, fun z => ?_⟩
     ·rcases (j2 z).1 hz with e | e
      ·exact lt z e
      ·exact hB.1 z e.1
     ·rw [List.mem_cons, j2, List.mem_cons (a := z) (l := b)]
      constructor
      ·rintro (e | e | ⟨e1, e2⟩)
       ·subst e; exact .inr ⟨.inl rfl, hy⟩
       ·exact .inl e
       ·exact .inr ⟨.inr e1, e2⟩
      ·rintro (e | ⟨e1, e2⟩)
       ·exact .inr (.inl e)
       ·rcases e1 with e | e
        ·exact .inl e
        ·exact .inr (.inr ⟨e, e2⟩)
   ·rw [if_neg h2]
    have he : nm x = nm y := by
     have h3 : (Op.bytesLess (nm x) (nm y) || nm x == nm y) = true := by cases hq : (Op.bytesLess (nm x) (nm y) || nm x == nm y) with | false => exact absurd hq h2 | true => rfl
     rw [Bool.or_eq_true] at h3
     rcases h3 with e | e
     ·exact absurd e h1
     ·simpa using e
    by_cases hs : sm x y = true
    ·rw [if_pos hs]
     obtain ⟨i1, i2⟩ := mrg_spec n (x :: a) b (by simp; omega) ha hB.2
     refine ⟨i1.trans ?_, fun r hr => ?_⟩
     ·constructor
      ·rintro ⟨p, hp, q, hq, e⟩; exact ⟨p, hp, q, List.mem_cons_of_mem _ hq, e⟩
      ·rintro ⟨p, hp, q, hq, e1, e2⟩
       rcases List.mem_cons.1 hq with e | e
       ·subst e
        rcases List.mem_cons.1 hp with e' | e'
        ·subst e'; rw [hs] at e2; simp at e2
        ·exact absurd (he.trans e1.symm) (bl_ne (hA.1 p e'))
       ·exact ⟨p, hp, q, e, e1, e2⟩
     ·obtain ⟨j1, j2⟩ := i2 r hr
      refine ⟨j1, fun z => (j2 z).trans ?_⟩
      rw [List.mem_cons (a := z) (l := b)]
      constructor
      ·rintro (e | ⟨e1, e2⟩)
       ·exact .inl e
       ·exact .inr ⟨.inr e1, e2⟩
      ·rintro (e | ⟨e1, e2⟩)
       ·exact .inl e
       ·rcases e1 with e | e
        ·subst e
         exact absurd (List.mem_map.2 ⟨x, by simp, he⟩) e2
        ·exact .inr ⟨e, e2⟩
    ·rw [if_neg hs]
     have hs' : sm x y = false := by simpa using hs
     exact ⟨⟨fun _ => ⟨x, by simp, y, by simp, he, hs'⟩, fun _ => rfl⟩, fun r hr => by simp at hr⟩
end
theorem mrg_len {α : Type} {nm : α → Tx} {sm : α → α → Bool} : ∀ (n : Nat) (a b r : List α), a.length + b.length < n → mrg nm sm a b = some r → r.length ≤ a.length + b.length
 | 0, a, b, r, h, _ => by omega
 | n + 1, [], b, r, h, hr => by simp only [mrg, Option.some.injEq] at hr; subst hr; simp
 | n + 1, x :: a, [], r, h, hr => by simp only [mrg, Option.some.injEq] at hr; subst hr; simp
 | n + 1, x :: a, y :: b, r, h, hr => by
  simp only [List.length_cons] at h ⊢
  rw [mrg] at hr
  split at hr
  ·rw [Option.map_eq_some_iff] at hr
   obtain ⟨r', h', rfl⟩ := hr
   have := mrg_len n a (y :: b) r' (by simp; omega) h'
   simp only [List.length_cons] at this ⊢; omega
  ·split at hr
   ·rw [Option.map_eq_some_iff] at hr
    obtain ⟨r', h', rfl⟩ := hr
    have := mrg_len n (x :: a) b r' (by simp; omega) h'
    simp only [List.length_cons] at this ⊢; omega
   ·split at hr
    ·have := mrg_len n (x :: a) b r (by simp; omega) hr
     simp only [List.length_cons] at this; omega
    ·simp at hr
def mrgT (a b : List Tx) : List Tx := (mrg id (fun _ _ => true) a b).getD []
theorem mrgT_some (a b : List Tx) : mrg id (fun _ _ => true) a b = some (mrgT a b) := by
 obtain ⟨r, h⟩ := Option.isSome_iff_exists.1 (mrgX a b)
 unfold mrgT
 rw [h]; rfl
def mrgL : List TGraph → JS → Except Int JS
 | [], s => .ok s
 | g :: r, s => if chk true g ≠ 0 then .error (chk true g) else
  match mrg TIface.Name smI s.i g.Ifaces, mrg TType.Name smT s.t g.Types, mrg TFunc.Name smF s.f g.Funcs with
  | some a, some b, some c => mrgL r ⟨a, b, c, mrgT s.e g.Entries⟩
  | _, _, _ => .error 5
theorem M16_L1_eq (F : Nat) (hF : 1000000000000 < F) (k : (List TIface) → (List TType) → (List TFunc) → (List (List UInt8)) → Option (TGraph × Int)) : ∀ (l : List TGraph) (s : JS), (∀ g, g ∈ l → okTGraph g) → s.len + (l.map gLen).sum ≤ 1000000000000 →
  M16_L1 F k l s.i s.t s.f s.e = match mrgL l s with
   | .ok s' => k s'.i s'.t s'.f s'.e
   | .error e => some (zG, e)
 | [], s, _, _ => rfl
 | g :: r, s, hg, hb => by
  rw [List.map_cons, List.sum_cons] at hb
  have hb' : s.i.length + s.t.length + s.f.length + s.e.length + (g.Ifaces.length + g.Types.length + g.Funcs.length + g.Entries.length) + (r.map gLen).sum ≤ 1000000000000 := by
   have q : gLen g = g.Ifaces.length + g.Types.length + g.Funcs.length + g.Entries.length := rfl
   unfold JS.len at hb; omega
  rw [M16_L1, M72_eq, Option.bind_some, M73_eq F g true (hg g (by simp)), Option.bind_some, mrgL]
  by_cases hc : chk true g = 0
  ·rw [if_neg (by simp [hc]), if_neg (by simp [hc]), M74_eq s.i g.Ifaces (by omega) (by omega), M75_eq s.t g.Types (by omega) (by omega), M76_eq s.f g.Funcs (by omega) (by omega), M77_eq s.e g.Entries (by omega) (by omega), mrgT_some]
   cases j1 : mrg TIface.Name smI s.i g.Ifaces with
   | none => cases mrg TType.Name smT s.t g.Types <;> cases mrg TFunc.Name smF s.f g.Funcs <;> simp [zG]
   | some a =>
    cases j2 : mrg TType.Name smT s.t g.Types with
    | none => cases mrg TFunc.Name smF s.f g.Funcs <;> simp [zG]
    | some b =>
     cases j3 : mrg TFunc.Name smF s.f g.Funcs with
     | none => simp [zG]
     | some c =>
      have l1 := mrg_len _ _ _ _ (Nat.lt_succ_self _) j1
      have l2 := mrg_len _ _ _ _ (Nat.lt_succ_self _) j2
      have l3 := mrg_len _ _ _ _ (Nat.lt_succ_self _) j3
      have l4 := mrg_len _ _ _ _ (Nat.lt_succ_self _) (mrgT_some s.e g.Entries)
      simp only [Option.bind_some, Bool.not_true, Bool.false_eq_true, if_false]
      exact M16_L1_eq F hF k r ⟨a, b, c, mrgT s.e g.Entries⟩ (fun x hx => hg x (List.mem_cons_of_mem _ hx)) (by unfold JS.len; simp; omega)
  ·rw [if_pos (by simpa using hc), if_pos hc]; rfl
theorem tyE_srt {fs : Tx → Bool} {lo : Bool} : ∀ {l : List TType} {p : Option Tx}, tyE fs lo p l = 0 → (∀ b, p = some b → ∀ x, x ∈ l → Op.bytesLess b x.Name = true) ∧ SN TType.Name l
 | [], p, _ => ⟨by simp, List.Pairwise.nil⟩
 | s :: l, p, h => by
  rw [tyE] at h
  split at h
  ·rename_i hc; exact absurd h hc
  ·rename_i hc
   obtain ⟨h1, h2⟩ := nme_zero (s := s.Name) (p := p) (by simpa using hc)
   split at h
   ·simp at h
   ·split at h
    ·rename_i h5; exact absurd h h5
    ·obtain ⟨i1, i2⟩ := tyE_srt h
     refine ⟨fun b hb x hx => ?_, List.pairwise_cons.2 ⟨i1 s.Name rfl, i2⟩⟩
     rcases List.mem_cons.1 hx with rfl | hx
     ·exact h2 b hb
     ·exact bl_trans (h2 b hb) (i1 s.Name rfl x hx)
theorem fnE_srt {fs ts : Tx → Bool} {is : Tx → Option (List Tx)} {lo : Bool} : ∀ {l : List TFunc} {p : Option Tx}, fnE fs ts is lo p l = 0 → (∀ b, p = some b → ∀ x, x ∈ l → Op.bytesLess b x.Name = true) ∧ SN TFunc.Name l
 | [], p, _ => ⟨by simp, List.Pairwise.nil⟩
 | s :: l, p, h => by
  rw [fnE] at h
  split at h
  ·rename_i hc; exact absurd h hc
  ·rename_i hc
   obtain ⟨h1, h2⟩ := nme_zero (s := s.Name) (p := p) (by simpa using hc)
   split at h
   ·simp at h
   ·split at h
    ·simp at h
    ·split at h
     ·rename_i h5; exact absurd h h5
     ·split at h
      ·rename_i h6; exact absurd h h6
      ·obtain ⟨i1, i2⟩ := fnE_srt h
       refine ⟨fun b hb x hx => ?_, List.pairwise_cons.2 ⟨i1 s.Name rfl, i2⟩⟩
       rcases List.mem_cons.1 hx with rfl | hx
       ·exact h2 b hb
       ·exact bl_trans (h2 b hb) (i1 s.Name rfl x hx)
theorem lsE_srt {there : Tx → Bool} {lo : Bool} : ∀ {l : List Tx} {p : Option Tx}, lsE there lo p l = 0 → (∀ b, p = some b → ∀ x, x ∈ l → Op.bytesLess b x = true) ∧ SN id l
 | [], p, _ => ⟨by simp, List.Pairwise.nil⟩
 | s :: l, p, h => by
  rw [lsE] at h
  split at h
  ·simp at h
  ·split at h
   ·simp at h
   ·rename_i h2
    obtain ⟨i1, i2⟩ := lsE_srt h
    have hb0 : ∀ b, p = some b → Op.bytesLess b s = true := fun b hb => by
     subst hb
     simp only [Option.elim_some] at h2
     exact le_iff.1 (by simpa using h2)
    refine ⟨fun b hb x hx => ?_, List.pairwise_cons.2 ⟨fun x hx => i1 s rfl x hx, i2⟩⟩
    rcases List.mem_cons.1 hx with rfl | hx
    ·exact hb0 b hb
    ·exact bl_trans (hb0 b hb) (i1 s rfl x hx)
theorem sorted_of {lo : Bool} {g : TGraph} (h : chk lo g = 0) : SN TIface.Name g.Ifaces ∧ SN TType.Name g.Types ∧ SN TFunc.Name g.Funcs ∧ SN id g.Entries := by
 unfold chk at h
 split at h
 ·simp at h
 ·split at h
  ·simp at h
  ·split at h
   ·simp at h
   ·split at h
    ·rename_i h1; exact absurd h h1
    ·rename_i h1
     split at h
     ·rename_i h2; exact absurd h h2
     ·rename_i h2
      split at h
      ·rename_i h3; exact absurd h h3
      ·rename_i h3
       exact ⟨(ifE_zero (show ifE none g.Ifaces = 0 by simpa using h1)).2.1, (tyE_srt (lo := lo) (fs := fsOf g) (p := none) (by simpa using h2)).2, (fnE_srt (lo := lo) (fs := fsOf g) (ts := tsOf g) (is := isOf g) (p := none) (by simpa using h3)).2, (lsE_srt h).2⟩
section
variable {α : Type} {nm : α → Tx} {same sm : α → α → Bool}
theorem SN.dn {l : List α} (h : SN nm l) : DN nm l := by
 unfold DN
 rw [List.nodup_iff_pairwise_ne, List.pairwise_map]
 exact h.imp fun h => bl_ne h
def LRel (nm : α → Tx) (l s : List α) : Prop := DN nm l ∧ SN nm s ∧ ∀ z, z ∈ l ↔ z ∈ s
theorem two_rel (hs : ∀ y x, nm y = nm x → same y x = sm y x) {l s more : List α} (h : LRel nm l s) (hm : SN nm more) :
  (jnd nm same more l = none ∧ mrg nm sm s more = none) ∨ ∃ l' s', jnd nm same more l = some l' ∧ mrg nm sm s more = some s' ∧ LRel nm l' s' := by
 obtain ⟨h1, h2, h3⟩ := h
 obtain ⟨j1, j2⟩ := jnd_spec (same := same) more l h1 hm.dn
 obtain ⟨m1, m2⟩ := mrg_spec (sm := sm) _ s more (Nat.lt_succ_self _) h2 hm
 have hc : Clash nm same l more ↔ Clash nm sm s more := by
  constructor
  ·rintro ⟨y, hy, x, hx, e1, e2⟩; exact ⟨y, (h3 y).1 hy, x, hx, e1, by rw [← hs y x e1]; exact e2⟩
  ·rintro ⟨y, hy, x, hx, e1, e2⟩; exact ⟨y, (h3 y).2 hy, x, hx, e1, by rw [hs y x e1]; exact e2⟩
 cases hj : jnd nm same more l with
 | none => exact .inl ⟨rfl, m1.2 (hc.1 (j1.1 hj))⟩
 | some l' =>
  cases hq : mrg nm sm s more with
  | none => rw [j1.2 (hc.2 (m1.1 hq))] at hj; simp at hj
  | some s' =>
   obtain ⟨a1, a2⟩ := j2 l' hj
   obtain ⟨b1, b2⟩ := m2 s' hq
   refine .inr ⟨l', s', rfl, rfl, a1, b1, fun z => ?_⟩
   have hn : nm z ∉ l.map nm ↔ nm z ∉ s.map nm := by
    simp only [List.mem_map]
    exact ⟨fun q ⟨y, hy, e⟩ => q ⟨y, (h3 y).2 hy, e⟩, fun q ⟨y, hy, e⟩ => q ⟨y, (h3 y).1 hy, e⟩⟩
   rw [a2, b2, h3, hn]
end
structure JRel (p q : JS) : Prop where
 i : LRel TIface.Name p.i q.i
 t : LRel TType.Name p.t q.t
 f : LRel TFunc.Name p.f q.f
 e : SN id q.e ∧ ∀ z, z ∈ p.e ↔ z ∈ q.e
theorem mrgT_rel {a b : List Tx} (ha : SN id a) (hb : SN id b) : SN id (mrgT a b) ∧ ∀ z, z ∈ mrgT a b ↔ z ∈ a ∨ z ∈ b := by
 obtain ⟨_, m2⟩ := mrg_spec (sm := fun _ _ => true) _ a b (Nat.lt_succ_self _) ha hb
 obtain ⟨b1, b2⟩ := m2 _ (mrgT_some a b)
 refine ⟨b1, fun z => (b2 z).trans ?_⟩
 simp only [List.map_id, id]
 exact ⟨fun h => h.elim .inl fun h => .inr h.1, fun h => h.elim .inl fun h => (Classical.em (z ∈ a)).elim .inl fun hn => .inr ⟨h, hn⟩⟩
theorem join_rel : ∀ (l : List TGraph) (p q : JS), JRel p q → (∃ e, joinL l p = .error e ∧ mrgL l q = .error e) ∨ ∃ p' q', joinL l p = .ok p' ∧ mrgL l q = .ok q' ∧ JRel p' q'
 | [], p, q, h => .inr ⟨p, q, rfl, rfl, h⟩
 | g :: r, p, q, h => by
  rw [joinL, mrgL]
  by_cases hc : chk true g = 0
  ·rw [if_neg (by simp [hc]), if_neg (by simp [hc])]
   obtain ⟨s1, s2, s3, s4⟩ := sorted_of hc
   have a := two_rel (same := sameI) (sm := smI) (fun y x e => by unfold sameI smI; rw [e]; simp) h.i s1
   have b := two_rel (same := sameT) (sm := smT) (fun y x e => by unfold sameT smT; rw [e]; simp) h.t s2
   have c := two_rel (same := sameF) (sm := smF) (fun y x e => by unfold sameF smF; rw [e]; simp) h.f s3
   rcases a with ⟨a1, a2⟩ | ⟨a, a', a1, a2, a3⟩
   ·exact .inl ⟨5, by rw [a1], by rw [a2]⟩
   ·rw [a1, a2]
    rcases b with ⟨b1, b2⟩ | ⟨b, b', b1, b2, b3⟩
    ·exact .inl ⟨5, by rw [b1], by rw [b2]⟩
    ·rw [b1, b2]
     rcases c with ⟨c1, c2⟩ | ⟨c, c', c1, c2, c3⟩
     ·exact .inl ⟨5, by rw [c1], by rw [c2]⟩
     ·rw [c1, c2]
      obtain ⟨t1, t2⟩ := mrgT_rel h.e.1 s4
      exact join_rel r ⟨a, b, c, p.e ++ g.Entries⟩ ⟨a', b', c', mrgT q.e g.Entries⟩ ⟨a3, b3, c3, t1, fun z => by rw [List.mem_append, t2, h.e.2]⟩
  ·exact .inl ⟨chk true g, by rw [if_pos hc], by rw [if_pos hc]⟩
end Go.Proofs.YtpbkggamiipdmaaGreat
namespace Go.Pv
open Go
set_option linter.unusedVariables false
set_option linter.unusedSimpArgs false
theorem leT_refl (a : List UInt8) : leT a a = true := by simp [leT, bl_irrefl]
theorem leT_total (a b : List UInt8) : (leT a b || leT b a) = true := by
 unfold leT
 rcases bl_tri a b with h | h | h
 ·simp [bl_asymm h]
 ·subst h; simp [bl_irrefl]
 ·simp [bl_asymm h]
theorem leT_anti {a b : List UInt8} (h : leT a b = true) (h' : leT b a = true) : a = b := by
 unfold leT at h h'
 rcases bl_tri a b with g | g | g
 ·simp [g] at h'
 ·exact g
 ·simp [g] at h
theorem leT_trans (a b c : List UInt8) (h : leT a b = true) (h' : leT b c = true) : leT a c = true := by
 unfold leT at *
 rcases bl_tri a b with g | g | g
 ·rcases bl_tri b c with k | k | k
  ·simp [bl_asymm (bl_trans g k)]
  ·subst k; simp [bl_asymm g]
  ·simp [k] at h'
 ·subst g; exact h'
 ·simp [g] at h
theorem leT_of_lt {a b : List UInt8} (h : Op.bytesLess a b = true) : leT a b = true := by simp [leT, bl_asymm h]
theorem lt_of_leT {a b : List UInt8} (h : leT a b = true) (hne : a ≠ b) : Op.bytesLess a b = true := by
 rcases bl_tri a b with g | g | g
 ·exact g
 ·exact absurd g hne
 ·simp [leT, g] at h
theorem nodup_lt {l : List (List UInt8)} (h : l.Pairwise (fun a b => Op.bytesLess a b = true)) : l.Nodup := h.imp bl_ne
theorem rise_ext {l l' : List (List UInt8)} (h : l.Pairwise (fun a b => Op.bytesLess a b = true)) (h' : l'.Pairwise (fun a b => Op.bytesLess a b = true)) (hm : ∀ x, x ∈ l ↔ x ∈ l') : l = l' :=
 List.Perm.eq_of_pairwise (le := fun a b => Op.bytesLess a b = true) (fun _ _ _ _ g g' => by rw [bl_asymm g] at g'; simp at g') h h' ((List.perm_ext_iff_of_nodup (nodup_lt h) (nodup_lt h')).2 hm)
def srtT (l : List (List UInt8)) : List (List UInt8) := l.mergeSort leT
theorem srtT_perm (l : List (List UInt8)) : (srtT l).Perm l := List.mergeSort_perm _ _
theorem srtT_srt (l : List (List UInt8)) : (srtT l).Pairwise (fun a b => leT a b = true) := List.pairwise_mergeSort leT_trans leT_total l
theorem bl_lt (a b : List UInt8) : (a < b) ↔ Op.bytesLess a b = true := by
 induction a generalizing b with
 | nil => cases b <;> simp [Op.bytesLess]
 | cons x a ih =>
  cases b with
  | nil => simp [Op.bytesLess]
  | cons y b => rw [bl_cons, List.cons_lt_cons_iff, ih]; simp
theorem le_leT (a b : List UInt8) : decide (a ≤ b) = leT a b := by
 unfold leT
 rw [← Bool.not_inj_iff, Bool.not_not]
 cases h : Op.bytesLess b a
 ·simp only [Bool.not_eq_eq_eq_not, Bool.not_false, decide_eq_true_eq]
  exact fun hh => by rw [(bl_lt b a).1 hh] at h; simp at h
 ·simp only [Bool.not_eq_eq_eq_not, Bool.not_true, decide_eq_false_iff_not]
  exact fun hh => hh ((bl_lt b a).2 h)
theorem tsort_eq (l : List (List UInt8)) : tsort l = srtT l := by
 unfold tsort srtT
 congr 1
 funext a b
 exact le_leT a b
theorem cpt_mem (l : List (List UInt8)) (x : List UInt8) : x ∈ cpt l ↔ x ∈ l := by
 unfold cpt Lib.compact Lib.compactUpTo
 rw [List.mem_map]
 constructor
 ·rintro ⟨j, hj, rfl⟩
  have hlt := List.mem_range.1 (List.mem_filter.1 hj).1
  rw [getElem!_pos l.toArray j (by simpa using hlt)]
  simp
 ·intro hx
  have key : ∀ j, j < l.length → ∃ i, i ≤ j ∧ Lib.keeps l.toArray i = true ∧ l.toArray[i]! = l.toArray[j]! := by
   intro j
   induction j with
   | zero => exact fun _ => ⟨0, Nat.le_refl _, by simp [Lib.keeps], rfl⟩
   | succ j ih =>
    intro hj
    by_cases he : l.toArray[j + 1]! = l.toArray[j]!
    ·obtain ⟨i, h1, h2, h3⟩ := ih (by omega)
     exact ⟨i, by omega, h2, h3.trans he.symm⟩
    ·exact ⟨j + 1, Nat.le_refl _, by simp only [Lib.keeps, Nat.add_sub_cancel]; exact decide_eq_true (.inr he), rfl⟩
  obtain ⟨j, hj, rfl⟩ := List.getElem_of_mem hx
  obtain ⟨i, h1, h2, h3⟩ := key j hj
  refine ⟨i, List.mem_filter.2 ⟨List.mem_range.2 (by omega), h2⟩, ?_⟩
  rw [h3, getElem!_pos l.toArray j (by simpa using hj)]
  simp
theorem cpt_srt {l : List (List UInt8)} (h : l.Pairwise (fun a b => leT a b = true)) : (cpt l).Pairwise (fun a b => Op.bytesLess a b = true) := by
 unfold cpt Lib.compact Lib.compactUpTo
 rw [List.pairwise_map]
 have hr : ((List.range l.length).filter (Lib.keeps l.toArray)).Pairwise (· < ·) := List.pairwise_lt_range.filter _
 refine List.Pairwise.imp_of_mem ?_ hr
 intro i j hi hj hlt
 have hj1 := List.mem_range.1 (List.mem_filter.1 hj).1
 have hj2 := (List.mem_filter.1 hj).2
 simp only [Lib.keeps, decide_eq_true_eq] at hj2
 have hne : l.toArray[j]! ≠ l.toArray[j - 1]! := hj2.resolve_left (by omega)
 rw [getElem!_pos l.toArray j (by simpa using hj1), getElem!_pos l.toArray (j - 1) (by simp; omega)] at hne
 rw [getElem!_pos l.toArray i (by simp; omega), getElem!_pos l.toArray j (by simpa using hj1)]
 simp only [List.getElem_toArray] at hne ⊢
 rw [List.pairwise_iff_getElem] at h
 have a1 : leT l[j - 1] l[j] = true := h (j - 1) j (by omega) hj1 (by omega)
 have a2 : leT l[i] l[j - 1] = true := by
  by_cases e : i = j - 1
  ·subst e; exact leT_refl _
  ·exact h i (j - 1) (by omega) (by omega) (by omega)
 have a3 := lt_of_leT a1 (fun e => hne e.symm)
 rcases bl_tri l[i] l[j] with g | g | g
 ·exact g
 ·rw [g] at a2; exact absurd (leT_anti a1 a2) (fun e => hne e.symm)
 ·have := leT_trans _ _ _ a2 a1
  simp [leT, g] at this
end Go.Pv
namespace Go.Proofs.YtpbkggamiipdmaaGreat
open Go Go.Pv
set_option linter.unusedVariables false
set_option linter.unusedSimpArgs false
set_option maxRecDepth 100000
theorem leT_ntrans {a b c : Tx} (h : Op.bytesLess a b = false) (h' : Op.bytesLess b c = false) : Op.bytesLess a c = false := by
 have := leT_trans c b a (by simp [leT, h']) (by simp [leT, h])
 simpa [leT] using this
section
variable {α : Type} {nm : α → Tx}
theorem DN.inj {l : List α} (h : DN nm l) {x y : α} (hx : x ∈ l) (hy : y ∈ l) (e : nm x = nm y) : x = y := by
 have a := h.find hx
 have b := h.find hy
 rw [e, b] at a
 exact (Option.some.inj a).symm
theorem DN.nd {l : List α} (h : DN nm l) : l.Nodup := by
 unfold DN at h
 rw [List.nodup_iff_pairwise_ne, List.pairwise_map] at h
 rw [List.nodup_iff_pairwise_ne]
 exact h.imp fun g e => g (congrArg nm e)
theorem srtM_eq {cmp : α → α → Option Int} (hc : ∀ x y, (cmp x y).isSome = true ∧ cltM cmp x y = Op.bytesLess (nm x) (nm y)) {l s : List α} (h : LRel nm l s) (hl : l.length < 4611686018427387904) : srtM cmp l = some s := by
 have hlt : ∀ x y, cltM cmp x y = Op.bytesLess (nm x) (nm y) := fun x y => (hc x y).2
 obtain ⟨d1, d2, d3⟩ := h
 have h1 : swoM cmp l = true := by
  unfold swoM
  refine List.all_eq_true.2 fun x _ => ?_
  rw [Bool.and_eq_true]
  refine ⟨by rw [hlt, bl_irrefl]; rfl, List.all_eq_true.2 fun y _ => ?_⟩
  rw [Bool.and_eq_true]
  refine ⟨(hc x y).1, List.all_eq_true.2 fun z _ => ?_⟩
  rw [hlt, hlt, hlt]
  cases e1 : Op.bytesLess (nm x) (nm y) <;> cases e2 : Op.bytesLess (nm y) (nm z)
  ·rw [leT_ntrans e1 e2]; rfl
  ·simp
  ·simp
  ·rw [bl_trans e1 e2]; rfl
 have h2 : dstM cmp l = true := by
  clear h1 d3
  induction l with
  | nil => rfl
  | cons x l ih =>
   have hx : nm x ∉ l.map nm ∧ (l.map nm).Nodup := by unfold DN at d1; rw [List.map_cons, List.nodup_cons] at d1; exact d1
   rw [dstM, Bool.and_eq_true]
   refine ⟨List.all_eq_true.2 fun y hy => ?_, ih (by simp at hl; omega) hx.2⟩
   rw [hlt, hlt]
   rcases bl_tri (nm x) (nm y) with g | g | g
   ·rw [g]; rfl
   ·exact absurd (List.mem_map.2 ⟨y, hy, g.symm⟩) hx.1
   ·rw [g]; simp
 have hms : (l.mergeSort fun x y => !cltM cmp y x) = s := by
  have hp : l.Perm s := (List.perm_ext_iff_of_nodup d1.nd d2.dn.nd).2 d3
  refine List.Perm.eq_of_pairwise (le := fun x y => leT (nm x) (nm y) = true) (fun x y hx hy g g' => ?_) ?_ (d2.imp fun g => leT_of_lt g) ((List.mergeSort_perm _ _).trans hp)
  ·exact d1.inj ((List.mergeSort_perm _ _).mem_iff.1 hx) ((d3 y).2 hy) (leT_anti g g')
  ·refine (List.pairwise_mergeSort (le := fun x y => !cltM cmp y x) (fun a b c g g' => ?_) (fun a b => ?_) l).imp (fun {x y} g => ?_)
   ·rw [hlt] at *; exact leT_trans (nm a) (nm b) (nm c) g g'
   ·rw [hlt, hlt]; exact leT_total (nm a) (nm b)
   ·rw [hlt] at g; exact g
 have h3 : ascM cmp s = true := by
  clear hms d3
  induction s with
  | nil => rfl
  | cons x s ih =>
   rw [ascM, Bool.and_eq_true]
   refine ⟨List.all_eq_true.2 fun y hy => ?_, ih (List.pairwise_cons.1 d2).2⟩
   rw [hlt, bl_asymm ((List.pairwise_cons.1 d2).1 y hy)]; rfl
 unfold srtM
 rw [hms, h1, h2, h3, show Nat.blt l.length 4611686018427387904 = true from by rw [Nat.blt_eq]; exact hl]
 rfl
theorem SN.ext {l s : List α} (h : SN nm l) (h' : SN nm s) (hm : ∀ z, z ∈ l ↔ z ∈ s) : l = s :=
 List.Perm.eq_of_pairwise (le := fun x y => Op.bytesLess (nm x) (nm y) = true) (fun _ _ _ _ g g' => by rw [bl_asymm g] at g'; simp at g') h h' ((List.perm_ext_iff_of_nodup h.dn.nd h'.dn.nd).2 hm)
end
theorem ent_eq {l s : List Tx} (h : SN id s) (hm : ∀ z, z ∈ l ↔ z ∈ s) : cpt (tsort l) = s := by
 refine rise_ext (cpt_srt (by rw [tsort_eq]; exact srtT_srt l)) h fun x => ?_
 rw [cpt_mem, tsort_eq, (srtT_perm l).mem_iff, hm]
theorem dropI {α : Type} {a : List α} {n : Nat} {x : α} {l : List α} (h : a.drop n = x :: l) : idx a (n : Int) = some x ∧ a.drop (n + 1) = l := by
 have hn : n < a.length := by
  apply Classical.byContradiction
  intro hc
  rw [List.drop_eq_nil_of_le (by omega)] at h
  simp at h
 rw [List.drop_eq_getElem_cons hn] at h
 injection h with h1 h2
 exact ⟨by rw [idx_nat hn, h1], h2⟩
theorem M26_L1_s (F : Nat) (a : List Tx) (k : Option Bool) : ∀ (l : List Tx) (n : Nat), a.drop n = l → M26_L1 F a k l n = k
 | [], n, _ => by rw [M26_L1]
 | x :: l, n, h => by
  obtain ⟨h1, h2⟩ := dropI h
  rw [M26_L1, h1, Option.bind_some, if_neg (by simp)]
  exact M26_L1_s F a k l (n + 1) h2
theorem M26_s (F : Nat) (a : List Tx) : M26 F a a = some true := by
 unfold M26
 rw [if_neg (by simp), jn_def]
 exact M26_L1_s F a _ a 0 rfl
theorem M52_s (F : Nat) (x : TIface) : M52 F x x = some true := by
 unfold M52
 rw [if_pos (by simp), M26_s]; rfl
theorem M55_L1_s (F : Nat) (a : List TIface) (k : Option Bool) : ∀ (l : List TIface) (n : Nat), a.drop n = l → M55_L1 F a k l n = k
 | [], n, _ => by rw [M55_L1]
 | x :: l, n, h => by
  obtain ⟨h1, h2⟩ := dropI h
  rw [M55_L1, h1, Option.bind_some, M52_s, Option.bind_some, if_neg (by simp)]
  exact M55_L1_s F a k l (n + 1) h2
theorem M55_s (F : Nat) (a : List TIface) : M55 F a a = some true := by
 unfold M55
 rw [if_neg (by simp), jn_def]
 exact M55_L1_s F a _ a 0 rfl
theorem M54_L1_s (F : Nat) (a : List TMethod) (k : Option Bool) : ∀ (l : List TMethod) (n : Nat), a.drop n = l → M54_L1 F a k l n = k
 | [], n, _ => by rw [M54_L1]
 | x :: l, n, h => by
  obtain ⟨h1, h2⟩ := dropI h
  rw [M54_L1, h1, Option.bind_some, if_neg (by simp)]
  exact M54_L1_s F a k l (n + 1) h2
theorem M54_s (F : Nat) (a : List TMethod) : M54 F a a = some true := by
 unfold M54
 rw [if_neg (by simp), jn_def]
 exact M54_L1_s F a _ a 0 rfl
theorem M53_s (F : Nat) (x : TType) : M53 F x x = some true := by
 unfold M53
 rw [if_pos (by simp), M54_s]; rfl
theorem M56_L1_s (F : Nat) (a : List TType) (k : Option Bool) : ∀ (l : List TType) (n : Nat), a.drop n = l → M56_L1 F a k l n = k
 | [], n, _ => by rw [M56_L1]
 | x :: l, n, h => by
  obtain ⟨h1, h2⟩ := dropI h
  rw [M56_L1, h1, Option.bind_some, M53_s, Option.bind_some, if_neg (by simp)]
  exact M56_L1_s F a k l (n + 1) h2
theorem M56_s (F : Nat) (a : List TType) : M56 F a a = some true := by
 unfold M56
 rw [if_neg (by simp), jn_def]
 exact M56_L1_s F a _ a 0 rfl
theorem M126_L1_s (F : Nat) (a : List TCall) (k : Option Bool) : ∀ (l : List TCall) (n : Nat), a.drop n = l → M126_L1 F a k l n = k
 | [], n, _ => by rw [M126_L1]
 | x :: l, n, h => by
  obtain ⟨h1, h2⟩ := dropI h
  rw [M126_L1, h1, Option.bind_some, if_neg (by simp)]
  exact M126_L1_s F a k l (n + 1) h2
theorem M126_s (F : Nat) (a : List TCall) : M126 F a a = some true := by
 unfold M126
 rw [if_neg (by simp), jn_def]
 exact M126_L1_s F a _ a 0 rfl
theorem M58_s (F : Nat) (x : TFunc) : M58 F x x = some true := by
 unfold M58
 rw [if_pos (by simp), if_pos (by simp), M126_s, Option.bind_some, if_pos rfl, M26_s]; rfl
theorem M57_L1_s (F : Nat) (a : List TFunc) (k : Option Bool) : ∀ (l : List TFunc) (n : Nat), a.drop n = l → M57_L1 F a k l n = k
 | [], n, _ => by rw [M57_L1]
 | x :: l, n, h => by
  obtain ⟨h1, h2⟩ := dropI h
  rw [M57_L1, h1, Option.bind_some, M58_s, Option.bind_some, if_neg (by simp)]
  exact M57_L1_s F a k l (n + 1) h2
theorem M57_s (F : Nat) (a : List TFunc) : M57 F a a = some true := by
 unfold M57
 rw [if_neg (by simp), jn_def]
 exact M57_L1_s F a _ a 0 rfl
theorem M13_s (F : Nat) (g : TGraph) : M13 F g g = some true := by
 unfold M13
 rw [M55_s, Option.bind_some, if_pos rfl, M56_s, Option.bind_some, if_pos rfl, M57_s, Option.bind_some, if_pos rfl, M26_s]; rfl
end Go.Proofs.YtpbkggamiipdmaaGreat
