/- The framework of walks over abstract values (own text), part S. -/
import Derived.Test.YtiphmdpaajjdeaaGreatDoorGPvR
namespace Go.Pv
open Go
section
variable {K : Ctx} {Q : Post} {S S' : St} {ops : Array Oper} {rest : List Oper} {op : Op} {ty : TypeId} {pos : String} {after : Array Edge} {g : Option (Nat × Bool)}
variable {m : Mem} {β : Locs} {w : World} {a : Act}
theorem evm_nil : ([] : List Operand).map (evl K S) = [] := rfl
theorem evm_cons {x : Operand} {v : V} {xs : List Operand} {vs : List V} (h : evl K S x = v) (t : xs.map (evl K S) = vs) : (x :: xs).map (evl K S) = v :: vs := by rw [List.map_cons, h, t]
theorem evp_nil : ([] : List (Nat × Operand)).map (fun p => (p.1, evl K S p.2)) = [] := rfl
theorem evp_cons {i : Nat} {x : Operand} {v : V} {xs : List (Nat × Operand)} {vs : List (Nat × V)} (h : evl K S x = v) (t : xs.map (fun p => (p.1, evl K S p.2)) = vs) :
    ((i, x) :: xs).map (fun p => (p.1, evl K S p.2)) = (i, v) :: vs := by rw [List.map_cons, h, t]
/-- A list of rows, one by one. -/
inductive ImmRows : List (List V) → Prop
  | nil : ImmRows []
  | cons {r : List V} {rs : List (List V)} (h : Imms r) (t : ImmRows rs) : ImmRows (r :: rs)
theorem imms_rows {rows : List (List V)} (h : ImmRows rows) : ∀ row, row ∈ rows → Imms row := by
  induction h with
  | nil => intro row h; simp at h
  | cons h _ ih =>
    intro row hr
    rcases List.mem_cons.1 hr with rfl | hr
    · exact h
    · exact ih row hr
def upd {α : Type} (f : Nat → α) (j : Nat) (x : α) : Nat → α := fun i => if i = j then x else f i
def arrOf {α : Type} (d : α) (l : List α) : Nat → α := fun i => l.getD i d
theorem range_split {n j : Nat} (g : Nat → V) (h : j < n) : (List.range n).map g = (List.range j).map g ++ [g j] ++ (List.range (n - (j + 1))).map (fun i => g (j + 1 + i)) := by
  apply List.ext_getElem?
  intro i
  simp only [List.append_assoc, List.getElem?_append, List.length_map, List.length_range, List.getElem?_map, List.length_cons, List.length_nil]
  by_cases h1 : i < j
  · rw [if_pos h1, List.getElem?_range (by omega), List.getElem?_range h1]
  · rw [if_neg h1]
    by_cases h2 : i = j
    · subst h2; simp [List.getElem?_range h]
    · rw [if_neg (by omega)]
      by_cases h3 : i < n
      · rw [List.getElem?_range h3, List.getElem?_range (by omega)]
        simp only [Option.map_some, Option.some.injEq]; congr 1; omega
      · rw [List.getElem?_eq_none (by simp; omega), List.getElem?_eq_none (by simp; omega)]; rfl
theorem arr_get {n j o : Nat} (pre post : List V) (g : Nat → V) (h : j < n) {row : List V} (hrow : row = pre ++ (List.range n).map g ++ post) (ho : o = pre.length + j * 1) : row[o]? = some (g j) := by
  subst hrow; subst ho
  rw [List.append_assoc, List.getElem?_append_right (by omega), List.getElem?_append_left (by simp; omega)]
  simp [List.getElem?_range h]
theorem arr_set {α : Type} {n j o : Nat} (pre post : List V) (g : α → V) (f : Nat → α) (x : α) (h : j < n) {row : List V} (hrow : row = pre ++ (List.range n).map (fun i => g (f i)) ++ post) (ho : o = pre.length + j * 1) :
    row.take o ++ [g x] ++ row.drop (o + 1) = pre ++ (List.range n).map (fun i => g (upd f j x i)) ++ post := by
  subst hrow; subst ho
  rw [range_split (fun i => g (f i)) h, range_split (fun i => g (upd f j x i)) h]
  have e1 : (List.range j).map (fun i => g (upd f j x i)) = (List.range j).map (fun i => g (f i)) := by
    apply List.map_congr_left
    intro i hi
    have : i < j := List.mem_range.1 hi
    simp only [upd]; rw [if_neg (by omega)]
  have e2 : (List.range (n - (j + 1))).map (fun i => g (upd f j x (j + 1 + i))) = (List.range (n - (j + 1))).map (fun i => g (f (j + 1 + i))) := by
    apply List.map_congr_left
    intro i _
    simp only [upd]; rw [if_neg (by omega)]
  have e3 : g (upd f j x j) = g x := by simp [upd]
  simp only [e1, e2, e3]
  have l1 : (pre ++ (List.range j).map (fun i => g (f i))).length = pre.length + j * 1 := by simp
  have : pre ++ ((List.range j).map (fun i => g (f i)) ++ [g (f j)] ++ (List.range (n - (j + 1))).map (fun i => g (f (j + 1 + i)))) ++ post =
      (pre ++ (List.range j).map (fun i => g (f i))) ++ (g (f j) :: ((List.range (n - (j + 1))).map (fun i => g (f (j + 1 + i))) ++ post)) := by simp
  rw [this, List.take_left' l1, ← l1, List.drop_append]
  simp
theorem arr_ble {base j n len : Nat} (h : j < n) (hl : base + n ≤ len) : Nat.ble (base + j * 1 + 1) len = true := Nat.ble_eq_true_of_le (by omega)
theorem aops_nilCheck_ptr {d id k i o : Nat} {x : Operand} (hw : Wants ops S ⟨some d, .nilCheck x, ty, pos, after, g⟩ true) (hx : evl K S x = .ptr id k i o) (hN : Nat.blt d K.N = true)
    (kk : AOps K ops rest Q (S.put d (.ptr id k i o))) : AOps K ops (⟨some d, .nilCheck x, ty, pos, after, g⟩ :: rest) Q S :=
  aops_val _ hw hN (fun m β w a r => by
    have h := r.reads x
    rw [hx] at h
    obtain ⟨b, cap, hb, hv⟩ := h.ptr_inv
    exact ⟨a.eval x, by simp only [execOp, hv]; rfl, h⟩) kk
theorem aops_nilCheck_iptr {d o : Nat} {row : List V} {x : Operand} (hw : Wants ops S ⟨some d, .nilCheck x, ty, pos, after, g⟩ true) (hx : evl K S x = .iptr row o) (hN : Nat.blt d K.N = true)
    (kk : AOps K ops rest Q (S.put d (.iptr row o))) : AOps K ops (⟨some d, .nilCheck x, ty, pos, after, g⟩ :: rest) Q S :=
  aops_val _ hw hN (fun m β w a r => by
    have h := r.reads x
    rw [hx] at h
    obtain ⟨ad, arr, T', fr, f, base, hv, _⟩ := h.iptr_inv
    exact ⟨a.eval x, by simp only [execOp, hv]; rfl, h⟩) kk
theorem binS_quo {k : IntKind} {a b : Int} (h : b ≠ 0) : binS .quo (.int k a) (.int k b) = some (.int k (k.wrap (a.tdiv b))) := by simp [binS, h]
end
end Go.Pv
