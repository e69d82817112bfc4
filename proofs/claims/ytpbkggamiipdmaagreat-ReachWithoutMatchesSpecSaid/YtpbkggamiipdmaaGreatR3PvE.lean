/- The framework of walks over abstract values (own text), part E. -/
import Derived.Test.YtpbkggamiipdmaaGreatR3PvD
namespace Go.Pv
open Go
section
variable {K : Ctx} {Q : Post} {S : St} {ops : Array Oper} {rest : List Oper} {op : Op} {ty : TypeId} {pos : String} {after : Array Edge} {g : Option (Nat × Bool)}
variable {m : Mem} {β : Locs} {w : World} {a : Act}
/-- A new block of known cells: its object. -/
theorem obok_new {m : Mem} {β : Locs} {w' : World} {B : Nat → Prop} {T : TypeId} {vs : Array Value} {b k : Nat} {cap : Cap} {rows : List (List V)} (bl : Nat → Nat → Prop) (hBl : Bls B bl) (hw : w'.heap[b]? = some (.cells vs T (0, 0)))
    (hsz : vs.size = cap.off + cap.n * k) (hr : rows.length ≤ cap.n) (hcap : cap.n ≤ maxLen) (hk : ∀ row, row ∈ rows → row.length = k)
    (hc : ∀ (i j : Nat) (row : List V) (c : V), rows[i]? = some row → row[j]? = some c → ∃ v, vs[cap.off + (i * k + j)]? = some v ∧ CRel m β w' (bl (i * k + j)) c v ∧ v.oneCell' = true) :
    ObOk m β w' B (some (some (b, cap))) (.arr T k rows) := ⟨vs, bl, hw, hsz, hr, hcap, hk, hBl, hc⟩
theorem bls_none {B : Nat → Prop} : Bls B (fun _ _ => False) := ⟨fun _ _ h => h.elim, fun _ _ _ h => h.elim⟩
theorem obok_new0 {m : Mem} {β : Locs} {w' : World} {B : Nat → Prop} {T : TypeId} {vs : Array Value} {b k n : Nat} {rows : List (List V)} (hw : w'.heap[b]? = some (.cells vs T (0, 0)))
    (hsz : vs.size = n * k) (hr : rows.length ≤ n) (hcap : n ≤ maxLen) (hk : ∀ row, row ∈ rows → row.length = k)
    (hc : ∀ (i j : Nat) (row : List V) (c : V), rows[i]? = some row → row[j]? = some c → ∃ v, vs[i * k + j]? = some v ∧ VRel m β c v ∧ v.oneCell' = true) :
    ObOk m β w' B (some (some (b, ⟨n, 0⟩))) (.arr T k rows) :=
  obok_new _ bls_none hw (by simpa using hsz) hr hcap hk (fun i j row c hi hj => let ⟨v, a1, a2, a3⟩ := hc i j row c hi hj; ⟨v, by simpa using a1, .inl a2, a3⟩)
theorem aops_box {d : Nat} {x : Operand} {T : TypeId} {dv : V} (cs : List V) (hw : Wants ops S ⟨some d, .box T x, ty, pos, after, g⟩ true)
    (hx : evl K S x = dv) (hcs : vcells dv = cs) (h1 : cs.all oneV = true) (hN : Nat.blt d K.N = true)
    (kk : AOps K ops rest Q ⟨(d, .ptr S.nx cs.length 0 0) :: S.env, (S.nx, .arr T cs.length [cs]) :: S.hp, S.nx + 1⟩) :
    AOps K ops (⟨some d, .box T x, ty, pos, after, g⟩ :: rest) Q S := by
  refine aops_runs hw (fun m β w a r => ?_) kk
  have h := r.reads x
  rw [hx] at h
  obtain ⟨c1, c2, c3⟩ := h.cells (by rw [hcs]; exact h1)
  rw [hcs] at c1 c2
  obtain ⟨β', hle, hn, r'⟩ := r.alloc (.cells (a.eval x).cells T) (.arr T cs.length [cs]) ⟨1, 0⟩ _ rfl (fun β' hle => by
    refine obok_new0 (vs := (a.eval x).cells) (by simp) (by simp [← c1]) (by simp) (by unfold maxLen; omega) (by simp) ?_
    · intro i j row c hi hj
      cases i with
      | succ i => simp at hi
      | zero =>
        simp at hi; subst hi
        have hj' : j < (a.eval x).cells.size := by rw [← c1]; exact (List.getElem?_eq_some_iff.1 hj).1
        refine ⟨(a.eval x).cells[j], by simp [hj'], (c2 j c _ hj (by simp [hj'])).mono (Mem.le_refl _) hle, c3 _ (by simp)⟩)
  refine ⟨.pointer (some ⟨w.heap.size, 0, none⟩), { w with heap := w.heap.push (.cells (a.eval x).cells T) }, m, β', .inl ?_, ?_⟩
  rotate_left
  · exact Rel.put r' hN (by have := VRel.ptr (m := m) (k := cs.length) (i := 0) (off := 0) hn; simpa using this)
  · simp only [execOp]
    rfl
/-- The cells of a type's zero value. -/
def zeroCells (P : Program) (T : TypeId) : Option (List Value) := ((P.info? T).bind (·.zero)).map (·.cells.toList)
theorem zero_run {P : Program} {T : TypeId} {zs : List Value} (h : zeroCells P T = some zs) (w : World) : ∃ z, (zeroValue T).run P w = .ok z w ∧ z.cells = zs.toArray := by
  unfold zeroCells at h
  cases hi : P.info? T with
  | none => simp [hi] at h
  | some i =>
    cases hz : i.zero with
    | none => simp [hi, hz] at h
    | some z =>
      simp [hi, hz] at h
      refine ⟨z, ?_, by rw [← h]⟩
      simp only [zeroValue, Sem.run_bind, run_typeInfo w hi, Result.andThen_ok, hz]
      rfl
theorem aops_alloc {d n : Nat} {T : TypeId} {zs : List Value} (hz : zeroCells K.P T = some zs) (hn : zs.length = n) (h1 : zs.all (·.oneCell') = true) (hw : Wants ops S ⟨some d, .alloc T, ty, pos, after, g⟩ true)
    (hN : Nat.blt d K.N = true)
    (kk : AOps K ops rest Q ⟨(d, .ptr S.nx n 0 0) :: S.env, (S.nx, .arr T n [zs.map .con]) :: S.hp, S.nx + 1⟩) :
    AOps K ops (⟨some d, .alloc T, ty, pos, after, g⟩ :: rest) Q S := by
  refine aops_runs hw (fun m β w a r => ?_) kk
  subst hn
  obtain ⟨z, hz1, hz2⟩ := zero_run hz w
  obtain ⟨β', hle, hn, r'⟩ := r.alloc (.cells z.cells T) (.arr T zs.length [zs.map .con]) ⟨1, 0⟩ _ rfl (fun β' hle => by
    refine obok_new0 (vs := z.cells) (by simp) (by simp [hz2]) (by simp) (by unfold maxLen; omega) (by simp) ?_
    · intro i j row c hi hj
      cases i with
      | succ i => simp at hi
      | zero =>
        simp at hi; subst hi
        rw [List.getElem?_map] at hj
        cases hzj : zs[j]? with
        | none => simp [hzj] at hj
        | some v =>
          simp [hzj] at hj; subst hj
          refine ⟨v, by simp [hz2, hzj], .imm (.con v), List.all_eq_true.1 h1 v (List.mem_of_getElem? hzj)⟩)
  refine ⟨.pointer (some ⟨w.heap.size, 0, none⟩), { w with heap := w.heap.push (.cells z.cells T) }, m, β', .inl ?_, ?_⟩
  rotate_left
  · exact Rel.put r' hN (by have := VRel.ptr (m := m) (k := zs.length) (i := 0) (off := 0) hn; simpa using this)
  · simp only [execOp, Instr.alloc]
    simp only [Sem.run_bind, hz1, Result.andThen_ok]
    rfl
def tyS (P : Program) (T : TypeId) (n : Nat) : Bool := match P.info? T with | some i => i.size == n | none => false
theorem tyS_run {P : Program} {T : TypeId} {n : Nat} (h : tyS P T n = true) (w : World) : (sizeOf T).run P w = .ok n w := by
  unfold tyS at h
  cases hi : P.info? T with
  | none => simp [hi] at h
  | some i =>
    rw [hi] at h
    simp at h
    rw [run_sizeOf w hi]
    simp [Program.cellsOf, hi, h]
theorem splice_get {α : Type} (row cs : List α) (o : Nat) (h : o + cs.length ≤ row.length) (j : Nat) :
    (row.take o ++ cs ++ row.drop (o + cs.length))[j]? = if o ≤ j ∧ j < o + cs.length then cs[j - o]? else row[j]? := by
  rw [List.append_assoc, List.getElem?_append, List.length_take, Nat.min_eq_left (by omega)]
  by_cases h1 : j < o
  · rw [if_pos h1, if_neg (by omega), List.getElem?_take, if_pos h1]
  · rw [if_neg h1, List.getElem?_append]
    by_cases h2 : j - o < cs.length
    · rw [if_pos h2, if_pos (by omega)]
    · rw [if_neg h2, if_neg (by omega), List.getElem?_drop]
      congr 1; omega
theorem heap_setRow {w : World} {b b' : Nat} {cs : Array Value} (h : b' ≠ b) : (w.setRow b cs).heap[b']? = w.heap[b']? := by
  simp only [World.setRow, Array.getElem?_modify]; rw [if_neg (Ne.symm h)]
theorem heap_setRow_self {w : World} {b : Nat} {cs arr : Array Value} {T : TypeId} {fr : Nat × Nat} (h : w.heap[b]? = some (.cells arr T fr)) : (w.setRow b cs).heap[b]? = some (.cells cs T fr) := by
  simp only [World.setRow, Array.getElem?_modify, if_true, h, Option.map_some]
theorem aops_store {id k i o : Nat} {x y : Operand} {T e : TypeId} {rows : List (List V)} {row : List V} {dv : V} (cs : List V) (rows' : List (List V)) (hT : tyS K.P T cs.length = true)
    (hw : Wants ops S ⟨none, .store T x y, ty, pos, after, g⟩ true) (hx : evl K S x = .ptr id k i o) (hy : evl K S y = dv) (hcs : vcells dv = cs) (h1 : cs.all oneV = true)
    (ho : hget S.hp id = .arr e k rows) (hr : rows[i]? = some row) (hl : Nat.ble (o + cs.length) row.length = true)
    (hrows : rows.set i (row.take o ++ cs ++ row.drop (o + cs.length)) = rows')
    (kk : AOps K ops rest Q ⟨S.env, (id, .arr e k rows') :: S.hp, S.nx⟩) :
    AOps K ops (⟨none, .store T x y, ty, pos, after, g⟩ :: rest) Q S := by
  refine aops_runs hw (fun m β w a r => ?_) kk
  have hl := Nat.le_of_ble_eq_true hl
  have hxv := r.reads x
  rw [hx] at hxv
  obtain ⟨b, cap, hb, hv⟩ := hxv.ptr_inv
  have hyv := r.reads y
  rw [hy] at hyv
  obtain ⟨c1, c2, c3⟩ := hyv.cells (by rw [hcs]; exact h1)
  rw [hcs] at c1 c2
  obtain ⟨arr, bl, a1, a2, a3, a4, a5, aB, a6⟩ := r.obj hb ho
  have hrk : row.length = k := a5 row (List.mem_of_getElem? hr)
  have hi : i < rows.length := (List.getElem?_eq_some_iff.1 hr).1
  have hik : cap.off + (i * k + k) ≤ arr.size := by
    have : i * k + k ≤ cap.n * k := by
      calc i * k + k = (i + 1) * k := by rw [Nat.add_mul, Nat.one_mul]
        _ ≤ cap.n * k := Nat.mul_le_mul_right _ (by omega)
    rw [a2]; omega
  have hlen : (a.eval y).cells.toList.length = cs.length := by simp [c1]
  have hrun := run_storeCells_at (P := K.P) b (cap.off + (i * k + o)) e (a.eval y).cells.toList 0 arr w a1 (by rw [hlen]; omega) c3
  simp only [Nat.add_zero] at hrun
  refine ⟨undef, w.setRow b (arr.toList.take (cap.off + (i * k + o)) ++ (a.eval y).cells.toList ++ arr.toList.drop (cap.off + (i * k + o) + (a.eval y).cells.toList.length)).toArray, m, β, .inr ⟨rfl, ?_⟩, ?_⟩
  rotate_left
  · refine r.update (by rw [ho]; simp) hb _ (.arr e k rows') (fun b' hb' => heap_setRow hb') (by simp [World.setRow]) ⟨rfl, rfl, rfl⟩ (fun hkeep => ?_)
    refine obok_new bl aB (heap_setRow_self a1) ?_ (by rw [← hrows]; simpa using a3) a4 ?_ ?_
    · have : (arr.toList.take (cap.off + (i * k + o)) ++ (a.eval y).cells.toList ++ arr.toList.drop (cap.off + (i * k + o) + (a.eval y).cells.toList.length)).length = arr.size := by
        simp only [List.length_append, List.length_take, List.length_drop, Array.length_toList, hlen]; omega
      rw [List.size_toArray, this, a2]
    · intro row' hrow'
      rw [← hrows] at hrow'
      rcases List.mem_or_eq_of_mem_set hrow' with h | h
      · exact a5 _ h
      · rw [h]; simp only [List.length_append, List.length_take, List.length_drop]; omega
    · intro i' j row' c hi' hj
      have keep : ∀ (i2 j : Nat) (row : List V) (c : V), rows[i2]? = some row → row[j]? = some c → ∃ v, arr[cap.off + (i2 * k + j)]? = some v ∧ CRel m β (w.setRow b (arr.toList.take (cap.off + (i * k + o)) ++ (a.eval y).cells.toList ++ arr.toList.drop (cap.off + (i * k + o) + (a.eval y).cells.toList.length)).toArray) (bl (i2 * k + j)) c v ∧ v.oneCell' = true := by
        intro i2 j row c hi hj
        obtain ⟨v, q1, q2, q3⟩ := a6 i2 j row c hi hj
        exact ⟨v, q1, q2.mono (Mem.le_refl _) (Locs.le_refl _) (fun _ h => h) (fun x hx => hkeep x (aB.1 _ x hx)), q3⟩
      have hget : ∀ p, (arr.toList.take (cap.off + (i * k + o)) ++ (a.eval y).cells.toList ++ arr.toList.drop (cap.off + (i * k + o) + (a.eval y).cells.toList.length)).toArray[p]? =
          if cap.off + (i * k + o) ≤ p ∧ p < cap.off + (i * k + o) + cs.length then (a.eval y).cells[p - (cap.off + (i * k + o))]? else arr[p]? := by
        intro p
        rw [List.getElem?_toArray, splice_get _ _ _ (by rw [hlen]; simp; omega), hlen]
        split <;> simp
      rw [hget]
      rw [← hrows, List.getElem?_set] at hi'
      by_cases hii : i = i'
      · subst hii
        rw [if_pos rfl, if_pos hi] at hi'
        simp only [Option.some.injEq] at hi'
        subst hi'
        rw [splice_get _ _ _ hl] at hj
        by_cases hjo : o ≤ j ∧ j < o + cs.length
        · rw [if_pos hjo] at hj
          rw [if_pos (by omega)]
          have e1 : cap.off + (i * k + j) - (cap.off + (i * k + o)) = j - o := by omega
          rw [e1]
          have hlt : j - o < (a.eval y).cells.size := by rw [← c1]; omega
          exact ⟨(a.eval y).cells[j - o], ⟨by simp [hlt], .inl (c2 _ _ _ hj (by simp [hlt])), c3 _ (by simp)⟩⟩
        · rw [if_neg hjo] at hj
          rw [if_neg (by omega)]
          exact keep i j row c hr hj
      · rw [if_neg hii] at hi'
        have hrk' : row'.length = k := a5 row' (List.mem_of_getElem? hi')
        have hjk : j < k := by rw [← hrk']; exact (List.getElem?_eq_some_iff.1 hj).1
        rw [if_neg]
        · exact keep i' j row' c hi' hj
        · intro hc
          rcases Nat.lt_or_gt_of_ne hii with h | h
          · have : (i + 1) * k ≤ i' * k := Nat.mul_le_mul_right _ h
            rw [Nat.add_mul, Nat.one_mul] at this; omega
          · have : (i' + 1) * k ≤ i * k := Nat.mul_le_mul_right _ h
            rw [Nat.add_mul, Nat.one_mul] at this; omega
  · simp only [execOp, hv, Instr.storeAt, Instr.sureAddr, storeVar]
    simp only [Sem.run_bind, pure, Sem.run, Result.andThen_ok, tyS_run hT w]
    rw [if_neg (by simp [c1]), hrun]
    rfl
end
end Go.Pv
