/- The framework of walks over abstract values (own text), part N. -/
import Derived.Test.YtihfhmibfhkoeaaDoorPPvU
namespace Go.Pv
open Go
section
variable {K : Ctx} {Q : Post} {S : St}
variable {m : Mem} {β : Locs} {w : World} {a : Act}
variable {ops : Array Oper} {rest : List Oper} {ty : TypeId} {pos : String} {after : Array Edge} {g : Option (Nat × Bool)}
structure VRels (m : Mem) (β : Locs) (ds : List V) (vs : Array Value) : Prop where
  len : ds.length = vs.size
  at' : ∀ (i : Nat) (c : V) (v : Value), ds[i]? = some c → vs[i]? = some v → VRel m β c v
def Foreign (hp : Heap) (β : Locs) (b : Nat) : Prop := ∀ id cap, hget hp id ≠ .dead → β id ≠ some (some (b, cap))
structure After (m : Mem) (β : Locs) (w : World) (k : Nat) (hp : Heap) (m' : Mem) (β' : Locs) (w' : World) (k' : Nat) (hp' : Heap) : Prop where
  le : m.le m'
  imm : ∀ b o, m' b = some o → w'.heap[b]? = some o
  old : ∀ b, b < w.heap.size → Foreign hp β b → m' b = m b ∧ w'.heap[b]? = w.heap[b]?
  size : w.heap.size ≤ w'.heap.size
  same : Same w w'
  own : ∀ id, ObOk m' β' w' (β' id) (hget hp' id)
  priv : ∀ id b cap, hget hp' id ≠ .dead → β' id = some (some (b, cap)) → m' b = none ∧ (b < w.heap.size → ¬ Foreign hp β b)
  inj : ∀ id id' b cap cap', hget hp' id ≠ .dead → hget hp' id' ≠ .dead → β' id = some (some (b, cap)) → β' id' = some (some (b, cap')) → id = id'
  nx : ∀ id, k' ≤ id → β' id = none
  pin : ∀ q, q < k → q < k' ∧ β' q = β q
/-- A function that is handed objects of the caller's own (hp, by the numbers below k), and leaves the objects hp'. -/
def MutG (gl : Gl) (P : Program) (f : FuncId) (args : List V) (k : Nat) (hp : Heap) (d : V) (k' : Nat) (hp' : Heap) : Prop :=
  ∀ (m : Mem) (β : Locs) (w : World) (vs : Array Value), (∀ (b : Nat) o, m b = some o → w.heap[b]? = some o) → GlOk gl m → VRels m β args vs →
    (∀ id, ObOk m β w (β id) (hget hp id)) → (∀ id b cap, hget hp id ≠ .dead → β id = some (some (b, cap)) → m b = none) →
    (∀ id id' b cap cap', hget hp id ≠ .dead → hget hp id' ≠ .dead → β id = some (some (b, cap)) → β id' = some (some (b, cap')) → id = id') →
    (∀ id, k ≤ id → β id = none) →
    Calls P f vs w fun e w' => ∃ v m' β', e = .returned v ∧ VRel m' β' d v ∧ After m β w k hp m' β' w' k' hp'
inductive ResOneM (P : Program) (S : St) : ResultVar → V → Prop
  | tmp {t : Tmp} {d : V} (h : get S.env t = d) : ResOneM P S (.tmp t) d
  | agg {x : Tmp} {T n id k i o : Nat} {e : TypeId} {rows : List (List V)} {row cs : List V} (hT : tyA P T n = true) (hx : get S.env x = .ptr id k i o) (ho : hget S.hp id = .arr e k rows)
      (hr : rows[i]? = some row) (hc : (row.drop o).take n = cs) (hn : cs.length = n) : ResOneM P S (.cell x T) (.agg cs)
  | cell {x : Tmp} {T id k i o : Nat} {e : TypeId} {rows : List (List V)} {row : List V} {c : V} (hT : tyC P T = true) (hx : get S.env x = .ptr id k i o) (ho : hget S.hp id = .arr e k rows)
      (hr : rows[i]? = some row) (hc : row[o]? = some c) : ResOneM P S (.cell x T) c
theorem ResOneM.run {rv : ResultVar} {d : V} (h : ResOneM K.P S rv d) (r : Rel K m β w a S) : ∃ v, (resSem a.tmps rv).run K.P w = .ok v w ∧ VRel m β d v := by
  cases h with
  | @tmp t _ h => exact ⟨_, rfl, by rw [← h]; exact r.env t⟩
  | @agg x T n id k i o e rows row cs hT hx ho hr hc hn =>
    have h := r.env x
    rw [hx] at h
    obtain ⟨b, cap, hb, hv⟩ := h.ptr_inv
    obtain ⟨arr, h1, h2, h3, h4, h5, h6⟩ := r.obj hb ho
    have hcell : ∀ j c, cs[j]? = some c → ∃ v, arr[i * k + o + j]? = some v ∧ VRel m β c v := by
      intro j c hj
      rw [← hc, List.getElem?_take] at hj
      split at hj
      · rw [List.getElem?_drop] at hj
        obtain ⟨v, a1, a2, _⟩ := h6 i (o + j) row c hr hj
        exact ⟨v, by rw [Nat.add_assoc]; exact a1, a2⟩
      · simp at hj
    have hrun := run_load_agg (P := K.P) (w := w) (b := b) (o := i * k + o) (fun j => arr.getD (i * k + o + j) undef) hT (fun j hj => by
      rw [cell_of_heap h1]
      obtain ⟨v, a1, _⟩ := hcell j cs[j] (by simp [hn, hj])
      rw [a1]; simp [Array.getD_eq_getD_getElem?, a1])
    refine ⟨_, asAddr_load hv hrun, ?_⟩
    · refine .agg (by simp [hn]) (fun j c v hj hv => ?_)
      obtain ⟨v', a1, a2⟩ := hcell j c hj
      simp only [List.getElem?_toArray, List.getElem?_map] at hv
      have hj' : j < n := by rw [← hn]; exact (List.getElem?_eq_some_iff.1 hj).1
      rw [List.getElem?_range hj'] at hv
      simp only [Option.map_some, Option.some.injEq] at hv
      rw [← hv]
      simp [Array.getD_eq_getD_getElem?, a1]; exact a2
  | @cell x T id k i o e rows row c hT hx ho hr hc =>
    have h := r.env x
    rw [hx] at h
    obtain ⟨b, cap, hb, hv⟩ := h.ptr_inv
    obtain ⟨arr, h1, h2, h3, h4, h5, h6⟩ := r.obj hb ho
    obtain ⟨v, a1, a2, _⟩ := h6 i o row _ hr hc
    exact ⟨v, asAddr_load hv (run_load_cell hT (by rw [cell_of_heap h1]; exact a1)), a2⟩
/-- The results one after the other. -/
inductive ResL (P : Program) (S : St) : List ResultVar → List V → Prop
  | nil : ResL P S [] []
  | cons {r : ResultVar} {d : V} {rs : List ResultVar} {ds : List V} (h : ResOneM P S r d) (t : ResL P S rs ds) : ResL P S (r :: rs) (d :: ds)
theorem ResL.run {l : List ResultVar} {ds : List V} (h : ResL K.P S l ds) (r : Rel K m β w a S) :
    ∃ vs : List Value, (l.mapM (resSem a.tmps)).run K.P w = .ok vs w ∧ vs.length = l.length ∧ ds.length = l.length ∧ ∀ (i : Nat) c v, ds[i]? = some c → vs[i]? = some v → VRel m β c v := by
  induction h with
  | nil => exact ⟨[], by simp [pure], rfl, rfl, by simp⟩
  | cons h t ih =>
    obtain ⟨v, h1, h2⟩ := h.run r
    obtain ⟨vs, g1, g2, g3, g4⟩ := ih
    refine ⟨v :: vs, ?_, by simp [g2], by simp [g3], ?_⟩
    · simp [List.mapM_cons, h1, g1, pure]
    · intro i c v' hc hv
      cases i with
      | zero => simp at hc hv; subst hc; subst hv; exact h2
      | succ i => exact g4 i c v' (by simpa using hc) (by simpa using hv)
def resV : List V → V
  | [d] => d
  | ds => .tup ds
theorem ResL.runs {fn : Func} {l : List ResultVar} {ds : List V} (hl : fn.results = l.toArray) (h : ResL K.P S l ds) (r : Rel K m β w a S) :
    ∃ v, (results fn a.tmps).run K.P w = .ok v w ∧ VRel m β (resV ds) v := by
  obtain ⟨vs, h1, h2, h3, h4⟩ := h.run r
  have hm : (fn.results.mapM (resSem a.tmps)).run K.P w = .ok vs.toArray w := by
    rw [hl]
    simp [h1]
  rw [results_eq]
  simp only [Sem.run_bind, hm, Result.andThen_ok]
  by_cases h5 : vs.length = 1
  · match vs, ds, h5, h2, h3, h4 with
    | [v], [d], _, _, _, h4 => exact ⟨v, by simp [pure], h4 0 d v rfl rfl⟩
    | [v], [], _, h2, h3, _ => simp at h2 h3; omega
    | [v], _ :: _ :: _, _, h2, h3, _ => simp at h2 h3; omega
  · refine ⟨.tuple vs.toArray, by simp [h5, pure], ?_⟩
    have : resV ds = .tup ds := by
      match ds, h3 with
      | [], _ => rfl
      | [d], h3 => simp at h3; omega
      | _ :: _ :: _, _ => rfl
    rw [this]
    exact .tup (by simp [h3, h2]) (fun i c v hc hv => h4 i c v hc (by simpa using hv))
theorem Sub.ownE {n id j l l' : Nat} {σ : Nat → Nat} (hn : Nat.blt id n = true) (hj : σ id = j) (hl : l = l') : Sub (Ren n σ) (.own id l) (.own j l') := by
  subst hl; exact Sub.own hn hj
theorem Sub.tup {Y : Hy} {l l' : List V} (h : Subs Y l l') : Sub Y (.tup l) (.tup l') := fun m β m' β' x hh hx => by
  cases hx with
  | imm hi =>
    cases hi with
    | tup hl hi =>
      refine .tup (by rw [h.len]; exact hl) (fun i c v hc hv => ?_)
      have hlt := (List.getElem?_eq_some_iff.1 hc).1
      have hlt' : i < l'.length := by rw [← h.len]; exact hlt
      exact h.get i c _ hc (List.getElem?_eq_getElem hlt') _ _ _ _ _ hh (.imm (hi i _ v (List.getElem?_eq_getElem hlt') hv))
  | tup hl hi =>
    refine .tup (by rw [h.len]; exact hl) (fun i c v hc hv => ?_)
    have hlt := (List.getElem?_eq_some_iff.1 hc).1
    have hlt' : i < l'.length := by rw [← h.len]; exact hlt
    exact h.get i c _ hc (List.getElem?_eq_getElem hlt') _ _ _ _ _ hh (hi i _ v (List.getElem?_eq_getElem hlt') hv)
inductive HpTo (Y : Hy) (τ : Nat → Nat) (hp' : Heap) (k' : Nat) : Nat → Heap → Prop
  | nil : HpTo Y τ hp' k' k' []
  | cons {j t : Nat} {ob : Ob} {u : Heap} (ht : τ j = t) (ho : ObSub Y ob (hget hp' j)) (h : HpTo Y τ hp' k' (j + 1) u) : HpTo Y τ hp' k' j ((t, ob) :: u)
theorem HpTo.le {Y : Hy} {τ : Nat → Nat} {hp' : Heap} {k' j : Nat} {u : Heap} (h : HpTo Y τ hp' k' j u) : j ≤ k' := by
  induction h with
  | nil => exact Nat.le_refl _
  | cons _ _ _ ih => omega
theorem HpTo.get {Y : Hy} {τ : Nat → Nat} {hp' : Heap} {k' j0 : Nat} {u : Heap} (h : HpTo Y τ hp' k' j0 u) (hτ : ∀ i j, i < k' → j < k' → τ i = τ j → i = j) (hp : Heap) :
    (∀ j, j0 ≤ j → j < k' → ObSub Y (hget (u ++ hp) (τ j)) (hget hp' j)) ∧ ∀ t, (∀ j, j0 ≤ j → j < k' → t ≠ τ j) → hget (u ++ hp) t = hget hp t := by
  induction h with
  | nil => exact ⟨fun j h1 h2 => by omega, fun t _ => rfl⟩
  | @cons j1 t ob u ht ho h ih =>
    have hle := h.le
    refine ⟨fun j h1 h2 => ?_, fun t' h' => ?_⟩
    · show ObSub Y (hget ((t, ob) :: (u ++ hp)) (τ j)) _
      rw [hget_put]
      by_cases e : j = j1
      · subst e; rw [if_pos ht.symm]; exact ho
      · rw [if_neg]
        · exact ih.1 j (by omega) h2
        · intro e'; exact e (hτ j j1 h2 (by omega) (by rw [ht]; exact e'.symm))
    · show hget ((t, ob) :: (u ++ hp)) t' = _
      rw [hget_put, if_neg]
      · exact ih.2 t' (fun j h1 h2 => h' j (by omega) h2)
      · intro e'; exact h' j1 (Nat.le_refl _) (by omega) (by rw [ht]; exact e'.symm)
end
end Go.Pv
