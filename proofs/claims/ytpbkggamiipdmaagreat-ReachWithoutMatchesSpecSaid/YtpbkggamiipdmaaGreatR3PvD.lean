/- The framework of walks over abstract values (own text), part D. -/
import Derived.Test.YtpbkggamiipdmaaGreatR3PvC
namespace Go.Pv
open Go
section
variable {K : Ctx} {Q : Post} {S : St} {ops : Array Oper} {rest : List Oper} {op : Op} {ty : TypeId} {pos : String} {after : Array Edge} {g : Option (Nat × Bool)}
variable {m : Mem} {β : Locs} {w : World} {a : Act}
theorem cell_of_heap {w : World} {b o : Nat} {arr : Array Value} {T : TypeId} {fr : Nat × Nat} (h : w.heap[b]? = some (.cells arr T fr)) :
    w.cell? ⟨b, o, none⟩ = arr[o]? := by simp [World.cell?, h]
theorem run_load_agg {P : Program} {w : World} {T : TypeId} {n b o : Nat} (f : Nat → Value) (hT : tyA P T n = true) (h : ∀ j, j < n → w.cell? ⟨b, o + j, none⟩ = some (f j)) :
    (Instr.loadAt T (.pointer (some ⟨b, o, none⟩))).run P w = .ok (.agg ((List.range n).map f).toArray) w := by
  have h1 := tyA_run hT w
  have h2 := run_loadCells (P := P) w ⟨b, o, none⟩ n f (fun j hj => by rw [add_spot]; exact h j hj)
  simp only [Instr.loadAt, Instr.sureAddr, pure, Sem.run_bind, Sem.run, Result.andThen_ok, loadVar, h1.1, h1.2, if_true, h2]
theorem run_load_cell {P : Program} {w : World} {T : TypeId} {b o : Nat} {v : Value} (hT : tyC P T = true) (h : w.cell? ⟨b, o, none⟩ = some v) :
    (Instr.loadAt T (.pointer (some ⟨b, o, none⟩))).run P w = .ok v w := by
  have h1 := tyC_run hT w
  simp only [Instr.loadAt, Instr.sureAddr, pure, Sem.run_bind, Sem.run, Result.andThen_ok, loadVar, h1.1]
  simp [load, Sem.run, h]
theorem VRel.ptr_inv {id k i off : Nat} {v : Value} (h : VRel m β (.ptr id k i off) v) : ∃ b cap, β id = some (some (b, cap)) ∧ v = .pointer (some ⟨b, cap.off + (i * k + off), none⟩) := by
  cases h with
  | imm h => cases h
  | ptr h => exact ⟨_, _, h, rfl⟩
theorem VRel.iptr_inv {row : List V} {off : Nat} {v : Value} (h : VRel m β (.iptr row off) v) : ∃ (a : Addr) (arr : Array Value) (T : TypeId) (fr : Nat × Nat) (f : Nat → Value) (base : Nat),
    v = .pointer (some a) ∧ m a.block = some (.cells arr T fr) ∧ a.spot = none ∧ a.off = base + off ∧ (∀ i, i < row.length → arr[base + i]? = some (f i)) ∧ ∀ (j : Nat) (c : V), row[j]? = some c → IRel m c (f j) := by
  cases h with
  | imm h => cases h with | iptr f base h1 h2 h3 h4 h5 => exact ⟨_, _, _, _, f, base, rfl, h1, h2, h3, h4, h5⟩
theorem addr_eta {a : Addr} (h : a.spot = none) : a = ⟨a.block, a.off, none⟩ := by cases a; simp_all
theorem Rel.obj (r : Rel K m β w a S) {id b k : Nat} {cap : Cap} {e : TypeId} {rows : List (List V)} (hb : β id = some (some (b, cap))) (ho : hget S.hp id = .arr e k rows) :
    ∃ arr bl, w.heap[b]? = some (.cells arr e (0, 0)) ∧ arr.size = cap.off + cap.n * k ∧ rows.length ≤ cap.n ∧ cap.n ≤ maxLen ∧ (∀ row, row ∈ rows → row.length = k) ∧ Bls (β.hid id) bl ∧
      ∀ (i j : Nat) (row : List V) (c : V), rows[i]? = some row → row[j]? = some c → ∃ v, arr[cap.off + (i * k + j)]? = some v ∧ CRel m β w (bl (i * k + j)) c v ∧ v.oneCell' = true := by
  have h := r.own id
  rw [hb, ho] at h
  exact h
/-- Cells that may be read. -/
def ndB : List V → Bool
  | [] => true
  | c :: l => match c.deep with | true => false | false => ndB l
theorem ndB_at : ∀ {l : List V} {j : Nat} {c : V}, ndB l = true → l[j]? = some c → c.deep = false
  | x :: l, 0, c, h, hc => by simp at hc; subst hc; simp only [ndB] at h; split at h <;> simp_all
  | x :: l, j + 1, c, h, hc => by
    simp only [ndB] at h
    split at h
    · simp at h
    · exact ndB_at (l := l) (j := j) h (by simpa using hc)
  | [], _, c, _, hc => by simp at hc
theorem aops_load_agg {d n id k i o : Nat} {x : Operand} {T e : TypeId} {rows : List (List V)} {row cs : List V} (hT : tyA K.P T n = true)
    (hw : Wants ops S ⟨some d, .load T x, ty, pos, after, g⟩ true) (hx : evl K S x = .ptr id k i o) (ho : hget S.hp id = .arr e k rows) (hr : rows[i]? = some row)
    (hc : (row.drop o).take n = cs) (hn : cs.length = n) (hnd : ndB cs = true) (hN : Nat.blt d K.N = true) (kk : AOps K ops rest Q (S.put d (.agg cs))) :
    AOps K ops (⟨some d, .load T x, ty, pos, after, g⟩ :: rest) Q S :=
  aops_val _ hw hN (fun m β w a r => by
    have h := r.reads x
    rw [hx] at h
    obtain ⟨b, cap, hb, hv⟩ := h.ptr_inv
    obtain ⟨arr, bl, h1, h2, h3, h4, h5, _, h6⟩ := r.obj hb ho
    have hcell : ∀ j c, cs[j]? = some c → ∃ v, arr[cap.off + (i * k + o) + j]? = some v ∧ VRel m β c v := by
      intro j c hj
      have hd := ndB_at hnd hj
      rw [← hc, List.getElem?_take] at hj
      split at hj
      · rw [List.getElem?_drop] at hj
        obtain ⟨v, a1, a2, _⟩ := h6 i (o + j) row c hr hj
        exact ⟨v, by rw [Nat.add_assoc, Nat.add_assoc]; exact a1, a2.v hd⟩
      · simp at hj
    have hrun := run_load_agg (P := K.P) (w := w) (b := b) (o := cap.off + (i * k + o)) (fun j => arr.getD (cap.off + (i * k + o) + j) undef) hT (fun j hj => by
      rw [cell_of_heap h1]
      obtain ⟨v, a1, _⟩ := hcell j cs[j] (by simp [hn, hj])
      rw [a1]; simp [Array.getD_eq_getD_getElem?, a1])
    refine ⟨_, by simp only [execOp, hv]; exact run_value hrun, ?_⟩
    · refine .agg (by simp [hn]) (fun j c v hj hv => ?_)
      obtain ⟨v', a1, a2⟩ := hcell j c hj
      simp only [List.getElem?_toArray, List.getElem?_map] at hv
      have hj' : j < n := by rw [← hn]; exact (List.getElem?_eq_some_iff.1 hj).1
      rw [List.getElem?_range hj'] at hv
      simp only [Option.map_some, Option.some.injEq] at hv
      rw [← hv]
      simp [Array.getD_eq_getD_getElem?, a1]; exact a2) kk
theorem aops_load_cell {d id k i o : Nat} {x : Operand} {T e : TypeId} {rows : List (List V)} {row : List V} (c : V) (hT : tyC K.P T = true)
    (hw : Wants ops S ⟨some d, .load T x, ty, pos, after, g⟩ true) (hx : evl K S x = .ptr id k i o) (ho : hget S.hp id = .arr e k rows) (hr : rows[i]? = some row)
    (hc : row[o]? = some c) (hd : c.deep = false) (hN : Nat.blt d K.N = true) (kk : AOps K ops rest Q (S.put d c)) :
    AOps K ops (⟨some d, .load T x, ty, pos, after, g⟩ :: rest) Q S :=
  aops_val _ hw hN (fun m β w a r => by
    have h := r.reads x
    rw [hx] at h
    obtain ⟨b, cap, hb, hv⟩ := h.ptr_inv
    obtain ⟨arr, bl, h1, h2, h3, h4, h5, _, h6⟩ := r.obj hb ho
    obtain ⟨v, a1, a2, _⟩ := h6 i o row c hr hc
    exact ⟨v, by simp only [execOp, hv]; exact run_value (run_load_cell hT (by rw [cell_of_heap h1]; exact a1)), a2.v hd⟩) kk
theorem aops_iload_agg {d n o : Nat} {x : Operand} {T : TypeId} {row cs : List V} (hT : tyA K.P T n = true)
    (hw : Wants ops S ⟨some d, .load T x, ty, pos, after, g⟩ true) (hx : evl K S x = .iptr row o)
    (hc : (row.drop o).take n = cs) (hn : cs.length = n) (hN : Nat.blt d K.N = true) (kk : AOps K ops rest Q (S.put d (.agg cs))) :
    AOps K ops (⟨some d, .load T x, ty, pos, after, g⟩ :: rest) Q S :=
  aops_val _ hw hN (fun m β w a r => by
    have h := r.reads x
    rw [hx] at h
    obtain ⟨ad, arr, T', fr, f, base, hv, h1, h2, h3, h4, h5⟩ := h.iptr_inv
    have hh := r.imm _ _ h1
    have hcell : ∀ j c, cs[j]? = some c → arr[base + o + j]? = some (f (o + j)) ∧ IRel m c (f (o + j)) := by
      intro j c hj
      rw [← hc, List.getElem?_take] at hj
      split at hj
      · rw [List.getElem?_drop] at hj
        exact ⟨by rw [Nat.add_assoc]; exact h4 _ (List.getElem?_eq_some_iff.1 hj).1, h5 _ _ hj⟩
      · simp at hj
    have hrun := run_load_agg (P := K.P) (w := w) (b := ad.block) (o := ad.off) (fun j => f (o + j)) hT (fun j hj => by
      rw [cell_of_heap hh, h3]
      exact (hcell j cs[j] (by simp [hn, hj])).1)
    refine ⟨_, by simp only [execOp, hv]; rw [addr_eta h2]; exact run_value hrun, ?_⟩
    · refine .agg (by simp [hn]) (fun j c v hj hv => ?_)
      obtain ⟨a1, a2⟩ := hcell j c hj
      simp only [List.getElem?_toArray, List.getElem?_map] at hv
      have hj' : j < n := by rw [← hn]; exact (List.getElem?_eq_some_iff.1 hj).1
      rw [List.getElem?_range hj'] at hv
      simp only [Option.map_some, Option.some.injEq] at hv
      rw [← hv]
      exact .imm a2) kk
theorem aops_iload_cell {d o : Nat} {x : Operand} {T : TypeId} {row : List V} (c : V) (hT : tyC K.P T = true)
    (hw : Wants ops S ⟨some d, .load T x, ty, pos, after, g⟩ true) (hx : evl K S x = .iptr row o)
    (hc : row[o]? = some c) (hN : Nat.blt d K.N = true) (kk : AOps K ops rest Q (S.put d c)) :
    AOps K ops (⟨some d, .load T x, ty, pos, after, g⟩ :: rest) Q S :=
  aops_val _ hw hN (fun m β w a r => by
    have h := r.reads x
    rw [hx] at h
    obtain ⟨ad, arr, T', fr, f, base, hv, h1, h2, h3, h4, h5⟩ := h.iptr_inv
    have hh := r.imm _ _ h1
    refine ⟨f o, by simp only [execOp, hv]; rw [addr_eta h2]; exact run_value (run_load_cell hT (by rw [cell_of_heap hh, h3]; exact h4 _ (List.getElem?_eq_some_iff.1 hc).1)), .imm (h5 _ _ hc)⟩) kk
theorem aops_fieldAddr {d id k i o f off : Nat} {x : Operand} {T : TypeId} (hF : tyF K.P T f off = true)
    (hw : Wants ops S ⟨some d, .fieldAddr T x f, ty, pos, after, g⟩ true) (hx : evl K S x = .ptr id k i o) (hN : Nat.blt d K.N = true)
    (kk : AOps K ops rest Q (S.put d (.ptr id k i (o + off)))) : AOps K ops (⟨some d, .fieldAddr T x f, ty, pos, after, g⟩ :: rest) Q S :=
  aops_val _ hw hN (fun m β w a r => by
    have h := r.reads x
    rw [hx] at h
    obtain ⟨b, cap, hb, hv⟩ := h.ptr_inv
    exact ⟨_, by simp only [execOp, hv]; exact run_value (tyF_run hF w b _), by have := VRel.ptr (m := m) (k := k) (i := i) (off := o + off) hb; simpa [Nat.add_assoc] using this⟩) kk
theorem aops_ifieldAddr {d o f off : Nat} {row : List V} {x : Operand} {T : TypeId} (hF : tyF K.P T f off = true)
    (hw : Wants ops S ⟨some d, .fieldAddr T x f, ty, pos, after, g⟩ true) (hx : evl K S x = .iptr row o) (hN : Nat.blt d K.N = true)
    (kk : AOps K ops rest Q (S.put d (.iptr row (o + off)))) : AOps K ops (⟨some d, .fieldAddr T x f, ty, pos, after, g⟩ :: rest) Q S :=
  aops_val _ hw hN (fun m β w a r => by
    have h := r.reads x
    rw [hx] at h
    obtain ⟨ad, arr, T', fr, f, base, hv, h1, h2, h3, h4, h5⟩ := h.iptr_inv
    exact ⟨.pointer (some ⟨ad.block, ad.off + off, none⟩), by simp only [execOp, hv]; rw [addr_eta h2]; exact run_value (tyF_run hF w _ _),
      .imm (.iptr (a := ⟨ad.block, ad.off + off, none⟩) f base h1 rfl (by simp [h3, Nat.add_assoc]) h4 h5)⟩) kk
def oneV : V → Bool
  | .con v => v.oneCell'
  | .any | .agg _ | .tup _ => false
  | _ => true
theorem VRel.one {c : V} {v : Value} (h : VRel m β c v) (hc : oneV c = true) : v.oneCell' = true := by
  cases h with
  | imm h => cases h <;> first | exact hc | rfl | simp [oneV] at hc
  | _ => first | rfl | simp [oneV] at hc
def vcells : V → List V
  | .agg cs => cs
  | v => [v]
theorem VRel.cells {d : V} {v : Value} (h : VRel m β d v) (hd : (vcells d).all oneV = true) : (vcells d).length = v.cells.size ∧ (∀ (i : Nat) c u, (vcells d)[i]? = some c → v.cells[i]? = some u → VRel m β c u) ∧ ∀ u, u ∈ v.cells.toList → u.oneCell' = true := by
  have key : (vcells d).length = v.cells.size ∧ (∀ (i : Nat) c u, (vcells d)[i]? = some c → v.cells[i]? = some u → VRel m β c u) := by
    cases d with
    | agg cs =>
      cases h with
      | imm h => cases h with | agg hl h => exact ⟨hl, fun i c u a b => .imm (h i c u a b)⟩
      | agg hl h => exact ⟨hl, h⟩
    | any => simp [vcells, oneV] at hd
    | tup cs => simp [vcells, oneV] at hd
    | _ =>
      have h1 := h.one (by simpa [vcells] using hd)
      have h2 : v.cells = #[v] := by cases v <;> simp [Value.cells] <;> simp [Value.oneCell'] at h1
      rw [h2]
      refine ⟨rfl, fun i c u a b => ?_⟩
      cases i with
      | zero => simp [vcells] at a b; subst a; subst b; exact h
      | succ i => simp [vcells] at a
  refine ⟨key.1, key.2, fun u hu => ?_⟩
  obtain ⟨i, hi, rfl⟩ := List.getElem_of_mem hu
  have hi' : i < (vcells d).length := by rw [key.1]; simpa using hi
  have hall := List.all_eq_true.1 hd (vcells d)[i] (List.getElem_mem _)
  exact (key.2 i _ _ (List.getElem?_eq_getElem hi') (by simp)).one hall
theorem Rel.allocG (r : Rel K m β w a S) (id0 nx' : Nat) (hfree : β id0 = none) (hpid : ∀ q, q < K.pins → q ≠ id0) (hidn : id0 < nx') (hnn : S.nx ≤ nx') (o : Obj) (ob : Ob) (cap : Cap) (w' : World) (hw' : w' = { w with heap := w.heap.push o }) (B : Nat → Prop)
    (hB : ∀ x, B x → x < w.heap.size ∧ m x = none ∧ (x < K.w0.heap.size → ¬ K.old x) ∧ (∀ i b c, hget S.hp i ≠ .dead → β i = some (some (b, c)) → x ≠ b) ∧ ∀ i, hget S.hp i ≠ .dead → ¬ β.hid i x)
    (hok : ∀ β', β.le β' → ObOk m β' w' B (some (some (w.heap.size, cap))) ob) :
    ∃ β' : Locs, β.le β' ∧ β' id0 = some (some (w.heap.size, cap)) ∧ Rel K m β' w' a ⟨S.env, (id0, ob) :: S.hp, nx'⟩ := by
  let β' : Locs := ⟨fun i => if i = id0 then some (some (w.heap.size, cap)) else β i, fun i => if i = id0 then B else β.hid i⟩
  have hle : β.le β' := by
    intro i l h
    show (if i = id0 then _ else _) = _
    rw [if_neg]
    · exact h
    · intro e; rw [e, hfree] at h; simp at h
  have en : β' id0 = some (some (w.heap.size, cap)) := by show (if _ then _ else _) = _; rw [if_pos rfl]
  have eo : ∀ i, id0 ≠ i → β' i = β i := fun i h => by show (if _ then _ else _) = _; rw [if_neg (Ne.symm h)]
  have hn : β'.hid id0 = B := by show (if _ then _ else _) = _; rw [if_pos rfl]
  have ho : ∀ i, id0 ≠ i → β'.hid i = β.hid i := fun i h => by show (if _ then _ else _) = _; rw [if_neg (Ne.symm h)]
  have hheap : ∀ (b : Nat) (o' : Obj), w.heap[b]? = some o' → w'.heap[b]? = some o' := by
    intro b o' h
    have := lt_of_some h
    rw [hw']; simp only [Array.getElem?_push]; rw [if_neg (by omega)]; exact h
  have hsame : ∀ b, b < w.heap.size → w'.heap[b]? = w.heap[b]? := by
    intro b hb
    rw [hw']; simp only [Array.getElem?_push]; rw [if_neg (by omega)]
  have hsz : w'.heap.size = w.heap.size + 1 := by rw [hw']; simp
  have hm : m w.heap.size = none := by
    cases hm : m w.heap.size with
    | none => rfl
    | some o' => have := lt_of_some (r.imm _ _ hm); omega
  refine ⟨β', hle, en, ?_⟩
  constructor
  · exact fun b o' h => hheap _ _ (r.imm b o' h)
  · exact r.ext
  · exact r.mold
  · intro b hb ho
    rw [hsame b (Nat.lt_of_lt_of_le hb r.size)]; exact r.frame b hb ho
  · rw [hsz]; have := r.size; omega
  · rw [hw']; exact ⟨r.same.os, r.same.tape, r.same.output⟩
  · exact r.tn
  · exact r.df
  · exact fun t => (r.env t).mono (Mem.le_refl _) hle
  · intro id
    simp only [hget_put]
    by_cases h : id0 = id
    · subst h; rw [if_pos rfl]
      show ObOk m β' w' (β'.hid id0) (β' id0) ob
      rw [en, hn]; exact hok β' hle
    · rw [if_neg h]
      show ObOk m β' w' (β'.hid id) (β' id) _
      rw [eo id h, ho id h]
      by_cases hd : hget S.hp id = .dead
      · rw [hd]; exact ObOk.dead' _
      · exact ObOk.mono (Mem.le_refl _) hle hheap (fun x hx => hsame x (r.hid id x hd hx).lt) (r.own id)
  · intro id b c hl hb
    simp only [hget_put] at hl
    by_cases h : id0 = id
    · subst h
      rw [en] at hb
      simp only [Option.some.injEq, Prod.mk.injEq] at hb
      obtain ⟨rfl, _⟩ := hb
      exact ⟨hm, by intro hlt; have := r.size; omega⟩
    · rw [if_neg h] at hl
      rw [eo id h] at hb
      exact r.priv id b c hl hb
  · intro id id' b c c' hl hl' hb hb'
    simp only [hget_put] at hl hl'
    by_cases h : id0 = id <;> by_cases h' : id0 = id'
    · rw [← h, ← h']
    · exfalso
      rw [if_neg h'] at hl'
      rw [eo id' h'] at hb'
      have := live_lt hl' hb' (r.own id')
      subst h; rw [en] at hb; simp only [Option.some.injEq, Prod.mk.injEq] at hb
      omega
    · exfalso
      rw [if_neg h] at hl
      rw [eo id h] at hb
      have := live_lt hl hb (r.own id)
      subst h'; rw [en] at hb'; simp only [Option.some.injEq, Prod.mk.injEq] at hb'
      omega
    · rw [if_neg h] at hl; rw [if_neg h'] at hl'
      rw [eo id h] at hb; rw [eo id' h'] at hb'
      exact r.inj id id' b c c' hl hl' hb hb'
  · intro id x hl hx
    simp only [hget_put] at hl
    have ne : ∀ i b cap, hget ((id0, ob) :: S.hp) i ≠ .dead → β' i = some (some (b, cap)) → x < w.heap.size → (∀ i b c, hget S.hp i ≠ .dead → β i = some (some (b, c)) → x ≠ b) → x ≠ b := by
      intro i b c hi hb hx hh
      rw [hget_put] at hi
      by_cases h : id0 = i
      · subst h; rw [en] at hb; simp only [Option.some.injEq, Prod.mk.injEq] at hb; omega
      · rw [if_neg h] at hi; rw [eo i h] at hb; exact hh i b c hi hb
    by_cases h : id0 = id
    · subst h
      rw [hn] at hx
      obtain ⟨q1, q2, q3, q4, q5⟩ := hB x hx
      refine ⟨by rw [hsz]; omega, q2, q3, fun i b c hi hb => ne i b c hi hb q1 q4, fun i hi hx' => ?_⟩
      rw [hget_put] at hi
      by_cases h : id0 = i
      · exact h.symm
      · rw [if_neg h] at hi; rw [ho i h] at hx'; exact absurd hx' (q5 i hi)
    · rw [if_neg h] at hl; rw [ho id h] at hx
      have hh := r.hid id x hl hx
      refine ⟨by rw [hsz]; have := hh.lt; omega, hh.m, hh.old, fun i b c hi hb => ne i b c hi hb hh.lt hh.ne, fun i hi hx' => ?_⟩
      rw [hget_put] at hi
      by_cases h' : id0 = i
      · subst h'; rw [hn] at hx'; exact absurd hx ((hB x hx').2.2.2.2 id hl)
      · rw [if_neg h'] at hi; rw [ho i h'] at hx'; exact hh.un i hi hx'
  · intro id hid
    have hid' : nx' ≤ id := hid
    rw [eo id (by omega)]
    exact r.nx id (by omega)
  · intro q hq
    obtain ⟨h1, h2⟩ := r.pin q hq
    exact ⟨Nat.lt_of_lt_of_le h1 hnn, by rw [← h2]; exact eo q (Ne.symm (hpid q hq))⟩
theorem Rel.allocB (r : Rel K m β w a S) (o : Obj) (ob : Ob) (cap : Cap) (w' : World) (hw' : w' = { w with heap := w.heap.push o }) (B : Nat → Prop)
    (hB : ∀ x, B x → x < w.heap.size ∧ m x = none ∧ (x < K.w0.heap.size → ¬ K.old x) ∧ (∀ i b c, hget S.hp i ≠ .dead → β i = some (some (b, c)) → x ≠ b) ∧ ∀ i, hget S.hp i ≠ .dead → ¬ β.hid i x)
    (hok : ∀ β', β.le β' → ObOk m β' w' B (some (some (w.heap.size, cap))) ob) :
    ∃ β' : Locs, β.le β' ∧ β' S.nx = some (some (w.heap.size, cap)) ∧ Rel K m β' w' a ⟨S.env, (S.nx, ob) :: S.hp, S.nx + 1⟩ :=
  r.allocG S.nx (S.nx + 1) (r.nx _ (Nat.le_refl _)) (fun q hq => Nat.ne_of_lt (r.pin q hq).1) (Nat.lt_succ_self _) (Nat.le_succ _) o ob cap w' hw' B hB hok
theorem Rel.alloc (r : Rel K m β w a S) (o : Obj) (ob : Ob) (cap : Cap) (w' : World) (hw' : w' = { w with heap := w.heap.push o })
    (hok : ∀ β', β.le β' → ObOk m β' w' (fun _ => False) (some (some (w.heap.size, cap))) ob) :
    ∃ β' : Locs, β.le β' ∧ β' S.nx = some (some (w.heap.size, cap)) ∧ Rel K m β' w' a ⟨S.env, (S.nx, ob) :: S.hp, S.nx + 1⟩ :=
  r.allocB o ob cap w' hw' (fun _ => False) (fun _ h => h.elim) hok
theorem ObOk.congr {w w' : World} {B : Nat → Prop} {l : Option (Option (Nat × Cap))} {ob : Ob} (hw : ∀ b cap, l = some (some (b, cap)) → w'.heap[b]? = w.heap[b]?) (hB : ∀ x, B x → w'.heap[x]? = w.heap[x]?) (h : ObOk m β w B l ob) : ObOk m β w' B l ob := by
  match l, ob, h with
  | none, .dead, _ | some none, .dead, _ | some (some (b, c)), .dead, _ => simp [ObOk]
  | none, .res, _ => trivial
  | some none, .res, h | some (some (b, c)), .res, h => exact absurd h (by simp [ObOk])
  | some none, .arr e k rows, h => exact h
  | some (some (b, cap)), .arr e k rows, h =>
    obtain ⟨arr, bl, h1, h2, h3, h4, h5, hBl, h6⟩ := h
    exact ⟨arr, bl, by rw [hw b cap rfl]; exact h1, h2, h3, h4, h5, hBl, fun i j row c hi hj => let ⟨v, a1, a2, a3⟩ := h6 i j row c hi hj; ⟨v, a1, a2.mono (Mem.le_refl _) (Locs.le_refl _) (fun _ h => h) (fun x hx => hB x (hBl.1 _ x hx)), a3⟩⟩
  | some (some (b, cap)), .map es, h =>
    obtain ⟨ents, clock, bl, h1, h2, hBl, h3⟩ := h
    exact ⟨ents, clock, bl, by rw [hw b cap rfl]; exact h1, h2, hBl, fun i p e hi he => ⟨(h3 i p e hi he).1, (h3 i p e hi he).2.mono (Mem.le_refl _) (Locs.le_refl _) (fun _ h => h) (fun x hx => hB x (hBl.1 _ x hx))⟩⟩
  | none, .arr .., h | none, .map .., h | some none, .map .., h => exact absurd h (by simp [ObOk])
theorem Rel.update (r : Rel K m β w a S) {id b : Nat} {cap : Cap} (hl : hget S.hp id ≠ .dead) (hb : β id = some (some (b, cap))) (w' : World) (ob : Ob)
    (hw : ∀ b', b' ≠ b → w'.heap[b']? = w.heap[b']?) (hs : w'.heap.size = w.heap.size) (hsame : Same w w')
    (hok : (∀ x, β.hid id x → w'.heap[x]? = w.heap[x]?) → ObOk m β w' (β.hid id) (some (some (b, cap))) ob) : Rel K m β w' a ⟨S.env, (id, ob) :: S.hp, S.nx⟩ := by
  have hp := r.priv id b cap hl hb
  have live : ∀ i, hget ((id, ob) :: S.hp) i ≠ .dead → hget S.hp i ≠ .dead := by
    intro i hi
    rw [hget_put] at hi
    by_cases h : id = i
    · subst h; exact hl
    · rw [if_neg h] at hi; exact hi
  constructor
  · intro b' o' h
    have : b' ≠ b := by intro e; subst e; rw [hp.1] at h; simp at h
    rw [hw _ this]; exact r.imm b' o' h
  · exact r.ext
  · exact r.mold
  · intro b' hb' ho
    have : b' ≠ b := by intro e; subst e; exact hp.2 hb' ho
    rw [hw _ this]; exact r.frame b' hb' ho
  · rw [hs]; exact r.size
  · exact r.same.trans hsame
  · exact r.tn
  · exact r.df
  · exact r.env
  · intro id'
    simp only [hget_put]
    by_cases h : id = id'
    · subst h; rw [if_pos rfl, hb]; exact hok (fun x hx => hw x ((r.hid id x hl hx).ne id b cap hl hb))
    · rw [if_neg h]
      by_cases hd : hget S.hp id' = .dead
      · rw [hd]; exact ObOk.dead' _
      · refine ObOk.congr (fun b' cap' hbi => hw b' fun e => h ?_) (fun x hx => hw x ((r.hid id' x hd hx).ne id b cap hl hb)) (r.own id')
        subst e
        exact r.inj id id' b' cap cap' hl hd hb hbi
  · intro id' b' c' hl' hb'
    exact r.priv _ _ _ (live _ hl') hb'
  · exact fun i i' b' c c' h1 h2 => r.inj i i' b' c c' (live i h1) (live i' h2)
  · intro i x hi hx
    have h := r.hid i x (live i hi) hx
    exact ⟨by rw [hs]; exact h.lt, h.m, h.old, fun i' b' c' hi' => h.ne i' b' c' (live i' hi'), fun i' hi' => h.un i' (live i' hi')⟩
  · exact r.nx
  · exact r.pin
end
end Go.Pv
