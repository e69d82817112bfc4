/- The framework of walks over abstract values (own text), part D. -/
import Derived.Test.YtihfhmibfhkoeaaDoorHPvC
namespace Go.Pv
open Go
section
variable {K : Ctx} {Q : Post} {S : St} {ops : Array Oper} {rest : List Oper} {op : Op} {ty : TypeId} {pos : String} {after : Array Edge} {g : Option (Nat × Bool)}
variable {m : Mem} {β : Locs} {w : World} {a : Act}
theorem cell_of_heap {w : World} {b o : Nat} {arr : Array Value} {T : TypeId} {fr : Nat × Nat} (h : w.heap[b]? = some (.cells arr T fr)) :
    w.cell? ⟨b, o, none⟩ = arr[o]? := by simp [World.cell?, h]
theorem run_load_agg {P : Program} {w : World} {T : TypeId} {n b o : Nat} (f : Nat → Value) (hT : tyA P T n = true) (h : ∀ j, j < n → w.cell? ⟨b, o + j, none⟩ = some (f j)) :
    (Instr.loadAt T (.pointer (some ⟨b, o, none⟩))).run P w = .ok (.agg ((List.range n).map f).toArray) w := by
  have h1 := tyA_run hT w
  have h2 := run_loadCells (P := P) w ⟨b, o, none⟩ n f (fun j hj => by rw [add_spot]; exact h j hj)
  simp only [Instr.loadAt, Instr.sureAddr, pure, Sem.run_bind, Sem.run, Result.andThen_ok, loadVar, h1.1, h1.2, if_true, h2]
theorem run_load_cell {P : Program} {w : World} {T : TypeId} {b o : Nat} {v : Value} (hT : tyC P T = true) (h : w.cell? ⟨b, o, none⟩ = some v) :
    (Instr.loadAt T (.pointer (some ⟨b, o, none⟩))).run P w = .ok v w := by
  have h1 := tyC_run hT w
  simp only [Instr.loadAt, Instr.sureAddr, pure, Sem.run_bind, Sem.run, Result.andThen_ok, loadVar, h1.1]
  simp [load, Sem.run, h]
theorem VRel.ptr_inv {id k i off : Nat} {v : Value} (h : VRel m β (.ptr id k i off) v) : ∃ b cap, β id = some (some (b, cap)) ∧ v = .pointer (some ⟨b, i * k + off, none⟩) := by
  cases h with
  | imm h => cases h
  | ptr h => exact ⟨_, _, h, rfl⟩
theorem VRel.iptr_inv {row : List V} {off : Nat} {v : Value} (h : VRel m β (.iptr row off) v) : ∃ (a : Addr) (arr : Array Value) (T : TypeId) (fr : Nat × Nat) (f : Nat → Value) (base : Nat),
    v = .pointer (some a) ∧ m a.block = some (.cells arr T fr) ∧ a.spot = none ∧ a.off = base + off ∧ (∀ i, i < row.length → arr[base + i]? = some (f i)) ∧ ∀ (j : Nat) (c : V), row[j]? = some c → IRel m c (f j) := by
  cases h with
  | imm h => cases h with | iptr f base h1 h2 h3 h4 h5 => exact ⟨_, _, _, _, f, base, rfl, h1, h2, h3, h4, h5⟩
theorem addr_eta {a : Addr} (h : a.spot = none) : a = ⟨a.block, a.off, none⟩ := by cases a; simp_all
theorem Rel.obj (r : Rel K m β w a S) {id b cap k : Nat} {e : TypeId} {rows : List (List V)} (hb : β id = some (some (b, cap))) (ho : hget S.hp id = .arr e k rows) :
    ∃ arr, w.heap[b]? = some (.cells arr e (0, 0)) ∧ arr.size = cap * k ∧ rows.length ≤ cap ∧ cap ≤ maxLen ∧ (∀ row, row ∈ rows → row.length = k) ∧
      ∀ (i j : Nat) (row : List V) (c : V), rows[i]? = some row → row[j]? = some c → ∃ v, arr[i * k + j]? = some v ∧ VRel m β c v ∧ v.oneCell' = true := by
  have h := r.own id
  rw [hb, ho] at h
  exact h
theorem aops_load_agg {d n id k i o : Nat} {x : Operand} {T e : TypeId} {rows : List (List V)} {row cs : List V} (hT : tyA K.P T n = true)
    (hw : Wants ops S ⟨some d, .load T x, ty, pos, after, g⟩ true) (hx : evl K S x = .ptr id k i o) (ho : hget S.hp id = .arr e k rows) (hr : rows[i]? = some row)
    (hc : (row.drop o).take n = cs) (hn : cs.length = n) (hN : Nat.blt d K.N = true) (kk : AOps K ops rest Q (S.put d (.agg cs))) :
    AOps K ops (⟨some d, .load T x, ty, pos, after, g⟩ :: rest) Q S :=
  aops_val _ hw hN (fun m β w a r => by
    have h := r.reads x
    rw [hx] at h
    obtain ⟨b, cap, hb, hv⟩ := h.ptr_inv
    obtain ⟨arr, h1, h2, h3, h4, h5, h6⟩ := r.obj hb ho
    have hcell : ∀ j c, cs[j]? = some c → ∃ v, arr[i * k + o + j]? = some v ∧ VRel m β c v := by
      intro j c hj
      rw [← hc, List.getElem?_take] at hj
      split at hj
      · rw [List.getElem?_drop] at hj
        obtain ⟨v, a1, a2, _⟩ := h6 i (o + j) row c hr hj
        exact ⟨v, by rw [Nat.add_assoc]; exact a1, a2⟩
      · simp at hj
    have hrun := run_load_agg (P := K.P) (w := w) (b := b) (o := i * k + o) (fun j => arr.getD (i * k + o + j) undef) hT (fun j hj => by
      rw [cell_of_heap h1]
      obtain ⟨v, a1, _⟩ := hcell j cs[j] (by simp [hn, hj])
      rw [a1]; simp [Array.getD_eq_getD_getElem?, a1])
    refine ⟨_, by simp only [execOp, hv]; exact run_value hrun, ?_⟩
    · refine .agg (by simp [hn]) (fun j c v hj hv => ?_)
      obtain ⟨v', a1, a2⟩ := hcell j c hj
      simp only [List.getElem?_toArray, List.getElem?_map] at hv
      have hj' : j < n := by rw [← hn]; exact (List.getElem?_eq_some_iff.1 hj).1
      rw [List.getElem?_range hj'] at hv
      simp only [Option.map_some, Option.some.injEq] at hv
      rw [← hv]
      simp [Array.getD_eq_getD_getElem?, a1]; exact a2) kk
theorem aops_load_cell {d id k i o : Nat} {x : Operand} {T e : TypeId} {rows : List (List V)} {row : List V} (c : V) (hT : tyC K.P T = true)
    (hw : Wants ops S ⟨some d, .load T x, ty, pos, after, g⟩ true) (hx : evl K S x = .ptr id k i o) (ho : hget S.hp id = .arr e k rows) (hr : rows[i]? = some row)
    (hc : row[o]? = some c) (hN : Nat.blt d K.N = true) (kk : AOps K ops rest Q (S.put d c)) :
    AOps K ops (⟨some d, .load T x, ty, pos, after, g⟩ :: rest) Q S :=
  aops_val _ hw hN (fun m β w a r => by
    have h := r.reads x
    rw [hx] at h
    obtain ⟨b, cap, hb, hv⟩ := h.ptr_inv
    obtain ⟨arr, h1, h2, h3, h4, h5, h6⟩ := r.obj hb ho
    obtain ⟨v, a1, a2, _⟩ := h6 i o row c hr hc
    exact ⟨v, by simp only [execOp, hv]; exact run_value (run_load_cell hT (by rw [cell_of_heap h1]; exact a1)), a2⟩) kk
theorem aops_iload_agg {d n o : Nat} {x : Operand} {T : TypeId} {row cs : List V} (hT : tyA K.P T n = true)
    (hw : Wants ops S ⟨some d, .load T x, ty, pos, after, g⟩ true) (hx : evl K S x = .iptr row o)
    (hc : (row.drop o).take n = cs) (hn : cs.length = n) (hN : Nat.blt d K.N = true) (kk : AOps K ops rest Q (S.put d (.agg cs))) :
    AOps K ops (⟨some d, .load T x, ty, pos, after, g⟩ :: rest) Q S :=
  aops_val _ hw hN (fun m β w a r => by
    have h := r.reads x
    rw [hx] at h
    obtain ⟨ad, arr, T', fr, f, base, hv, h1, h2, h3, h4, h5⟩ := h.iptr_inv
    have hh := r.imm _ _ h1
    have hcell : ∀ j c, cs[j]? = some c → arr[base + o + j]? = some (f (o + j)) ∧ IRel m c (f (o + j)) := by
      intro j c hj
      rw [← hc, List.getElem?_take] at hj
      split at hj
      · rw [List.getElem?_drop] at hj
        exact ⟨by rw [Nat.add_assoc]; exact h4 _ (List.getElem?_eq_some_iff.1 hj).1, h5 _ _ hj⟩
      · simp at hj
    have hrun := run_load_agg (P := K.P) (w := w) (b := ad.block) (o := ad.off) (fun j => f (o + j)) hT (fun j hj => by
      rw [cell_of_heap hh, h3]
      exact (hcell j cs[j] (by simp [hn, hj])).1)
    refine ⟨_, by simp only [execOp, hv]; rw [addr_eta h2]; exact run_value hrun, ?_⟩
    · refine .agg (by simp [hn]) (fun j c v hj hv => ?_)
      obtain ⟨a1, a2⟩ := hcell j c hj
      simp only [List.getElem?_toArray, List.getElem?_map] at hv
      have hj' : j < n := by rw [← hn]; exact (List.getElem?_eq_some_iff.1 hj).1
      rw [List.getElem?_range hj'] at hv
      simp only [Option.map_some, Option.some.injEq] at hv
      rw [← hv]
      exact .imm a2) kk
theorem aops_iload_cell {d o : Nat} {x : Operand} {T : TypeId} {row : List V} (c : V) (hT : tyC K.P T = true)
    (hw : Wants ops S ⟨some d, .load T x, ty, pos, after, g⟩ true) (hx : evl K S x = .iptr row o)
    (hc : row[o]? = some c) (hN : Nat.blt d K.N = true) (kk : AOps K ops rest Q (S.put d c)) :
    AOps K ops (⟨some d, .load T x, ty, pos, after, g⟩ :: rest) Q S :=
  aops_val _ hw hN (fun m β w a r => by
    have h := r.reads x
    rw [hx] at h
    obtain ⟨ad, arr, T', fr, f, base, hv, h1, h2, h3, h4, h5⟩ := h.iptr_inv
    have hh := r.imm _ _ h1
    refine ⟨f o, by simp only [execOp, hv]; rw [addr_eta h2]; exact run_value (run_load_cell hT (by rw [cell_of_heap hh, h3]; exact h4 _ (List.getElem?_eq_some_iff.1 hc).1)), .imm (h5 _ _ hc)⟩) kk
theorem aops_fieldAddr {d id k i o f off : Nat} {x : Operand} {T : TypeId} (hF : tyF K.P T f off = true)
    (hw : Wants ops S ⟨some d, .fieldAddr T x f, ty, pos, after, g⟩ true) (hx : evl K S x = .ptr id k i o) (hN : Nat.blt d K.N = true)
    (kk : AOps K ops rest Q (S.put d (.ptr id k i (o + off)))) : AOps K ops (⟨some d, .fieldAddr T x f, ty, pos, after, g⟩ :: rest) Q S :=
  aops_val _ hw hN (fun m β w a r => by
    have h := r.reads x
    rw [hx] at h
    obtain ⟨b, cap, hb, hv⟩ := h.ptr_inv
    exact ⟨_, by simp only [execOp, hv]; exact run_value (tyF_run hF w b _), by rw [Nat.add_assoc]; exact .ptr hb⟩) kk
theorem aops_ifieldAddr {d o f off : Nat} {row : List V} {x : Operand} {T : TypeId} (hF : tyF K.P T f off = true)
    (hw : Wants ops S ⟨some d, .fieldAddr T x f, ty, pos, after, g⟩ true) (hx : evl K S x = .iptr row o) (hN : Nat.blt d K.N = true)
    (kk : AOps K ops rest Q (S.put d (.iptr row (o + off)))) : AOps K ops (⟨some d, .fieldAddr T x f, ty, pos, after, g⟩ :: rest) Q S :=
  aops_val _ hw hN (fun m β w a r => by
    have h := r.reads x
    rw [hx] at h
    obtain ⟨ad, arr, T', fr, f, base, hv, h1, h2, h3, h4, h5⟩ := h.iptr_inv
    exact ⟨.pointer (some ⟨ad.block, ad.off + off, none⟩), by simp only [execOp, hv]; rw [addr_eta h2]; exact run_value (tyF_run hF w _ _),
      .imm (.iptr (a := ⟨ad.block, ad.off + off, none⟩) f base h1 rfl (by simp [h3, Nat.add_assoc]) h4 h5)⟩) kk
def oneV : V → Bool
  | .con v => v.oneCell'
  | .any | .agg _ | .tup _ => false
  | _ => true
theorem VRel.one {c : V} {v : Value} (h : VRel m β c v) (hc : oneV c = true) : v.oneCell' = true := by
  cases h with
  | imm h => cases h <;> first | exact hc | rfl | simp [oneV] at hc
  | _ => first | rfl | simp [oneV] at hc
def vcells : V → List V
  | .agg cs => cs
  | v => [v]
theorem VRel.cells {d : V} {v : Value} (h : VRel m β d v) (hd : (vcells d).all oneV = true) : (vcells d).length = v.cells.size ∧ (∀ (i : Nat) c u, (vcells d)[i]? = some c → v.cells[i]? = some u → VRel m β c u) ∧ ∀ u, u ∈ v.cells.toList → u.oneCell' = true := by
  have key : (vcells d).length = v.cells.size ∧ (∀ (i : Nat) c u, (vcells d)[i]? = some c → v.cells[i]? = some u → VRel m β c u) := by
    cases d with
    | agg cs =>
      cases h with
      | imm h => cases h with | agg hl h => exact ⟨hl, fun i c u a b => .imm (h i c u a b)⟩
      | agg hl h => exact ⟨hl, h⟩
    | any => simp [vcells, oneV] at hd
    | tup cs => simp [vcells, oneV] at hd
    | _ =>
      have h1 := h.one (by simpa [vcells] using hd)
      have h2 : v.cells = #[v] := by cases v <;> simp [Value.cells] <;> simp [Value.oneCell'] at h1
      rw [h2]
      refine ⟨rfl, fun i c u a b => ?_⟩
      cases i with
      | zero => simp [vcells] at a b; subst a; subst b; exact h
      | succ i => simp [vcells] at a
  refine ⟨key.1, key.2, fun u hu => ?_⟩
  obtain ⟨i, hi, rfl⟩ := List.getElem_of_mem hu
  have hi' : i < (vcells d).length := by rw [key.1]; simpa using hi
  have hall := List.all_eq_true.1 hd (vcells d)[i] (List.getElem_mem _)
  exact (key.2 i _ _ (List.getElem?_eq_getElem hi') (by simp)).one hall
theorem Rel.alloc (r : Rel K m β w a S) (o : Obj) (ob : Ob) (cap : Nat) (w' : World) (hw' : w' = { w with heap := w.heap.push o })
    (hok : ∀ β', β.le β' → ObOk m β' w' (some (some (w.heap.size, cap))) ob) :
    ∃ β', β.le β' ∧ β' S.nx = some (some (w.heap.size, cap)) ∧ Rel K m β' w' a ⟨S.env, (S.nx, ob) :: S.hp, S.nx + 1⟩ := by
  let β' : Locs := fun i => if i = S.nx then some (some (w.heap.size, cap)) else β i
  have hle : β.le β' := by
    intro i l h
    show (if i = S.nx then _ else _) = _
    rw [if_neg]
    · exact h
    · intro e; rw [e, r.nx _ (Nat.le_refl _)] at h; simp at h
  have hheap : ∀ (b : Nat) (o' : Obj), w.heap[b]? = some o' → w'.heap[b]? = some o' := by
    intro b o' h
    have := lt_of_some h
    rw [hw']; simp only [Array.getElem?_push]; rw [if_neg (by omega)]; exact h
  refine ⟨β', hle, by simp [β'], ?_⟩
  constructor
  · exact fun b o' h => hheap _ _ (r.imm b o' h)
  · exact r.ext
  · exact r.mold
  · intro b hb ho
    have h1 := r.frame b hb ho
    have h2 : b < w.heap.size := Nat.lt_of_lt_of_le hb r.size
    rw [hw']; simp only [Array.getElem?_push]; rw [if_neg (by omega)]; exact h1
  · rw [hw']; simp only [Array.size_push]; have := r.size; omega
  · rw [hw']; exact ⟨r.same.os, r.same.tape, r.same.output⟩
  · exact r.tn
  · exact r.df
  · exact fun t => (r.env t).mono (Mem.le_refl _) hle
  · intro id
    simp only [hget_put]
    by_cases h : S.nx = id
    · subst h; rw [if_pos rfl]; simp only [β', if_true]; exact hok β' hle
    · rw [if_neg h]
      have : β' id = β id := by simp [β', Ne.symm h]
      rw [this]; exact ObOk.mono (Mem.le_refl _) hle hheap (r.own id)
  · intro id b c hl hb
    simp only [hget_put] at hl
    by_cases h : S.nx = id
    · subst h
      simp only [β', if_true, Option.some.injEq, Prod.mk.injEq] at hb
      obtain ⟨rfl, _⟩ := hb
      constructor
      · cases hm : m w.heap.size with
        | none => rfl
        | some o' => have := lt_of_some (r.imm _ _ hm); omega
      · intro hlt; have := r.size; omega
    · rw [if_neg h] at hl
      have : β' id = β id := by simp [β', Ne.symm h]
      rw [this] at hb
      exact r.priv id b c hl hb
  · intro id id' b c c' hl hl' hb hb'
    simp only [hget_put] at hl hl'
    by_cases h : S.nx = id <;> by_cases h' : S.nx = id'
    · rw [← h, ← h']
    · exfalso
      rw [if_neg h'] at hl'
      have e2 : β' id' = β id' := by simp [β', Ne.symm h']
      rw [e2] at hb'
      have := live_lt hl' hb' (r.own id')
      subst h; simp only [β', if_true, Option.some.injEq, Prod.mk.injEq] at hb
      omega
    · exfalso
      rw [if_neg h] at hl
      have e2 : β' id = β id := by simp [β', Ne.symm h]
      rw [e2] at hb
      have := live_lt hl hb (r.own id)
      subst h'; simp only [β', if_true, Option.some.injEq, Prod.mk.injEq] at hb'
      omega
    · rw [if_neg h] at hl; rw [if_neg h'] at hl'
      have e1 : β' id = β id := by simp [β', Ne.symm h]
      have e2 : β' id' = β id' := by simp [β', Ne.symm h']
      rw [e1] at hb; rw [e2] at hb'
      exact r.inj id id' b c c' hl hl' hb hb'
  · intro id hid
    show (if id = S.nx then _ else _) = _
    have hid' : S.nx + 1 ≤ id := hid
    rw [if_neg (by omega)]
    exact r.nx id (by omega)
  · intro q hq
    obtain ⟨h1, h2⟩ := r.pin q hq
    exact ⟨Nat.lt_succ_of_lt h1, by rw [← h2]; exact if_neg (by omega)⟩
theorem ObOk.congr {w w' : World} {l : Option (Option (Nat × Nat))} {ob : Ob} (hw : ∀ b cap, l = some (some (b, cap)) → w'.heap[b]? = w.heap[b]?) (h : ObOk m β w l ob) : ObOk m β w' l ob := by
  match l, ob, h with
  | none, .dead, _ | some none, .dead, _ | some (some (b, c)), .dead, _ => simp [ObOk]
  | none, .res, _ => trivial
  | some none, .res, h | some (some (b, c)), .res, h => exact absurd h (by simp [ObOk])
  | some none, .arr e k rows, h => exact h
  | some (some (b, cap)), .arr e k rows, h =>
    obtain ⟨arr, h1, h2⟩ := h
    exact ⟨arr, by rw [hw b cap rfl]; exact h1, h2⟩
  | some (some (b, cap)), .map es, h =>
    obtain ⟨ents, clock, h1, h2⟩ := h
    exact ⟨ents, clock, by rw [hw b cap rfl]; exact h1, h2⟩
  | none, .arr .., h | none, .map .., h | some none, .map .., h => exact absurd h (by simp [ObOk])
theorem ObOk.dead' (l : Option (Option (Nat × Nat))) : ObOk m β w l .dead := by
  match l with
  | none | some none | some (some (b, c)) => simp [ObOk]
theorem Rel.update (r : Rel K m β w a S) {id b cap : Nat} (hl : hget S.hp id ≠ .dead) (hb : β id = some (some (b, cap))) (w' : World) (ob : Ob)
    (hw : ∀ b', b' ≠ b → w'.heap[b']? = w.heap[b']?) (hs : w'.heap.size = w.heap.size) (hsame : Same w w')
    (hok : ObOk m β w' (some (some (b, cap))) ob) : Rel K m β w' a ⟨S.env, (id, ob) :: S.hp, S.nx⟩ := by
  have hp := r.priv id b cap hl hb
  constructor
  · intro b' o' h
    have : b' ≠ b := by intro e; subst e; rw [hp.1] at h; simp at h
    rw [hw _ this]; exact r.imm b' o' h
  · exact r.ext
  · exact r.mold
  · intro b' hb' ho
    have : b' ≠ b := by intro e; subst e; exact hp.2 hb' ho
    rw [hw _ this]; exact r.frame b' hb' ho
  · rw [hs]; exact r.size
  · exact r.same.trans hsame
  · exact r.tn
  · exact r.df
  · exact r.env
  · intro id'
    simp only [hget_put]
    by_cases h : id = id'
    · subst h; rw [if_pos rfl, hb]; exact hok
    · rw [if_neg h]
      by_cases hd : hget S.hp id' = .dead
      · rw [hd]; exact ObOk.dead' _
      · refine ObOk.congr (fun b' cap' hbi => hw b' fun e => h ?_) (r.own id')
        subst e
        exact r.inj id id' b' cap cap' hl hd hb hbi
  · intro id' b' c' hl' hb'
    simp only [hget_put] at hl'
    by_cases h : id = id'
    · subst h; exact r.priv _ _ _ hl hb'
    · rw [if_neg h] at hl'; exact r.priv _ _ _ hl' hb'
  · have live : ∀ i, hget ((id, ob) :: S.hp) i ≠ .dead → hget S.hp i ≠ .dead := by
      intro i hi
      rw [hget_put] at hi
      by_cases h : id = i
      · subst h; exact hl
      · rw [if_neg h] at hi; exact hi
    exact fun i i' b' c c' h1 h2 => r.inj i i' b' c c' (live i h1) (live i' h2)
  · exact r.nx
  · exact r.pin
end
end Go.Pv
