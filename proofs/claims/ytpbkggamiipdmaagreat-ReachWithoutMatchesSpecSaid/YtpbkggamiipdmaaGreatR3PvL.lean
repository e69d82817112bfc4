/- The framework of walks over abstract values (own text), part L. -/
import Derived.Test.YtpbkggamiipdmaaGreatR3PvJ
namespace Go.Pv
open Go
section
variable {K : Ctx} {Q : Post} {S S' : St} {ops : Array Oper} {rest : List Oper} {op : Op} {ty : TypeId} {pos : String} {after : Array Edge} {g : Option (Nat × Bool)}
variable {m : Mem} {β : Locs} {w : World} {a : Act}
theorem fold_set (off : Nat) : ∀ (l : List Value) (s : Nat) (cells : Array Value), off + s + l.length ≤ cells.size →
    ((l.zipIdx s).foldl (fun (cs : Array Value) (x : Value × Nat) => cs.setIfInBounds (off + x.2) x.1) cells).size = cells.size ∧
    ∀ p, ((l.zipIdx s).foldl (fun (cs : Array Value) (x : Value × Nat) => cs.setIfInBounds (off + x.2) x.1) cells)[p]? = if off + s ≤ p ∧ p < off + s + l.length then l[p - (off + s)]? else cells[p]?
  | [], s, cells, _ => by
    refine ⟨rfl, fun p => ?_⟩
    rw [if_neg]
    · simp
    · simp only [List.length_nil]; omega
  | v :: l, s, cells, h => by
    simp only [List.length_cons] at h
    obtain ⟨h1, h2⟩ := fold_set off l (s + 1) (cells.setIfInBounds (off + s) v) (by simp; omega)
    simp only [List.zipIdx_cons, List.foldl_cons]
    refine ⟨by rw [h1]; simp, fun p => ?_⟩
    rw [h2]
    simp only [List.length_cons, Array.getElem?_setIfInBounds]
    by_cases hp : p = off + s
    · subst hp
      rw [if_neg (by omega), if_pos rfl, if_pos (by omega), if_pos (by omega)]
      simp
    · by_cases hp2 : off + s ≤ p ∧ p < off + s + (l.length + 1)
      · rw [if_pos (by omega), if_pos hp2]
        have : p - (off + s) = (p - (off + (s + 1))) + 1 := by omega
        rw [this, List.getElem?_cons_succ]
      · rw [if_neg (by omega), if_neg (Ne.symm hp), if_neg hp2]
/-- Parts laid into cells. -/
def fillV (pl : Nat → Option (Nat × Nat)) : List V → List (Nat × V) → Option (List V)
  | cs, [] => some cs
  | cs, (i, v) :: rest =>
    match pl i with
    | none => none
    | some (off, size) => bif Nat.beq (vcells v).length size && Nat.ble (off + (vcells v).length) cs.length && (vcells v).all oneV then fillV pl (cs.take off ++ vcells v ++ cs.drop (off + (vcells v).length)) rest else none
/-- Cells, one by one. -/
def Cells (m : Mem) (β : Locs) (cs : List V) (vs : Array Value) : Prop :=
  cs.length = vs.size ∧ ∀ (i : Nat) (c : V) (u : Value), cs[i]? = some c → vs[i]? = some u → VRel m β c u ∧ u.oneCell' = true
theorem fill_rel {pl : Nat → Option (Nat × Nat)} : ∀ (parts : List (Nat × V)) (vals : List (Nat × Value)) (cs cs' : List V) (cells : Array Value), fillV pl cs parts = some cs' → Cells m β cs cells →
    parts.length = vals.length → (∀ (i : Nat) (p : Nat × V) (q : Nat × Value), parts[i]? = some p → vals[i]? = some q → p.1 = q.1 ∧ VRel m β p.2 q.2) →
    ∃ cells', Instr.fill pl cells vals = some cells' ∧ Cells m β cs' cells'
  | [], [], cs, cs', cells, h, hc, _, _ => by
    simp only [fillV, Option.some.injEq] at h
    subst h
    exact ⟨cells, rfl, hc⟩
  | (i, v) :: parts, (i', u) :: vals, cs, cs', cells, h, hc, hl, hr => by
    obtain ⟨e1, e2⟩ := hr 0 _ _ rfl rfl
    simp only at e1 e2
    subst e1
    simp only [fillV] at h
    cases hp : pl i with
    | none => simp [hp] at h
    | some p =>
      obtain ⟨off, size⟩ := p
      simp only [hp, cond_eq_ite, Bool.and_eq_true] at h
      split at h
      · rename_i hcond
        obtain ⟨⟨q1, q2⟩, q3⟩ := hcond
        have q1 := Nat.eq_of_beq_eq_true q1
        have q2 := Nat.le_of_ble_eq_true q2
        obtain ⟨c1, c2, c3⟩ := e2.cells q3
        obtain ⟨f1, f2⟩ := fold_set off u.cells.toList 0 cells (by simp only [Nat.add_zero, Array.length_toList, ← c1, ← hc.1]; exact q2)
        simp only [Nat.add_zero, Array.length_toList] at f2
        obtain ⟨cells', g1, g2⟩ := fill_rel parts vals _ cs' ((u.cells.toList.zipIdx 0).foldl (fun (cs : Array Value) (x : Value × Nat) => cs.setIfInBounds (off + x.2) x.1) cells) h (by
          refine ⟨by rw [f1]; simp only [List.length_append, List.length_take, List.length_drop, ← hc.1]; omega, fun j c x hj hx => ?_⟩
          rw [splice_get _ _ _ q2] at hj
          rw [f2] at hx
          by_cases hjj : off ≤ j ∧ j < off + (vcells v).length
          · rw [if_pos hjj] at hj
            rw [if_pos (by rw [← c1]; exact hjj)] at hx
            have hx' : u.cells[j - off]? = some x := by simpa using hx
            exact ⟨c2 _ _ _ hj hx', c3 x (by have := Array.mem_of_getElem? hx'; simpa using this)⟩
          · rw [if_neg hjj] at hj
            rw [if_neg (by rw [← c1]; exact hjj)] at hx
            exact hc.2 j c x hj hx) (by simpa using hl) (fun i p q h1 h2 => hr (i + 1) p q (by simpa using h1) (by simpa using h2))
        refine ⟨cells', ?_, g2⟩
        unfold Instr.fill
        simp only [hp]
        rw [if_neg]
        · rw [← g1]
          congr 1
          rw [← Array.foldl_toList, Array.toList_zipIdx]
        · simp only [ne_eq, Bool.or_eq_true, decide_eq_true_eq, not_or, Decidable.not_not, Nat.not_lt]
          exact ⟨by rw [← c1]; exact q1, by rw [← c1, ← hc.1]; exact q2⟩
      · simp at h
  | [], q :: vals, _, _, _, _, _, hl, _ => by simp at hl
  | p :: parts, [], _, _, _, _, _, hl, _ => by simp at hl
def tyPlaces (P : Program) (T : TypeId) : Option (List (Nat × Nat)) :=
  match P.underlying T with
  | some (.struct fs) => fs.toList.mapM fun f => (P.info? f.type).map fun i => (f.offset, i.size)
  | _ => none
theorem parts_rel (r : Rel K m β w a S) (parts : Array (Nat × Operand)) (ps : List (Nat × V)) (h : parts.toList.map (fun p => (p.1, evl K S p.2)) = ps) :
    ps.length = (parts.map fun (i, x) => (i, a.eval x)).toList.length ∧
    ∀ (i : Nat) (p : Nat × V) (q : Nat × Value), ps[i]? = some p → (parts.map fun (i, x) => (i, a.eval x)).toList[i]? = some q → p.1 = q.1 ∧ VRel m β p.2 q.2 := by
  subst h
  refine ⟨by simp, fun i p q h1 h2 => ?_⟩
  simp only [Array.toList_map, List.getElem?_map] at h1 h2
  cases hx : parts.toList[i]? with
  | none => simp [hx] at h1
  | some x =>
    simp [hx] at h1 h2
    subst h1; subst h2
    exact ⟨rfl, r.reads x.2⟩
theorem zero_cells {zs : List Value} (h1 : zs.all (·.oneCell') = true) (m : Mem) (β : Locs) : Cells m β (zs.map .con) zs.toArray := by
  refine ⟨by simp, fun i c u hc hu => ?_⟩
  simp only [List.getElem?_map, List.getElem?_toArray] at hc hu
  rw [hu] at hc
  simp at hc; subst hc
  exact ⟨.imm (.con u), List.all_eq_true.1 h1 u (List.mem_of_getElem? hu)⟩
theorem aops_build {d : Nat} {T : TypeId} {parts : Array (Nat × Operand)} {zs : List Value} {pls : List (Nat × Nat)} (ps : List (Nat × V)) (cs : List V) (hz : zeroCells K.P T = some zs) (hp : tyPlaces K.P T = some pls)
    (h1 : zs.all (·.oneCell') = true) (hw : Wants ops S ⟨some d, .build T parts, ty, pos, after, g⟩ true)
    (hps : parts.toList.map (fun p => (p.1, evl K S p.2)) = ps) (hf : fillV (fun i => pls[i]?) (zs.map .con) ps = some cs) (hN : Nat.blt d K.N = true)
    (kk : AOps K ops rest Q (S.put d (.agg cs))) : AOps K ops (⟨some d, .build T parts, ty, pos, after, g⟩ :: rest) Q S :=
  aops_val _ hw hN (fun m β w a r => by
    obtain ⟨hl, hr⟩ := parts_rel r parts ps hps
    obtain ⟨cells', f1, f2⟩ := fill_rel ps _ _ cs zs.toArray hf (zero_cells h1 m β) hl hr
    have hb : K.P.built T (parts.map fun (i, x) => (i, a.eval x)).toList = some cells' := by
      unfold zeroCells at hz
      unfold tyPlaces at hp
      cases hi : K.P.info? T with
      | none => simp [hi] at hz
      | some i =>
        cases hzz : i.zero with
        | none => simp [hi, hzz] at hz
        | some z =>
          simp [hi, hzz] at hz
          cases hu : K.P.underlying T with
          | none => simp [hu] at hp
          | some dd =>
            cases dd <;> simp only [hu, reduceCtorEq] at hp
            rename_i fs
            simp only [Program.built, hi, hu, hzz, hp]
            rw [← f1, ← hz]
            simp
    refine ⟨.agg cells', by simp only [execOp]; exact run_value (run_build w T _ cells' hb), .agg f2.1 fun i c v hc hv => (f2.2 i c v hc hv).1⟩) kk
/-- The rows of cells that lie one behind the other. -/
def flat : List (List V) → List V
  | [] => []
  | r :: rs => r ++ flat rs
theorem flat_length {k : Nat} : ∀ (rows : List (List V)), (∀ row, row ∈ rows → row.length = k) → (flat rows).length = rows.length * k
  | [], _ => by simp [flat]
  | r :: rs, h => by
    simp only [flat, List.length_append, List.length_cons, Nat.add_mul, Nat.one_mul, h r (by simp), flat_length rs (fun row hr => h row (by simp [hr]))]
    omega
theorem flat_get {k : Nat} : ∀ (rows : List (List V)), (∀ row, row ∈ rows → row.length = k) → ∀ (i j : Nat) row c, rows[i]? = some row → row[j]? = some c → (flat rows)[i * k + j]? = some c
  | [], _, i, j, row, c, hi, _ => by simp at hi
  | r :: rs, h, i, j, row, c, hi, hj => by
    simp only [flat]
    have hrk := h r (by simp)
    have hj1 := (List.getElem?_eq_some_iff.1 hj).1
    cases i with
    | zero =>
      simp at hi; subst hi
      rw [List.getElem?_append_left (by omega)]
      simpa using hj
    | succ i =>
      simp at hi
      rw [List.getElem?_append_right (by rw [hrk, Nat.add_mul, Nat.one_mul]; omega)]
      have : (i + 1) * k + j - r.length = i * k + j := by rw [hrk, Nat.add_mul, Nat.one_mul]; omega
      rw [this]
      exact flat_get rs (fun row hr => h row (by simp [hr])) i j row c hi hj
theorem aops_buildSlice {d T e k bytes n : Nat} {parts : Array (Nat × Operand)} {zs : List Value} (ps : List (Nat × V)) (rows : List (List V)) (hT : tyEl K.P T e k bytes = true) (hz : zeroCells K.P e = some zs)
    (h1 : zs.all (·.oneCell') = true) (hk : Nat.blt 0 k = true) (hnn : Nat.blt 0 n = true) (hbig : Nat.ble (n * k) 16777216 = true) (hw : Wants ops S ⟨some d, .buildSlice T n parts, ty, pos, after, g⟩ true)
    (hps : parts.toList.map (fun p => (p.1, evl K S p.2)) = ps) (hf : fillV (fun i => some (i * k, k)) (((List.range (n * k)).map fun i => zs.getD (i % k) undef).map .con) ps = some (flat rows))
    (hrl : rows.length = n) (hrk : ∀ row, row ∈ rows → row.length = k) (hN : Nat.blt d K.N = true)
    (kk : AOps K ops rest Q ⟨(d, .own S.nx n) :: S.env, (S.nx, .arr e k rows) :: S.hp, S.nx + 1⟩) :
    AOps K ops (⟨some d, .buildSlice T n parts, ty, pos, after, g⟩ :: rest) Q S := by
  refine aops_runs hw (fun m β w a r => ?_) kk
  have hk := Nat.le_of_ble_eq_true hk
  have hnn := Nat.le_of_ble_eq_true hnn
  have hbig := Nat.le_of_ble_eq_true hbig
  obtain ⟨hl, hr⟩ := parts_rel r parts ps hps
  obtain ⟨i, z, hu, hi, hs, hby, hzz, hzk⟩ := tyEl_inv hT
  obtain ⟨z', hz1, hz2⟩ := zero_run hz w
  have hzl : zs.length = k := by
    have : zeroCells K.P e = some z.cells.toList := by simp [zeroCells, hi, hzz]
    rw [hz] at this; simp only [Option.some.injEq] at this; rw [this]; simp [hzk]
  have hkk : K.P.cellsOf e = k := by simp [Program.cellsOf, hi, hs]
  have hrows : 0 < n * k := Nat.mul_pos hnn hk
  have hall : ∀ v, v ∈ zs → v.oneCell' = true := fun v hv => List.all_eq_true.1 h1 v hv
  have hzc : (Array.range (n * k)).map (fun x => (z'.cells)[x % z'.cells.size]!) = (((List.range (n * k)).map fun i => zs.getD (i % k) undef)).toArray := by
    apply Array.ext'
    simp only [Array.toList_map, Array.toList_range, hz2, List.size_toArray, hzl]
    apply List.map_congr_left
    intro x _
    have : x % k < zs.length := by rw [hzl]; exact Nat.mod_lt _ hk
    simp [this]
  obtain ⟨cells', f1, f2⟩ := fill_rel ps _ _ (flat rows) (((List.range (n * k)).map fun i => zs.getD (i % k) undef)).toArray hf (zero_cells (by
    rw [List.all_eq_true]
    intro v hv
    simp only [List.mem_map, List.mem_range] at hv
    obtain ⟨p, _, rfl⟩ := hv
    have : p % k < zs.length := by rw [hzl]; exact Nat.mod_lt _ hk
    simp only [List.getD_eq_getElem?_getD, List.getElem?_eq_getElem this, Option.getD_some]
    exact hall _ (List.getElem_mem _)) m β) hl hr
  have hsize : cells'.size = n * k := by rw [← f2.1, flat_length rows hrk, hrl]
  obtain ⟨β', hle, hnx, r2⟩ := r.alloc (.cells cells' e (0, 0)) (.arr e k rows) ⟨n, 0⟩ _ rfl (fun β' hle => by
    refine obok_new0 (vs := cells') (by simp) hsize (by omega) (by unfold maxLen; have := Nat.le_mul_of_pos_right n hk; omega) hrk ?_
    intro i j row c hi hj
    have hg := flat_get rows hrk i j row c hi hj
    have hlt : i * k + j < cells'.size := by rw [← f2.1]; exact (List.getElem?_eq_some_iff.1 hg).1
    obtain ⟨a1, a2⟩ := f2.2 _ c cells'[i * k + j] hg (by simp [hlt])
    exact ⟨cells'[i * k + j], by simp [hlt], a1.mono (Mem.le_refl _) hle, a2⟩)
  refine ⟨.slice (some ⟨w.heap.size, 0, none⟩) n n, { w with heap := w.heap.push (.cells cells' e (0, 0)) }, m, β', .inl ?_, Rel.put r2 hN (.own hnx)⟩
  simp only [execOp]
  rw [Sem.run_bind]
  have : (Instr.buildSlice T n (parts.map fun (i, x) => (i, a.eval x))).run K.P w = .ok (.slice (some ⟨w.heap.size, 0, none⟩) n n) { w with heap := w.heap.push (.cells cells' e (0, 0)) } := by
    simp only [Instr.buildSlice, Sem.run_bind, run_underlying hu, Result.andThen_ok, run_sizeOf w hi, hkk]
    rw [if_neg (by omega), if_neg (by omega)]
    simp only [Sem.run_bind, hz1, Result.andThen_ok, pure, Sem.run, hzc, f1, newRow, newObj]
  rw [this]
  rfl
theorem aops_makeFunc {d f : Nat} {captured : Array Operand} (cs : List V) (hw : Wants ops S ⟨some d, .makeFunc (.func f) #[] captured, ty, pos, after, g⟩ true)
    (hc : captured.toList.map (evl K S) = cs) (hN : Nat.blt d K.N = true) (kk : AOps K ops rest Q (S.put d (.fn (.func f) [] cs))) :
    AOps K ops (⟨some d, .makeFunc (.func f) #[] captured, ty, pos, after, g⟩ :: rest) Q S :=
  aops_val _ hw hN (fun m β w a r => by
    refine ⟨.func (.func f) #[] (captured.map a.eval), by simp only [execOp]; exact run_value (by simp [Instr.makeFunc, pure]), .fn rfl (by simp [← hc]) (by simp) fun i c v h1 h2 => ?_⟩
    rw [← hc, List.getElem?_map] at h1
    rw [Array.getElem?_map] at h2
    cases hx : captured[i]? with
    | none => simp [hx] at h2
    | some x =>
      simp [hx] at h1 h2
      subst h1; subst h2
      exact r.reads x) kk
/-- What does not lie in memory. -/
inductive Flat : V → Prop
  | con (v : Value) : Flat (.con v)
  | any : Flat .any
  | tup {ds : List V} (h : ∀ d, d ∈ ds → ∃ v, d = .con v) : Flat (.tup ds)
theorem Flat.free {d : V} (h : Flat d) {m m' : Mem} {v : Value} (hv : IRel m d v) : IRel m' d v := by
  cases h with
  | con => cases hv; exact .con _
  | any => exact .any _
  | tup h =>
    cases hv with
    | tup hl hh =>
      refine .tup hl fun i c v hi hv => ?_
      obtain ⟨u, rfl⟩ := h c (List.mem_of_getElem? hi)
      have := hh i _ v hi hv
      cases this; exact .con _
end
end Go.Pv
