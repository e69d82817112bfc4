/- The framework of walks over abstract values (own text), part J. -/
import Derived.Test.YtpbkggamiipdmaaGreatR3PvI
namespace Go.Pv
open Go
section
variable {K : Ctx} {Q : Post} {S S' : St} {ops : Array Oper} {rest : List Oper} {op : Op} {ty : TypeId} {pos : String} {after : Array Edge} {g : Option (Nat × Bool)}
variable {m : Mem} {β : Locs} {w : World} {a : Act}
/-- What is appended. -/
inductive Src (S : St) (k : Nat) : V → List (List V) → Prop
  | own {id : Nat} {e : TypeId} {rows : List (List V)} {n : Nat} (ho : hget S.hp id = .arr e k rows) (hn : rows.length = n) (hd : ∀ row, row ∈ rows → ∀ c, c ∈ row → c.deep = false) : Src S k (.own id n) rows
  | lst {rows : List (List V)} (h : ∀ row, row ∈ rows → row.all oneV = true) : Src S k (.lst k rows) rows
  | nil : Src S k (.con (.slice none 0 0)) []
theorem row_index {k p n : Nat} (hk : 0 < k) (h : p < n * k) : p / k < n ∧ p % k < k ∧ p / k * k + p % k = p :=
  ⟨(Nat.div_lt_iff_lt_mul hk).2 h, Nat.mod_lt _ hk, Nat.div_add_mod' p k⟩
theorem Src.read {k : Nat} {sv : V} {rows : List (List V)} (hk : 0 < k) (h : Src S k sv rows) (r : Rel K m β w a S) {x : Value} (hx : VRel m β sv x) :
    ∃ news : List Value, (∀ w' : World, w'.heap = w.heap → (Builtin.lenOf x).run K.P w' = .ok rows.length w' ∧ (Builtin.firstCells k rows.length x).run K.P w' = .ok news.toArray w') ∧ news.length = rows.length * k ∧
      (∀ v, v ∈ news → v.oneCell' = true) ∧ (∀ row, row ∈ rows → row.length = k) ∧
      ∀ (i j : Nat) (row : List V) (c : V), rows[i]? = some row → row[j]? = some c → ∃ v, news[i * k + j]? = some v ∧ VRel m β c v ∧ v.oneCell' = true := by
  -- from cells to the list
  have mk : ∀ (ad : Addr) (n cap : Nat) (arr : Array Value) (T : TypeId) (fr : Nat × Nat) (f : Nat → Value), ad.spot = none → w.heap[ad.block]? = some (.cells arr T fr) → rows.length = n → (∀ row, row ∈ rows → row.length = k) →
      (∀ i, i < rows.length * k → arr[ad.off + i]? = some (f i)) →
      (∀ (i j : Nat) (row : List V) (c : V), rows[i]? = some row → row[j]? = some c → VRel m β c (f (i * k + j)) ∧ (f (i * k + j)).oneCell' = true) →
      ∃ news : List Value, (∀ w' : World, w'.heap = w.heap → (Builtin.lenOf (.slice (some ad) n cap)).run K.P w' = .ok rows.length w' ∧ (Builtin.firstCells k rows.length (.slice (some ad) n cap)).run K.P w' = .ok news.toArray w') ∧ news.length = rows.length * k ∧
      (∀ v, v ∈ news → v.oneCell' = true) ∧ (∀ row, row ∈ rows → row.length = k) ∧
      ∀ (i j : Nat) (row : List V) (c : V), rows[i]? = some row → row[j]? = some c → ∃ v, news[i * k + j]? = some v ∧ VRel m β c v ∧ v.oneCell' = true := by
    intro ad n cap arr T fr f hs hh hn hr hf hc
    subst hn
    refine ⟨(List.range (rows.length * k)).map f, fun w' hw' => ⟨rfl, ?_⟩, by simp, ?_, hr, ?_⟩
    · refine run_firstCells f fun j hj => ?_
      rw [addr_eta hs, add_spot, cell_of_heap (arr := arr) (T := T) (fr := fr) (by rw [hw']; exact hh)]
      exact hf j hj
    · intro v hv
      simp only [List.mem_map, List.mem_range] at hv
      obtain ⟨p, hp, rfl⟩ := hv
      obtain ⟨h1, h2, h3⟩ := row_index hk hp
      have hrow := hr _ (List.getElem_mem h1)
      have := (hc (p / k) (p % k) _ _ (List.getElem?_eq_getElem h1) (List.getElem?_eq_getElem (by rw [hrow]; exact h2))).2
      rw [h3] at this
      exact this
    · intro i j row c hi hj
      have hrow := hr _ (List.mem_of_getElem? hi)
      have hj' : j < k := by rw [← hrow]; exact (List.getElem?_eq_some_iff.1 hj).1
      have hi' := (List.getElem?_eq_some_iff.1 hi).1
      have hlt : i * k + j < rows.length * k := by
        calc i * k + j < i * k + k := by omega
          _ = (i + 1) * k := by rw [Nat.add_mul, Nat.one_mul]
          _ ≤ rows.length * k := Nat.mul_le_mul_right _ hi'
      exact ⟨f (i * k + j), by rw [List.getElem?_map, List.getElem?_range hlt]; rfl, hc i j row c hi hj⟩
  have empty : ∀ (ad : Option Addr) (cap : Nat), rows = [] → ∃ news : List Value, (∀ w' : World, w'.heap = w.heap → (Builtin.lenOf (.slice ad 0 cap)).run K.P w' = .ok rows.length w' ∧ (Builtin.firstCells k rows.length (.slice ad 0 cap)).run K.P w' = .ok news.toArray w') ∧ news.length = rows.length * k ∧
      (∀ v, v ∈ news → v.oneCell' = true) ∧ (∀ row, row ∈ rows → row.length = k) ∧
      ∀ (i j : Nat) (row : List V) (c : V), rows[i]? = some row → row[j]? = some c → ∃ v, news[i * k + j]? = some v ∧ VRel m β c v ∧ v.oneCell' = true := by
    rintro ad cap rfl
    refine ⟨[], fun w' _ => ⟨rfl, ?_⟩, by simp, by simp, by simp, by simp⟩
    cases ad <;> simp [Builtin.firstCells, loadCells, loadCellsFrom, pure]
  cases h with
  | @own id e _ n ho hn hd =>
    subst hn
    generalize hlen : rows.length = n at hx
    cases hx with
    | imm h => cases h
    | ownNil h => have h0 := List.length_eq_zero_iff.1 hlen; subst h0; exact empty _ _ rfl
    | @own _ _ b cap hb =>
      obtain ⟨arr, bl, h1, h2, h3, h4, h5, _, h6⟩ := r.obj hb ho
      subst hlen
      refine mk ⟨b, cap.off, none⟩ _ cap.n arr e (0, 0) (fun i => arr.getD (cap.off + i) undef) rfl h1 rfl h5 ?_ ?_
      · intro i hi
        have : cap.off + i < arr.size := by rw [h2]; have := Nat.lt_of_lt_of_le hi (Nat.mul_le_mul_right k h3); omega
        simp [Array.getD_eq_getD_getElem?, this]
      · intro i j row c hi hj
        obtain ⟨v, a1, a2, a3⟩ := h6 i j row c hi hj
        simp only [Array.getD_eq_getD_getElem?, a1, Option.getD_some]
        exact ⟨a2.v (hd row (List.mem_of_getElem? hi) c (List.mem_of_getElem? hj)), a3⟩
  | lst hone =>
    cases hx with
    | imm h =>
      cases h with
      | nil => exact empty _ _ rfl
      | @lst _ _ ad n cap arr T fr f hm hs hn hcap hbd hkk hf h =>
        refine mk ad n cap arr T fr f hs (r.imm _ _ hm) hn hkk hf ?_
        intro i j row c hi hj
        have h1 := VRel.imm (β := β) (h i j row c hi hj)
        exact ⟨h1, h1.one (List.all_eq_true.1 (hone row (List.mem_of_getElem? hi)) c (List.mem_of_getElem? hj))⟩
  | nil => rw [hx.of_con]; exact empty _ _ rfl
theorem aops_appendG {d T T' e k bytes n n' id : Nat} {s x : Operand} {sv : V} {rows : List (List V)} (idn nx' : Nat) (hfree : ∀ m β w a, Rel K m β w a S → β idn = none ∧ ∀ q, q < K.pins → q ≠ idn) (hidn : idn < nx') (hnn : S.nx ≤ nx') (rows2 rows' : List (List V)) (hT : tyEl K.P T e k bytes = true) (hT' : tySlice K.P T' = true)
    (hpos : Nat.blt 0 bytes = true) (hkp : Nat.blt 0 k = true)
    (hw : Wants ops S ⟨some d, .call ⟨.builtin .append, #[s, x], #[T, T']⟩, ty, pos, after, g⟩ true)
    (hs : evl K S s = .own id n) (ho : hget S.hp id = .arr e k rows) (hn : rows.length = n) (hx : evl K S x = sv) (hsrc : Src S k sv rows2)
    (hr : rows ++ rows2 = rows') (hn' : rows'.length = n') (hb : n' * bytes ≤ 140737488355328) (hN : Nat.blt d K.N = true)
    (kk : AOps K ops rest Q ⟨(d, .own idn n') :: S.env, (idn, .arr e k rows') :: (id, .dead) :: S.hp, nx'⟩) :
    AOps K ops (⟨some d, .call ⟨.builtin .append, #[s, x], #[T, T']⟩, ty, pos, after, g⟩ :: rest) Q S := by
  refine aops_runs hw (fun m β w a r => ?_) kk
  have hpos := Nat.le_of_ble_eq_true hpos
  have hkp : 0 < k := Nat.le_of_ble_eq_true hkp
  obtain ⟨news, n1, n2, n3, n4, n5⟩ := hsrc.read hkp r (by rw [← hx]; exact r.reads x)
  have hlen : n' = n + rows2.length := by rw [← hn', ← hr, List.length_append, hn]
  have hsv := r.reads s
  rw [hs] at hsv
  have hop : ∀ (v : Value) (w' : World), (Builtin.append_ #[T, T'] ty #[a.eval s, a.eval x]).run K.P w = .ok v w' →
      (execOp a.eval ⟨some d, .call ⟨.builtin .append, #[s, x], #[T, T']⟩, ty, pos, after, g⟩).run K.P w = .ok (.value v) w' := by
    intro v w' h
    refine run_builtin rfl ?_
    simp only [builtin, List.map_toArray, List.map_cons, List.map_nil, Sem.run_bind, h, Result.andThen_ok]
    rfl
  -- rows of the result
  have hrows' : ∀ row, row ∈ rows' → (∀ row, row ∈ rows → row.length = k) → row.length = k := by
    intro row h h5
    rw [← hr] at h
    rcases List.mem_append.1 h with h | h
    · exact h5 row h
    · exact n4 row h
  have hcells : ∀ (β' : Locs) (w' : World) (bl : Nat → Nat → Prop) (off : Nat) (old : Nat → Option Value) (arr' : Array Value), β.le β' → (∀ p x, bl p x → w'.heap[x]? = w.heap[x]?) → (∀ row, row ∈ rows → row.length = k) →
      (∀ (i j : Nat) (row : List V) (c : V), rows[i]? = some row → row[j]? = some c → ∃ v, old (i * k + j) = some v ∧ CRel m β w (bl (i * k + j)) c v ∧ v.oneCell' = true) →
      (∀ p, p < n * k → arr'[off + p]? = old p) → (∀ p, p < rows2.length * k → arr'[off + (n * k + p)]? = news[p]?) →
      ∀ (i j : Nat) (row : List V) (c : V), rows'[i]? = some row → row[j]? = some c → ∃ v, arr'[off + (i * k + j)]? = some v ∧ CRel m β' w' (bl (i * k + j)) c v ∧ v.oneCell' = true := by
    intro β' w' bl off old arr' hle hbl h5 h6 ha hb' i j row c hi hj
    have hrk := hrows' row (List.mem_of_getElem? hi) h5
    have hjk : j < k := by rw [← hrk]; exact (List.getElem?_eq_some_iff.1 hj).1
    rw [← hr, List.getElem?_append] at hi
    have hmul : ∀ p q : Nat, p < q → p * k + j < q * k := by
      intro p q hpq
      calc p * k + j < p * k + k := by omega
        _ = (p + 1) * k := by rw [Nat.add_mul, Nat.one_mul]
        _ ≤ q * k := Nat.mul_le_mul_right _ hpq
    split at hi
    · rename_i hlt
      obtain ⟨v, a1, a2, a3⟩ := h6 i j row c hi hj
      exact ⟨v, by rw [ha _ (by rw [← hn]; exact hmul _ _ hlt)]; exact a1, a2.mono (Mem.le_refl _) hle (fun _ h => h) (fun x hx => hbl _ x hx), a3⟩
    · rename_i hlt
      obtain ⟨v, a1, a2, a3⟩ := n5 (i - rows.length) j row c hi hj
      have hi2 := (List.getElem?_eq_some_iff.1 hi).1
      have e1 : i * k + j = n * k + ((i - rows.length) * k + j) := by
        rw [← Nat.add_assoc, ← Nat.add_mul]; congr 2; omega
      refine ⟨v, ?_, .inl (a2.mono (Mem.le_refl _) hle), a3⟩
      rw [e1, hb' _ (hmul _ _ hi2)]
      exact a1
  -- a new block
  have hlid : hget S.hp id ≠ .dead := by rw [ho]; simp
  have grows : ∀ (bl : Nat → Nat → Prop) (hBl : Bls (β.hid id) bl) (olds : List Value) (base : Option Addr) (cap : Nat), a.eval s = .slice base n cap → (∀ w' : World, w'.heap = w.heap → (Builtin.firstCells k n (.slice base n cap)).run K.P w' = .ok olds.toArray w') → olds.length = n * k →
      ¬ n + rows2.length ≤ cap → (∀ row, row ∈ rows → row.length = k) →
      (∀ (i j : Nat) (row : List V) (c : V), rows[i]? = some row → row[j]? = some c → ∃ v, olds[i * k + j]? = some v ∧ CRel m β w (bl (i * k + j)) c v ∧ v.oneCell' = true) →
      ∃ v w' m' β', ((execOp a.eval ⟨some d, .call ⟨.builtin .append, #[s, x], #[T, T']⟩, ty, pos, after, g⟩).run K.P w = .ok (.value v) w' ∨ v = undef ∧ (execOp a.eval ⟨some d, .call ⟨.builtin .append, #[s, x], #[T, T']⟩, ty, pos, after, g⟩).run K.P w = .ok .skip w') ∧
        Rel K m' β' w' (a.put (some d) v) ⟨(d, .own idn n') :: S.env, (idn, .arr e k rows') :: (id, .dead) :: S.hp, nx'⟩ := by
    intro bl hBl olds base cap hsx hold hol hfit h5 h6
    obtain ⟨cap', arr', b1, b2, b3, b4, b5⟩ := run_append_grows (ty := ty) hT hT' rfl (hold { w with drawn := w.drawn + 1 } rfl) (n1 w rfl).1 (n1 { w with drawn := w.drawn + 1 } rfl).2 hol n2 hfit (by rw [← hlen]; exact hb) hpos
    have r1 := (r.drawn (w.drawn + 1)).kill id
    have hdd : ∀ i, hget ((id, .dead) :: S.hp) i ≠ .dead → hget S.hp i ≠ .dead ∧ i ≠ id := by
      intro i hi
      rw [hget_put] at hi
      split at hi
      · exact absurd rfl hi
      · rename_i h; exact ⟨hi, Ne.symm h⟩
    obtain ⟨β', hle, hnx, r2⟩ := r1.allocG idn nx' (hfree m β w a r).1 (hfree m β w a r).2 hidn hnn (.cells arr' e (0, 0)) (.arr e k rows') ⟨cap', 0⟩ _ rfl (β.hid id)
      (fun x hx => let q := r.hid id x hlid hx; ⟨q.lt, q.m, q.old, fun i b c hi hb => q.ne i b c (hdd i hi).1 hb, fun i hi hx' => (hdd i hi).2 (q.un i (hdd i hi).1 hx')⟩) (fun β' hle => by
      refine obok_new (vs := arr') bl hBl (by simp) (by simpa using b4) (by rw [hn', hlen]; exact b2) b3 (fun row h => hrows' row h h5) ?_
      refine hcells β' _ bl 0 (fun p => olds[p]?) arr' hle (fun p x hx => ?_) h5 h6 ?_ ?_
      · have := (r.hid id x hlid (hBl.1 p x hx)).lt
        simp only [Array.getElem?_push]; rw [if_neg (by omega)]
      · intro p hp
        rw [Nat.zero_add, b5 p (Nat.lt_of_lt_of_le hp (Nat.mul_le_mul_right _ (by omega))), List.getElem?_append, if_pos (by rw [hol]; exact hp)]
      · intro p hp
        rw [Nat.zero_add, b5 _ (by rw [Nat.add_mul]; omega), List.getElem?_append, if_neg (by rw [hol]; omega), hol, Nat.add_sub_cancel_left])
    refine ⟨.slice (some ⟨w.heap.size, 0, none⟩) n' cap', { w with drawn := w.drawn + 1, heap := w.heap.push (.cells arr' e (0, 0)) }, m, β', .inl ?_, ?_⟩
    · refine hop _ _ ?_
      rw [hsx, b1, hlen]
    · exact Rel.put r2 hN (.own hnx)
  generalize hsx : a.eval s = sx at hsv
  cases hsv with
  | imm h => cases h
  | @ownNil _ ad hbn =>
    have h0 := r.own id
    rw [hbn, ho] at h0
    have h0 : rows = [] := h0
    subst h0
    by_cases hfit : 0 + rows2.length ≤ 0
    · have h2 : rows2 = [] := List.length_eq_zero_iff.1 (by omega)
      subst h2
      have h3 : rows' = [] := by rw [← hr]; rfl
      subst h3
      have hn0 : n' = 0 := by simpa using hn'.symm
      subst hn0
      obtain ⟨β', hle, hnx, r2⟩ := r.moveG id idn nx' (hfree m β w a r).1 (hfree m β w a r).2 hidn hnn ho (by simp) (by simp)
      refine ⟨.slice ad 0 0, w, m, β', .inl ?_, Rel.put r2 hN (.ownNil (by rw [hnx]; exact hbn))⟩
      refine hop _ _ ?_
      rw [hsx]
      obtain ⟨i, z, hu, hi, hs', hby, hz, hzk⟩ := tyEl_inv hT
      obtain ⟨e', hu'⟩ := tySlice_inv hT'
      have hk : K.P.cellsOf e = k := by simp [Program.cellsOf, hi, hs']
      obtain ⟨q1, q2⟩ := n1 w rfl
      have hnews : news = [] := List.length_eq_zero_iff.1 (by simpa using n2)
      subst hnews
      simp only [Builtin.append_, List.getElem?_toArray, List.getElem?_cons_zero, List.getElem?_cons_succ, Sem.run_bind, run_underlying hu, Result.andThen_ok, run_sizeOf w hi, hk, run_underlying hu', pure, Sem.run,
        Bool.false_eq_true, if_false, q1, List.length_nil, Nat.add_zero, Nat.le_refl, if_true, Bool.not_false]
      simp only [List.length_nil] at q2
      cases ad <;> simp [q2, storeCells, pure, Sem.run]
    · exact grows _ bls_none [] ad 0 hsx (fun w' _ => by cases ad <;> simp [Builtin.firstCells, loadCells, loadCellsFrom, pure]) (by simp) hfit (by simp) (by simp)
  | @own _ _ b cap hbb =>
    obtain ⟨arr, bl, h1, h2, h3, h4, h5, hBl, h6⟩ := r.obj hbb ho
    have hnk : cap.off + n * k ≤ arr.size := by rw [h2, ← hn]; have := Nat.mul_le_mul_right k h3; omega
    by_cases hfit : n + rows2.length ≤ cap.n
    · have hrun := run_append_fits (ty := ty) hT hT' h1 h2 (n1 w rfl).1 (n1 w rfl).2 n2 n3 hfit
      have hle2 : cap.off + n * k + news.length ≤ arr.size := by
        have : n * k + rows2.length * k ≤ cap.n * k := by rw [← Nat.add_mul]; exact Nat.mul_le_mul_right _ hfit
        rw [n2, h2]; omega
      have hgt : ∀ p, (arr.toList.take (cap.off + n * k) ++ news ++ arr.toList.drop (cap.off + n * k + news.length)).toArray[p]? = if cap.off + n * k ≤ p ∧ p < cap.off + n * k + news.length then news[p - (cap.off + n * k)]? else arr[p]? := by
        intro p
        rw [List.getElem?_toArray, splice_get _ _ _ (by simpa using hle2)]
        split <;> simp
      have r1 := r.update (id := id) (ob := .arr e k rows') (by rw [ho]; simp) hbb (w.setRow b (arr.toList.take (cap.off + n * k) ++ news ++ arr.toList.drop (cap.off + n * k + news.length)).toArray) (fun b' hb' => heap_setRow hb') (by simp [World.setRow]) ⟨rfl, rfl, rfl⟩ (fun hkeep => by
        refine obok_new bl hBl (heap_setRow_self h1) ?_ (by rw [hn', hlen]; exact hfit) h4 (fun row h => hrows' row h h5) ?_
        · have : (arr.toList.take (cap.off + n * k) ++ news ++ arr.toList.drop (cap.off + n * k + news.length)).length = arr.size := by
            simp only [List.length_append, List.length_take, List.length_drop, Array.length_toList]; omega
          rw [List.size_toArray, this, h2]
        · refine hcells β _ bl cap.off (fun p => arr[cap.off + p]?) _ (Locs.le_refl _) (fun p x hx => hkeep x (hBl.1 p x hx)) h5 h6 ?_ ?_
          · intro p hp; rw [hgt, if_neg (by omega)]
          · intro p hp; rw [hgt, if_pos (by rw [n2]; omega)]; congr 1; omega)
      obtain ⟨β', hle, hnx, r2⟩ := r1.moveG id idn nx' (hfree m β w a r).1 (hfree m β w a r).2 hidn hnn (ob := .arr e k rows') (by rw [hget_put]; simp) (by simp) (by simp)
      have r3 : Rel K m β' (w.setRow b (arr.toList.take (cap.off + n * k) ++ news ++ arr.toList.drop (cap.off + n * k + news.length)).toArray) a ⟨S.env, (idn, .arr e k rows') :: (id, .dead) :: S.hp, nx'⟩ := by
        have hsame : ∀ i, hget ((idn, Ob.arr e k rows') :: (id, .dead) :: (id, .arr e k rows') :: S.hp) i = hget ((idn, Ob.arr e k rows') :: (id, .dead) :: S.hp) i := by
          intro i
          simp only [hget_put]
          by_cases q1 : idn = i
          · rw [if_pos q1, if_pos q1]
          · rw [if_neg q1, if_neg q1]
            by_cases q2 : id = i
            · rw [if_pos q2, if_pos q2]
            · rw [if_neg q2, if_neg q2, if_neg q2]
        exact ⟨r2.imm, r2.ext, r2.mold, r2.frame, r2.size, r2.same, r2.tn, r2.df, r2.env, fun i => by have := r2.own i; simp only [hsame] at this; exact this,
          fun i b c h => r2.priv i b c (by simp only [hsame]; exact h), fun i i' b c c' h h' => r2.inj i i' b c c' (by simp only [hsame]; exact h) (by simp only [hsame]; exact h'),
          fun i x h hx => let q := r2.hid i x (by simp only [hsame]; exact h) hx; ⟨q.lt, q.m, q.old, fun i' b c h' => q.ne i' b c (by simp only [hsame]; exact h'), fun i' h' => q.un i' (by simp only [hsame]; exact h')⟩, r2.nx, r2.pin⟩
      refine ⟨.slice (some ⟨b, cap.off, none⟩) n' cap.n, w.setRow b (arr.toList.take (cap.off + n * k) ++ news ++ arr.toList.drop (cap.off + n * k + news.length)).toArray, m, β', .inl ?_, Rel.put r3 hN (.own (by rw [hnx]; exact hbb))⟩
      refine hop _ _ ?_
      rw [hsx, hrun, hlen]
    · refine grows bl hBl ((arr.toList.drop cap.off).take (n * k)) (some ⟨b, cap.off, none⟩) cap.n hsx (fun w' hw' => ?_) (by simp; omega) hfit h5 ?_
      · have := run_firstCells (P := K.P) (w := w') (ad := ⟨b, cap.off, none⟩) (n := n) (c := cap.n) (k := k) (fun j => arr.getD (cap.off + j) undef) (fun j hj => by
          rw [add_spot, cell_of_heap (arr := arr) (T := e) (fr := (0, 0)) (by rw [hw']; exact h1)]
          have : cap.off + j < arr.size := by omega
          simp [Array.getD_eq_getD_getElem?, this])
        rw [this]
        congr 2
        apply List.ext_getElem?
        intro j
        rw [List.getElem?_map, List.getElem?_take]
        by_cases hj : j < n * k
        · rw [List.getElem?_range hj, if_pos hj, List.getElem?_drop]
          have : cap.off + j < arr.size := by omega
          simp [Array.getD_eq_getD_getElem?, this]
        · rw [if_neg hj, List.getElem?_eq_none (by simp; omega)]; rfl
      · intro i j row c hi hj
        obtain ⟨v, a1, a2, a3⟩ := h6 i j row c hi hj
        refine ⟨v, ?_, a2, a3⟩
        rw [List.getElem?_take, if_pos]
        · rw [List.getElem?_drop]; simpa using a1
        · have hrk := h5 row (List.mem_of_getElem? hi)
          have hjk : j < k := by rw [← hrk]; exact (List.getElem?_eq_some_iff.1 hj).1
          calc i * k + j < i * k + k := by omega
            _ = (i + 1) * k := by rw [Nat.add_mul, Nat.one_mul]
            _ ≤ n * k := Nat.mul_le_mul_right _ (by rw [← hn]; exact (List.getElem?_eq_some_iff.1 hi).1)
theorem aops_append {d T T' e k bytes n n' id : Nat} {s x : Operand} {sv : V} {rows : List (List V)} (rows2 rows' : List (List V)) (hT : tyEl K.P T e k bytes = true) (hT' : tySlice K.P T' = true)
    (hpos : Nat.blt 0 bytes = true) (hkp : Nat.blt 0 k = true)
    (hw : Wants ops S ⟨some d, .call ⟨.builtin .append, #[s, x], #[T, T']⟩, ty, pos, after, g⟩ true)
    (hs : evl K S s = .own id n) (ho : hget S.hp id = .arr e k rows) (hn : rows.length = n) (hx : evl K S x = sv) (hsrc : Src S k sv rows2)
    (hr : rows ++ rows2 = rows') (hn' : rows'.length = n') (hb : n' * bytes ≤ 140737488355328) (hN : Nat.blt d K.N = true)
    (kk : AOps K ops rest Q ⟨(d, .own S.nx n') :: S.env, (S.nx, .arr e k rows') :: (id, .dead) :: S.hp, S.nx + 1⟩) :
    AOps K ops (⟨some d, .call ⟨.builtin .append, #[s, x], #[T, T']⟩, ty, pos, after, g⟩ :: rest) Q S :=
  aops_appendG S.nx (S.nx + 1) (fun _ _ _ _ r => ⟨r.nx _ (Nat.le_refl _), fun q hq => Nat.ne_of_lt (r.pin q hq).1⟩) (Nat.lt_succ_self _) (Nat.le_succ _) rows2 rows' hT hT' hpos hkp hw hs ho hn hx hsrc hr hn' hb hN kk
end
end Go.Pv
