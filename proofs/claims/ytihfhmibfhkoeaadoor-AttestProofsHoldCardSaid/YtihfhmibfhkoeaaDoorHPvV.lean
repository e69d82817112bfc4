/- The framework of walks over abstract values (own text), part V. -/
import Derived.Test.YtihfhmibfhkoeaaDoorHPvN
namespace Go.Pv
open Go
section
variable {K : Ctx} {Q : Post} {S : St}
variable {m : Mem} {β : Locs} {w : World} {a : Act}
variable {ops : Array Oper} {rest : List Oper} {ty : TypeId} {pos : String} {after : Array Edge} {g : Option (Nat × Bool)}
/-- An object gets a new number. -/
theorem Rel.moveAt (r : Rel K m β w a S) (id idn : Nat) (hid : idn < S.nx) (hpid : K.pins ≤ idn) (hres : hget S.hp idn = .res) {ob : Ob} (ho : hget S.hp id = ob) (_ : ob ≠ .dead) (hl2 : ob ≠ .res) : ∃ β', β.le β' ∧ β' idn = β id ∧ Rel K m β' w a ⟨S.env, (idn, ob) :: (id, .dead) :: S.hp, S.nx⟩ := by
  have hfree := r.free hres
  let β' : Locs := fun i => if i = idn then β id else β i
  have hle : β.le β' := by
    intro i l h
    show (if i = idn then _ else _) = _
    rw [if_neg]
    · exact h
    · intro e; rw [e, hfree] at h; simp at h
  have hne : id ≠ idn := by
    intro e
    rw [e, hres] at ho
    exact hl2 ho.symm
  -- the object at a number, and where it was
  have key : ∀ i, hget ((idn, ob) :: (id, .dead) :: S.hp) i ≠ .dead → ∃ j, (i = idn ∧ j = id ∨ i ≠ idn ∧ i ≠ id ∧ j = i) ∧ β' i = β j ∧ hget ((idn, ob) :: (id, .dead) :: S.hp) i = hget S.hp j := by
    intro i hi
    rw [hget_put] at hi ⊢
    by_cases h : idn = i
    · subst h; exact ⟨id, .inl ⟨rfl, rfl⟩, by simp [β'], by simp [ho]⟩
    · rw [if_neg h] at hi ⊢
      rw [hget_put] at hi ⊢
      by_cases h2 : id = i
      · rw [if_pos h2] at hi; exact absurd rfl hi
      · rw [if_neg h2]; exact ⟨i, .inr ⟨Ne.symm h, Ne.symm h2, rfl⟩, by simp [β', Ne.symm h], rfl⟩
  refine ⟨β', hle, by simp [β'], ?_⟩
  refine ⟨r.imm, r.ext, r.mold, r.frame, r.size, r.same, r.tn, r.df, fun t => (r.env t).mono (Mem.le_refl _) hle, fun i => ?_, fun i b c h hb => ?_, fun i i' b c c' h h' hb hb' => ?_, fun i hi => ?_, fun q hq => ?_⟩
  · by_cases hd : hget ((idn, ob) :: (id, .dead) :: S.hp) i = .dead
    · show ObOk m β' w _ (hget ((idn, ob) :: (id, .dead) :: S.hp) i); rw [hd]; exact ObOk.dead' _
    · obtain ⟨j, _, h2, h3⟩ := key i hd
      show ObOk m β' w _ (hget ((idn, ob) :: (id, .dead) :: S.hp) i)
      rw [h2, h3]
      exact ObOk.mono (Mem.le_refl _) hle (fun _ _ h => h) (r.own j)
  · obtain ⟨j, _, h2, h3⟩ := key i h
    rw [h2] at hb
    exact r.priv j b c (by rw [← h3]; exact h) hb
  · obtain ⟨j, h1, h2, h3⟩ := key i h
    obtain ⟨j', h1', h2', h3'⟩ := key i' h'
    rw [h2] at hb; rw [h2'] at hb'
    have := r.inj j j' b c c' (by rw [← h3]; exact h) (by rw [← h3']; exact h') hb hb'
    rcases h1 with ⟨e1, e2⟩ | ⟨e1, e2, e3⟩ <;> rcases h1' with ⟨f1, f2⟩ | ⟨f1, f2, f3⟩
    · rw [e1, f1]
    · exfalso; apply f2; rw [← f3, ← this, e2]
    · exfalso; apply e2; rw [← e3, this, f2]
    · rw [← e3, ← f3, this]
  · show β' i = none
    have hi' : S.nx ≤ i := hi
    have : i ≠ idn := by omega
    simp only [β', if_neg this]
    exact r.nx i hi'
  · obtain ⟨h1, h2⟩ := r.pin q hq
    exact ⟨h1, by rw [← h2]; exact if_neg (by omega)⟩
theorem aops_mcall_at {d nx : Nat} {f : FuncId} {args : Array Operand} {at' : Array TypeId} {k' : Nat} {hp' : Heap} {dc : V} (ids : List Nat) (hid : (ids.all fun i => Nat.blt i nx && Nat.ble K.pins i) = true) (hnx : S.nx = nx)
    (hres : ∀ i, i ∈ ids → hget S.hp i = .res) (dv : V) (avs : List V) (u : Heap) (hf : fnOk K.P f = true)
    (hw : Wants ops S ⟨some d, .call ⟨.value (.func f), args, at'⟩, ty, pos, after, g⟩ true) (hN : Nat.blt d K.N = true) (ha : args.toList.map (evl K S) = avs)
    (hsub : Subs (Ren 0 fun i => i) avs avs) (hc : MutG K.gl K.P f avs 0 [] dc k' hp') (hk : ids.length = k') (hτ : injB k' (fun i => ids.getD i 0) = true)
    (hdv : Sub (To k' fun i => ids.getD i 0) dv dc) (hu : HpTo (To k' fun i => ids.getD i 0) (fun i => ids.getD i 0) hp' k' 0 u)
    (kk : AOps K ops rest Q ⟨(d, dv) :: S.env, u ++ S.hp, S.nx⟩) : AOps K ops (⟨some d, .call ⟨.value (.func f), args, at'⟩, ty, pos, after, g⟩ :: rest) Q S := by
  subst hnx
  have hall := List.all_eq_true.1 hid
  have hfree : ∀ i, (ids.any fun j => Nat.beq i j) = true → i ∈ ids := by
    intro i hi
    obtain ⟨j, hj, e⟩ := List.any_eq_true.1 hi
    rw [Nat.eq_of_beq_eq_true e]; exact hj
  have hto : toB 0 k' S.nx S.nx (fun i => i) (fun i => ids.getD i 0) (fun i => ids.any fun j => Nat.beq i j) = true := by
    unfold toB
    rw [List.all_eq_true]
    intro j hj
    have hj' : j < ids.length := by rw [hk]; exact List.mem_range.1 hj
    have e : ids.getD j 0 = ids[j] := by rw [List.getD_eq_getElem?_getD, List.getElem?_eq_getElem hj']; rfl
    have h1 := hall _ (List.getElem_mem hj')
    simp only [Bool.and_eq_true] at h1 ⊢
    rw [e]
    refine ⟨h1.1, ?_⟩
    rw [if_neg (by intro e'; exact absurd (Nat.le_of_ble_eq_true e') (by omega)), Bool.or_eq_true]
    exact .inr (List.any_eq_true.2 ⟨_, List.getElem_mem hj', Nat.beq_refl _⟩)
  exact aops_mcalls (fun i => i) (fun i => ids.getD i 0) S.nx u (fun i => ids.any fun j => Nat.beq i j) hw rfl hN (mcall_run hf ha) hsub (HpSub.get .nil) hc
    (fun i hi => hres i (hfree i hi)) hto hτ (Nat.ble_eq_true_of_le (by omega)) (Nat.ble_eq_true_of_le (Nat.zero_le _))
    (fun i hi => by have := hall i (hfree i hi); simp only [Bool.and_eq_true] at this; exact Nat.le_of_ble_eq_true this.2) hdv hu kk
theorem aops_append_at {d T T' e k bytes n n' id nx : Nat} {s x : Operand} {sv : V} {rows : List (List V)} (idn : Nat) (hid : (Nat.blt idn nx && Nat.ble K.pins idn) = true) (hnxx : S.nx = nx) (hres : hget S.hp idn = .res) (rows2 rows' : List (List V)) (hT : tyEl K.P T e k bytes = true) (hT' : tySlice K.P T' = true)
    (hpos : Nat.blt 0 bytes = true) (hkp : Nat.blt 0 k = true)
    (hw : Wants ops S ⟨some d, .call ⟨.builtin .append, #[s, x], #[T, T']⟩, ty, pos, after, g⟩ true)
    (hs : evl K S s = .own id n) (ho : hget S.hp id = .arr e k rows) (hn : rows.length = n) (hx : evl K S x = sv) (hsrc : Src S k sv rows2)
    (hr : rows ++ rows2 = rows') (hn' : rows'.length = n') (hb : n' * bytes ≤ 140737488355328) (hN : Nat.blt d K.N = true)
    (kk : AOps K ops rest Q ⟨(d, .own idn n') :: S.env, (idn, .arr e k rows') :: (id, .dead) :: S.hp, S.nx⟩) :
    AOps K ops (⟨some d, .call ⟨.builtin .append, #[s, x], #[T, T']⟩, ty, pos, after, g⟩ :: rest) Q S := by
  refine aops_runs hw (fun m β w a r => ?_) kk
  have hpos := Nat.le_of_ble_eq_true hpos
  have hid1 : idn < S.nx := by rw [hnxx]; exact Nat.le_of_ble_eq_true (Bool.and_eq_true_iff.1 hid).1
  have hid2 : K.pins ≤ idn := Nat.le_of_ble_eq_true (Bool.and_eq_true_iff.1 hid).2
  have hne : id ≠ idn := by intro e'; rw [e', hres] at ho; simp at ho
  have hres1 : ∀ ob : Ob, hget ((id, ob) :: S.hp) idn = .res := fun ob => by rw [hget_put, if_neg hne]; exact hres
  have hkp : 0 < k := Nat.le_of_ble_eq_true hkp
  obtain ⟨news, n1, n2, n3, n4, n5⟩ := hsrc.read hkp r (by rw [← hx]; exact r.reads x)
  have hlen : n' = n + rows2.length := by rw [← hn', ← hr, List.length_append, hn]
  have hsv := r.reads s
  rw [hs] at hsv
  have hop : ∀ (v : Value) (w' : World), (Builtin.append_ #[T, T'] ty #[a.eval s, a.eval x]).run K.P w = .ok v w' →
      (execOp a.eval ⟨some d, .call ⟨.builtin .append, #[s, x], #[T, T']⟩, ty, pos, after, g⟩).run K.P w = .ok (.value v) w' := by
    intro v w' h
    refine run_builtin rfl ?_
    simp only [builtin, List.map_toArray, List.map_cons, List.map_nil, Sem.run_bind, h, Result.andThen_ok]
    rfl
  -- rows of the result
  have hrows' : ∀ row, row ∈ rows' → (∀ row, row ∈ rows → row.length = k) → row.length = k := by
    intro row h h5
    rw [← hr] at h
    rcases List.mem_append.1 h with h | h
    · exact h5 row h
    · exact n4 row h
  have hcells : ∀ (β' : Locs) (old : Nat → Option Value) (arr' : Array Value), β.le β' → (∀ row, row ∈ rows → row.length = k) →
      (∀ (i j : Nat) (row : List V) (c : V), rows[i]? = some row → row[j]? = some c → ∃ v, old (i * k + j) = some v ∧ VRel m β c v ∧ v.oneCell' = true) →
      (∀ p, p < n * k → arr'[p]? = old p) → (∀ p, p < rows2.length * k → arr'[n * k + p]? = news[p]?) →
      ∀ (i j : Nat) (row : List V) (c : V), rows'[i]? = some row → row[j]? = some c → ∃ v, arr'[i * k + j]? = some v ∧ VRel m β' c v ∧ v.oneCell' = true := by
    intro β' old arr' hle h5 h6 ha hb' i j row c hi hj
    have hrk := hrows' row (List.mem_of_getElem? hi) h5
    have hjk : j < k := by rw [← hrk]; exact (List.getElem?_eq_some_iff.1 hj).1
    rw [← hr, List.getElem?_append] at hi
    have hmul : ∀ p q : Nat, p < q → p * k + j < q * k := by
      intro p q hpq
      calc p * k + j < p * k + k := by omega
        _ = (p + 1) * k := by rw [Nat.add_mul, Nat.one_mul]
        _ ≤ q * k := Nat.mul_le_mul_right _ hpq
    split at hi
    · rename_i hlt
      obtain ⟨v, a1, a2, a3⟩ := h6 i j row c hi hj
      exact ⟨v, by rw [ha _ (by rw [← hn]; exact hmul _ _ hlt)]; exact a1, a2.mono (Mem.le_refl _) hle, a3⟩
    · rename_i hlt
      obtain ⟨v, a1, a2, a3⟩ := n5 (i - rows.length) j row c hi hj
      have hi2 := (List.getElem?_eq_some_iff.1 hi).1
      have e1 : i * k + j = n * k + ((i - rows.length) * k + j) := by
        rw [← Nat.add_assoc, ← Nat.add_mul]; congr 2; omega
      refine ⟨v, ?_, a2.mono (Mem.le_refl _) hle, a3⟩
      rw [e1, hb' _ (hmul _ _ hi2)]
      exact a1
  -- a new block
  have grows : ∀ (olds : List Value) (base : Option Addr) (cap : Nat), a.eval s = .slice base n cap → (∀ w' : World, w'.heap = w.heap → (Builtin.firstCells k n (.slice base n cap)).run K.P w' = .ok olds.toArray w') → olds.length = n * k →
      ¬ n + rows2.length ≤ cap → (∀ row, row ∈ rows → row.length = k) →
      (∀ (i j : Nat) (row : List V) (c : V), rows[i]? = some row → row[j]? = some c → ∃ v, olds[i * k + j]? = some v ∧ VRel m β c v ∧ v.oneCell' = true) →
      ∃ v w' m' β', ((execOp a.eval ⟨some d, .call ⟨.builtin .append, #[s, x], #[T, T']⟩, ty, pos, after, g⟩).run K.P w = .ok (.value v) w' ∨ v = undef ∧ (execOp a.eval ⟨some d, .call ⟨.builtin .append, #[s, x], #[T, T']⟩, ty, pos, after, g⟩).run K.P w = .ok .skip w') ∧
        Rel K m' β' w' (a.put (some d) v) ⟨(d, .own idn n') :: S.env, (idn, .arr e k rows') :: (id, .dead) :: S.hp, S.nx⟩ := by
    intro olds base cap hsx hold hol hfit h5 h6
    obtain ⟨cap', arr', b1, b2, b3, b4, b5⟩ := run_append_grows (ty := ty) hT hT' rfl (hold { w with drawn := w.drawn + 1 } rfl) (n1 w rfl).1 (n1 { w with drawn := w.drawn + 1 } rfl).2 hol n2 hfit (by rw [← hlen]; exact hb) hpos
    have r1 := (r.drawn (w.drawn + 1)).kill id
    obtain ⟨β', hle, hnx, r2⟩ := r1.allocAt idn hid1 hid2 (hres1 _) (.cells arr' e (0, 0)) (.arr e k rows') cap' _ rfl (fun β' hle => by
      refine obok_new (vs := arr') (by simp) b4 (by rw [hn', hlen]; exact b2) b3 (fun row h => hrows' row h h5) ?_
      refine hcells β' (fun p => olds[p]?) arr' hle h5 h6 ?_ ?_
      · intro p hp
        rw [b5 p (Nat.lt_of_lt_of_le hp (Nat.mul_le_mul_right _ (by omega))), List.getElem?_append, if_pos (by rw [hol]; exact hp)]
      · intro p hp
        rw [b5 _ (by rw [Nat.add_mul]; omega), List.getElem?_append, if_neg (by rw [hol]; omega), hol, Nat.add_sub_cancel_left])
    refine ⟨.slice (some ⟨w.heap.size, 0, none⟩) n' cap', { w with drawn := w.drawn + 1, heap := w.heap.push (.cells arr' e (0, 0)) }, m, β', .inl ?_, ?_⟩
    · refine hop _ _ ?_
      rw [hsx, b1, hlen]
    · exact Rel.put r2 hN (.own hnx)
  generalize hsx : a.eval s = sx at hsv
  cases hsv with
  | imm h => cases h
  | @ownNil _ ad hbn =>
    have h0 := r.own id
    rw [hbn, ho] at h0
    have h0 : rows = [] := h0
    subst h0
    by_cases hfit : 0 + rows2.length ≤ 0
    · have h2 : rows2 = [] := List.length_eq_zero_iff.1 (by omega)
      subst h2
      have h3 : rows' = [] := by rw [← hr]; rfl
      subst h3
      have hn0 : n' = 0 := by simpa using hn'.symm
      subst hn0
      obtain ⟨β', hle, hnx, r2⟩ := r.moveAt id idn hid1 hid2 hres ho (by simp) (by simp)
      refine ⟨.slice ad 0 0, w, m, β', .inl ?_, Rel.put r2 hN (.ownNil (by rw [hnx]; exact hbn))⟩
      refine hop _ _ ?_
      rw [hsx]
      obtain ⟨i, z, hu, hi, hs', hby, hz, hzk⟩ := tyEl_inv hT
      obtain ⟨e', hu'⟩ := tySlice_inv hT'
      have hk : K.P.cellsOf e = k := by simp [Program.cellsOf, hi, hs']
      obtain ⟨q1, q2⟩ := n1 w rfl
      have hnews : news = [] := List.length_eq_zero_iff.1 (by simpa using n2)
      subst hnews
      simp only [Builtin.append_, List.getElem?_toArray, List.getElem?_cons_zero, List.getElem?_cons_succ, Sem.run_bind, run_underlying hu, Result.andThen_ok, run_sizeOf w hi, hk, run_underlying hu', pure, Sem.run,
        Bool.false_eq_true, if_false, q1, List.length_nil, Nat.add_zero, Nat.le_refl, if_true, Bool.not_false]
      simp only [List.length_nil] at q2
      cases ad <;> simp [q2, storeCells, pure, Sem.run]
    · exact grows [] ad 0 hsx (fun w' _ => by cases ad <;> simp [Builtin.firstCells, loadCells, loadCellsFrom, pure]) (by simp) hfit (by simp) (by simp)
  | @own _ _ b cap hbb =>
    obtain ⟨arr, h1, h2, h3, h4, h5, h6⟩ := r.obj hbb ho
    have hnk : n * k ≤ arr.size := by rw [h2, ← hn]; exact Nat.mul_le_mul_right _ h3
    by_cases hfit : n + rows2.length ≤ cap
    · have hrun := run_append_fits (ty := ty) hT hT' h1 h2 (n1 w rfl).1 (n1 w rfl).2 n2 n3 hfit
      have hle2 : n * k + news.length ≤ arr.size := by
        rw [n2, h2, ← Nat.add_mul]; exact Nat.mul_le_mul_right _ hfit
      have hgt : ∀ p, (arr.toList.take (n * k) ++ news ++ arr.toList.drop (n * k + news.length)).toArray[p]? = if n * k ≤ p ∧ p < n * k + news.length then news[p - n * k]? else arr[p]? := by
        intro p
        rw [List.getElem?_toArray, splice_get _ _ _ (by simpa using hle2)]
        split <;> simp
      have r1 := r.update (id := id) (ob := .arr e k rows') (by rw [ho]; simp) hbb (w.setRow b (arr.toList.take (n * k) ++ news ++ arr.toList.drop (n * k + news.length)).toArray) (fun b' hb' => heap_setRow hb') (by simp [World.setRow]) ⟨rfl, rfl, rfl⟩ (by
        refine obok_new (heap_setRow_self h1) ?_ (by rw [hn', hlen]; exact hfit) h4 (fun row h => hrows' row h h5) ?_
        · have : (arr.toList.take (n * k) ++ news ++ arr.toList.drop (n * k + news.length)).length = arr.size := by
            simp only [List.length_append, List.length_take, List.length_drop, Array.length_toList]; omega
          rw [List.size_toArray, this, h2]
        · refine hcells β (fun p => arr[p]?) _ (Locs.le_refl _) h5 h6 ?_ ?_
          · intro p hp; rw [hgt, if_neg (by omega)]
          · intro p hp; rw [hgt, if_pos (by rw [n2]; omega), Nat.add_sub_cancel_left])
      obtain ⟨β', hle, hnx, r2⟩ := r1.moveAt id idn hid1 hid2 (hres1 _) (ob := .arr e k rows') (by rw [hget_put]; simp) (by simp) (by simp)
      have r3 : Rel K m β' (w.setRow b (arr.toList.take (n * k) ++ news ++ arr.toList.drop (n * k + news.length)).toArray) a ⟨S.env, (idn, .arr e k rows') :: (id, .dead) :: S.hp, S.nx⟩ := by
        have hsame : ∀ i, hget ((idn, Ob.arr e k rows') :: (id, .dead) :: (id, .arr e k rows') :: S.hp) i = hget ((idn, Ob.arr e k rows') :: (id, .dead) :: S.hp) i := by
          intro i
          simp only [hget_put]
          by_cases q1 : idn = i
          · rw [if_pos q1, if_pos q1]
          · rw [if_neg q1, if_neg q1]
            by_cases q2 : id = i
            · rw [if_pos q2, if_pos q2]
            · rw [if_neg q2, if_neg q2, if_neg q2]
        exact ⟨r2.imm, r2.ext, r2.mold, r2.frame, r2.size, r2.same, r2.tn, r2.df, r2.env, fun i => by have := r2.own i; simp only [hsame] at this; exact this,
          fun i b c h => r2.priv i b c (by simp only [hsame]; exact h), fun i i' b c c' h h' => r2.inj i i' b c c' (by simp only [hsame]; exact h) (by simp only [hsame]; exact h'), r2.nx, r2.pin⟩
      refine ⟨.slice (some ⟨b, 0, none⟩) n' cap, w.setRow b (arr.toList.take (n * k) ++ news ++ arr.toList.drop (n * k + news.length)).toArray, m, β', .inl ?_, Rel.put r3 hN (.own (by rw [hnx]; exact hbb))⟩
      refine hop _ _ ?_
      rw [hsx, hrun, hlen]
    · refine grows (arr.toList.take (n * k)) (some ⟨b, 0, none⟩) cap hsx (fun w' hw' => ?_) (by simp; omega) hfit h5 ?_
      · have := run_firstCells (P := K.P) (w := w') (ad := ⟨b, 0, none⟩) (n := n) (c := cap) (k := k) (fun j => arr.getD j undef) (fun j hj => by
          rw [add_spot, Nat.zero_add, cell_of_heap (arr := arr) (T := e) (fr := (0, 0)) (by rw [hw']; exact h1)]
          simp [Array.getD_eq_getD_getElem?, Nat.lt_of_lt_of_le hj hnk])
        rw [this]
        congr 2
        apply List.ext_getElem?
        intro j
        rw [List.getElem?_map, List.getElem?_take]
        by_cases hj : j < n * k
        · rw [List.getElem?_range hj, if_pos hj]
          simp [Array.getD_eq_getD_getElem?, Nat.lt_of_lt_of_le hj hnk]
        · rw [if_neg hj, List.getElem?_eq_none (by simp; omega)]; rfl
      · intro i j row c hi hj
        obtain ⟨v, a1, a2, a3⟩ := h6 i j row c hi hj
        refine ⟨v, ?_, a2, a3⟩
        rw [List.getElem?_take, if_pos]
        · simpa using a1
        · have hrk := h5 row (List.mem_of_getElem? hi)
          have hjk : j < k := by rw [← hrk]; exact (List.getElem?_eq_some_iff.1 hj).1
          calc i * k + j < i * k + k := by omega
            _ = (i + 1) * k := by rw [Nat.add_mul, Nat.one_mul]
            _ ≤ n * k := Nat.mul_le_mul_right _ (by rw [← hn]; exact (List.getElem?_eq_some_iff.1 hi).1)
end
theorem slL_hi {α β : Type} {f : α → β} {l : List α} {a : Nat} : ((l.map f).drop a).take (l.length - a) = (l.drop a).map f := by rw [List.take_of_length_le] <;> simp
theorem slL_lo {α β : Type} {f : α → β} {l : List α} {b : Nat} : ((l.map f).drop 0).take (b - 0) = (l.take b).map f := by simp
section
variable {K : Ctx} {Q : Post} {S : St}
variable {ops : Array Oper} {rest : List Oper} {ty : TypeId} {pos : String} {after : Array Edge} {g : Option (Nat × Bool)}
end
section
variable {K : Ctx} {Q : Post} {S : St}
theorem awp_len {c : Code} {α : Type} {k : Nat} {A : List α} {enc : α → List V} (t : Nat) (ht : get S.env t = .lst k (A.map enc)) (h : A.length ≤ maxLen → AWP K c Q S) : AWP K c Q S := by
  intro m β w a r
  refine h ?_ m β w a r
  have := r.env t
  rw [ht] at this
  generalize a.tmps.getD t undef = v at this
  generalize hrows : A.map enc = rows at this
  cases this with
  | imm h =>
    cases h with
    | nil => have : A = [] := by simpa using hrows
             subst this; simp
    | lst f h1 h2 h3 h4 h5 => rw [← hrows, List.length_map] at h3; omega
/-- The loop goes over A; it stands at the index N, and 'X rest N' holds. -/
def RG {α : Type} (A : List α) (X : List α → Int → Prop) (n : Nat) (N : Int) : Prop := ∃ j : Nat, N = j ∧ j ≤ A.length ∧ A.length - j < n ∧ X (A.drop j) N
theorem RG.zero {α : Type} {A : List α} {X : List α → Int → Prop} {N : Int} : ¬ RG A X 0 N := fun ⟨_, _, _, h, _⟩ => by omega
theorem RG.start {α : Type} {A : List α} {X : List α → Int → Prop} (h : X A 0) : RG A X (A.length + 1) 0 := ⟨0, rfl, Nat.zero_le _, by omega, h⟩
theorem w64_nat {n : Nat} (h : n ≤ maxLen) : IntKind.wrap .i64 (n : Int) = n := by
  have h : n ≤ 9223372036854775807 := h
  have : IntKind.wrap .i64 (n : Int) = if (n : Int) % 18446744073709551616 ≥ 9223372036854775808 then (n : Int) % 18446744073709551616 - 18446744073709551616 else (n : Int) % 18446744073709551616 := by
    simp [IntKind.wrap, IntKind.signed, IntKind.bits]
  rw [this]
  split <;> omega
theorem RG.t {α : Type} {A : List α} {X : List α → Int → Prop} {n : Nat} {N : Int} (hA : A.length ≤ maxLen) (h : RG A X (n + 1) N) (hb : decide (N < ((A.length : Nat) : Int)) = true) :
    ∃ x l, idx A N = some x ∧ X (x :: l) N ∧ ∀ X' : List α → Int → Prop, X' l (N + 1) → RG A X' n (IntKind.wrap .i64 (N + 1)) := by
  obtain ⟨j, rfl, h1, h2, h3⟩ := h
  have hj : j < A.length := by have := of_decide_eq_true hb; omega
  refine ⟨A[j], A.drop (j + 1), by simp [idx, hj], by rw [← List.drop_eq_getElem_cons hj]; exact h3, fun X' h => ?_⟩
  have e : IntKind.wrap .i64 ((j : Int) + 1) = ((j + 1 : Nat) : Int) := w64_nat (n := j + 1) (by omega)
  rw [e]
  exact ⟨j + 1, rfl, hj, by omega, h⟩
theorem RG.f {α : Type} {A : List α} {X : List α → Int → Prop} {n : Nat} {N : Int} (h : RG A X (n + 1) N) (hb : decide (N < ((A.length : Nat) : Int)) = false) : X [] N := by
  obtain ⟨j, rfl, h1, h2, h3⟩ := h
  have hj : ¬ j < A.length := by have := of_decide_eq_false hb; omega
  rwa [List.drop_eq_nil_of_le (by omega)] at h3
/-- The loop counts up to B; it stands at N, and 'X (what is left) N' holds. -/
def RC (B : Int) (X : Nat → Int → Prop) (n : Nat) (N : Int) : Prop := ∃ j : Nat, N = j ∧ j ≤ B.toNat ∧ B.toNat - j < n ∧ X (B.toNat - j) N
theorem RC.zero {B : Int} {X : Nat → Int → Prop} {N : Int} : ¬ RC B X 0 N := fun ⟨_, _, _, h, _⟩ => by omega
theorem RC.start {B : Int} {X : Nat → Int → Prop} (h : X B.toNat 0) : RC B X (B.toNat + 1) 0 := ⟨0, rfl, Nat.zero_le _, by omega, h⟩
theorem RC.t {B : Int} {X : Nat → Int → Prop} {n : Nat} {N : Int} (hB : B ≤ 9223372036854775807) (h : RC B X (n + 1) N) (hb : decide (N < B) = true) :
    ∃ l, X (l + 1) N ∧ ∀ X' : Nat → Int → Prop, X' l (N + 1) → RC B X' n (IntKind.wrap .i64 (N + 1)) := by
  obtain ⟨j, rfl, h1, h2, h3⟩ := h
  have hj : j < B.toNat := by have := of_decide_eq_true hb; omega
  refine ⟨B.toNat - (j + 1), by rw [show B.toNat - (j + 1) + 1 = B.toNat - j by omega]; exact h3, fun X' h => ?_⟩
  have e : IntKind.wrap .i64 ((j : Int) + 1) = ((j + 1 : Nat) : Int) := w64_nat (n := j + 1) (by unfold maxLen; omega)
  rw [e]
  exact ⟨j + 1, rfl, hj, by omega, h⟩
theorem RC.f {B : Int} {X : Nat → Int → Prop} {n : Nat} {N : Int} (h : RC B X (n + 1) N) (hb : decide (N < B) = false) : X 0 N := by
  obtain ⟨j, rfl, h1, h2, h3⟩ := h
  have hj : ¬ (j : Int) < B := of_decide_eq_false hb
  rwa [show B.toNat - j = 0 by omega] at h3
end
end Go.Pv
