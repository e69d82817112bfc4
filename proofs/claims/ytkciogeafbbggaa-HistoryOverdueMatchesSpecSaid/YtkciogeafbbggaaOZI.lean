/- Part of the proof: ZI. -/
import Derived.Test.YtkciogeafbbggaaOPvZ
import Derived.Shelf.Spec.SlicesInsert
import Derived.Shelf.Spec.SlicesInsertGrow
namespace Go.Pv
open Go
def eI (x : Int) : List V := [V.con (.int .i64 x)]
def RowAt (w : World) (e b cap : Nat) (l : List Int) : Prop :=
  ∃ arr, w.heap[b]? = some (.cells arr e (0, 0)) ∧ arr.size = cap ∧ l.length ≤ cap ∧ cap ≤ maxLen ∧ ∀ (i : Nat) x, l[i]? = some x → arr[i]? = some (.int .i64 x)
structure NewRow (w w' : World) (b0 : Option Nat) (b' c' e : Nat) (l' : List Int) : Prop where
  obj : RowAt w' e b' c' l'
  at' : b0 = some b' ∨ w.heap.size ≤ b'
  other : ∀ b, b < w.heap.size → b0 ≠ some b → w'.heap[b]? = w.heap[b]?
  size : w.heap.size ≤ w'.heap.size
  same : Same w w'
theorem row_of {m : Mem} {β : Locs} {w : World} {b cap e : Nat} {l : List Int} (h : ObOk m β w (some (some (b, cap))) (.arr e 1 (l.map eI))) : RowAt w e b cap l := by
  obtain ⟨arr, o1, o2, o3, o4, o5, o6⟩ := h
  refine ⟨arr, o1, by simpa using o2, by simpa using o3, o4, fun i x hx => ?_⟩
  obtain ⟨v, v1, v2, _⟩ := o6 i 0 (eI x) (V.con (.int .i64 x)) (by simp [hx]) rfl
  have := v2.of_con
  subst this
  simpa using v1
theorem of_row {m : Mem} {β : Locs} {w : World} {b cap e : Nat} {l : List Int} (h : RowAt w e b cap l) : ObOk m β w (some (some (b, cap))) (.arr e 1 (l.map eI)) := by
  obtain ⟨arr, o1, o2, o3, o4, o5⟩ := h
  refine ⟨arr, o1, by simpa using o2, by simpa using o3, o4, fun row hr => ?_, fun i j row c hr hc => ?_⟩
  · obtain ⟨x, _, rfl⟩ := List.mem_map.1 hr; rfl
  · rw [List.getElem?_map] at hr
    cases hli : l[i]? with
    | none => rw [hli] at hr; simp at hr
    | some x =>
      rw [hli] at hr
      simp at hr
      subst hr
      have hj : j = 0 := by
        have := (List.getElem?_eq_some_iff.1 hc).1
        simp [eI] at this; exact this
      subst hj
      simp [eI] at hc
      subst hc
      exact ⟨_, by simpa using o5 i x hli, .imm (.con _), rfl⟩
theorem mut_ins {P : Program} {f : FuncId} {k id id2 : Nat} {hp : Heap} {e : TypeId} (l v l' : List Int) (i : Int) (hid : hget hp id = .arr e 1 (l.map eI)) (hid2 : hget hp id2 = .arr e 1 (v.map eI)) (hne : id ≠ id2) (hv : v ≠ [])
    (h1 : ∀ (w : World) (ad : Option Addr) (vb vc : Nat), l = [] → RowAt w e vb vc v → ∃ b' c', Calls P f #[.slice ad 0 0, .int .i64 i, .slice (some ⟨vb, 0, none⟩) v.length vc] w fun ex w' => ex = .returned (.slice (some ⟨b', 0, none⟩) l'.length c') ∧ NewRow w w' none b' c' e l')
    (h2 : ∀ (w : World) (b cap vb vc : Nat), vb ≠ b → RowAt w e b cap l → RowAt w e vb vc v → ∃ b' c', Calls P f #[.slice (some ⟨b, 0, none⟩) l.length cap, .int .i64 i, .slice (some ⟨vb, 0, none⟩) v.length vc] w fun ex w' =>
      ex = .returned (.slice (some ⟨b', 0, none⟩) l'.length c') ∧ NewRow w w' (some b) b' c' e l') :
    Mut P f [.own id l.length, .con (.int .i64 i), .own id2 v.length] k hp (.own k l'.length) (k + 1) ((k, .arr e 1 (l'.map eI)) :: (id, .dead) :: hp) := by
  intro m β w vs himm hargs hown hpriv hinj hnx
  obtain ⟨a0, a1, a2, rfl⟩ : ∃ a0 a1 a2, vs = #[a0, a1, a2] := by
    have := hargs.len
    simp at this
    exact ⟨vs[0], vs[1], vs[2], by
      apply Array.ext
      · simp [← this]
      · intro i h1 h2
        simp at h2
        match i, h2 with
        | 0, _ => rfl
        | 1, _ => rfl
        | 2, _ => rfl⟩
  have hv0 := hargs.at' 0 _ _ rfl rfl
  have hv1 := hargs.at' 1 _ _ rfl rfl
  have hv2 := hargs.at' 2 _ _ rfl rfl
  have hi := hv1.of_con
  subst hi
  have hob := hown id
  rw [hid] at hob
  have hob2 := hown id2
  rw [hid2] at hob2
  have hlid : hget hp id ≠ .dead := by rw [hid]; simp
  have hlid2 : hget hp id2 ≠ .dead := by rw [hid2]; simp
  have hidk : β id ≠ none := fun hh => by rw [hh] at hob; simp [ObOk] at hob
  -- what was handed over
  obtain ⟨vb, vc, hb2, hv2'⟩ : ∃ vb vc, β id2 = some (some (vb, vc)) ∧ a2 = .slice (some ⟨vb, 0, none⟩) v.length vc := by
    generalize hvl : v.length = n at hv2
    cases hv2 with
    | imm h' => cases h'
    | ownNil hb => exact absurd (List.length_eq_zero_iff.1 hvl) hv
    | own hb => exact ⟨_, _, hb, rfl⟩
  subst hv2'
  rw [hb2] at hob2
  have hr2 := row_of hob2
  -- the call
  have hkey : ∃ b0 b' c', (∀ b cap, β id = some (some (b, cap)) → b0 = some b) ∧ (∀ b, b0 = some b → ∃ cap, β id = some (some (b, cap))) ∧ Calls P f #[a0, .int .i64 i, .slice (some ⟨vb, 0, none⟩) v.length vc] w fun ex w' =>
      ex = .returned (.slice (some ⟨b', 0, none⟩) l'.length c') ∧ NewRow w w' b0 b' c' e l' := by
    generalize hll : l.length = n at hv0
    cases hv0 with
    | imm h' => cases h'
    | ownNil hb =>
      obtain ⟨b', c', hc⟩ := h1 w _ vb vc (List.length_eq_zero_iff.1 hll) hr2
      exact ⟨none, b', c', fun b cap hh => by rw [hb] at hh; simp at hh, fun b hh => by simp at hh, hc⟩
    | @own _ _ b cap hb =>
      have hob' := hob
      rw [hb] at hob'
      have hvb : vb ≠ b := fun hh => by subst hh; exact hne (hinj id id2 _ _ _ hlid hlid2 hb hb2)
      obtain ⟨b', c', hc⟩ := h2 w b cap vb vc hvb (row_of hob') hr2
      subst hll
      refine ⟨some b, b', c', fun b1 cap1 hh => by rw [hb] at hh; simp at hh; rw [hh.1], fun b1 hh => ⟨cap, by simp at hh; rw [← hh]; exact hb⟩, hc⟩
  obtain ⟨b0, b', c', hb0, hb0', hc⟩ := hkey
  have hkn : β k = none := hnx k (Nat.le_refl _)
  have hidk' : id ≠ k := fun hh => hidk (hh ▸ hkn)
  let β' : Locs := fun q => if q = k then some (some (b', c')) else β q
  have hβ : ∀ q, q ≠ k → β' q = β q := fun q hq => if_neg hq
  have hβk : β' k = some (some (b', c')) := if_pos rfl
  have hg : ∀ q, hget ((k, Ob.arr e 1 (l'.map eI)) :: (id, .dead) :: hp) q = if k = q then Ob.arr e 1 (l'.map eI) else if id = q then .dead else hget hp q := fun q => by rw [hget_put, hget_put]
  refine hc.mono ?_
  rintro ex w' ⟨rfl, hN⟩
  have hoth : ∀ q b cap, q ≠ id → hget hp q ≠ .dead → β q = some (some (b, cap)) → b0 ≠ some b := fun q b cap hq hl hb hh => by
    obtain ⟨cap1, h3⟩ := hb0' b hh
    exact hq (hinj q id b cap cap1 hl hlid hb h3)
  refine ⟨_, m, β', rfl, .own hβk, Mem.le_refl _, fun b o hb => ?_, fun b hb hF => ⟨rfl, hN.other b hb (fun hh => ?_)⟩, hN.size, hN.same, fun q => ?_, fun q b cap hq hbq => ?_, fun q q' b cap cap' hq hq' hbq hbq' => ?_, fun q hq => ?_, fun q hq => ⟨Nat.lt_succ_of_lt hq, hβ q (by omega)⟩⟩
  · have hlt := lt_of_some (himm b o hb)
    rw [hN.other b hlt (fun hh => ?_)]
    · exact himm b o hb
    · obtain ⟨cap, h3⟩ := hb0' b hh
      rw [hpriv id b cap hlid h3] at hb
      simp at hb
  · obtain ⟨cap, h3⟩ := hb0' b hh
    exact hF id cap hlid h3
  · rw [hg]
    split
    · rename_i hh; subst hh; rw [hβk]; exact of_row hN.obj
    · rename_i hk
      rw [hβ q (Ne.symm hk)]
      split
      · exact ObOk.dead' _
      · rename_i hi
        by_cases hd : hget hp q = .dead
        · rw [hd]; exact ObOk.dead' _
        · have hle : β.le β' := fun j lo hj => by
            show (if j = k then _ else _) = _
            rw [if_neg]
            · exact hj
            · intro e; rw [e, hkn] at hj; simp at hj
          have h1 := ObOk.congr (w' := w') (fun b cap hbb => hN.other b (live_lt hd hbb (hown q)) (hoth q b cap (Ne.symm hi) hd hbb)) (hown q)
          exact ObOk.mono (Mem.le_refl _) hle (fun _ _ h => h) h1
  · rw [hg] at hq
    split at hq
    · rename_i hh
      subst hh
      rw [hβk] at hbq
      simp at hbq
      obtain ⟨rfl, rfl⟩ := hbq
      rcases hN.at' with h3 | h3
      · obtain ⟨cap1, h4⟩ := hb0' _ h3
        exact ⟨hpriv id _ cap1 hlid h4, fun _ hF => hF id cap1 hlid h4⟩
      · refine ⟨?_, fun hlt => absurd hlt (by omega)⟩
        cases hm : m b' with
        | none => rfl
        | some o => exact absurd (lt_of_some (himm b' o hm)) (by omega)
    · rename_i hk
      split at hq
      · exact absurd rfl hq
      · rw [hβ q (Ne.symm hk)] at hbq
        exact ⟨hpriv q b cap hq hbq, fun _ hF => hF q cap hq hbq⟩
  · rw [hg] at hq hq'
    have hnew : ∀ q b1 cap1, q ≠ k → q ≠ id → hget hp q ≠ .dead → β q = some (some (b1, cap1)) → b1 ≠ b' := fun q b1 cap1 h3 h4 h5 h6 h7 => by
      subst h7
      rcases hN.at' with h8 | h8
      · exact hoth q _ cap1 h4 h5 h6 h8
      · exact absurd (live_lt h5 h6 (hown q)) (by omega)
    by_cases e1 : k = q <;> by_cases e2 : k = q'
    · rw [← e1, ← e2]
    · exfalso
      rw [if_neg e2] at hq'
      split at hq'
      · exact absurd rfl hq'
      · rename_i e3
        subst e1
        rw [hβk] at hbq; simp at hbq
        rw [hβ q' (Ne.symm e2)] at hbq'
        exact hnew q' b cap' (Ne.symm e2) (Ne.symm e3) hq' hbq' hbq.1.symm
    · exfalso
      rw [if_neg e1] at hq
      split at hq
      · exact absurd rfl hq
      · rename_i e3
        subst e2
        rw [hβk] at hbq'; simp at hbq'
        rw [hβ q (Ne.symm e1)] at hbq
        exact hnew q b cap (Ne.symm e1) (Ne.symm e3) hq hbq hbq'.1.symm
    · rw [if_neg e1] at hq
      rw [if_neg e2] at hq'
      rw [hβ q (Ne.symm e1)] at hbq
      rw [hβ q' (Ne.symm e2)] at hbq'
      split at hq
      · exact absurd rfl hq
      · split at hq'
        · exact absurd rfl hq'
        · exact hinj q q' b cap cap' hq hq' hbq hbq'
  · show (if q = k then _ else _) = _
    rw [if_neg (by omega)]
    exact hnx q (by omega)
theorem setCells_row (b : Nat) : ∀ (vs : List Value) (o : Nat) (w : World) {arr : Array Value} {T : TypeId}, w.heap[b]? = some (.cells arr T (0, 0)) →
    ∃ arr', (w.setCells b o vs).heap[b]? = some (.cells arr' T (0, 0)) ∧ arr'.size = arr.size ∧ ∀ j, arr'[j]? = if o ≤ j ∧ j < o + vs.length ∧ j < arr.size then vs[j - o]? else arr[j]?
  | [], o, w, arr, T, h => ⟨arr, h, rfl, fun j => by rw [if_neg (by simp; omega)]⟩
  | v :: vs, o, w, arr, T, h => by
    obtain ⟨arr', h1, h2, h3⟩ := setCells_row b vs (o + 1) (w.setCell ⟨b, o, none⟩ v) (arr := arr.setIfInBounds o v) (T := T) (by
      have hlt := lt_of_some h
      simp only [World.setCell, Array.getElem?_modify, if_true, h, Option.map_some]
      simp)
    refine ⟨arr', h1, by rw [h2]; simp, fun j => ?_⟩
    rw [h3, Array.size_setIfInBounds, Array.getElem?_setIfInBounds]
    simp only [List.length_cons]
    by_cases hj : j = o
    · subst hj
      rw [if_neg (by omega), if_pos rfl]
      by_cases hs : j < arr.size
      · rw [if_pos hs, if_pos ⟨by omega, by omega, hs⟩]; simp
      · rw [if_neg hs, if_neg (by omega)]
        rw [Array.getElem?_eq_none (by omega)]
    · by_cases hc : o + 1 ≤ j ∧ j < o + 1 + vs.length ∧ j < arr.size
      · rw [if_pos hc, if_pos ⟨by omega, by omega, hc.2.2⟩, show j - o = (j - (o + 1)) + 1 by omega]; simp
      · rw [if_neg hc, if_neg (by omega), if_neg (by omega)]
theorem setCells_same (b : Nat) : ∀ (vs : List Value) (o : Nat) (w : World), (w.setCells b o vs).heap.size = w.heap.size ∧ Same w (w.setCells b o vs) ∧ ∀ b', b' ≠ b → (w.setCells b o vs).heap[b']? = w.heap[b']?
  | [], o, w => ⟨rfl, ⟨rfl, rfl, rfl⟩, fun _ _ => rfl⟩
  | v :: vs, o, w => by
    obtain ⟨h1, h2, h3⟩ := setCells_same b vs (o + 1) (w.setCell ⟨b, o, none⟩ v)
    refine ⟨by rw [World.setCells, h1]; simp [World.setCell], ⟨h2.os, h2.tape, h2.output⟩, fun b' hb' => ?_⟩
    rw [World.setCells, h3 b' hb']
    simp only [World.setCell, Array.getElem?_modify]
    rw [if_neg (fun h => hb' h.symm)]
theorem alloc_row {w w1 : World} {arr : Array Value} {e c' : Nat} {l' : List Int} (b0 : Option Nat) (hw : w1.heap = w.heap) (hs : Same w w1) (hsz : arr.size = c') (hl : l'.length ≤ c') (hc : c' ≤ maxLen)
    (hx : ∀ (i : Nat) x, l'[i]? = some x → arr[i]? = some (.int .i64 x)) : NewRow w (w1.alloc (.cells arr e (0, 0))) b0 w.heap.size c' e l' where
  obj := ⟨arr, by simp [World.alloc, hw], hsz, hl, hc, hx⟩
  at' := .inr (Nat.le_refl _)
  other := fun b hb _ => by simp only [World.alloc, hw, Array.getElem?_push]; rw [if_neg (by omega)]
  size := by simp [World.alloc, hw]
  same := ⟨hs.os, hs.tape, hs.output⟩
def vI (l : List Int) : List Value := l.map fun x => .int .i64 x
theorem vI_one {l : List Int} : ∀ v, v ∈ vI l → v.oneCell' = true := by
  intro v hv
  obtain ⟨x, _, rfl⟩ := List.mem_map.1 hv
  rfl
theorem vI_get {l : List Int} {j : Nat} {v : Value} (h : (vI l)[j]? = some v) : ∃ x, l[j]? = some x ∧ v = .int .i64 x := by
  simp only [vI, List.getElem?_map, Option.map_eq_some_iff] at h
  obtain ⟨x, h1, h2⟩ := h
  exact ⟨x, h1, h2.symm⟩
theorem RowAt.cells {w : World} {e b cap : Nat} {l : List Int} (h : RowAt w e b cap l) : ∀ (j : Nat) (v : Value), (vI l)[j]? = some v → w.cell? ⟨b, 0 + j, none⟩ = some v := by
  obtain ⟨arr, o1, o2, o3, o4, o5⟩ := h
  intro j v hv
  obtain ⟨x, h1, rfl⟩ := vI_get hv
  rw [cell_of_heap o1, Nat.zero_add]; exact o5 j x h1
theorem RowAt.some {w : World} {e b cap : Nat} {l : List Int} (h : RowAt w e b cap l) {j : Nat} (hj : j < cap) : (w.cell? ⟨b, j, none⟩).isSome = true := by
  obtain ⟨arr, o1, o2, o3, o4, o5⟩ := h
  rw [cell_of_heap o1]; simp [o2, hj]
theorem RowAt.soft {w : World} {e b cap : Nat} {l : List Int} (h : RowAt w e b cap l) (j : Nat) : w.frozen? ⟨b, j, none⟩ = false := by
  obtain ⟨arr, o1, _⟩ := h
  simp [World.frozen?, o1]
/-- The list with other elements put in. -/
def insL (l : List Int) (i : Nat) (v : List Int) : List Int := l.take i ++ v ++ l.drop i
theorem insL_length {l v : List Int} {i : Nat} (hi : i ≤ l.length) : (insL l i v).length = l.length + v.length := by
  simp [insL]; omega
theorem insL_get {l v : List Int} {i j : Nat} (hi : i ≤ l.length) : (insL l i v)[j]? = if j < i then l[j]? else if j < i + v.length then v[j - i]? else l[j - v.length]? := by
  unfold insL
  rw [List.append_assoc, List.getElem?_append, List.length_take, Nat.min_eq_left hi]
  split
  · rename_i h; rw [List.getElem?_take_of_lt h]
  · rename_i h
    rw [List.getElem?_append]
    split
    · rename_i h2; rw [if_pos (by omega)]
    · rename_i h2
      rw [if_neg (by omega), List.getElem?_drop]; congr 1; omega
theorem mut_insert {P : Program} {ρ : Go.Shelf.Ren} (L : Go.Proofs.Lays2.n21 P ρ) {k id id2 : Nat} {hp : Heap} (l v : List Int) (i : Int) (hid : hget hp id = .arr (ρ.t 3) 1 (l.map eI)) (hid2 : hget hp id2 = .arr (ρ.t 3) 1 (v.map eI)) (hne : id ≠ id2) (hv : v ≠ [])
    (h0 : 0 ≤ i ∧ i.toNat ≤ l.length) (hbig : (l.length + v.length) * 8 ≤ 140737488355328) :
    Mut P (ρ.f 21) [.own id l.length, .con (.int .i64 i), .own id2 v.length] k hp (.own k (insL l i.toNat v).length) (k + 1) ((k, .arr (ρ.t 3) 1 ((insL l i.toNat v).map eI)) :: (id, .dead) :: hp) := by
  obtain ⟨n, rfl⟩ : ∃ n : Nat, i = n := ⟨i.toNat, by omega⟩
  have hi : n ≤ l.length := by simpa using h0.2
  simp only [Int.toNat_natCast]
  have hm : 0 < v.length := List.length_pos_iff.2 hv
  have hlen := insL_length (v := v) hi
  have hmax : l.length + v.length ≤ maxLen := by unfold maxLen; omega
  -- a new array behind the end
  have hend : ∀ (w : World) (b0 : Option Nat) (base : Option Addr) (c vb vc : Nat), n = l.length → l.length ≤ c → c < l.length + v.length → (base = none → l.length = 0) → (∀ a, base = some a → ∀ j v, (vI l)[j]? = some v → w.cell? (a.add j) = some v) → RowAt w (ρ.t 3) vb vc v →
      ∃ b' c', Calls P (ρ.f 21) #[.slice base l.length c, .int .i64 n, .slice (some ⟨vb, 0, none⟩) v.length vc] w fun ex w' => ex = .returned (.slice (some ⟨b', 0, none⟩) (insL l n v).length c') ∧ NewRow w w' b0 b' c' (ρ.t 3) (insL l n v) := by
    intro w b0 base c vb vc hn hc1 hc2 hnil hcs hr
    refine ⟨w.heap.size, grownCap w (l.length + v.length) c (ρ.t 3), ?_⟩
    have hge := grownCap_ge w (l.length + v.length) c (ρ.t 3)
    have := Go.Proofs.Any2.slices_Insert_int_end_grow L base l.length c vb 0 v.length vc (vI l) (vI v) w hm hc1 hc2 hbig (by simp [vI]) (by simp [vI]) hnil hcs hr.cells vI_one
    have e0 : (Value.int .i64 ((n : Nat) : Int)) = .int .i64 ((l.length : Nat) : Int) := by rw [hn]
    rw [e0]
    refine this.mono ?_
    rintro ex w' ⟨rfl, rfl⟩
    rw [hlen]
    refine ⟨rfl, alloc_row b0 rfl ⟨rfl, rfl, rfl⟩ ?_ (by rw [hlen]; exact hge) (grownCap_le_maxLen _ _ _ _ hmax) (fun j x hx => ?_)⟩
    · simp [vI, zeroCells_size, Value.cells]; omega
    · rw [insL_get hi] at hx
      have hjl : j < (insL l n v).length := by
        rw [hlen]
        rcases Nat.lt_or_ge j n with h | h
        · omega
        · rw [if_neg (by omega)] at hx
          split at hx
          · omega
          · have := (List.getElem?_eq_some_iff.1 hx).1; omega
      rw [hlen] at hjl
      rw [Array.getElem?_append_left (by simp [vI]; omega)]
      rw [List.getElem?_toArray, List.getElem?_append]
      simp only [vI, List.length_map]
      split at hx
      · rw [if_pos (by omega)]; simp [hx]
      · split at hx
        · rw [if_neg (by omega)]; rw [← hn]; simp [hx]
        · omega
  refine mut_ins l v (insL l n v) n hid hid2 hne hv (fun w ad vb vc hl hr => ?_) (fun w b cap vb vc hvb hb hr => ?_)
  · subst hl
    have hn0 : n = 0 := by simpa using hi
    exact hend w none ad 0 vb vc (by simp [hn0]) (by simp) (by simpa using hm) (by simp) (by simp [vI]) hr
  · have hb2 := hb
    obtain ⟨arr, o1, o2, o3, o4, o5⟩ := hb2
    have hc63 : cap ≤ 9223372036854775807 := by unfold maxLen at o4; omega
    have hbs : b < w.heap.size := lt_of_some o1
    by_cases hroom : l.length + v.length ≤ cap
    · refine ⟨b, cap, ?_⟩
      by_cases hin : n < l.length
      · -- the cells behind are moved
        have hr2 := hr
        obtain ⟨arr2, p1, p2, _⟩ := hr2
        refine (Go.Proofs.Any2.slices_Insert_int_shift L b 0 l.length cap n vb 0 v.length vc (vI l) (vI v) w hin hm hroom hc63 hvb (by simp [vI]) (by simp [vI]) hb.cells (fun j hj => hb.some (by omega)) (fun j hj => hb.soft _) hr.cells vI_one vI_one
          (ρ.t 3) (ρ.t 3) arr2.size arr.size (by simp [World.shape?, p1]) (by simp [World.shape?, o1]) (by omega) (hr.soft _) (hr.soft _)).mono ?_
        rintro ex w' ⟨rfl, rfl⟩
        rw [hlen]
        refine ⟨rfl, ?_⟩
        obtain ⟨a1, q1, q2, q3⟩ := setCells_row b ((vI l).drop n) (0 + (n + v.length)) w.drew (arr := arr) (T := ρ.t 3) o1
        obtain ⟨a2, r1, r2, r3⟩ := setCells_row b (vI v) (0 + n) _ q1
        obtain ⟨s1, s2, s3⟩ := setCells_same b ((vI l).drop n) (0 + (n + v.length)) w.drew
        obtain ⟨t1, t2, t3⟩ := setCells_same b (vI v) (0 + n) (w.drew.setCells b (0 + (n + v.length)) ((vI l).drop n))
        refine ⟨⟨a2, r1, by rw [r2, q2, o2], by rw [hlen]; exact hroom, o4, fun j x hx => ?_⟩, .inl rfl, fun b1 h3 h4 => ?_, by rw [t1, s1]; exact Nat.le_refl _, ⟨t2.os.trans s2.os, t2.tape.trans s2.tape, t2.output.trans s2.output⟩⟩
        · rw [r3, q3, q2]
          rw [insL_get hi] at hx
          simp only [vI, List.length_map, List.length_drop, Nat.zero_add]
          split at hx
          · rw [if_neg (by omega), if_neg (by omega)]; exact o5 j x hx
          · split at hx
            · rw [if_pos ⟨by omega, by omega, by omega⟩]; simp [hx]
            · have hlt := (List.getElem?_eq_some_iff.1 hx).1
              rw [if_neg (by omega), if_pos ⟨by omega, by omega, by omega⟩, List.getElem?_drop, List.getElem?_map, show n + (j - (n + v.length)) = j - v.length by omega, hx]; rfl
        · rw [t3 b1 (fun h => h4 (by rw [h])), s3 b1 (fun h => h4 (by rw [h]))]; rfl
      · -- behind the end, in place
        have hn : n = l.length := by omega
        have := Go.Proofs.Any2.slices_Insert_int_end_room L b 0 l.length cap vb 0 v.length vc (vI v) w hm hroom hc63 (by simp [vI]) (fun j hj => hb.some (by omega)) (fun j hj => hb.soft _) hr.cells vI_one
        subst hn
        refine this.mono ?_
        rintro ex w' ⟨rfl, rfl⟩
        rw [hlen]
        refine ⟨rfl, ?_⟩
        obtain ⟨a2, r1, r2, r3⟩ := setCells_row b (vI v) (0 + l.length) w o1
        obtain ⟨t1, t2, t3⟩ := setCells_same b (vI v) (0 + l.length) w
        refine ⟨⟨a2, r1, by rw [r2, o2], by rw [hlen]; exact hroom, o4, fun j x hx => ?_⟩, .inl rfl, fun b1 h3 h4 => t3 b1 (fun h => h4 (by rw [h])), by rw [t1]; exact Nat.le_refl _, t2⟩
        rw [r3]
        rw [insL_get hi] at hx
        simp only [vI, List.length_map, Nat.zero_add]
        split at hx
        · rw [if_neg (by omega)]; exact o5 j x hx
        · split at hx
          · rw [if_pos ⟨by omega, by omega, by omega⟩]; simp [hx]
          · have hlt := (List.getElem?_eq_some_iff.1 hx).1; omega
    · by_cases hin : n < l.length
      · refine ⟨w.heap.size, grownCap w (l.length + v.length) cap (ρ.t 3), ?_⟩
        have hge := grownCap_ge w (l.length + v.length) cap (ρ.t 3)
        refine (Go.Proofs.Any2.slices_Insert_int_grow L b 0 l.length cap n vb 0 v.length vc (vI l) (vI v) w hin hm o3 (by omega) hbig (by simp [vI]) (by simp [vI]) hb.cells hr.cells vI_one vI_one).mono ?_
        rintro ex w' ⟨rfl, rfl⟩
        rw [hlen]
        refine ⟨rfl, ?_⟩
        generalize hA : ((vI l).take n).toArray ++ Builtin.zeroCells (Value.int .i64 0).cells (l.length + v.length - n) ++ Builtin.zeroCells (Value.int .i64 0).cells (grownCap w (l.length + v.length) cap (ρ.t 3) - (l.length + v.length)) = A
        have hAs : A.size = grownCap w (l.length + v.length) cap (ρ.t 3) := by
          rw [← hA]; simp [vI, zeroCells_size, Value.cells]; omega
        have hAg : ∀ j, j < n → A[j]? = (vI l)[j]? := fun j hj => by
          rw [← hA, Array.append_assoc, Array.getElem?_append_left (by simp [vI]; omega)]
          rw [List.getElem?_toArray, List.getElem?_take_of_lt hj]
        have hal : (w.alloc (.cells A (ρ.t 3))).heap[w.heap.size]? = some (.cells A (ρ.t 3) (0, 0))   := by
          show (w.heap.push _)[w.heap.size]? = _
          simp
        obtain ⟨a1, q1, q2, q3⟩ := setCells_row w.heap.size (vI v) n (w.alloc (.cells A (ρ.t 3))).drew (arr := A) (T := ρ.t 3) hal
        obtain ⟨s1, s2, s3⟩ := setCells_same w.heap.size (vI v) n (w.alloc (.cells A (ρ.t 3))).drew
        generalize hW : ((w.alloc (.cells A (ρ.t 3))).drew).setCells w.heap.size n (vI v) = W at q1 s1 s2 s3
        obtain ⟨a2, r1, r2, r3⟩ := setCells_row w.heap.size ((vI l).drop n) (n + v.length) W.drew (arr := a1) (T := ρ.t 3) q1
        obtain ⟨t1, t2, t3⟩ := setCells_same w.heap.size ((vI l).drop n) (n + v.length) W.drew
        refine ⟨⟨a2, r1, by rw [r2, q2, hAs], by rw [hlen]; exact hge, grownCap_le_maxLen _ _ _ _ hmax, fun j x hx => ?_⟩, .inr (Nat.le_refl _), fun b1 h3 h4 => ?_, ?_, ⟨t2.os.trans s2.os, t2.tape.trans s2.tape, t2.output.trans s2.output⟩⟩
        · rw [r3, q3, q2, hAs]
          rw [insL_get hi] at hx
          simp only [vI, List.length_map, List.length_drop]
          split at hx
          · rename_i hjn
            rw [if_neg (by omega), if_neg (by omega), hAg j hjn]; simp [vI, hx]
          · split at hx
            · rw [if_neg (by omega), if_pos ⟨by omega, by omega, by omega⟩]; simp [hx]
            · have hlt := (List.getElem?_eq_some_iff.1 hx).1
              rw [if_pos ⟨by omega, by omega, by omega⟩, List.getElem?_drop, List.getElem?_map, show n + (j - (n + v.length)) = j - v.length by omega, hx]; rfl
        · rw [t3 b1 (by omega)]
          show W.heap[b1]? = _
          rw [s3 b1 (by omega)]
          simp only [World.drew, World.alloc, Array.getElem?_push]; rw [if_neg (by omega)]
        · rw [t1]
          show _ ≤ W.heap.size
          rw [s1]
          show _ ≤ (w.heap.push _).size
          simp
      · have hn : n = l.length := by omega
        refine hend w (some b) (some ⟨b, 0, none⟩) cap vb vc hn o3 (by omega) (by simp) (fun a ha j v hv => ?_) hr
        simp at ha; subst ha
        rw [add_spot]; exact hb.cells j v hv
theorem hget_ins {a b c : Ob} (q : Nat) : hget [(0, .dead), (1, b), (2, c)] q = hget ((2, c) :: (0, .dead) :: [(0, a), (1, b)]) q := by
  match q with
  | 0 => rfl
  | 1 => rfl
  | 2 => rfl
  | q + 3 => rfl
end Go.Pv
