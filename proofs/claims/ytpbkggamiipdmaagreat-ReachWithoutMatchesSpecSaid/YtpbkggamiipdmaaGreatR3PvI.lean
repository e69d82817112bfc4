/- The framework of walks over abstract values (own text), part I. -/
import Derived.Test.YtpbkggamiipdmaaGreatR3PvH
import Derived.Room.Entries
namespace Go.Pv
open Go
section
variable {K : Ctx} {Q : Post} {S S' : St} {ops : Array Oper} {rest : List Oper} {op : Op} {ty : TypeId} {pos : String} {after : Array Edge} {g : Option (Nat × Bool)}
variable {m : Mem} {β : Locs} {w : World} {a : Act}
/-- An element type: k cells, so many bytes. -/
def tyEl (P : Program) (T e k bytes : Nat) : Bool :=
  match P.underlying T with
  | some (.slice e') => e' == e && (match P.info? e with | some i => i.size == k && i.bytes == bytes && (match i.zero with | some z => z.cells.size == k | none => false) | none => false)
  | _ => false
theorem tyEl_inv {P : Program} {T e k bytes : Nat} (h : tyEl P T e k bytes = true) : ∃ i z, P.underlying T = some (.slice e) ∧ P.info? e = some i ∧ i.size = k ∧ i.bytes = bytes ∧ i.zero = some z ∧ z.cells.size = k := by
  unfold tyEl at h
  cases hu : P.underlying T with
  | none => simp [hu] at h
  | some d =>
    rw [hu] at h
    cases d <;> simp only [Bool.false_eq_true] at h
    rename_i e'
    simp only [Bool.and_eq_true, beq_iff_eq] at h
    obtain ⟨rfl, h⟩ := h
    cases hi : P.info? e' with
    | none => rw [hi] at h; simp at h
    | some i =>
      rw [hi] at h
      cases hz : i.zero with
      | none => simp [hz] at h
      | some z =>
        simp only [hz, Bool.and_eq_true, beq_iff_eq] at h
        obtain ⟨⟨h1, h2⟩, h3⟩ := h
        exact ⟨i, z, rfl, rfl, h1, h2, hz, h3⟩
theorem run_firstCells {P : Program} {w : World} {ad : Addr} {n c k : Nat} (f : Nat → Value) (h : ∀ j, j < n * k → w.cell? (ad.add j) = some (f j)) :
    (Builtin.firstCells k n (.slice (some ad) n c)).run P w = .ok ((List.range (n * k)).map f).toArray w := by
  simp only [Builtin.firstCells]
  exact run_loadCells w ad (n * k) f h
theorem zeroCells_size (z : Array Value) (n : Nat) : (Builtin.zeroCells z n).size = n * z.size := by simp [Builtin.zeroCells]
theorem run_append_fits {P : Program} {w : World} {T T' e k bytes b n cap off mm : Nat} {arr : Array Value} {x : Value} {news : List Value} (hT : tyEl P T e k bytes = true) (hT' : tySlice P T' = true)
    (hb : w.heap[b]? = some (.cells arr e (0, 0))) (hsz : arr.size = off + cap * k)
    (hlen : (Builtin.lenOf x).run P w = .ok mm w) (hfc : (Builtin.firstCells k mm x).run P w = .ok news.toArray w) (hnl : news.length = mm * k) (h1 : ∀ v, v ∈ news → v.oneCell' = true)
    (hfit : n + mm ≤ cap) :
    (Builtin.append_ #[T, T'] ty #[.slice (some ⟨b, off, none⟩) n cap, x]).run P w =
      .ok (.slice (some ⟨b, off, none⟩) (n + mm) cap) (w.setRow b (arr.toList.take (off + n * k) ++ news ++ arr.toList.drop (off + n * k + news.length)).toArray) := by
  obtain ⟨i, z, hu, hi, hs, hby, hz, hzk⟩ := tyEl_inv hT
  obtain ⟨e', hu'⟩ := tySlice_inv hT'
  have hle : off + n * k + news.length ≤ arr.size := by
    have : n * k + mm * k ≤ cap * k := by rw [← Nat.add_mul]; exact Nat.mul_le_mul_right _ hfit
    rw [hnl, hsz]; omega
  have hst := run_storeCells_at (P := P) b (off + n * k) e news 0 arr w hb (by omega) h1
  simp only [Nat.add_zero] at hst
  have hk : P.cellsOf e = k := by simp [Program.cellsOf, hi, hs]
  simp only [Builtin.append_, List.getElem?_toArray, List.getElem?_cons_zero, List.getElem?_cons_succ, Sem.run_bind, run_underlying hu, Result.andThen_ok, run_sizeOf w hi, hk, run_underlying hu', pure, Sem.run,
    Bool.false_eq_true, if_false, hlen, if_pos hfit, Bool.not_false, if_true, hfc, add_spot, hst]
theorem run_append_grows {P : Program} {w : World} {T T' e k bytes n cap mm : Nat} {s x : Value} {base : Option Addr} {olds news : List Value} (hT : tyEl P T e k bytes = true) (hT' : tySlice P T' = true) (hs : s = .slice base n cap)
    (hold : (Builtin.firstCells k n s).run P { w with drawn := w.drawn + 1 } = .ok olds.toArray { w with drawn := w.drawn + 1 })
    (hlen : (Builtin.lenOf x).run P w = .ok mm w) (hfc : (Builtin.firstCells k mm x).run P { w with drawn := w.drawn + 1 } = .ok news.toArray { w with drawn := w.drawn + 1 })
    (hol : olds.length = n * k) (hnl : news.length = mm * k)
    (hfit : ¬ n + mm ≤ cap) (hbytes : (n + mm) * bytes ≤ 140737488355328) (hpos : 0 < bytes) :
    ∃ cap' arr', (Builtin.append_ #[T, T'] ty #[s, x]).run P w = .ok (.slice (some ⟨w.heap.size, 0, none⟩) (n + mm) cap') { w with drawn := w.drawn + 1, heap := w.heap.push (.cells arr' e (0, 0)) } ∧
      n + mm ≤ cap' ∧ cap' ≤ maxLen ∧ arr'.size = cap' * k ∧ ∀ j, j < (n + mm) * k → arr'[j]? = (olds ++ news)[j]? := by
  subst hs
  obtain ⟨i, z, hu, hi, hs, hby, hz, hzk⟩ := tyEl_inv hT
  obtain ⟨e', hu'⟩ := tySlice_inv hT'
  have hk : P.cellsOf e = k := by simp [Program.cellsOf, hi, hs]
  have hneed : n + mm ≤ 140737488355328 := Nat.le_trans (Nat.le_mul_of_pos_right _ hpos) hbytes
  have hnext : Builtin.nextslicecap (n + mm) cap * bytes ≤ 2 ^ 48 := by
    have := Room.nextslicecap_le' (need := n + mm) (old := cap) (by omega)
    calc Builtin.nextslicecap (n + mm) cap * bytes ≤ (2 * (n + mm)) * bytes := Nat.mul_le_mul_right _ this
      _ = 2 * ((n + mm) * bytes) := by rw [Nat.mul_assoc]
      _ ≤ 2 ^ 48 := by omega
  let c' := (n + mm) + w.tape w.drawn (.appendCap (n + mm) cap e) % (2 ^ 63 - (n + mm))
  let w1 : World := { w with drawn := w.drawn + 1 }
  have hc' : n + mm ≤ c' ∧ c' ≤ maxLen := by
    have : w.tape w.drawn (.appendCap (n + mm) cap e) % (2 ^ 63 - (n + mm)) < 2 ^ 63 - (n + mm) := Nat.mod_lt _ (by omega)
    simp only [c', maxLen]; omega
  refine ⟨c', olds.toArray ++ news.toArray ++ Builtin.zeroCells z.cells (c' - (n + mm)), ?_, hc'.1, hc'.2, ?_, ?_⟩
  · have hask : ∀ (w : World), (askRoom (c' * bytes)).run P w = .ok () w := by
      intro w; unfold askRoom; split <;> rfl
    have hch : (choose (.appendCap (n + mm) cap e)).run P w = .ok c' w1 := by simp [choose, Sem.run, Question.forced, Question.cut, c', w1]
    have hzr : (zeroValue e).run P w1 = .ok z w1 := by
      simp only [zeroValue, Sem.run_bind, run_typeInfo w1 hi, Result.andThen_ok, hz]; rfl
    simp only [Builtin.append_, List.getElem?_toArray, List.getElem?_cons_zero, List.getElem?_cons_succ, Sem.run_bind, run_underlying hu, Result.andThen_ok, run_sizeOf w hi, hk, run_underlying hu', pure, Sem.run,
      Bool.false_eq_true, if_false, hlen, if_neg hfit, Bool.not_false, if_true, run_typeInfo w hi, hby, false_or]
    rw [if_neg (by omega)]
    simp only [Sem.run_bind, run_typeInfo w hi, Result.andThen_ok, hby]
    rw [if_neg (by omega)]
    simp only [Sem.run_bind, Sem.run, Result.andThen_ok, hch, run_typeInfo w1 hi, hby, hask, hold, hfc, hzr, w1, newRow, newObj, pure]
  · simp only [Array.size_append, List.size_toArray, hol, hnl, zeroCells_size, hzk]
    rw [← Nat.add_mul, ← Nat.add_mul]; congr 1; omega
  · intro j hj
    rw [Array.getElem?_append, if_pos (by simp only [Array.size_append, List.size_toArray, hol, hnl]; rw [← Nat.add_mul]; exact hj)]
    simp
theorem Rel.drawn (r : Rel K m β w a S) (n : Nat) : Rel K m β { w with drawn := n } a S :=
  ⟨r.imm, r.ext, r.mold, r.frame, r.size, ⟨r.same.os, r.same.tape, r.same.output⟩, r.tn, r.df, r.env, fun id => ObOk.congr (w := w) (fun _ _ _ => rfl) (fun _ _ => rfl) (r.own id), r.priv, r.inj, fun id x hl hx => ⟨(r.hid id x hl hx).lt, (r.hid id x hl hx).m, (r.hid id x hl hx).old, (r.hid id x hl hx).ne, (r.hid id x hl hx).un⟩, r.nx, r.pin⟩
theorem Rel.kill (r : Rel K m β w a S) (id : Nat) : Rel K m β w a ⟨S.env, (id, .dead) :: S.hp, S.nx⟩ := by
  have live : ∀ i, hget ((id, .dead) :: S.hp) i ≠ .dead → hget S.hp i ≠ .dead := by
    intro i hi
    rw [hget_put] at hi
    split at hi
    · exact absurd rfl hi
    · exact hi
  refine ⟨r.imm, r.ext, r.mold, r.frame, r.size, r.same, r.tn, r.df, r.env, fun i => ?_, fun i b c h => r.priv i b c (live i h), fun i i' b c c' h h' => r.inj i i' b c c' (live i h) (live i' h'), fun i x h hx => ⟨(r.hid i x (live i h) hx).lt, (r.hid i x (live i h) hx).m, (r.hid i x (live i h) hx).old, fun i' b c h' => (r.hid i x (live i h) hx).ne i' b c (live i' h'), fun i' h' => (r.hid i x (live i h) hx).un i' (live i' h')⟩, r.nx, r.pin⟩
  show ObOk m β w (β.hid i) (β i) (hget ((id, .dead) :: S.hp) i)
  rw [hget_put]
  split
  · exact ObOk.dead' _
  · exact r.own i
/-- An object gets a new number. -/
theorem Rel.moveG (r : Rel K m β w a S) (id idn nx' : Nat) (hfree : β idn = none) (hpid : ∀ q, q < K.pins → q ≠ idn) (hidn : idn < nx') (hnn : S.nx ≤ nx') {ob : Ob} (ho : hget S.hp id = ob) (hl : ob ≠ .dead) (hl2 : ob ≠ .res) : ∃ β' : Locs, β.le β' ∧ β' idn = β id ∧ Rel K m β' w a ⟨S.env, (idn, ob) :: (id, .dead) :: S.hp, nx'⟩ := by
  let β' : Locs := ⟨fun i => if i = idn then β id else β i, fun i => if i = idn then β.hid id else β.hid i⟩
  have en : β' idn = β id := by show (if _ then _ else _) = _; rw [if_pos rfl]
  have eo : ∀ i, i ≠ idn → β' i = β i := fun i h => by show (if _ then _ else _) = _; rw [if_neg h]
  have hn : β'.hid idn = β.hid id := by show (if _ then _ else _) = _; rw [if_pos rfl]
  have hho : ∀ i, i ≠ idn → β'.hid i = β.hid i := fun i h => by show (if _ then _ else _) = _; rw [if_neg h]
  have hle : β.le β' := by
    intro i l h
    rw [eo i]
    · exact h
    · intro e; rw [e, hfree] at h; simp at h
  have hne : id ≠ idn := by
    intro e
    have := r.own id
    rw [ho, e, hfree] at this
    cases ob <;> simp [ObOk] at this hl hl2
  -- the object at a number, and where it was
  have key : ∀ i, hget ((idn, ob) :: (id, .dead) :: S.hp) i ≠ .dead → ∃ j, (i = idn ∧ j = id ∨ i ≠ idn ∧ i ≠ id ∧ j = i) ∧ β' i = β j ∧ β'.hid i = β.hid j ∧ hget ((idn, ob) :: (id, .dead) :: S.hp) i = hget S.hp j := by
    intro i hi
    rw [hget_put] at hi ⊢
    by_cases h : idn = i
    · subst h; exact ⟨id, .inl ⟨rfl, rfl⟩, en, hn, by simp [ho]⟩
    · rw [if_neg h] at hi ⊢
      rw [hget_put] at hi ⊢
      by_cases h2 : id = i
      · rw [if_pos h2] at hi; exact absurd rfl hi
      · rw [if_neg h2]; exact ⟨i, .inr ⟨Ne.symm h, Ne.symm h2, rfl⟩, eo i (Ne.symm h), hho i (Ne.symm h), rfl⟩
  have back : ∀ i j i' j', (i = idn ∧ j = id ∨ i ≠ idn ∧ i ≠ id ∧ j = i) → (i' = idn ∧ j' = id ∨ i' ≠ idn ∧ i' ≠ id ∧ j' = i') → j = j' → i = i' := by
    intro i j i' j' h1 h1' this
    rcases h1 with ⟨e1, e2⟩ | ⟨e1, e2, e3⟩ <;> rcases h1' with ⟨f1, f2⟩ | ⟨f1, f2, f3⟩
    · rw [e1, f1]
    · exfalso; apply f2; rw [← f3, ← this, e2]
    · exfalso; apply e2; rw [← e3, this, f2]
    · rw [← e3, ← f3, this]
  refine ⟨β', hle, en, ?_⟩
  refine ⟨r.imm, r.ext, r.mold, r.frame, r.size, r.same, r.tn, r.df, fun t => (r.env t).mono (Mem.le_refl _) hle, fun i => ?_, fun i b c h hb => ?_, fun i i' b c c' h h' hb hb' => ?_, fun i x h hx => ?_, fun i hi => ?_, fun q hq => ?_⟩
  · by_cases hd : hget ((idn, ob) :: (id, .dead) :: S.hp) i = .dead
    · show ObOk m β' w _ _ (hget ((idn, ob) :: (id, .dead) :: S.hp) i); rw [hd]; exact ObOk.dead' _
    · obtain ⟨j, _, h2, h2', h3⟩ := key i hd
      show ObOk m β' w _ _ (hget ((idn, ob) :: (id, .dead) :: S.hp) i)
      rw [h2, h2', h3]
      exact ObOk.mono (Mem.le_refl _) hle (fun _ _ h => h) (fun _ _ => rfl) (r.own j)
  · obtain ⟨j, _, h2, _, h3⟩ := key i h
    rw [h2] at hb
    exact r.priv j b c (by rw [← h3]; exact h) hb
  · obtain ⟨j, h1, h2, _, h3⟩ := key i h
    obtain ⟨j', h1', h2', _, h3'⟩ := key i' h'
    rw [h2] at hb; rw [h2'] at hb'
    exact back _ _ _ _ h1 h1' (r.inj j j' b c c' (by rw [← h3]; exact h) (by rw [← h3']; exact h') hb hb')
  · obtain ⟨j, h1, h2, h2h, h3⟩ := key i h
    rw [h2h] at hx
    have q := r.hid j x (by rw [← h3]; exact h) hx
    refine ⟨q.lt, q.m, q.old, fun i' b c h' hb' => ?_, fun i' h' hx' => ?_⟩
    · obtain ⟨j', h1', h2', _, h3'⟩ := key i' h'
      rw [h2'] at hb'
      exact q.ne j' b c (by rw [← h3']; exact h') hb'
    · obtain ⟨j', h1', h2', h2h', h3'⟩ := key i' h'
      rw [h2h'] at hx'
      exact back _ _ _ _ h1' h1 (q.un j' (by rw [← h3']; exact h') hx')
  · have hi' : nx' ≤ i := hi
    rw [eo i (by omega)]
    exact r.nx i (by omega)
  · obtain ⟨h1, h2⟩ := r.pin q hq
    exact ⟨Nat.lt_of_lt_of_le h1 hnn, by rw [← h2]; exact eo q (hpid q hq)⟩
theorem Rel.move (r : Rel K m β w a S) (id : Nat) {ob : Ob} (ho : hget S.hp id = ob) (hl : ob ≠ .dead) (hl2 : ob ≠ .res) : ∃ β' : Locs, β.le β' ∧ β' S.nx = β id ∧ Rel K m β' w a ⟨S.env, (S.nx, ob) :: (id, .dead) :: S.hp, S.nx + 1⟩ :=
  r.moveG id S.nx (S.nx + 1) (r.nx _ (Nat.le_refl _)) (fun q hq => Nat.ne_of_lt (r.pin q hq).1) (Nat.lt_succ_self _) (Nat.le_succ _) ho hl hl2
/-- A nil slice is the call's own empty memory. -/
def Nil (n : Nat) : Hy := fun m β m' β' => m' = m ∧ β.le β' ∧ β' n = some none
instance {n : Nat} : HyMC (Nil n) := ⟨fun m β m' β' hy => by rw [hy.1]; exact Mem.le_refl _⟩
theorem Sub.keepNil {n : Nat} {v : V} : Sub (Nil n) v v := fun _ _ _ _ _ hy hx => by
  obtain ⟨rfl, h, _⟩ := hy
  exact hx.mono (Mem.le_refl _) h
theorem Sub.mkNil {n : Nat} : Sub (Nil n) (.own n 0) (.con (.slice none 0 0)) := fun _ _ _ _ _ hy hx => by
  rw [hx.of_con]; exact .ownNil hy.2.2
theorem ghost_nil (e : TypeId) (k : Nat) (env : Env) (hp : Heap) (henv : ∀ t, Sub (Nil S.nx) (get env t) (get S.env t)) (hhp : ∀ i, ObSub (Nil S.nx) (hget hp i) (hget S.hp i)) :
    Ghost K S ⟨env, (S.nx, .arr e k []) :: hp, S.nx + 1⟩ := by
  intro m β w a r
  let β' : Locs := ⟨fun i => if i = S.nx then some none else β i, fun i => if i = S.nx then fun _ => False else β.hid i⟩
  have en : β' S.nx = some none := by show (if _ then _ else _) = _; rw [if_pos rfl]
  have eo : ∀ i, i ≠ S.nx → β' i = β i := fun i h => by show (if _ then _ else _) = _; rw [if_neg h]
  have hn : β'.hid S.nx = fun _ => False := by show (if _ then _ else _) = _; rw [if_pos rfl]
  have hho : ∀ i, i ≠ S.nx → β'.hid i = β.hid i := fun i h => by show (if _ then _ else _) = _; rw [if_neg h]
  have hle : β.le β' := by
    intro i l h
    rw [eo i]
    · exact h
    · intro e; rw [e, r.nx _ (Nat.le_refl _)] at h; simp at h
  have hy : Nil S.nx m β m β' := ⟨rfl, hle, en⟩
  have hdead : ∀ i, hget hp i ≠ .dead → hget S.hp i ≠ .dead := by
    intro i h hd
    have h2 := hhp i
    rw [hd] at h2
    cases ho' : hget hp i with
    | dead => exact h ho'
    | arr => rw [ho'] at h2; simp [ObSub] at h2
    | res => rw [ho'] at h2; simp [ObSub] at h2
    | map => rw [ho'] at h2; simp [ObSub] at h2
  have hlive : ∀ i b c, hget ((S.nx, .arr e k []) :: hp) i ≠ .dead → β' i = some (some (b, c)) → hget S.hp i ≠ .dead ∧ β i = some (some (b, c)) := by
    intro i b c h hb
    rw [hget_put] at h
    by_cases hi : S.nx = i
    · subst hi; rw [en] at hb; simp at hb
    · rw [if_neg hi] at h
      exact ⟨hdead i h, by rw [eo i (Ne.symm hi)] at hb; exact hb⟩
  refine ⟨m, β', r.imm, r.ext, r.mold, r.frame, r.size, r.same, r.tn, r.df, fun t => henv t _ _ _ _ _ hy (r.env t), fun i => ?_, fun i b c h hb => ?_, fun i i' b c c' h h' hb hb' => ?_, fun i x h hx => ?_, fun i hi => ?_, fun q hq => ?_⟩
  · show ObOk m β' w (β'.hid i) (β' i) (hget ((S.nx, .arr e k []) :: hp) i)
    rw [hget_put]
    by_cases hi : S.nx = i
    · subst hi; rw [if_pos rfl, en]; simp [ObOk]
    · rw [if_neg hi]
      have h2 := hhp i
      rw [eo i (Ne.symm hi), hho i (Ne.symm hi)]
      exact h2.ok hy (r.own i)
  · obtain ⟨h1, h2⟩ := hlive i b c h hb
    exact r.priv i b c h1 h2
  · obtain ⟨h1, h2⟩ := hlive i b c h hb
    obtain ⟨h1', h2'⟩ := hlive i' b c' h' hb'
    exact r.inj i i' b c c' h1 h1' h2 h2'
  · have h0 : hget ((S.nx, .arr e k []) :: hp) i ≠ .dead := h
    rw [hget_put] at h0
    by_cases hi : S.nx = i
    · subst hi; rw [hn] at hx; exact hx.elim
    · rw [if_neg hi] at h0; rw [hho i (Ne.symm hi)] at hx
      have q := r.hid i x (hdead i h0) hx
      refine ⟨q.lt, q.m, q.old, fun i' b c h' hb' => ?_, fun i' h' hx' => ?_⟩
      · obtain ⟨h1, h2⟩ := hlive i' b c h' hb'
        exact q.ne i' b c h1 h2
      · have h0' : hget ((S.nx, .arr e k []) :: hp) i' ≠ .dead := h'
        rw [hget_put] at h0'
        by_cases hi' : S.nx = i'
        · subst hi'; rw [hn] at hx'; exact hx'.elim
        · rw [if_neg hi'] at h0'; rw [hho i' (Ne.symm hi')] at hx'
          exact q.un i' (hdead i' h0') hx'
  · have hi' : S.nx + 1 ≤ i := hi
    rw [eo i (by omega)]
    exact r.nx i (by omega)
  · obtain ⟨h1, h2⟩ := r.pin q hq
    exact ⟨Nat.lt_succ_of_lt h1, by rw [← h2]; exact eo q (by omega)⟩
end
end Go.Pv
