/- The framework of walks over abstract values (own text), part B. -/
import Derived.Test.YtpbkggamiipdmaaGreatR3PvA
namespace Go.Pv
open Go
section
variable {K : Ctx} {Q : Post} {S : St}
def St.put (S : St) (d : Nat) (v : V) : St := ⟨(d, v) :: S.env, S.hp, S.nx⟩
theorem tmps_put (a : Act) (d : Nat) (v : Value) (t : Nat) (hd : d < a.tmps.size) :
    (a.put (some d) v).tmps.getD t undef = if d = t then v else a.tmps.getD t undef := by
  simp only [Act.put, Array.getD_eq_getD_getElem?, Array.getElem?_setIfInBounds]
  by_cases h : d = t
  · subst h; simp [hd]
  · simp [h]
theorem Rel.put {m : Mem} {β : Locs} {w : World} {a : Act} (r : Rel K m β w a S) {d : Nat} (hd : Nat.blt d K.N = true) {dv : V} {v : Value} (hv : VRel m β dv v) :
    Rel K m β w (a.put (some d) v) (S.put d dv) where
  imm := r.imm
  ext := r.ext
  mold := r.mold
  frame := r.frame
  size := r.size
  same := r.same
  tn := by simp only [Act.put, Array.size_setIfInBounds]; exact r.tn
  df := r.df
  env := by
    intro t
    have hd' : d < a.tmps.size := by rw [r.tn]; exact Nat.le_of_ble_eq_true hd
    simp only [St.put]
    rw [get_put, tmps_put _ _ _ _ hd']
    split
    · exact hv
    · exact r.env t
  own := r.own
  priv := r.priv
  inj := r.inj
  hid := r.hid
  nx := r.nx
  pin := r.pin
/-- The world has grown, and so has what nobody writes any more; the call's own memory is as it was. -/
structure Grew (m m' : Mem) (w w' : World) : Prop where
  le : m.le m'
  imm : ∀ b o, m' b = some o → w'.heap[b]? = some o
  mold : ∀ b, b < w.heap.size → m' b = m b
  heap : ∀ b, b < w.heap.size → w'.heap[b]? = w.heap[b]?
  size : w.heap.size ≤ w'.heap.size
  same : Same w w'
theorem Same.trans {a b c : World} (h : Same a b) (h' : Same b c) : Same a c := ⟨h'.os.trans h.os, h'.tape.trans h.tape, h'.output.trans h.output⟩
theorem lt_of_some {w : World} {b : Nat} {o : Obj} (h : w.heap[b]? = some o) : b < w.heap.size := by
  by_cases hb : b < w.heap.size
  · exact hb
  · rw [Array.getElem?_eq_none (by omega)] at h; simp at h
theorem ObOk.mono {m m' : Mem} {β β' : Locs} {w w' : World} {B : Nat → Prop} (hm : m.le m') (hb : β.le β') (hw : ∀ (b : Nat) (o : Obj), w.heap[b]? = some o → w'.heap[b]? = some o) (hB : ∀ x, B x → w'.heap[x]? = w.heap[x]?)
    {l : Option (Option (Nat × Cap))} {ob : Ob} (h : ObOk m β w B l ob) : ObOk m' β' w' B l ob := by
  match l, ob, h with
  | none, .dead, _ | some none, .dead, _ | some (some (b, c)), .dead, _ => simp [ObOk]
  | none, .res, _ => trivial
  | some none, .res, h | some (some (b, c)), .res, h => exact absurd h (by simp [ObOk])
  | some none, .arr e k rows, h => exact h
  | some (some (b, cap)), .arr e k rows, h =>
    obtain ⟨arr, bl, h1, h2, h3, h4, h5, hBl, h6⟩ := h
    exact ⟨arr, bl, hw _ _ h1, h2, h3, h4, h5, hBl, fun i j row c hi hj => let ⟨v, a1, a2, a3⟩ := h6 i j row c hi hj; ⟨v, a1, a2.mono hm hb (fun _ h => h) (fun x hx => hB x (hBl.1 _ x hx)), a3⟩⟩
  | some (some (b, cap)), .map es, h =>
    obtain ⟨ents, clock, bl, h1, h2, hBl, h3⟩ := h
    exact ⟨ents, clock, bl, hw _ _ h1, h2, hBl, fun i p e hi he => ⟨(h3 i p e hi he).1, (h3 i p e hi he).2.mono hm hb (fun _ h => h) (fun x hx => hB x (hBl.1 _ x hx))⟩⟩
  | none, .arr .., h | none, .map .., h | some none, .map .., h => exact absurd h (by simp [ObOk])
theorem ObOk.dead' {m : Mem} {β : Locs} {w : World} {B : Nat → Prop} (l : Option (Option (Nat × Cap))) : ObOk m β w B l .dead := by
  match l with
  | none | some none | some (some (b, c)) => simp [ObOk]
theorem live_lt {m : Mem} {β : Locs} {w : World} {B : Nat → Prop} {id b : Nat} {cap : Cap} {ob : Ob} (hl : ob ≠ .dead) (hb : β id = some (some (b, cap))) (h : ObOk m β w B (β id) ob) : b < w.heap.size := by
  rw [hb] at h
  cases ob with
  | dead => exact absurd rfl hl
  | res => exact absurd h (by simp [ObOk])
  | arr e k rows => obtain ⟨arr, bl, h1, _⟩ := h; exact lt_of_some h1
  | map es => obtain ⟨ents, clock, bl, h1, _⟩ := h; exact lt_of_some h1
theorem Rel.grow {m m' : Mem} {β : Locs} {w w' : World} {a : Act} (r : Rel K m β w a S) (g : Grew m m' w w') : Rel K m' β w' a S where
  imm := g.imm
  ext := Mem.le_trans r.ext g.le
  mold := fun b hb ho => (g.mold b (Nat.lt_of_lt_of_le hb r.size)).trans (r.mold b hb ho)
  frame := fun b hb ho => (g.heap b (Nat.lt_of_lt_of_le hb r.size)).trans (r.frame b hb ho)
  size := Nat.le_trans r.size g.size
  same := r.same.trans g.same
  tn := r.tn
  df := r.df
  env := fun t => (r.env t).mono g.le (Locs.le_refl _)
  own := fun id => by
    by_cases hd : hget S.hp id = .dead
    · rw [hd]; exact ObOk.dead' _
    · exact ObOk.mono g.le (Locs.le_refl _) (fun b o h => by rw [g.heap b (lt_of_some h)]; exact h) (fun x hx => g.heap x (r.hid id x hd hx).lt) (r.own id)
  priv := fun id b cap hl hb => by
    have := r.priv id b cap hl hb
    rw [g.mold b (live_lt hl hb (r.own id))]; exact this
  inj := r.inj
  hid := fun id x hl hx =>
    let h := r.hid id x hl hx
    ⟨Nat.lt_of_lt_of_le h.lt g.size, by rw [g.mold x h.lt]; exact h.m, h.old, h.ne, h.un⟩
  nx := r.nx
  pin := r.pin
/-- One operation leads from the states S to the states S'. -/
def Runs (K : Ctx) (o : Oper) (S S' : St) : Prop := ∀ m β w a, Rel K m β w a S → ∃ v w' m' β',
  ((execOp a.eval o).run K.P w = .ok (.value v) w' ∨ v = undef ∧ (execOp a.eval o).run K.P w = .ok .skip w') ∧ Rel K m' β' w' (a.put o.dst v) S'
/-- Is the operation wanted? -/
def Wants (ops : Array Oper) (S : St) (o : Oper) (b : Bool) : Prop :=
  match o.guard with
  | none => b = true
  | some (j, want) => ∃ t, (ops[j]?).bind (·.dst) = some t ∧ ((∃ c, get S.env t = .con (.bool c) ∧ b = (c == want)) ∨ get S.env t = .con undef ∧ b = false)
theorem Wants.at {ops : Array Oper} {o : Oper} {b : Bool} (h : Wants ops S o b) {m : Mem} {β : Locs} {w : World} {a : Act} (r : Rel K m β w a S) :
    Region.wanted o (yielded ops a.tmps) = b := by
  unfold Wants at h
  unfold Region.wanted
  split at h
  · rename_i hg; rw [hg, h]
  · rename_i j want hg
    obtain ⟨t, h1, h⟩ := h
    rw [hg]
    have h4 := r.env t
    rcases h with ⟨c, h2, h3⟩ | ⟨h2, h3⟩
    · rw [h2] at h4
      have h5 := h4.of_con
      have h6 : t < a.tmps.size := by
        by_cases hlt : t < a.tmps.size
        · exact hlt
        · rw [Array.getD_eq_getD_getElem?, Array.getElem?_eq_none (Nat.le_of_not_lt hlt)] at h5; simp [undef] at h5
      simp only [Array.getD_eq_getD_getElem?, Array.getElem?_eq_getElem h6, Option.getD_some] at h5
      simp only [yielded, h1, Option.bind_some, Array.getElem?_eq_getElem h6, h5, h3]
      cases c <;> cases want <;> rfl
    · rw [h2] at h4
      have h5 := h4.of_con
      simp only [yielded, h1, Option.bind_some, h3]
      by_cases hlt : t < a.tmps.size
      · simp only [Array.getD_eq_getD_getElem?, Array.getElem?_eq_getElem hlt, Option.getD_some] at h5
        simp only [Array.getElem?_eq_getElem hlt, h5, undef]
        rfl
      · rw [Array.getElem?_eq_none (Nat.le_of_not_lt hlt)]
        rfl
end
end Go.Pv
