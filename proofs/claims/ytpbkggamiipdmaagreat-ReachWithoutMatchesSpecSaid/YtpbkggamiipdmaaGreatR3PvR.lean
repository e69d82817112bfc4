/- The framework of walks over abstract values (own text), part R. -/
import Derived.Test.YtpbkggamiipdmaaGreatR3PvP
namespace Go.Pv
open Go
section
variable {K : Ctx} {Q : Post} {S S' : St} {ops : Array Oper} {rest : List Oper} {op : Op} {ty : TypeId} {pos : String} {after : Array Edge} {g : Option (Nat × Bool)}
variable {m : Mem} {β : Locs} {w : World} {a : Act}
abbrev iV (n : Int) : V := .con (.int .i64 n)
abbrev bV (b : Bool) : V := .con (.bool b)
abbrev sV (l : List UInt8) : V := .con (str l)
abbrev nV : V := .con (.slice none 0 0)
abbrev w64 (n : Int) : Int := IntKind.wrap .i64 n
theorem awp_cond_t {c : Operand} {x y : Code} {b : Bool} (hc : evl K S c = .con (.bool b)) (hb : b = true) (h : AWP K x Q S) : AWP K (.cond c x y) Q S :=
  awp_cond b hc (fun _ => h) (fun hf => by rw [hb] at hf; simp at hf)
theorem awp_cond_f {c : Operand} {x y : Code} {b : Bool} (hc : evl K S c = .con (.bool b)) (hb : b = false) (h : AWP K y Q S) : AWP K (.cond c x y) Q S :=
  awp_cond b hc (fun hf => by rw [hb] at hf; simp at hf) (fun _ => h)
/-- A join: what comes behind, and what leads there. -/
def jn {α β : Type} (k : α) (b : α → β) : β := b k
theorem chk_some {α : Type} {p : Prop} [Decidable p] {x : Option α} {r : α} (h : (if p then x else none) = some r) : p ∧ x = some r := by
  split at h
  · exact ⟨‹_›, h⟩
  · simp at h
theorem bind_some {α β : Type} {o : Option α} {f : α → Option β} {r : β} (h : o.bind f = some r) : ∃ x, o = some x ∧ f x = some r := Option.bind_eq_some_iff.1 h
/-- The element at a place. -/
def idx {α : Type} (xs : List α) (n : Int) : Option α := if 0 ≤ n then xs[n.toNat]? else none
theorem idx_some {α : Type} {xs : List α} {n : Int} {x : α} (h : idx xs n = some x) : 0 ≤ n ∧ xs[n.toNat]? = some x := by
  unfold idx at h
  split at h
  · exact ⟨‹_›, h⟩
  · simp at h
theorem idx_map {α β : Type} {xs : List α} {n : Int} {x : α} (f : α → β) (h : idx xs n = some x) : (xs.map f)[n.toNat]? = some (f x) := by
  rw [List.getElem?_map, (idx_some h).2]; rfl
theorem idx_lt {α : Type} {xs : List α} {n : Int} {x : α} (h : idx xs n = some x) : n.toNat < xs.length := (List.getElem?_eq_some_iff.1 (idx_some h).2).1
theorem rows_imm {α : Type} {enc : α → List V} (h : ∀ x, Imms (enc x)) {xs : List α} : ∀ row, row ∈ xs.map enc → Imms row := by
  intro row hr
  obtain ⟨x, _, rfl⟩ := List.mem_map.1 hr
  exact h x
theorem rows_one {α : Type} {enc : α → List V} (h : ∀ x, (enc x).all oneV = true) {xs : List α} : ∀ row, row ∈ xs.map enc → row.all oneV = true := by
  intro row hr
  obtain ⟨x, _, rfl⟩ := List.mem_map.1 hr
  exact h x
theorem map_snoc {α β : Type} (f : α → β) (xs ys : List α) : xs.map f ++ ys.map f = (xs ++ ys).map f := List.map_append.symm
theorem map_set {α β : Type} (f : α → β) (xs : List α) (i : Nat) (x : α) : (xs.map f).set i (f x) = (xs.set i x).map f := List.map_set.symm
theorem ObSub.boxC {Y : Hy} {e k : Nat} {r r' : List V} (hl : r.length = r'.length) (h : ∀ (j : Nat) c c', r[j]? = some c → r'[j]? = some c' → CSub Y c c') : ObSub Y (.arr e k [r]) (.arr e k [r']) := by
  refine ⟨rfl, rfl, rfl, fun i a b h1 h2 => ?_⟩
  cases i with
  | succ i => simp at h1
  | zero =>
    simp at h1 h2
    subst h1; subst h2
    exact ⟨hl, h⟩
theorem ObSub.box {Y : Hy} {e k : Nat} {r r' : List V} (h : Subs Y r r') (hd : ndB r' = true := by rfl) : ObSub Y (.arr e k [r]) (.arr e k [r']) :=
  .boxC h.len (fun j c c' h1 h2 => .sub (h.get j c c' h1 h2) (ndB_at hd h2))
theorem ObSub.rowsK {n : Nat} {σ : Nat → Nat} {e k : Nat} {rows : List (List V)} (h : ∀ row, row ∈ rows → Keeps row) : ObSub (Ren n σ) (.arr e k rows) (.arr e k rows) := by
  refine ⟨rfl, rfl, rfl, fun i a b h1 h2 => ?_⟩
  rw [h1] at h2
  simp only [Option.some.injEq] at h2; subst h2
  refine ⟨rfl, fun j c c' h3 h4 => ?_⟩
  rw [h3] at h4
  simp only [Option.some.injEq] at h4; subst h4
  exact .same HyMC.h (Sub.kp (h a (List.mem_of_getElem? h1) c (List.mem_of_getElem? h3)))
theorem ObSub.rows {n : Nat} {σ : Nat → Nat} {e k : Nat} {rows : List (List V)} (h : ∀ row, row ∈ rows → Imms row) : ObSub (Ren n σ) (.arr e k rows) (.arr e k rows) := .rowsK fun row hr => (h row hr).keep
theorem ObSub.mapsK {n : Nat} {σ : Nat → Nat} {es : List (Value × V)} (h : ∀ p, p ∈ es → Keep p.2) : ObSub (Ren n σ) (.map es) (.map es) := by
  refine ⟨rfl, fun i a b h1 h2 => ?_⟩
  rw [h1] at h2
  simp only [Option.some.injEq] at h2; subst h2
  exact ⟨rfl, .same HyMC.h (Sub.kp (h a (List.mem_of_getElem? h1)))⟩
theorem ObSub.maps {n : Nat} {σ : Nat → Nat} {es : List (Value × V)} (h : ∀ p, p ∈ es → Imm p.2) : ObSub (Ren n σ) (.map es) (.map es) := .mapsK fun p hp => (h p hp).2
theorem ObSub.keep {Y : Hy} [HyMC Y] (hk : ∀ v, Sub Y v v) (ob : Ob) : ObSub Y ob ob := .keep' (fun c => .same HyMC.h (hk c)) ob
/-- A loop's rounds, an operation's steps, one by one. -/
inductive OSteps (K : Ctx) (nx : Nat) (ops : Array Oper) : List Oper → List OD → Prop
  | nil : OSteps K nx ops [] []
  | cons {o : Oper} {D : OD} {os : List Oper} {ds : List OD} (h : OStep K nx ops o D) (t : OSteps K nx ops os ds) : OSteps K nx ops (o :: os) (D :: ds)
theorem OSteps.get {nx : Nat} {ops : Array Oper} {os : List Oper} {ds : List OD} (h : OSteps K nx ops os ds) : ∀ (i : Nat) (o : Oper) (D : OD), os[i]? = some o → ds[i]? = some D → OStep K nx ops o D := by
  induction h with
  | nil => intro i o D h; simp at h
  | cons h _ ih =>
    intro i o D h1 h2
    cases i with
    | zero => simp at h1 h2; subst h1; subst h2; exact h
    | succ i => simp at h1 h2; exact ih i o D h1 h2
theorem awp_any {rid : Nat} {l : List Oper} (ds : List OD) (hm : K.P.follows .mixedOrders = true) (hlex : LexOk S ds) (hok : anyOk l ds = true)
    (hst : OSteps K S.nx l.toArray l ds) (hend : Q .normal (lexEnd S ds)) : AWP K (.region rid l.toArray true) Q S := awp_region_any ds hm hlex hok hst.get hend
theorem hpFrz {id k : Nat} {rows : List (List V)} {hp : Heap} (ob : Ob) (id2 : Nat) (ho : ObSub (Frz id k rows) ob (hget hp id2)) :
    ∀ i, ObSub (Frz id k rows) (hget ((id, .dead) :: (id2, ob) :: hp) i) (hget hp i) := by
  intro i
  rw [hget_put]
  split
  · simp [ObSub]
  · rw [hget_put]
    split
    · rename_i h; subst h; exact ho
    · exact ObSub.keep (fun _ => Sub.keep) _
theorem hpFrz0 {id k : Nat} {rows : List (List V)} {hp : Heap} : ∀ i, ObSub (Frz id k rows) (hget ((id, .dead) :: hp) i) (hget hp i) := by
  intro i
  rw [hget_put]
  split
  · simp [ObSub]
  · exact ObSub.keep (fun _ => Sub.keep) _
theorem Sub.frzAll {id k n : Nat} {rows : List (List V)} (hn : n = rows.length) : Sub (Frz id k rows) (.lst k rows) (.own id n) := Sub.frz (Nat.le_of_eq hn) (by rw [hn]; simp)
/-- A slice of the call's own, in a cell of another object. -/
theorem ghost_frzC (id id2 : Nat) {e k : Nat} {rows : List (List V)} (ob : Ob) (ho : hget S.hp id = .arr e k rows) (hi : ∀ row, row ∈ rows → Imms row)
    (hob : ObSub (Frz id k rows) ob (hget S.hp id2)) : Ghost K S ⟨S.env, (id, .dead) :: (id2, ob) :: S.hp, S.nx⟩ :=
  ghost_freeze id _ _ ho hi (fun _ => Sub.keep) (hpFrz ob id2 hob) (by simp [hget_put])
/-- A box that is pointed to from a slot. -/
theorem ghost_frzP (id t : Nat) {e k i o : Nat} {rows : List (List V)} {row : List V} (ho : hget S.hp id = .arr e k rows) (hi : ∀ row, row ∈ rows → Imms row)
    (ht : get S.env t = .ptr id k i o) (hr : rows[i]? = some row) : Ghost K S ⟨(t, .iptr row o) :: S.env, (id, .dead) :: S.hp, S.nx⟩ :=
  ghost_freeze id _ _ ho hi (envPut (fun _ => Sub.keep) (by rw [ht]; exact Sub.frzptr hr)) hpFrz0 (by simp [hget_put])
/-- A nil slice in a slot becomes memory of the call's own. -/
theorem ghost_nilE (t e k : Nat) (ht : get S.env t = nV) : Ghost K S ⟨(t, .own S.nx 0) :: S.env, (S.nx, .arr e k []) :: S.hp, S.nx + 1⟩ :=
  ghost_nil e k _ _ (envPut (fun _ => Sub.keepNil) (by rw [ht]; exact Sub.mkNil)) (fun _ => ObSub.keep (fun _ => Sub.keepNil) _)
/-- A nil slice in a cell. -/
theorem ghost_nilC (id2 e k : Nat) (ob : Ob) (hob : ObSub (Nil S.nx) ob (hget S.hp id2)) : Ghost K S ⟨S.env, (S.nx, .arr e k []) :: (id2, ob) :: S.hp, S.nx + 1⟩ :=
  ghost_nil e k _ _ (fun _ => Sub.keepNil) (fun i => by
    rw [hget_put]
    split
    · rename_i h; subst h; exact hob
    · exact ObSub.keep (fun _ => Sub.keepNil) _)
end
end Go.Pv
