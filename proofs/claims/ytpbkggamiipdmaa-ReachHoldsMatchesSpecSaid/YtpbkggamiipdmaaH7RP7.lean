/- Part of the proof: RP7d, RP7. -/
import Derived.Test.YtpbkggamiipdmaaH7RP7c
namespace Go.Proofs.Ytpbkggamiipdmaa
open Go Go.Pv
set_option linter.unusedVariables false
section
variable {g : TGraph} {fs : List Tx} {F : Nat}
theorem beq_sw (a b : Tx) : (a == b) = (b == a) := by
 by_cases e : a = b
 ·subst e; rfl
 ·rw [beq_false_of_ne e, beq_false_of_ne (Ne.symm e)]
theorem M28_L1_eq (w : TWitness) (k : Bool → Option (Bool × Int)) : ∀ (l : List Tx) (b : Bool), M28_L1 F w k l b = k (b || l.contains w.Entry)
 | [], b => by simp [M28_L1]
 | x :: l, b => by
  rw [M28_L1]
  simp only [jn_def]
  cases b
  ·rw [if_neg (by simp), M28_L1_eq w k l]
   congr 1
   rw [List.contains_cons, Bool.false_or]
   congr 1
   exact beq_sw _ _
  ·rw [if_pos rfl, M28_L1_eq w k l]; simp
theorem M28_L13_eq (k : Option (Bool × Int)) : ∀ l : List Bool, M28_L13 F k l = if l.all id = true then k else some (false, 0)
 | [] => rfl
 | b :: l => by
  rw [M28_L13, M28_L13_eq k l, List.all_cons]
  cases b <;> simp
theorem M28_L7_eq (k : Option (Bool × Int)) : ∀ l : List Bool, M28_L7 F k l = if l.all id = true then k else some (false, 0)
 | [] => rfl
 | b :: l => by
  rw [M28_L7, M28_L7_eq k l, List.all_cons]
  cases b <;> simp
theorem M60_L2_eq (m : TMadeBy) (k : Bool → Option Bool) : ∀ (l : List Tx) (b : Bool), M60_L2 F m k l b = k (b || l.contains m.Type_)
 | [], b => by simp [M60_L2]
 | x :: l, b => by
  rw [M60_L2]
  simp only [jn_def]
  cases b
  ·rw [if_neg (by simp), M60_L2_eq m k l]
   congr 1
   rw [List.contains_cons, Bool.false_or]
   congr 1
   exact beq_sw _ _
  ·rw [if_pos rfl, M60_L2_eq m k l]; simp
theorem M60_L3_eq (m : TMadeBy) (k : Bool → Option Bool) : ∀ (l : List Tx) (b : Bool), M60_L3 F m k l b = k (b || l.contains m.Type_)
 | [], b => by simp [M60_L3]
 | x :: l, b => by
  rw [M60_L3]
  simp only [jn_def]
  cases b
  ·rw [if_neg (by simp), M60_L3_eq m k l]
   congr 1
   rw [List.contains_cons, Bool.false_or]
   congr 1
   exact beq_sw _ _
  ·rw [if_pos rfl, M60_L3_eq m k l]; simp
theorem M60_L1_eq (R : RightG g) {n : Tprovenderref6_net} (N : NetOk g fs n) {s : Tprovenderref6_sets} {rl : List Tx} (hs : ∀ x, (mget s.reached x).getD false = rl.contains x) (hrl : ∀ x, x ∈ rl → fsOf g x = true) (a : List TMadeBy) (ha : a.length ≤ maxLen) (k : Option Bool) :
  ∀ (l : List TMadeBy) (j : Nat), a.drop j = l → M60_L1 F n s a k l (j : Int) = if rbL rl g (prvM a j) l = true then k else some false
 | [], j, _ => by simp [M60_L1, rbL]
 | m :: l, j, h => by
  obtain ⟨hn, h1, h2⟩ := drop_at h
  have ih := M60_L1_eq R N hs hrl a ha k l (j + 1) h2
  rw [prvM_next hn h1] at ih
  have ih : M60_L1 F n s a k l ((j : Int) + 1) = if rbL rl g (some m.Type_) l = true then k else some false := ih
  rw [M60_L1, rbL]
  simp only [jn_def, hs]
  have tail : ∀ K : Option Bool, (if (!(rl.contains m.Func)) = true then some false else if (!((mget n.funcs m.Func).getD (TFunc.mk [] [] [] [])).Makes.contains m.Type_) = true then some false else K) =
    if (rl.contains m.Func && ((g.Funcs.find? fun x => x.Name == m.Func).elim false fun x => x.Makes.contains m.Type_)) = true then K else some false := by
   intro K
   cases hc : rl.contains m.Func
   ·simp
   ·obtain ⟨i, hi, he⟩ := fs_at (hrl m.Func (by simpa using hc))
    have hf : (mget n.funcs m.Func).getD (TFunc.mk [] [] [] []) = g.Funcs[i] := by rw [← he]; exact N.f _ (List.getElem_mem hi)
    have hfd : (g.Funcs.find? fun x => x.Name == m.Func) = some g.Funcs[i] := by rw [← he]; exact find_at R hi
    rw [hf, hfd]
    simp only [Bool.not_true, Bool.false_eq_true, if_false, Option.elim_some, Bool.true_and]
    cases (g.Funcs[i]).Makes.contains m.Type_ <;> simp
  by_cases h0 : j = 0
  ·subst h0
   rw [if_neg (by simp)]
   simp only [M60_L3_eq, Bool.false_or]
   rw [tail, ih]
   have : prvM a 0 = none := rfl
   rw [this]
   simp only [Option.elim_none, Bool.true_and]
   cases rl.contains m.Func <;> cases ((g.Funcs.find? fun x => x.Name == m.Func).elim false fun x => x.Makes.contains m.Type_) <;> simp
  ·have hw : w64 ((j : Int) - 1) = ((j - 1 : Nat) : Int) := by
    rw [w64_id (by omega) (by unfold maxLen at ha; omega)]; omega
   rw [if_pos (by simp; omega), hw, idx_nat (show j - 1 < a.length by omega), Option.bind_some]
   have hp : prvM a j = some (a[j - 1]).Type_ := by unfold prvM; rw [if_neg h0, List.getElem?_eq_getElem (by omega)]; rfl
   rw [hp]
   simp only [Option.elim_some]
   generalize hq : (a[j - 1]).Type_ = q
   have hb2 : Op.bytesLess q m.Type_ = !(Op.bytesLess m.Type_ q || m.Type_ == q) := (bl_gt _ _).symm
   simp only [hb2]
   cases hc : (Op.bytesLess m.Type_ q || m.Type_ == q)
   ·simp only [Bool.false_eq_true, if_false, Bool.not_false, Bool.true_and, M60_L2_eq, Bool.false_or]
    rw [tail, ih]
    cases rl.contains m.Func <;> cases ((g.Funcs.find? fun x => x.Name == m.Func).elim false fun x => x.Makes.contains m.Type_) <;> simp
   ·simp
def tyI (M : List TMadeBy) (t : Tx) (i : Nat) : Bool := !(t == ([] : Tx)) && ((M[i]?).elim false fun m => m.Type_ == t)
theorem markL_markL (p q : Nat → Bool) (l : List Bool) : markL q (markL p l) = markL (fun i => p i || q i) l := markL_eq ((markL_ok p l).trans (markL_ok q (markL p l)))
theorem markL_congr {p q : Nat → Bool} {l : List Bool} (h : ∀ i, i < l.length → p i = q i) : markL p l = markL q l := markL_eq ((markL_ok p l).congr h)
theorem markL_len (p : Nat → Bool) (l : List Bool) : (markL p l).length = l.length := (markL_ok p l).1
theorem set_mark {l : List Bool} {j : Nat} (hj : j < l.length) : l.set j true = markL (fun i => decide (i = j)) l := markL_eq (Marks.set hj)
theorem M28_L11_eq (x : Tprovenderref6_aim) (k : List Bool → Option (Bool × Int)) (M : List TMadeBy) : ∀ (l : List TMadeBy) (j : Nat) (u : List Bool), M.drop j = l → u.length = M.length →
  M28_L11 F x k l (j : Int) u = k (markL (fun i => decide (j ≤ i) && tyI M x.typ i) u)
 | [], j, u, h, hu => by
  rw [M28_L11, markL_id]
  intro i hi
  have : M.length ≤ j := List.drop_eq_nil_iff.1 h
  have : decide (j ≤ i) = false := by simp; omega
  rw [this, Bool.false_and]
 | m :: l, j, u, h, hu => by
  obtain ⟨hn, h1, h2⟩ := drop_at h
  have ih : ∀ u' : List Bool, u'.length = M.length → M28_L11 F x k l ((j : Int) + 1) u' = k (markL (fun i => decide (j + 1 ≤ i) && tyI M x.typ i) u') := fun u' hu' => M28_L11_eq x k M l (j + 1) u' h2 hu'
  have hM : M[j]? = some m := by rw [List.getElem?_eq_getElem hn, h1]
  have at_j : tyI M x.typ j = (!(x.typ == ([] : Tx)) && m.Type_ == x.typ) := by unfold tyI; rw [hM]; rfl
  have split : ∀ i, (decide (j ≤ i) && tyI M x.typ i) = ((decide (i = j) && tyI M x.typ i) || (decide (j + 1 ≤ i) && tyI M x.typ i)) := by
   intro i
   by_cases e : i = j
   ·subst e; simp
   ·by_cases e2 : j ≤ i
    ·have : j + 1 ≤ i := by omega
     simp [e, e2, this]
    ·have : ¬ j + 1 ≤ i := by omega
     simp [e, e2, this]
  have fin : ∀ b : Bool, tyI M x.typ j = b → markL (fun i => decide (j ≤ i) && tyI M x.typ i) u = markL (fun i => decide (j + 1 ≤ i) && tyI M x.typ i) (if b = true then u.set j true else u) := by
   intro b hb
   cases b
   ·rw [if_neg (by simp)]
    refine markL_congr fun i _ => ?_
    rw [split]
    by_cases e : i = j
    ·subst e; simp [hb]
    ·simp [e]
   ·rw [if_pos rfl, set_mark (by omega), markL_markL]
    refine markL_congr fun i _ => ?_
    rw [split]
    by_cases e : i = j
    ·subst e; simp [hb]
    ·simp [e]
  rw [M28_L11]
  simp only [jn_def]
  by_cases c1 : (!(x.typ == ([] : Tx))) = true
  ·rw [if_pos c1]
   by_cases c2 : (m.Type_ == x.typ) = true
   ·rw [if_pos c2, idx_nat (show j < u.length by omega), Option.bind_some, Int.toNat_natCast, ih _ (by simp [hu]), fin true (by rw [at_j, c1, c2]; rfl), if_pos rfl]
   ·have c2' : (m.Type_ == x.typ) = false := by simpa using c2
    rw [if_neg c2, ih _ hu, fin false (by rw [at_j, c2']; simp), if_neg (by simp)]
  ·have c1' : (!(x.typ == ([] : Tx))) = false := by simpa using c1
   rw [if_neg c1, ih _ hu, fin false (by rw [at_j, c1']; simp), if_neg (by simp)]
theorem M28_L12_eq (x : Tprovenderref6_aim) (k : Bool → List Bool → Option (Bool × Int)) (M : List TMadeBy) : ∀ (l : List TMadeBy) (j : Nat) (b : Bool) (u : List Bool), M.drop j = l → u.length = M.length →
  M28_L12 F x k l (j : Int) b u = k (b || (!(x.typ == ([] : Tx)) && l.any fun m => m.Type_ == x.typ)) (markL (fun i => decide (j ≤ i) && tyI M x.typ i) u)
 | [], j, b, u, h, hu => by
  rw [M28_L12, markL_id]
  ·simp
  intro i hi
  have : M.length ≤ j := List.drop_eq_nil_iff.1 h
  have : decide (j ≤ i) = false := by simp; omega
  rw [this, Bool.false_and]
 | m :: l, j, b, u, h, hu => by
  obtain ⟨hn, h1, h2⟩ := drop_at h
  have ih : ∀ (b' : Bool) (u' : List Bool), u'.length = M.length → M28_L12 F x k l ((j : Int) + 1) b' u' = k (b' || (!(x.typ == ([] : Tx)) && l.any fun m => m.Type_ == x.typ)) (markL (fun i => decide (j + 1 ≤ i) && tyI M x.typ i) u') := fun b' u' hu' => M28_L12_eq x k M l (j + 1) b' u' h2 hu'
  have hM : M[j]? = some m := by rw [List.getElem?_eq_getElem hn, h1]
  have at_j : tyI M x.typ j = (!(x.typ == ([] : Tx)) && m.Type_ == x.typ) := by unfold tyI; rw [hM]; rfl
  have split : ∀ i, (decide (j ≤ i) && tyI M x.typ i) = ((decide (i = j) && tyI M x.typ i) || (decide (j + 1 ≤ i) && tyI M x.typ i)) := by
   intro i
   by_cases e : i = j
   ·subst e; simp
   ·by_cases e2 : j ≤ i
    ·have : j + 1 ≤ i := by omega
     simp [e, e2, this]
    ·have : ¬ j + 1 ≤ i := by omega
     simp [e, e2, this]
  have fin : ∀ b : Bool, tyI M x.typ j = b → markL (fun i => decide (j ≤ i) && tyI M x.typ i) u = markL (fun i => decide (j + 1 ≤ i) && tyI M x.typ i) (if b = true then u.set j true else u) := by
   intro b hb
   cases b
   ·rw [if_neg (by simp)]
    refine markL_congr fun i _ => ?_
    rw [split]
    by_cases e : i = j
    ·subst e; simp [hb]
    ·simp [e]
   ·rw [if_pos rfl, set_mark (by omega), markL_markL]
    refine markL_congr fun i _ => ?_
    rw [split]
    by_cases e : i = j
    ·subst e; simp [hb]
    ·simp [e]
  rw [M28_L12, List.any_cons]
  simp only [jn_def]
  by_cases c1 : (!(x.typ == ([] : Tx))) = true
  ·rw [if_pos c1]
   by_cases c2 : (m.Type_ == x.typ) = true
   ·rw [if_pos c2, idx_nat (show j < u.length by omega), Option.bind_some, Int.toNat_natCast, ih _ _ (by simp [hu]), fin true (by rw [at_j, c1, c2]; rfl), if_pos rfl, c1, c2]; simp
   ·have c2' : (m.Type_ == x.typ) = false := by simpa using c2
    rw [if_neg c2, ih _ _ hu, fin false (by rw [at_j, c2']; simp), if_neg (by simp), c2']; simp
  ·have c1' : (!(x.typ == ([] : Tx))) = false := by simpa using c1
   rw [if_neg c1, ih _ _ hu, fin false (by rw [at_j, c1']; simp), if_neg (by simp), c1']; simp
def okA (M : List TMadeBy) (to : Tx) (a : Tprovenderref6_aim) : Bool := a.to == to && (a.typ == ([] : Tx) || M.any fun m => m.Type_ == a.typ)
def tyA (M : List TMadeBy) (to : Tx) (a : Tprovenderref6_aim) (i : Nat) : Bool := a.to == to && tyI M a.typ i
theorem M28_L10_eq (w : TWitness) (h : THop) (k : Bool → List Bool → Option (Bool × Int)) : ∀ (l : List Tprovenderref6_aim) (b : Bool) (u : List Bool), u.length = w.Made.length →
  M28_L10 F w h k l b u = k (b || l.any (okA w.Made h.To)) (markL (fun i => l.any fun a => tyA w.Made h.To a i) u)
 | [], b, u, hu => by rw [M28_L10, markL_id (fun i _ => by simp)]; simp
 | a :: l, b, u, hu => by
  rw [M28_L10]
  simp only [jn_def, List.any_cons]
  by_cases c : (a.to == h.To) = true
  ·rw [if_neg (by rw [c]; simp)]
   have e0 : ∀ i, tyA w.Made h.To a i = tyI w.Made a.typ i := fun i => by unfold tyA; rw [c, Bool.true_and]
   have e1 : okA w.Made h.To a = (a.typ == ([] : Tx) || w.Made.any fun m => m.Type_ == a.typ) := by unfold okA; rw [c, Bool.true_and]
   have em : ∀ u : List Bool, u.length = w.Made.length → markL (fun i => l.any fun a => tyA w.Made h.To a i) (markL (fun i => decide (0 ≤ i) && tyI w.Made a.typ i) u) = markL (fun i => tyA w.Made h.To a i || l.any fun a => tyA w.Made h.To a i) u := fun u hu => by
    rw [markL_markL]
    refine markL_congr fun i _ => ?_
    rw [e0]; simp
   cases b
   ·rw [if_neg (by simp)]
    have := M28_L12_eq (F := F) a (fun b204 l205 => M28_L10 F w h k l b204 l205) w.Made w.Made 0 (a.typ == ([] : Tx)) u rfl hu
    rw [show ((0 : Nat) : Int) = 0 from rfl] at this
    rw [this, M28_L10_eq w h k l _ _ (by rw [markL_len]; exact hu), em u hu, e1]
    congr 1
    cases (a.typ == ([] : Tx)) <;> simp
   ·rw [if_pos rfl]
    have := M28_L11_eq (F := F) a (fun l186 => M28_L10 F w h k l true l186) w.Made w.Made 0 u rfl hu
    rw [show ((0 : Nat) : Int) = 0 from rfl] at this
    rw [this, M28_L10_eq w h k l _ _ (by rw [markL_len]; exact hu), em u hu]
    simp
  ·have c' : (a.to == h.To) = false := by simpa using c
   rw [if_pos (by rw [c']; rfl), M28_L10_eq w h k l b u hu]
   have e1 : okA w.Made h.To a = false := by unfold okA; rw [c']; rfl
   have e0 : ∀ i, tyA w.Made h.To a i = false := fun i => by unfold tyA; rw [c']; rfl
   simp only [e1, e0, Bool.false_or]
def callN (on : Tx → Bool) (n : Int) (c : Int) (cs : List TCall) : Option TCall := if n ≤ c then (cs[(c - n).toNat]?).bind fun x => if on x.Feature = true then some x else none else none
theorem callN_lt {on : Tx → Bool} {n c : Int} {cs : List TCall} (h : c < n) : callN on n c cs = none := if_neg (by omega)
theorem callN_cons {on : Tx → Bool} {n c : Int} {x : TCall} {cs : List TCall} : callN on n c (x :: cs) = if c = n then (if on x.Feature = true then some x else none) else callN on (n + 1) c cs := by
 unfold callN
 by_cases h : c = n
 ·subst h
  rw [if_pos (Int.le_refl _), if_pos rfl, Int.sub_self]
  simp
 ·rw [if_neg h]
  by_cases h2 : n ≤ c
  ·rw [if_pos h2, if_pos (by omega)]
   have : (c - n).toNat = (c - (n + 1)).toNat + 1 := by omega
   rw [this]; simp
  ·rw [if_neg h2, if_neg (by omega)]
theorem M28_L9_eq (w : TWitness) (h : THop) (k : Bool → List Bool → Option (Bool × Int)) (on : Tx → Bool) : ∀ (cs : List TCall) (n : Int) (b : Bool) (u : List Bool),
  M28_L9 F w h k (lks g on h.Site.Func n cs) b u = match callN on n h.Site.Call cs with | some c => M28_L10 F w h k (aimsG g c) b u | none => k b u
 | [], n, b, u => by
  have : callN on n h.Site.Call [] = none := by unfold callN; split <;> simp
  rw [this]; rfl
 | c :: cs, n, b, u => by
  rw [callN_cons, lks]
  have ih := M28_L9_eq w h k on cs (n + 1)
  by_cases ho : on c.Feature = true
  ·rw [if_pos ho, if_pos ho, M28_L9]
   simp only [jn_def]
   by_cases e : h.Site.Call = n
   ·have hsite : TSite.mk h.Site.Func n = h.Site := by rw [← e]
    rw [if_neg (by simp [hsite]), if_pos e]
    have : (fun b60 l61 => M28_L9 F w h k (lks g on h.Site.Func (n + 1) cs) b60 l61) = k := by
     funext b' u'
     rw [ih, callN_lt (by omega)]
    rw [this]
   ·have hsite : TSite.mk h.Site.Func n ≠ h.Site := fun q => e (by rw [← q])
    rw [if_pos (by simp [hsite]), if_neg e]
    exact ih b u
  ·rw [if_neg ho, if_neg ho]
   by_cases e : h.Site.Call = n
   ·rw [if_pos e, ih, callN_lt (by omega)]
   ·rw [if_neg e]; exact ih b u
theorem callF_N (x : TFunc) (h : THop) (e : h.Site.Func = x.Name) : callF fs x h = callN (onF fs) 0 h.Site.Call x.Calls := by
 unfold callF callN
 by_cases h0 : 0 ≤ h.Site.Call
 ·rw [if_pos ⟨e, h0⟩, if_pos h0, Int.sub_zero]
 ·rw [if_neg (fun q => h0 q.2), if_neg h0]
theorem any_ok {M : List TMadeBy} {to : Tx} {c : TCall} : (aimsG g c).any (okA M to) = ((aimsTo g c to).any (fun a => a.typ == ([] : Tx)) || M.any (mkP g c to)) := by
 rw [Bool.eq_iff_iff, Bool.or_eq_true, List.any_eq_true, List.any_eq_true, List.any_eq_true]
 constructor
 ·rintro ⟨a, ha, h⟩
  unfold okA at h
  rw [Bool.and_eq_true, Bool.or_eq_true, beq_iff_eq] at h
  by_cases ht : (a.typ == ([] : Tx)) = true
  ·exact .inl ⟨a, aimsTo_mem.2 ⟨ha, h.1⟩, ht⟩
  ·rcases h.2 with h2 | h2
   ·exact absurd h2 ht
   ·obtain ⟨m, hm, h3⟩ := List.any_eq_true.1 h2
    refine .inr ⟨m, hm, ?_⟩
    unfold mkP
    exact List.any_eq_true.2 ⟨a, aimsTo_mem.2 ⟨ha, h.1⟩, by rw [h3, Bool.and_true]; simpa using ht⟩
 ·rintro (⟨a, ha, h⟩ | ⟨m, hm, h⟩)
  ·obtain ⟨h1, h2⟩ := aimsTo_mem.1 ha
   exact ⟨a, h1, by unfold okA; rw [h, h2]; simp⟩
  ·unfold mkP at h
   obtain ⟨a, ha, h3⟩ := List.any_eq_true.1 h
   obtain ⟨h1, h2⟩ := aimsTo_mem.1 ha
   rw [Bool.and_eq_true] at h3
   refine ⟨a, h1, ?_⟩
   unfold okA
   rw [h2]
   simp only [beq_self_eq_true, Bool.true_and, Bool.or_eq_true]
   exact .inr (List.any_eq_true.2 ⟨m, hm, h3.2⟩)
theorem any_ty {M : List TMadeBy} {to : Tx} {c : TCall} (i : Nat) : ((aimsG g c).any fun a => tyA M to a i) = mkI g c to M i := by
 unfold mkI
 cases hM : M[i]? with
 | none =>
  show _ = false
  rw [List.any_eq_false]
  intro a _
  simp [tyA, tyI, hM]
 | some m =>
  show _ = mkP g c to m
  unfold mkP
  rw [Bool.eq_iff_iff, List.any_eq_true, List.any_eq_true]
  constructor
  ·rintro ⟨a, ha, h⟩
   unfold tyA tyI at h
   rw [hM, Bool.and_eq_true, beq_iff_eq] at h
   exact ⟨a, aimsTo_mem.2 ⟨ha, h.1⟩, h.2⟩
  ·rintro ⟨a, ha, h⟩
   obtain ⟨h1, h2⟩ := aimsTo_mem.1 ha
   refine ⟨a, h1, ?_⟩
   unfold tyA tyI
   rw [hM, h2]
   simpa using h
theorem M28_L8_eq (R : RightG g) {n : Tprovenderref6_net} (N : NetOk g fs n) (w : TWitness) (k : Tx → List Bool → Option (Bool × Int)) : ∀ (hs : List THop) (s : Tx) (u : List Bool), fsOf g s = true → u.length = w.Made.length →
  M28_L8 F w n k hs s u = match hopsW g 2 fs w.Made hs s u with | none => some (false, 0) | some p => k p.1 p.2
 | [], s, u, _, _ => rfl
 | h :: hs, s, u, hs1, hu => by
  rw [M28_L8, hopsW]
  simp only [jn_def]
  obtain ⟨i, hi, he⟩ := fs_at hs1
  have hfind : (g.Funcs.find? fun x => x.Name == s) = some g.Funcs[i] := by rw [← he]; exact find_at R hi
  unfold stepW
  rw [hfind, Option.bind_some]
  by_cases hf : h.Site.Func = s
  ·rw [if_neg (by simp [hf]), callF_N _ h (hf.trans he.symm)]
   have hl : (mget n.links s).getD [] = lks g (onF fs) h.Site.Func 0 (g.Funcs[i]).Calls := by rw [hf, ← he]; exact N.l _ (List.getElem_mem hi)
   rw [hl, M28_L9_eq]
   cases hc : callN (onF fs) 0 h.Site.Call (g.Funcs[i]).Calls with
   | none => simp
   | some c =>
    rw [Option.bind_some]
    simp only
    rw [M28_L10_eq _ _ _ _ _ _ hu, Bool.false_or, any_ok]
    have e2 : markL (fun i => (aimsG g c).any fun a => tyA w.Made h.To a i) u = markL (mkI g c h.To w.Made) u := markL_congr fun i _ => any_ty i
    rw [e2]
    have hcm : c ∈ (g.Funcs[i]).Calls := by
     unfold callN at hc
     split at hc
     ·rw [Option.bind_eq_some_iff] at hc
      obtain ⟨c', h2, h3⟩ := hc
      split at h3
      ·simp only [Option.some.injEq] at h3; subst h3; exact List.mem_of_getElem? h2
      ·simp at h3
     ·simp at hc
    by_cases ha : aimsTo g c h.To = []
    ·have : w.Made.any (mkP g c h.To) = false := by
      rw [List.any_eq_false]; intro m _; unfold mkP; rw [ha]; simp
     rw [ha, this, if_pos rfl]; simp
    ·rw [if_neg ha, if_neg (show ¬ ((2 : Int) = 1) by decide)]
     have hto : fsOf g h.To = true := by
      obtain ⟨a, ha1, ha2⟩ := aimsTo_ne.1 ha
      rw [← ha2]; exact aim_fs R (List.getElem_mem hi) hcm ha1
     cases ((aimsTo g c h.To).any (fun a => a.typ == ([] : Tx)) || w.Made.any (mkP g c h.To))
     ·simp
     ·rw [if_neg (by simp), if_pos rfl, Option.bind_some]
      exact M28_L8_eq R N w k hs h.To _ hto (by rw [markL_len]; exact hu)
  ·rw [if_pos (by simpa using hf)]
   have : callF fs g.Funcs[i] h = none := by unfold callF; rw [if_neg (fun q => hf (q.1.trans he))]
   rw [this]; simp
theorem M28_L4_eq (w : TWitness) (hw : w.Made = []) (h : THop) (k : Bool → List Bool → Option (Bool × Int)) : ∀ (l : List Tprovenderref6_aim) (b : Bool) (u : List Bool),
  M28_L4 F w h k l b u = k (b || l.any fun a => a.to == h.To) u
 | [], b, u => by rw [M28_L4]; simp
 | a :: l, b, u => by
  rw [M28_L4]
  simp only [jn_def, List.any_cons]
  cases c : (a.to == h.To)
  ·rw [if_pos (by simp), M28_L4_eq w hw h k l b u]; simp
  ·rw [if_neg (by simp), hw]
   cases b
   ·rw [if_neg (by simp), M28_L6, M28_L4_eq w hw h k l]; simp
   ·rw [if_pos rfl, M28_L5, M28_L4_eq w hw h k l]; simp
theorem M28_L3_eq (w : TWitness) (h : THop) (k : Bool → List Bool → Option (Bool × Int)) (on : Tx → Bool) : ∀ (cs : List TCall) (n : Int) (b : Bool) (u : List Bool),
  M28_L3 F w h k (lks g on h.Site.Func n cs) b u = match callN on n h.Site.Call cs with | some c => M28_L4 F w h k (aimsG g c) b u | none => k b u
 | [], n, b, u => by
  have : callN on n h.Site.Call [] = none := by unfold callN; split <;> simp
  rw [this]; rfl
 | c :: cs, n, b, u => by
  rw [callN_cons, lks]
  have ih := M28_L3_eq w h k on cs (n + 1)
  by_cases ho : on c.Feature = true
  ·rw [if_pos ho, if_pos ho, M28_L3]
   simp only [jn_def]
   by_cases e : h.Site.Call = n
   ·have hsite : TSite.mk h.Site.Func n = h.Site := by rw [← e]
    rw [if_neg (by simp [hsite]), if_pos e]
    have : (fun b60 l61 => M28_L3 F w h k (lks g on h.Site.Func (n + 1) cs) b60 l61) = k := by
     funext b' u'
     rw [ih, callN_lt (by omega)]
    rw [this]
   ·have hsite : TSite.mk h.Site.Func n ≠ h.Site := fun q => e (by rw [← q])
    rw [if_pos (by simp [hsite]), if_neg e]
    exact ih b u
  ·rw [if_neg ho, if_neg ho]
   by_cases e : h.Site.Call = n
   ·rw [if_pos e, ih, callN_lt (by omega)]
   ·rw [if_neg e]; exact ih b u
theorem M28_L2_eq (R : RightG g) {n : Tprovenderref6_net} (N : NetOk g fs n) (w : TWitness) (hw : w.Made = []) (k : Tx → List Bool → Option (Bool × Int)) : ∀ (hs : List THop) (s : Tx) (u : List Bool), fsOf g s = true →
  M28_L2 F w n k hs s u = match hopsW g 1 fs w.Made hs s u with | none => some (false, 0) | some p => k p.1 p.2
 | [], s, u, _ => rfl
 | h :: hs, s, u, hs1 => by
  rw [M28_L2, hopsW]
  simp only [jn_def]
  obtain ⟨i, hi, he⟩ := fs_at hs1
  have hfind : (g.Funcs.find? fun x => x.Name == s) = some g.Funcs[i] := by rw [← he]; exact find_at R hi
  unfold stepW
  rw [hfind, Option.bind_some]
  by_cases hf : h.Site.Func = s
  ·rw [if_neg (by simp [hf]), callF_N _ h (hf.trans he.symm)]
   have hl : (mget n.links s).getD [] = lks g (onF fs) h.Site.Func 0 (g.Funcs[i]).Calls := by rw [hf, ← he]; exact N.l _ (List.getElem_mem hi)
   rw [hl, M28_L3_eq]
   cases hc : callN (onF fs) 0 h.Site.Call (g.Funcs[i]).Calls with
   | none => simp
   | some c =>
    rw [Option.bind_some]
    simp only
    rw [M28_L4_eq _ hw, Bool.false_or]
    have hcm : c ∈ (g.Funcs[i]).Calls := by
     unfold callN at hc
     split at hc
     ·rw [Option.bind_eq_some_iff] at hc
      obtain ⟨c', h2, h3⟩ := hc
      split at h3
      ·simp only [Option.some.injEq] at h3; subst h3; exact List.mem_of_getElem? h2
      ·simp at h3
     ·simp at hc
    by_cases ha : aimsTo g c h.To = []
    ·have : ((aimsG g c).any fun a => a.to == h.To) = false := by
      rw [List.any_eq_false]
      intro a haa hat
      have := aimsTo_mem.2 ⟨haa, by simpa using hat⟩
      rw [ha] at this; simp at this
     rw [this, if_pos ha]; simp
    ·have : ((aimsG g c).any fun a => a.to == h.To) = true := by
      obtain ⟨a, ha1, ha2⟩ := aimsTo_ne.1 ha
      exact List.any_eq_true.2 ⟨a, ha1, by simpa using ha2⟩
     rw [this, if_neg ha]
     have hto : fsOf g h.To = true := by
      obtain ⟨a, ha1, ha2⟩ := aimsTo_ne.1 ha
      rw [← ha2]; exact aim_fs R (List.getElem_mem hi) hcm ha1
     simp only [Bool.not_true, Bool.false_eq_true, if_false, if_true, Option.bind_some]
     exact M28_L2_eq R N w hw k hs h.To _ hto
  ·rw [if_pos (by simpa using hf)]
   have : callF fs g.Funcs[i] h = none := by unfold callF; rw [if_neg (fun q => hf (q.1.trans he))]
   rw [this]; simp
end
section
variable {g : TGraph} {how : Int} {fs : List Tx} {F : Nat}
theorem rb_ok (R : RightG g) {rl : List Tx} : ∀ {l : List TMadeBy} {p : Option Tx}, rbL rl g p l = true →
  (∀ t, p = some t → ∀ m, m ∈ l → Op.bytesLess t m.Type_ = true) ∧ (l.map (·.Type_)).Pairwise (fun a b => Op.bytesLess a b = true) ∧ ∀ m, m ∈ l → m.Func ∈ rl ∧ ∃ x, x ∈ g.Funcs ∧ x.Name = m.Func ∧ m.Type_ ∈ x.Makes
 | [], p, _ => ⟨by simp, by simp, by simp⟩
 | m :: l, p, h => by
  rw [rbL, Bool.and_eq_true, Bool.and_eq_true, Bool.and_eq_true] at h
  obtain ⟨h1, h2, h3, h4⟩ := h
  obtain ⟨i1, i2, i3⟩ := rb_ok R h4
  have hm : ∃ x, x ∈ g.Funcs ∧ x.Name = m.Func ∧ m.Type_ ∈ x.Makes := by
   cases hf : (g.Funcs.find? fun x => x.Name == m.Func) with
   | none => rw [hf] at h3; simp at h3
   | some x =>
    rw [hf] at h3
    exact ⟨x, List.mem_of_find?_eq_some hf, by have := List.find?_some hf; simpa using this, by simpa using h3⟩
  refine ⟨fun t ht m' hm' => ?_, ?_, fun m' hm' => ?_⟩
  ·subst ht
   have h1 : Op.bytesLess t m.Type_ = true := h1
   rcases List.mem_cons.1 hm' with e | e
   ·rw [e]; exact h1
   ·exact bl_trans h1 (i1 _ rfl m' e)
  ·rw [List.map_cons, List.pairwise_cons]
   refine ⟨fun t ht => ?_, i2⟩
   obtain ⟨m', hm', rfl⟩ := List.mem_map.1 ht
   exact i1 _ rfl m' hm'
  ·rcases List.mem_cons.1 hm' with e | e
   ·rw [e]; exact ⟨by simpa using h2, hm⟩
   ·exact i3 m' e
theorem rb_mok (R : RightG g) {rl : List Tx} {M : List TMadeBy} (h : rbL rl g none M = true) : MOk g M (List.replicate (((M.length : Nat) : Int)).toNat false) := by
 obtain ⟨_, h2, h3⟩ := rb_ok R h
 have ty : ∀ m, m ∈ M → tsOf g m.Type_ = true := fun m hm => by
  obtain ⟨_, x, hx, _, ht⟩ := h3 m hm
  exact (R.f x hx).makes _ ht
 refine ⟨ty, by simp, ?_⟩
 have := List.Nodup.length_le_of_subset (l₂ := g.Types.map (·.Name)) (nodup_lt h2) (fun t ht => by
  obtain ⟨m, hm, rfl⟩ := List.mem_map.1 ht
  have := ty m hm
  simpa [tsOf] using this)
 have := R.tl
 simp at *; omega
theorem hops_RN (R : RightG g) {M : List TMadeBy} (hM : ∀ m, m ∈ M → RN g how (onF fs) true m.Type_) : ∀ (hs : List THop) (s : Tx) (l : List Bool) (p : Tx × List Bool), RN g how (onF fs) false s → hopsW g how fs M hs s l = some p → RN g how (onF fs) false p.1
 | [], s, l, p, hs1, h => by simp [hopsW] at h; subst h; exact hs1
 | h :: hs, s, l, p, hs1, hp => by
  rw [hopsW, Option.bind_eq_some_iff] at hp
  obtain ⟨q, h1, h2⟩ := hp
  refine hops_RN R hM hs q.1 q.2 p ?_ h2
  unfold stepW at h1
  rw [Option.bind_eq_some_iff] at h1
  obtain ⟨x, hx, h1⟩ := h1
  rw [Option.bind_eq_some_iff] at h1
  obtain ⟨c, hc, h1⟩ := h1
  have hxm := List.mem_of_find?_eq_some hx
  have hxn : x.Name = s := by have := List.find?_some hx; simpa using this
  obtain ⟨c1, c2, c3⟩ := callF_mem hc
  split at h1
  ·simp at h1
  ·rename_i hne
   split at h1
   ·rename_i h11
    simp only [Option.some.injEq] at h1; subst h1
    obtain ⟨a, ha1, ha2⟩ := aimsTo_ne.1 hne
    rw [← ha2]
    exact .aim (by rw [hxn]; exact hs1) hxm c1 c2 ha1 (fun e => absurd h11 e)
   ·split at h1
    ·rename_i hor
     simp only [Option.some.injEq] at h1; subst h1
     rw [Bool.or_eq_true] at hor
     rcases hor with ho | ho
     ·obtain ⟨a, ha, he⟩ := List.any_eq_true.1 ho
      obtain ⟨ha1, ha2⟩ := aimsTo_mem.1 ha
      show RN g how (onF fs) false _
      rw [← ha2]
      exact .aim (by rw [hxn]; exact hs1) hxm c1 c2 ha1 (fun _ e => absurd (by simpa using he) e)
     ·obtain ⟨m, hm, he⟩ := List.any_eq_true.1 ho
      unfold mkP at he
      obtain ⟨a, ha, he2⟩ := List.any_eq_true.1 he
      obtain ⟨ha1, ha2⟩ := aimsTo_mem.1 ha
      rw [Bool.and_eq_true, beq_iff_eq] at he2
      show RN g how (onF fs) false _
      rw [← ha2]
      exact .aim (by rw [hxn]; exact hs1) hxm c1 c2 ha1 (fun _ _ => by rw [← he2.2]; exact hM m hm)
    ·simp at h1
theorem M117_eq (k : Option Int) : ∀ (l : List Bool) (n : Nat), ∃ r, M117_L1 F false (some (-1)) l (n : Int) = some r ∧ (decide (r ≥ 0) = l.contains false)
 | [], n => ⟨-1, rfl, rfl⟩
 | b :: l, n => by
  rw [M117_L1]
  obtain ⟨r, e1, e2⟩ := M117_eq k l (n + 1)
  cases b
  ·exact ⟨n, by simp, by simp⟩
  ·rw [if_neg (by simp)]
   exact ⟨r, e1, by rw [e2]; simp⟩
theorem M89_eq (l : List Bool) : M89 F l false = some (l.contains false) := by
 unfold M89 M117
 rw [jn_def]
 obtain ⟨r, e1, e2⟩ := M117_eq (F := F) none l 0
 rw [show ((0 : Nat) : Int) = 0 from rfl] at e1
 rw [e1, Option.bind_some, e2]
theorem not_false_all : ∀ l : List Bool, (!(l.contains false)) = l.all id
 | [] => rfl
 | b :: l => by
  have := not_false_all l
  rw [List.contains_cons, List.all_cons, ← this]
  cases b <;> simp
def holdB (g : TGraph) (how : Int) (fs rl : List Tx) (target : Tx) (w : TWitness) : Bool :=
 g.Entries.contains w.Entry && (rbL rl g none w.Made && ((how == 2 || w.Made.isEmpty) && (match hopsW g how fs w.Made w.Hops w.Entry (List.replicate (((w.Made.length : Nat) : Int)).toNat false) with | none => false | some p => p.1 == target && p.2.all id)))
theorem M59_eq (hF : 10000 ≤ F) (hg : okTGraph g) (hfs : ∀ x, x ∈ fs → x.length ≤ maxLen) (h0 : opnE g how fs = 0) {rl m u : List Tx} (A : Ans g how fs rl m u) (t : Tx) (w : TWitness) (hw : w.Made.length ≤ maxLen) : M59 F (wOf g how fs) t w = some (holdB g how fs rl t w) := by
 obtain ⟨R, hh⟩ := opn_parts h0
 obtain ⟨sp, s1, s2, s3, s4, s5⟩ := spread_eq (wok (F := F) (by omega) R how fs) hF
 unfold M59 holdB
 rw [s1, Option.bind_some, Option.bind_some, show (wOf g how fs).g.Entries = g.Entries from rfl, M16_eq, Option.bind_some]
 cases he : g.Entries.contains w.Entry
 ·simp
 ·have hent : fsOf g w.Entry = true := R.e _ (by simpa using he)
  have e85 : M85 F (wOf g how fs) sp w.Made = some (rbL rl g none w.Made) := by
   unfold M85
   rw [jn_def]
   have := M85_L1_eq (F := F) (how := how) (fs := fs) R s2 (rl := rl) (sp := sp) (fun i hi => by rw [s4, A.r, ← reach_iff (F := F) (by omega) R hh fs hi]; exact ⟨fun q => q.2, fun q => ⟨hi, q⟩⟩) (fun x hx => by simpa using ((A.r x).1 hx).names R) w.Made hw (some true) w.Made 0 rfl
   rw [show ((0 : Nat) : Int) = 0 from rfl] at this
   rw [this]
   have : prvM w.Made 0 = none := rfl
   rw [this]
   cases rbL rl g none w.Made <;> rfl
  simp only [Bool.not_true, Bool.false_eq_true, if_false, Bool.true_and]
  rw [e85, Option.bind_some]
  cases hr : rbL rl g none w.Made
  ·simp
  ·have hmk := rb_mok R hr
   have hlen := hmk.sm
   simp only [Bool.not_true, Bool.false_eq_true, if_false, Bool.true_and]
   have hsz : 0 ≤ ((w.Made.length : Nat) : Int) ∧ ((1 : Nat) : Int) * ((w.Made.length : Nat) : Int) ≤ 140737488355328 ∧ ((w.Made.length : Nat) : Int) ≤ 140737488355328 := by omega
   rcases hh with h1 | h2
   ·subst h1
    have hmd : (wOf g 1 fs).made = false := by simp [wOf]
    rw [hmd]
    simp only [Bool.not_false, if_true]
    cases hM : w.Made with
    | cons a b => simp
    | nil =>
     simp only [List.length_nil]
     rw [if_neg (by simp), if_pos (by decide)]
     simp only [jn_def]
     rw [M59_L1_eq (by omega) R w _ w.Hops w.Entry _ hent, hM]
     show _ = some ((((1 : Int) == 2) || true) && _)
     simp only [Bool.or_true, Bool.true_and]
     cases hopsW g 1 fs [] w.Hops w.Entry (List.replicate (((0 : Nat) : Int)).toNat false) with
     | none => rfl
     | some p =>
      simp only
      cases (p.1 == t)
      ·simp
      ·rw [if_pos rfl, M89_eq, Option.bind_some, not_false_all]; simp
   ·subst h2
    have hmd : (wOf g 2 fs).made = true := by simp [wOf]
    rw [hmd]
    simp only [Bool.not_true, Bool.false_eq_true, if_false]
    rw [if_pos hsz]
    simp only [jn_def]
    rw [M59_L3_eq (by omega) R w _ w.Hops w.Entry _ hent hmk]
    show _ = some ((((2 : Int) == 2) || _) && _)
    simp only [beq_self_eq_true, Bool.true_or, Bool.true_and]
    cases hopsW g 2 fs w.Made w.Hops w.Entry (List.replicate (((w.Made.length : Nat) : Int)).toNat false) with
    | none => rfl
    | some p =>
     simp only
     cases (p.1 == t)
     ·simp
     ·rw [if_pos rfl, M89_eq, Option.bind_some, not_false_all]; simp
theorem M33_one (hg : okTGraph g) (hfs : ∀ x, x ∈ fs → x.length ≤ maxLen) (hl : fs.length ≤ maxLen) (t : Tx) : M33 F g how fs [t] = some (if opnE g how fs ≠ 0 then opnE g how fs else if fsOf g t = true then 0 else 4) := by
 have a1 := M50_eq F g hg
 have a2 := M63_eq F fs hfs hl
 have a3 : (match g.Funcs.find? (fun x : TFunc => x.Name == t) with | some x => (x, true) | none => (TFunc.mk [] [] [] [], false)).2 = fsOf g t := by
  cases hf : fsOf g t
  ·rw [find_none hf]
  ·obtain ⟨x, hx, rfl⟩ := in_names.1 hf
   cases h : (g.Funcs.find? fun y => y.Name == x.Name) with
   | none => rw [List.find?_eq_none] at h; exact absurd (by simp) (h x hx)
   | some y => rfl
 unfold M33
 rw [a1, Option.bind_some, a2, Option.bind_some]
 unfold opnE
 by_cases h1 : chk false g = 0
 ·by_cases h2 : feE fs = 0
  ·by_cases h3 : how = 1
   ·simp only [h1, h2, h3, jn_def, M33_L2, M71_eq, Option.bind_some, a3]
    cases hft : fsOf g t <;> rw [hft] at a3 <;> simp <;> exact a3
   ·by_cases h4 : how = 2
    ·simp only [h1, h2, h4, jn_def, M33_L1, M71_eq, Option.bind_some, a3]
     cases hft : fsOf g t <;> rw [hft] at a3 <;> simp <;> exact a3
    ·simp [h1, h2, h3, h4]
  ·simp [h1, h2]
 ·simp [h1]
theorem M28_eq (hF : 10000 ≤ F) (hg : okTGraph g) (hfs : ∀ x, x ∈ fs → x.length ≤ maxLen) (hl : fs.length ≤ maxLen) {rl m u : List Tx} (A : opnE g how fs = 0 → Ans g how fs rl m u) (t : Tx) (w : TWitness) (hw : w.Made.length ≤ maxLen) :
  M28 F g how fs t w = some (if opnE g how fs ≠ 0 then (false, opnE g how fs) else if fsOf g t = true then (holdB g how fs rl t w, 0) else (false, 4)) := by
 unfold M28
 by_cases h0 : opnE g how fs = 0
 ·rw [if_neg (by simp [h0])]
  have A := A h0
  obtain ⟨R, hh⟩ := opn_parts h0
  cases ht : fsOf g t
  ·have hv : M33 F g how fs [t] = some 4 := by rw [M33_one hg hfs hl, if_neg (by simp [h0]), ht]; rfl
   rw [hv]; rfl
  ·have hv : M33 F g how fs [t] = some 0 := by rw [M33_one hg hfs hl, if_neg (by simp [h0]), ht]; rfl
   rw [hv, Option.bind_some, if_pos rfl, if_neg (by simp)]
   obtain ⟨n, e1, N⟩ := M35_eq F g fs R
   obtain ⟨s, e2, X⟩ := M36_eq (how := how) R N F hF
   rw [e1, Option.bind_some, jn_def, M28_L1_eq, Bool.false_or, show g.Entries.contains w.Entry = g.Entries.contains w.Entry from rfl]
   unfold holdB
   cases he : g.Entries.contains w.Entry
   ·simp
   ·have hent : fsOf g w.Entry = true := R.e _ (by simpa using he)
    have hs : ∀ x, (mget s.reached x).getD false = rl.contains x := fun x => by
     rw [Bool.eq_iff_iff, X.r.get, X.hr, List.contains_iff_mem, A.r]
    have e60 : M60 F n s w.Made = some (rbL rl g none w.Made) := by
     unfold M60
     rw [jn_def]
     have := M60_L1_eq (F := F) R N hs (fun x hx => by simpa using ((A.r x).1 hx).names R) w.Made hw (some true) w.Made 0 rfl
     rw [show ((0 : Nat) : Int) = 0 from rfl] at this
     rw [this]
     have : prvM w.Made 0 = none := rfl
     rw [this]
     cases rbL rl g none w.Made <;> rfl
    simp only [Bool.not_true, Bool.false_eq_true, if_false, Bool.true_and, e2, e60, Option.bind_some]
    rcases hh with h1 | h2
    ·subst h1
     rw [if_pos (show ((1 : Int) == 1) = true from rfl)]
     cases hM : w.Made with
     | cons a b =>
      rw [if_pos (by simp)]
      cases rbL rl g none (a :: b) <;> rfl
     | nil =>
      rw [if_neg (by simp)]
      have : rbL rl g none ([] : List TMadeBy) = true := rfl
      rw [this]
      simp only [Bool.not_true, Bool.false_eq_true, if_false, List.length_nil]
      rw [if_pos (by decide)]
      simp only [jn_def]
      rw [M28_L2_eq R N w hM _ w.Hops w.Entry _ hent, hM]
      show _ = some (true && ((((1 : Int) == 2) || true) && _), 0)
      simp only [Bool.or_true, Bool.true_and]
      cases hopsW g 1 fs [] w.Hops w.Entry (List.replicate (((0 : Nat) : Int)).toNat false) with
      | none => rfl
      | some p =>
       simp only
       rw [M28_L7_eq]
       cases (p.1 == t) <;> cases p.2.all id <;> rfl
    ·subst h2
     rw [if_neg (show ¬ ((2 : Int) == 1) = true by decide)]
     cases hr : rbL rl g none w.Made
     ·simp
     ·have hmk := rb_mok R hr
      have hlen := hmk.sm
      simp only [Bool.not_true, Bool.false_eq_true, if_false]
      have hsz : 0 ≤ ((w.Made.length : Nat) : Int) ∧ ((1 : Nat) : Int) * ((w.Made.length : Nat) : Int) ≤ 140737488355328 ∧ ((w.Made.length : Nat) : Int) ≤ 140737488355328 := by omega
      rw [if_pos hsz]
      simp only [jn_def]
      rw [M28_L8_eq R N w _ w.Hops w.Entry _ hent hmk.len]
      show _ = some (true && ((((2 : Int) == 2) || _) && _), 0)
      simp only [beq_self_eq_true, Bool.true_or, Bool.true_and]
      cases hopsW g 2 fs w.Made w.Hops w.Entry (List.replicate (((w.Made.length : Nat) : Int)).toNat false) with
      | none => rfl
      | some p =>
       simp only
       rw [M28_L13_eq]
       cases (p.1 == t) <;> cases p.2.all id <;> rfl
 ·have hv : M33 F g how fs [t] = some (opnE g how fs) := by rw [M33_one hg hfs hl, if_pos h0]
  rw [hv, Option.bind_some, if_pos (by simpa using h0), if_pos h0]
theorem M27_eq (hF : 10000 ≤ F) (hg : okTGraph g) (hfs : ∀ x, x ∈ fs → x.length ≤ maxLen) {rl m u : List Tx} (A : opnE g how fs = 0 → Ans g how fs rl m u) (t : Tx) (w : TWitness) (hw : w.Made.length ≤ maxLen) :
  M27 F g how fs t w = some (if opnE g how fs ≠ 0 then (false, opnE g how fs) else if fsOf g t = true then (holdB g how fs rl t w, 0) else (false, 4)) := by
 unfold M27 M37
 rw [M31_eq F g how fs hg hfs (by omega), Option.bind_some]
 by_cases h0 : opnE g how fs = 0
 ·rw [h0]
  simp only [ne_eq, not_true_eq_false, if_false, bne_self_eq_false, Bool.false_eq_true, Option.bind_some]
  cases ht : fsOf g t
  ·rw [fget_none how fs ht]; simp
  ·obtain ⟨i, hi, he⟩ := fs_at ht
   have : mget (wOf g how fs).funcs t = some (i : Int) := by rw [← he]; exact fget_at (opn_parts h0).1 how fs hi
   rw [this]
   simp only [Option.isSome_some, Bool.not_true, Bool.false_eq_true, if_false, Option.bind_some, bne_self_eq_false, if_true]
   rw [M59_eq hF hg hfs h0 (A h0) t w hw, Option.bind_some]
 ·have h0' : (opnE g how fs != 0) = true := by simpa using h0
  simp only [ne_eq, h0, not_false_eq_true, if_true, h0', Option.bind_some]
end
theorem plain_7 (g : TGraph) (how : Int) (fs : List Tx) (t : Tx) (w : TWitness) (hg : okTGraph g) (hi : (IntKind.i64).min ≤ how ∧ how ≤ (IntKind.i64).max) (hfs : (∀ a, a ∈ fs → (fun x : List UInt8 => x.length ≤ maxLen) a) ∧ fs.length ≤ maxLen) (ht : t.length ≤ maxLen) (hw : okTWitness w) : ∃ F, M7 F g how fs t w = some true := by
 refine ⟨20003, ?_⟩
 generalize hF : 20003 = F
 obtain ⟨r, m, u, e1, e2, e3, A⟩ := prog_ans F g how fs hg hfs.1 (by omega)
 have A' : opnE g how fs = 0 → Ans g how fs r m u := fun h => by rw [if_pos h] at A; exact A
 have hm : w.Made.length ≤ maxLen := hw.2.2.1.2
 unfold M7
 rw [M27_eq (by omega) hg hfs.1 A' t w hm, M28_eq (by omega) hg hfs.1 hfs.2 A' t w hm, Option.bind_some, Option.bind_some]
 simp only [bne_self_eq_false, Bool.false_eq_true, if_false, jn_def]
 have fin : ((M11 F).bind fun y20 => some y20) = some true := rfl
 rw [fin]
 by_cases h0 : opnE g how fs = 0
 ·simp only [ne_eq, h0, not_true_eq_false, if_false]
  cases hft : fsOf g t
  ·simp
  ·simp only [if_true]
   cases hb : holdB g how fs r t w
   ·simp
   ·rw [if_pos rfl, e1, Option.bind_some, h0]
    simp only [bne_self_eq_false, Bool.false_eq_true, if_false]
    rw [M16_eq, Option.bind_some]
    have AA := A' h0
    obtain ⟨R, hh⟩ := opn_parts h0
    have hin : t ∈ r := by
     rw [AA.r]
     unfold holdB at hb
     rw [Bool.and_eq_true, Bool.and_eq_true, Bool.and_eq_true] at hb
     obtain ⟨b1, b2, b3, b4⟩ := hb
     cases hq : hopsW g how fs w.Made w.Hops w.Entry (List.replicate (((w.Made.length : Nat) : Int)).toNat false) with
     | none => rw [hq] at b4; simp at b4
     | some p =>
      rw [hq] at b4
      simp only [Bool.and_eq_true, beq_iff_eq] at b4
      have := hops_RN (how := how) (fs := fs) R (M := w.Made) (fun m hmm => by
       obtain ⟨q1, x, hx, hxn, hxt⟩ := (rb_ok R b2).2.2 m hmm
       exact .mk (by rw [hxn]; exact (AA.r _).1 q1) hx hxt) w.Hops w.Entry _ p (.entry (by simpa using b1)) hq
      rw [← b4.1]; exact this
    have : r.contains t = true := by simpa using hin
    rw [this]; rfl
 ·simp [h0]
end Go.Proofs.Ytpbkggamiipdmaa
