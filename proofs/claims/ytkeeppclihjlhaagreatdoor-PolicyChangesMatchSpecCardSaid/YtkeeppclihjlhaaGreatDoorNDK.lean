/- Part of the proof: LM, DP, DQ, DM, DN, DO, DR, ZC, EI, DK. -/
import Derived.Test.YtkeeppclihjlhaaGreatDoorNZA
import Derived.Test.YtkeeppclihjlhaaGreatDoorNWA
import Derived.Maps.RangeRun
import Derived.Lib.SlicesCompact
import Derived.Shelf.Small.Strs
namespace Go.Pv
open Go
section
variable {K : Ctx} {Q : Post} {S S' : St}
variable {m : Mem} {β : Locs} {w : World} {a : Act}
variable {ops : Array Oper} {rest : List Oper} {ty : TypeId} {pos : String} {after : Array Edge} {g : Option (Nat × Bool)}
theorem Rel.adopt (r : Rel K m β w a S) (id0 nx' : Nat) (hfree : β id0 = none) (hpid : ∀ q, q < K.pins → q ≠ id0) (hidn : id0 < nx') (hnn : S.nx ≤ nx') (loc : Option (Nat × Cap)) (ob : Ob)
  (hblk : ∀ b c, loc = some (b, c) → m b = none ∧ (b < K.w0.heap.size → ¬ K.old b) ∧ (∀ i c', hget S.hp i ≠ .dead → β i ≠ some (some (b, c'))) ∧ ∀ i, hget S.hp i ≠ .dead → ¬ β.hid i b)
  (hok : ∀ β', β.le β' → ObOk m β' w (fun _ => False) (some loc) ob) :
  ∃ β' : Locs, β.le β' ∧ β' id0 = some loc ∧ Rel K m β' w a ⟨S.env, (id0, ob) :: S.hp, nx'⟩ := by
 let β' : Locs := ⟨fun i => if i = id0 then some loc else β i, fun i => if i = id0 then (fun _ => False) else β.hid i⟩
 have hle : β.le β' := by
  intro i l h
  show (if i = id0 then _ else _) = _
  rw [if_neg]
  ·exact h
  ·intro e; rw [e, hfree] at h; simp at h
 have en : β' id0 = some loc := by show (if _ then _ else _) = _; rw [if_pos rfl]
 have eo : ∀ i, id0 ≠ i → β' i = β i := fun i h => by show (if _ then _ else _) = _; rw [if_neg (Ne.symm h)]
 have hn : β'.hid id0 = fun _ => False := by show (if _ then _ else _) = _; rw [if_pos rfl]
 have ho : ∀ i, id0 ≠ i → β'.hid i = β.hid i := fun i h => by show (if _ then _ else _) = _; rw [if_neg (Ne.symm h)]
 refine ⟨β', hle, en, ?_⟩
 constructor
 ·exact r.imm
 ·exact r.ext
 ·exact r.mold
 ·exact r.frame
 ·exact r.size
 ·exact r.same
 ·exact r.tn
 ·exact r.df
 ·exact fun t => (r.env t).mono (Mem.le_refl _) hle
 ·intro id
  simp only [hget_put]
  by_cases h : id0 = id
  ·subst h; rw [if_pos rfl]
   show ObOk m β' w (β'.hid id0) (β' id0) ob
   rw [en, hn]; exact hok β' hle
  ·rw [if_neg h]
   show ObOk m β' w (β'.hid id) (β' id) _
   rw [eo id h, ho id h]
   exact ObOk.mono (Mem.le_refl _) hle (fun _ _ h => h) (fun _ _ => rfl) (r.own id)
 ·intro id b c hl hb
  simp only [hget_put] at hl
  by_cases h : id0 = id
  ·subst h
   rw [en] at hb
   simp only [Option.some.injEq] at hb
   exact ⟨(hblk b c hb).1, (hblk b c hb).2.1⟩
  ·rw [if_neg h] at hl
   rw [eo id h] at hb
   exact r.priv id b c hl hb
 ·intro id id' b c c' hl hl' hb hb'
  simp only [hget_put] at hl hl'
  by_cases h : id0 = id <;> by_cases h' : id0 = id'
  ·rw [← h, ← h']
  ·exfalso
   subst h
   rw [if_neg h'] at hl'
   rw [eo id' h'] at hb'
   rw [en] at hb
   simp only [Option.some.injEq] at hb
   exact (hblk b c hb).2.2.1 id' c' hl' hb'
  ·exfalso
   subst h'
   rw [if_neg h] at hl
   rw [eo id h] at hb
   rw [en] at hb'
   simp only [Option.some.injEq] at hb'
   exact (hblk b c' hb').2.2.1 id c hl hb
  ·rw [if_neg h] at hl
   rw [if_neg h'] at hl'
   rw [eo id h] at hb
   rw [eo id' h'] at hb'
   exact r.inj id id' b c c' hl hl' hb hb'
 ·intro id x hl hx
  simp only [hget_put] at hl
  by_cases h : id0 = id
  ·subst h; rw [hn] at hx; exact hx.elim
  ·rw [if_neg h] at hl
   rw [ho id h] at hx
   have q := r.hid id x hl hx
   refine ⟨q.lt, q.m, q.old, fun i b c hi hb => ?_, fun i hi hx' => ?_⟩
   ·simp only [hget_put] at hi
    by_cases h' : id0 = i
    ·subst h'
     rw [en] at hb
     simp only [Option.some.injEq] at hb
     intro e; subst e
     exact (hblk _ c hb).2.2.2 id hl hx
    ·rw [if_neg h'] at hi
     rw [eo i h'] at hb
     exact q.ne i b c hi hb
   ·simp only [hget_put] at hi
    by_cases h' : id0 = i
    ·subst h'; rw [hn] at hx'; exact hx'.elim
    ·rw [if_neg h'] at hi
     rw [ho i h'] at hx'
     exact q.un i hi hx'
 ·intro id hid
  have hid : nx' ≤ id := hid
  show β' id = none
  rw [eo id (by omega)]
  exact r.nx id (by omega)
 ·intro q hq
  obtain ⟨p1, p2⟩ := r.pin q hq
  exact ⟨Nat.lt_of_lt_of_le p1 hnn, by rw [eo q (Ne.symm (hpid q hq))]; exact p2⟩
inductive Lent (j : Nat) : V → V → Prop
 | con (v : Value) : Lent j (.con v) (.con v)
 | own {n : Nat} : Lent j (.own 0 n) (.own j n)
 | tup {cs ds : List V} (hl : cs.length = ds.length) (h : ∀ (i : Nat) c d, cs[i]? = some c → ds[i]? = some d → (∃ v, c = .con v ∧ d = .con v) ∨ ∃ n, c = .own 0 n ∧ d = .own j n) : Lent j (.tup cs) (.tup ds)
theorem Lent.own' {j : Nat} {m m' : Mem} {β β' : Locs} {n : Nat} {v : Value} (hj : β' j = β 0) (hv : VRel m β (.own 0 n) v) : VRel m' β' (.own j n) v := by
 cases hv with
 | imm h => cases h
 | ownNil h => exact .ownNil (by rw [hj]; exact h)
 | own h => exact .own (by rw [hj]; exact h)
theorem Lent.get {j : Nat} {c d : V} (h : Lent j c d) {m m' : Mem} {β β' : Locs} {v : Value} (hj : β' j = β 0) (hv : VRel m β c v) : VRel m' β' d v := by
 cases h with
 | con u => rw [hv.of_con]; exact .imm (.con _)
 | own => exact Lent.own' hj hv
 | @tup cs ds hl h =>
  have key : ∀ (i : Nat) c d u, cs[i]? = some c → ds[i]? = some d → VRel m β c u → VRel m' β' d u := by
   intro i c d u hc hd hu
   rcases h i c d hc hd with ⟨x, rfl, rfl⟩ | ⟨n, rfl, rfl⟩
   ·rw [hu.of_con]; exact .imm (.con _)
   ·exact Lent.own' hj hu
  cases hv with
  | imm hi =>
   cases hi with
   | tup hl' hi =>
    refine .tup (by rw [← hl]; exact hl') (fun i c v hc hv => ?_)
    have hlt := (List.getElem?_eq_some_iff.1 hc).1
    have hlt' : i < cs.length := by rw [hl]; exact hlt
    exact key i _ c v (List.getElem?_eq_getElem hlt') hc (.imm (hi i _ v (List.getElem?_eq_getElem hlt') hv))
  | tup hl' hi =>
   refine .tup (by rw [← hl]; exact hl') (fun i c v hc hv => ?_)
   have hlt := (List.getElem?_eq_some_iff.1 hc).1
   have hlt' : i < cs.length := by rw [hl]; exact hlt
   exact key i _ c v (List.getElem?_eq_getElem hlt') hc (hi i _ v (List.getElem?_eq_getElem hlt') hv)
end
end Go.Pv
namespace Go.Pv
open Go
section
variable {K : Ctx} {S : St}
def Mv (id idn : Nat) : Hy := fun m β m' β' => m' = m ∧ β' = β ∧ β idn = β id
instance {id idn : Nat} : HyMC (Mv id idn) := ⟨fun m β m' β' hy => by rw [hy.1]; exact Mem.le_refl _⟩
theorem Sub.mv {id idn n : Nat} : Sub (Mv id idn) (.own idn n) (.own id n) := fun m β m' β' x hy hx => by
 obtain ⟨rfl, rfl, e⟩ := hy
 cases hx with
 | imm h => cases h
 | ownNil h => exact .ownNil (by rw [e]; exact h)
 | own h => exact .own (by rw [e]; exact h)
end
end Go.Pv
namespace Go.Pv
open Go
section
variable {K : Ctx} {Q : Post} {S : St}
variable {m : Mem} {β : Locs} {w : World} {a : Act}
variable {ops : Array Oper} {rest : List Oper} {ty : TypeId} {pos : String} {after : Array Edge} {g : Option (Nat × Bool)}
@[reducible] def BndIs (K : Ctx) (S : St) (o : Option Operand) (n v : Nat) : Prop := match o with | none => v = n | some y => ∃ ik, evl K S y = .con (.int ik v)
theorem slice_own_run (r : Rel K m β w a S) {d k n a0 b0 : Nat} {x : Operand} {lo hi : Option Operand} {T : TypeId} (hT : tySl K.P T k = true)
  (hlo : BndIs K S lo 0 a0) (hhi : BndIs K S hi n b0)
  (h1 : a0 ≤ b0) (h2 : b0 ≤ n) (ad : Option Addr) (cap : Nat) (hv : a.eval x = .slice ad n cap) (hcap : n ≤ cap) :
  (execOp a.eval ⟨some d, .slice T x lo hi none, ty, pos, after, g⟩).run K.P w = .ok (.value (.slice (if cap = a0 then ad else ad.map (·.add (a0 * k))) (b0 - a0) (cap - a0))) w := by
 obtain ⟨e, i, hu, hi', hs⟩ := tySl_inv hT
 have hk : K.P.cellsOf e = k := by simp [Program.cellsOf, hi', hs]
 have bnd : ∀ (n y : Nat) (c : BoundsCode) (ik : IntKind), n ≤ y → (Instr.sliceBound (.int ik n) y c).run K.P w = .ok n w := by
  intro n y c ik h
  simp only [Instr.sliceBound, asIntOf, Sem.run_bind, pure, Sem.run, Result.andThen_ok]
  rw [if_pos ⟨by omega, by omega⟩]
  simp
 have hb : (Instr.sliceBounds true n cap (lo.map a.eval) (hi.map a.eval) none).run K.P w = .ok (a0, b0, cap) w := by
  cases lo with
  | none =>
   have hlo : a0 = 0 := hlo; subst hlo
   cases hi with
   | none => have hhi : b0 = n := hhi; subst hhi; simp [Instr.sliceBounds, pure]
   | some y =>
    obtain ⟨ik, hy⟩ := hhi
    simp [Instr.sliceBounds, pure, r.con hy, bnd b0 cap _ ik (by omega)]
  | some z =>
   obtain ⟨ik, hz⟩ := hlo
   cases hi with
   | none => have hhi : b0 = n := hhi; subst hhi; simp [Instr.sliceBounds, pure, r.con hz, bnd a0 _ _ ik h1]
   | some y =>
    obtain ⟨ik', hy⟩ := hhi
    simp [Instr.sliceBounds, pure, r.con hz, r.con hy, bnd a0 _ _ ik h1, bnd b0 cap _ ik' (by omega)]
 simp only [execOp, hv]
 refine run_value ?_
 simp only [Instr.sliceAt, Sem.run_bind, run_underlying hu, Result.andThen_ok, Option.map_none, Instr.slice, hb, run_sizeOf w hi', hk]
 rfl
theorem aops_slice_ownhi {d k n id e b0 : Nat} {x : Operand} {hi : Option Operand} {T : TypeId} {rows : List (List V)} (hT : tySl K.P T k = true)
  (hw : Wants ops S ⟨some d, .slice T x none hi none, ty, pos, after, g⟩ true) (hx : evl K S x = .own id n) (ho : hget S.hp id = .arr e k rows) (hn : n ≤ rows.length)
  (hhi : BndIs K S hi n b0) (h2 : b0 ≤ n) (hN : Nat.blt d K.N = true) (kk : AOps K ops rest Q (S.put d (.own id b0))) :
  AOps K ops (⟨some d, .slice T x none hi none, ty, pos, after, g⟩ :: rest) Q S :=
 aops_val _ hw hN (fun m β w a r => by
  have h := r.reads x
  rw [hx] at h
  generalize hv : a.eval x = v at h
  cases h with
  | imm h => cases h
  | @ownNil _ ad hb =>
   have := slice_own_run (a0 := 0) (b0 := b0) (lo := none) (d := d) (ty := ty) (pos := pos) (after := after) (g := g) r hT rfl hhi (Nat.zero_le _) h2 ad 0 hv (Nat.le_refl _)
   have hb0 : b0 = 0 := by omega
   subst hb0
   exact ⟨_, this, by simpa using .ownNil hb⟩
  | @own _ _ b cap hb =>
   obtain ⟨arr, bl, q1, q2, q3, q4, q5, q6, q7⟩ := r.obj hb ho
   have := slice_own_run (a0 := 0) (b0 := b0) (lo := none) (d := d) (ty := ty) (pos := pos) (after := after) (g := g) r hT rfl hhi (Nat.zero_le _) h2 _ cap.n hv (by omega)
   have had : (some (⟨b, cap.off, none⟩ : Addr)).map (·.add (0 * k)) = some ⟨b, cap.off, none⟩ := by simp only [Option.map_some]; rw [add_spot]; simp
   rw [had] at this
   exact ⟨_, this, by simpa using .own hb⟩) kk
theorem aops_slice_own {d k n id e nx : Nat} {x : Operand} {lo hi : Option Operand} {T : TypeId} {rows : List (List V)} (a0 b0 : Nat) (rows' : List (List V)) (hT : tySl K.P T k = true)
  (hw : Wants ops S ⟨some d, .slice T x lo hi none, ty, pos, after, g⟩ true) (hx : evl K S x = .own id n) (ho : hget S.hp id = .arr e k rows) (hn : n = rows.length) (hnx : S.nx = nx)
  (hlo : BndIs K S lo 0 a0) (hhi : BndIs K S hi n b0)
  (h1 : a0 ≤ b0) (h2 : b0 ≤ n) (hl : rows.drop a0 = rows') (hnd : ∀ row, row ∈ rows → ndB row = true) (hN : Nat.blt d K.N = true)
  (kk : AOps K ops rest Q ⟨(d, .own nx (b0 - a0)) :: S.env, (nx, .arr e k rows') :: (id, .dead) :: S.hp, nx + 1⟩) :
  AOps K ops (⟨some d, .slice T x lo hi none, ty, pos, after, g⟩ :: rest) Q S := by
 subst hnx hn hl
 refine aops_runs hw (fun m β w a r => ?_) kk
 have hl0 : hget S.hp id ≠ .dead := by rw [ho]; simp
 have h := r.reads x
 rw [hx] at h
 generalize hv : a.eval x = v at h
 generalize hnn : rows.length = n at h hv hhi h2
 have rk := r.kill id
 cases h with
 | imm h => cases h
 | @ownNil _ ad hb =>
  have := slice_own_run (a0 := a0) (b0 := b0) (d := d) (ty := ty) (pos := pos) (after := after) (g := g) r hT hlo hhi h1 h2 ad 0 hv (Nat.le_refl _)
  have hb0 : b0 = 0 := by omega
  have ha0 : a0 = 0 := by omega
  subst hb0 ha0
  have hr0 : rows = [] := List.length_eq_zero_iff.1 hnn
  subst hr0
  obtain ⟨β', hle, hβ, r3⟩ := rk.adopt S.nx (S.nx + 1) (r.nx _ (Nat.le_refl _)) (fun q hq => Nat.ne_of_lt (r.pin q hq).1) (Nat.lt_succ_self _) (Nat.le_succ _) none (.arr e k []) (fun b c hb => by simp at hb) (fun _ _ => rfl)
  exact ⟨_, w, m, β', .inl this, r3.put hN (by simpa using .ownNil hβ)⟩
 | @own _ _ b cap hb =>
  obtain ⟨arr, bl, q1, q2, q3, q4, q5, q6, q7⟩ := r.obj hb ho
  have hcn : n ≤ cap.n := by omega
  have := slice_own_run (a0 := a0) (b0 := b0) (d := d) (ty := ty) (pos := pos) (after := after) (g := g) r hT hlo hhi h1 h2 _ cap.n hv hcn
  by_cases hc : cap.n = a0
  ·have hb0 : b0 - a0 = 0 := by omega
   have hd : rows.drop a0 = [] := List.drop_eq_nil_of_le (by omega)
   rw [if_pos hc] at this
   obtain ⟨β', hle, hβ, r3⟩ := rk.adopt S.nx (S.nx + 1) (r.nx _ (Nat.le_refl _)) (fun q hq => Nat.ne_of_lt (r.pin q hq).1) (Nat.lt_succ_self _) (Nat.le_succ _) none (.arr e k (rows.drop a0)) (fun b c hb => by simp at hb) (fun _ _ => hd)
   refine ⟨_, w, m, β', .inl this, r3.put hN ?_⟩
   rw [hb0, show cap.n - a0 = 0 by omega]
   exact .ownNil hβ
  ·rw [if_neg hc] at this
   have had : (some (⟨b, cap.off, none⟩ : Addr)).map (·.add (a0 * k)) = some ⟨b, cap.off + a0 * k, none⟩ := by simp only [Option.map_some]; rw [add_spot]
   rw [had] at this
   obtain ⟨p1, p2⟩ := r.priv id b cap hl0 hb
   obtain ⟨β', hle, hβ, r3⟩ := rk.adopt S.nx (S.nx + 1) (r.nx _ (Nat.le_refl _)) (fun q hq => Nat.ne_of_lt (r.pin q hq).1) (Nat.lt_succ_self _) (Nat.le_succ _) (some (b, ⟨cap.n - a0, cap.off + a0 * k⟩)) (.arr e k (rows.drop a0))
    (fun b' c hb' => by
     simp only [Option.some.injEq, Prod.mk.injEq] at hb'
     obtain ⟨rfl, rfl⟩ := hb'
     refine ⟨p1, p2, fun i c' hi hbi => ?_, fun i hi hx => ?_⟩
     ·rw [hget_put] at hi
      split at hi
      ·exact hi rfl
      ·rename_i hne
       exact hne (r.inj id i _ _ _ hl0 hi hb hbi)
     ·rw [hget_put] at hi
      split at hi
      ·exact hi rfl
      ·exact (r.hid i _ hi hx).ne id _ cap hl0 hb rfl)
    (fun β' hle => by
     refine ⟨arr, fun _ _ => False, q1, ?_, ?_, by show cap.n - a0 ≤ maxLen; omega, fun row hr => q5 row (List.mem_of_mem_drop hr), bls_none, fun i j row c hi hj => ?_⟩
     ·show arr.size = (cap.off + a0 * k) + (cap.n - a0) * k
      rw [q2, Nat.add_assoc, ← Nat.add_mul, show a0 + (cap.n - a0) = cap.n by omega]
     ·show (rows.drop a0).length ≤ cap.n - a0
      rw [List.length_drop]; omega
     ·rw [List.getElem?_drop] at hi
      obtain ⟨v, v1, v2, v3⟩ := q7 (a0 + i) j row c hi hj
      refine ⟨v, ?_, .inl ((v2.v (ndB_at (hnd row (List.mem_of_getElem? hi)) hj)).mono (Mem.le_refl _) hle), v3⟩
      rw [← v1]
      congr 1
      show cap.off + a0 * k + (i * k + j) = _
      rw [Nat.add_mul]; omega)
   exact ⟨_, w, m, β', .inl this, r3.put hN (.own hβ)⟩
end
end Go.Pv
namespace Go.Pv
open Go
section
variable {K : Ctx} {S : St}
end
end Go.Pv
namespace Go.Pv
open Go
section
variable {K : Ctx} {Q : Post} {S' : St} {env : Env} {hpS : Heap}
variable {ops : Array Oper} {rest : List Oper} {ty : TypeId} {pos : String} {after : Array Edge} {g : Option (Nat × Bool)}
theorem aops_mcallS {d : Nat} {f : FuncId} {args : Array Operand} {at' : Array TypeId} {avs' : List V} {k k' : Nat} {hp hp' : Heap} {dc : V} (dv : V) (avs : List V) (σ τ : Nat → Nat) (nx nx' : Nat) (u : Heap) (hf : fnOk K.P f = true)
  (hw : Wants ops ⟨env, hpS, nx⟩ ⟨some d, .call ⟨.value (.func f), args, at'⟩, ty, pos, after, g⟩ true) (hN : Nat.blt d K.N = true) (ha : args.toList.map (evl K ⟨env, hpS, nx⟩) = avs)
  (hsub : Subs (Ren k σ) avs' avs) (hhp : HpSub (Ren k σ) k σ hpS hp) (hc : MutG K.gl K.P f avs' k hp dc k' hp')
  (hto : toB k k' nx nx' σ τ (fun _ => false) = true) (hτ : injB k' τ = true) (hle : Nat.ble nx nx' = true) (hkk : Nat.ble k k' = true)
  (hdv : Sub (To k' τ) dv dc) (hu : HpTo (To k' τ) τ hp' k' 0 u) (up : Heap) (hup : u ++ hpS = up)
  (kk : AOps K ops rest Q ⟨(d, dv) :: env, up, nx'⟩) : AOps K ops (⟨some d, .call ⟨.value (.func f), args, at'⟩, ty, pos, after, g⟩ :: rest) Q ⟨env, hpS, nx⟩ :=
 aops_mcall dv avs σ τ nx nx' u hf hw hN ha hsub hhp hc rfl hto hτ hle hkk hdv hu (by rw [← hup] at kk; exact kk)
end
end Go.Pv
namespace Go.Pv
open Go
section
variable {K : Ctx} {Q : Post} {env : Env} {hpS : Heap}
variable {ops : Array Oper} {rest : List Oper} {ty : TypeId} {pos : String} {after : Array Edge} {g : Option (Nat × Bool)}
end
end Go.Pv
namespace Go.Pv
open Go
section
variable {K : Ctx} {Q : Post} {S : St}
variable {ops : Array Oper} {rest : List Oper} {ty : TypeId} {pos : String} {after : Array Edge} {g : Option (Nat × Bool)}
theorem aops_buildA {d T n k : Nat} {parts : Array (Nat × Operand)} {zs : List Value} (ps : List (Nat × V)) (cs : List V) (hz : zeroCells K.P T = some zs) (hA : tyArr K.P T n k = true)
  (h1 : zs.all (·.oneCell') = true) (hw : Wants ops S ⟨some d, .build T parts, ty, pos, after, g⟩ true)
  (hps : parts.toList.map (fun p => (p.1, evl K S p.2)) = ps) (hf : fillV (fun i => some (i * k, k)) (zs.map .con) ps = some cs) (hN : Nat.blt d K.N = true)
  (kk : AOps K ops rest Q (S.put d (.agg cs))) : AOps K ops (⟨some d, .build T parts, ty, pos, after, g⟩ :: rest) Q S :=
 aops_val _ hw hN (fun m β w a r => by
  obtain ⟨hl, hr⟩ := parts_rel r parts ps hps
  obtain ⟨cells', f1, f2⟩ := fill_rel ps _ _ cs zs.toArray hf (zero_cells h1 m β) hl hr
  have hb : K.P.built T (parts.map fun (i, x) => (i, a.eval x)).toList = some cells' := by
   obtain ⟨e, i, hu, hi, hs⟩ := tyArr_inv hA
   unfold zeroCells at hz
   cases hii : K.P.info? T with
   | none => simp [hii] at hz
   | some it =>
    cases hzz : it.zero with
    | none => simp [hii, hzz] at hz
    | some z =>
     simp [hii, hzz] at hz
     simp only [Program.built, hii, hu, hzz, hi, hs]
     rw [← f1, ← hz]
  refine ⟨.agg cells', by simp only [execOp]; exact run_value (run_build w T _ cells' hb), .agg f2.1 fun i c v hc hv => (f2.2 i c v hc hv).1⟩) kk
end
end Go.Pv
namespace Go.Pv
open Go
section
variable {K : Ctx} {Q : Post} {S : St}
variable {ops : Array Oper} {rest : List Oper} {ty : TypeId} {pos : String} {after : Array Edge} {g : Option (Nat × Bool)}
theorem agg_inv {m : Mem} {β : Locs} {cs : List V} {v : Value} (h : VRel m β (.agg cs) v) : ∃ vs, v = .agg vs ∧ cs.length = vs.size ∧ ∀ (i : Nat) (c : V) (u : Value), cs[i]? = some c → vs[i]? = some u → VRel m β c u := by
 cases h with
 | imm h => cases h with | agg hl h => exact ⟨_, rfl, hl, fun i c u a b => .imm (h i c u a b)⟩
 | agg hl h => exact ⟨_, rfl, hl, h⟩
theorem aops_indexA {d T n k e : Nat} {x y : Operand} {ik : IntKind} {i : Int} {cs : List V} (row : List V) (hT : tyArrA K.P T n k e = true)
  (hw : Wants ops S ⟨some d, .index T x y, ty, pos, after, g⟩ true) (hx : evl K S x = .agg cs) (hy : evl K S y = .con (.int ik i))
  (hi : 0 ≤ i ∧ i.toNat < n) (hl : cs.length = n * k) (hr : (cs.drop (i.toNat * k)).take k = row) (hN : Nat.blt d K.N = true)
  (kk : AOps K ops rest Q (S.put d (.agg row))) : AOps K ops (⟨some d, .index T x y, ty, pos, after, g⟩ :: rest) Q S :=
 aops_val _ hw hN (fun m β w a r => by
  obtain ⟨hu, hA⟩ := tyArrA_inv hT
  have h := r.reads x
  rw [hx] at h
  obtain ⟨vs, h1, h2, h3⟩ := agg_inv h
  have ha := tyA_run hA w
  refine ⟨.agg (vs.extract (i.toNat * k) (i.toNat * k + k)), ?_, ?_⟩
  ·simp only [execOp, h1, r.con hy]
   refine run_value ?_
   simp only [Instr.index, asIntOf, Sem.run_bind, pure, Sem.run, Result.andThen_ok, run_underlying hu]
   rw [if_pos ⟨hi.1, by omega⟩]
   simp only [Sem.run_bind, ha.2, Result.andThen_ok, part, ha.1, if_true]
   rfl
  ·have hk : i.toNat * k + k ≤ n * k := by
    have : (i.toNat + 1) * k ≤ n * k := Nat.mul_le_mul_right _ hi.2
    rwa [Nat.add_mul, Nat.one_mul] at this
   refine .agg ?_ (fun j c u hc hu => ?_)
   ·rw [← hr]; simp only [List.length_take, List.length_drop, Array.size_extract, hl, ← h2]; omega
   ·rw [← hr, List.getElem?_take] at hc
    split at hc
    ·rename_i hj
     rw [List.getElem?_drop] at hc
     rw [Array.getElem?_extract] at hu
     split at hu
     ·exact h3 _ c u hc hu
     ·simp at hu
    ·simp at hc) kk
theorem aops_indexAC {d T n e : Nat} {x y : Operand} {ik : IntKind} {i : Int} {cs : List V} (c : V) (hT : tyArrC K.P T n e = true)
  (hw : Wants ops S ⟨some d, .index T x y, ty, pos, after, g⟩ true) (hx : evl K S x = .agg cs) (hy : evl K S y = .con (.int ik i))
  (hi : 0 ≤ i ∧ i.toNat < n) (hl : cs[i.toNat]? = some c) (hN : Nat.blt d K.N = true)
  (kk : AOps K ops rest Q (S.put d c)) : AOps K ops (⟨some d, .index T x y, ty, pos, after, g⟩ :: rest) Q S :=
 aops_val _ hw hN (fun m β w a r => by
  obtain ⟨hu, hA⟩ := tyArrC_inv hT
  have h := r.reads x
  rw [hx] at h
  obtain ⟨vs, h1, h2, h3⟩ := agg_inv h
  have ha := tyC_run hA w
  have hlt : i.toNat < vs.size := by rw [← h2]; exact (List.getElem?_eq_some_iff.1 hl).1
  refine ⟨vs[i.toNat], ?_, h3 _ c _ hl (Array.getElem?_eq_getElem hlt)⟩
  simp only [execOp, h1, r.con hy]
  refine run_value ?_
  simp only [Instr.index, asIntOf, Sem.run_bind, pure, Sem.run, Result.andThen_ok, run_underlying hu]
  rw [if_pos ⟨hi.1, by omega⟩]
  simp only [Sem.run_bind, ha.2, Result.andThen_ok, part, ha.1, Nat.mul_one, Array.getElem?_eq_getElem hlt]
  rfl) kk
end
end Go.Pv
namespace Go.Pv
theorem arr_row {α : Type} {n k i : Nat} {f : Nat → α} {enc : α → List V} {cs : List V} (hc : cs = (List.range n).flatMap (fun j => enc (f j))) (hk : ∀ x, (enc x).length = k) (hi : i < n) : (cs.drop (i * k)).take k = enc (f i) := by
 subst hc
 have key : ∀ (l : List Nat) (i : Nat) (hi : i < l.length), ((l.flatMap (fun j => enc (f j))).drop (i * k)).take k = enc (f l[i]) := by
  intro l
  induction l with
  | nil => intro i hi; simp at hi
  | cons a l ih =>
   intro i hi
   cases i with
   | zero =>
    simp only [List.flatMap_cons, Nat.zero_mul, List.drop_zero, List.getElem_cons_zero]
    rw [List.take_append_of_le_length (by rw [hk]; exact Nat.le_refl _)]
    exact List.take_of_length_le (by rw [hk]; exact Nat.le_refl _)
   | succ i =>
    simp only [List.flatMap_cons, List.getElem_cons_succ]
    rw [Nat.add_mul, Nat.one_mul, Nat.add_comm, ← List.drop_drop, List.drop_left' (hk _)]
    exact ih i (by simpa using hi)
 have := key (List.range n) i (by simpa using hi)
 simpa using this
end Go.Pv
namespace Go.Pv
open Go
set_option linter.unusedVariables false
set_option linter.unusedSimpArgs false
section
variable {K : Ctx} {S : St}
variable {m : Mem} {β : Locs} {w : World} {a : Act}
theorem Rel.take (r : Rel K m β w a S) {id : Nat} (hl0 : hget S.hp id ≠ .dead) (hnid : id ≠ S.nx) (Bc Bn : Nat → Prop) (loc : Option (Nat × Cap)) (ob' ob2 : Ob) (hsub : ∀ x, Bc x → β.hid id x) (hBn : ∀ x, Bn x → Bc x)
  (hloc : ∀ b' c', loc = some (b', c') → Bc b' ∧ ¬ Bn b') (hobj : ∀ β' : Locs, ObOk m β' w Bn (some loc) ob2)
  (hob : ∀ β' : Locs, β.le β' → β' S.nx = some loc → ObOk m β' w (fun x => β.hid id x ∧ ¬ Bc x) (β id) ob') :
  ∃ m' β', Rel K m' β' w a ⟨S.env, (id, ob') :: (S.nx, ob2) :: S.hp, S.nx + 1⟩ := by
 let β' : Locs := ⟨fun q => if q = S.nx then some loc else β q, fun q => if q = S.nx then Bn else if q = id then (fun x => β.hid id x ∧ ¬ Bc x) else β.hid q⟩
 have en : β' S.nx = some loc := by show (if _ then _ else _) = _; rw [if_pos rfl]
 have eo : ∀ q, q ≠ S.nx → β' q = β q := fun q h => by show (if _ then _ else _) = _; rw [if_neg h]
 have hn : β'.hid S.nx = Bn := by show (if _ then _ else _) = _; rw [if_pos rfl]
 have hid' : β'.hid id = fun x => β.hid id x ∧ ¬ Bc x := by show (if _ then _ else if _ then _ else _) = _; rw [if_neg hnid, if_pos rfl]
 have hoth : ∀ q, q ≠ S.nx → q ≠ id → β'.hid q = β.hid q := fun q h1 h2 => by show (if _ then _ else if _ then _ else _) = _; rw [if_neg h1, if_neg h2]
 have hle : β.le β' := by
  intro q l h
  rw [eo q]
  ·exact h
  ·intro e; rw [e, r.nx _ (Nat.le_refl _)] at h; simp at h
 have hg : ∀ q, hget ((id, ob') :: (S.nx, ob2) :: S.hp) q = if id = q then ob' else if S.nx = q then ob2 else hget S.hp q := fun q => by rw [hget_put, hget_put]
 have live : ∀ q, q ≠ S.nx → hget ((id, ob') :: (S.nx, ob2) :: S.hp) q ≠ .dead → hget S.hp q ≠ .dead := by
  intro q hq h
  rw [hg] at h
  split at h
  ·rename_i e; rw [← e]; exact hl0
  ·rw [if_neg (Ne.symm hq)] at h; exact h
 -- the hidden blocks of the new state, seen in the old one
 have hh : ∀ q x, hget ((id, ob') :: (S.nx, ob2) :: S.hp) q ≠ .dead → β'.hid q x → (q = S.nx ∧ Bn x) ∨ (q ≠ S.nx ∧ hget S.hp q ≠ .dead ∧ β.hid q x ∧ (q = id → ¬ Bc x)) := by
  intro q x hl hx
  by_cases e1 : q = S.nx
  ·subst e1; rw [hn] at hx; exact .inl ⟨rfl, hx⟩
  ·refine .inr ⟨e1, live q e1 hl, ?_⟩
   by_cases e2 : q = id
   ·subst e2; rw [hid'] at hx; exact ⟨hx.1, fun _ => hx.2⟩
   ·rw [hoth q e1 e2] at hx; exact ⟨hx, fun h => absurd h e2⟩
 refine ⟨m, β', r.imm, r.ext, r.mold, r.frame, r.size, r.same, r.tn, r.df, fun t => (r.env t).mono (Mem.le_refl _) hle, fun q => ?_, fun q b1 c1 hl hb1 => ?_, fun q q' b1 c1 c2 hl hl' hb1 hb2 => ?_, fun q x hl hx => ?_, fun q hq => ?_, fun q hq => ?_⟩
 ·rw [hg]
  split
  ·rename_i h; subst h
   show ObOk m β' w (β'.hid id) (β' id) _
   rw [hid', eo id hnid]; exact hob β' hle en
  ·split
   ·rename_i h; subst h
    show ObOk m β' w (β'.hid S.nx) (β' S.nx) _
    rw [hn, en]; exact hobj β'
   ·rename_i h1 h2
    show ObOk m β' w (β'.hid q) (β' q) _
    rw [hoth q (Ne.symm h2) (Ne.symm h1), eo q (Ne.symm h2)]
    exact ObOk.mono (Mem.le_refl _) hle (fun _ _ h => h) (fun _ _ => rfl) (r.own q)
 ·by_cases e1 : q = S.nx
  ·subst e1; rw [en] at hb1
   simp only [Option.some.injEq] at hb1
   have h := r.hid id b1 hl0 (hsub _ (hloc b1 c1 hb1).1)
   exact ⟨h.m, h.old⟩
  ·rw [eo q e1] at hb1; exact r.priv q b1 c1 (live q e1 hl) hb1
 ·have key : ∀ q c, q ≠ S.nx → hget S.hp q ≠ .dead → β q = some (some (b1, c)) → ∀ c', loc = some (b1, c') → False := by
   intro q c _ hl hbq c' hc
   exact (r.hid id b1 hl0 (hsub _ (hloc b1 c' hc).1)).ne q b1 c hl hbq rfl
  by_cases e1 : q = S.nx <;> by_cases e2 : q' = S.nx
  ·rw [e1, e2]
  ·exfalso; subst e1
   rw [en] at hb1; rw [eo q' e2] at hb2
   simp only [Option.some.injEq] at hb1
   exact key q' c2 e2 (live q' e2 hl') hb2 c1 hb1
  ·exfalso; subst e2
   rw [en] at hb2; rw [eo q e1] at hb1
   simp only [Option.some.injEq] at hb2
   exact key q c1 e1 (live q e1 hl) hb1 c2 hb2
  ·rw [eo q e1] at hb1; rw [eo q' e2] at hb2
   exact r.inj q q' b1 c1 c2 (live q e1 hl) (live q' e2 hl') hb1 hb2
 ·
  have hx0 := hh q x hl hx
  have hidx : ∃ q0, hget S.hp q0 ≠ .dead ∧ β.hid q0 x ∧ (q = S.nx → q0 = id ∧ Bc x) ∧ (q ≠ S.nx → q0 = q) := by
   rcases hx0 with ⟨e1, h1⟩ | ⟨e1, h1, h2, h3⟩
   ·exact ⟨id, hl0, hsub x (hBn x h1), fun _ => ⟨rfl, hBn x h1⟩, fun h => absurd e1 h⟩
   ·exact ⟨q, h1, h2, fun h => absurd h e1, fun _ => rfl⟩
  obtain ⟨q0, g1, g2, g3, g4⟩ := hidx
  have hr := r.hid q0 x g1 g2
  refine ⟨hr.lt, hr.m, hr.old, fun p b1 c1 hl1 hb1 => ?_, fun p hl1 hx1 => ?_⟩
  ·by_cases e2 : p = S.nx
   ·subst e2
    rw [en] at hb1
    simp only [Option.some.injEq] at hb1
    intro e; subst e
    obtain ⟨k1, k2⟩ := hloc _ c1 hb1
    rcases hx0 with ⟨e1, h1⟩ | ⟨e1, h1, h2, h3⟩
    ·exact k2 h1
    ·have := (r.hid q _ h1 h2).un id hl0 (hsub _ k1)
     exact h3 this.symm k1
   ·rw [eo p e2] at hb1
    exact hr.ne p b1 c1 (live p e2 hl1) hb1
  ·rcases hh p x hl1 hx1 with ⟨e2, h2⟩ | ⟨e2, h2, h3, h4⟩
   ·rcases hx0 with ⟨e1, h1⟩ | ⟨e1, h1, h2', h3'⟩
    ·rw [e1, e2]
    ·exfalso
     have := (r.hid q _ h1 h2').un id hl0 (hsub _ (hBn x h2))
     exact h3' this.symm (hBn x h2)
   ·rcases hx0 with ⟨e1, h1⟩ | ⟨e1, h1, h2', h3'⟩
    ·exfalso
     have := (r.hid id _ hl0 (hsub _ (hBn x h1))).un p h2 h3
     exact h4 this (hBn x h1)
    ·exact (r.hid q _ h1 h2').un p h2 h3
 ·have hq : S.nx + 1 ≤ q := hq
  rw [eo q (by omega)]; exact r.nx q (by omega)
 ·obtain ⟨p1, p2⟩ := r.pin q hq
  exact ⟨Nat.lt_succ_of_lt p1, by rw [eo q (Nat.ne_of_lt p1)]; exact p2⟩
end
end Go.Pv
namespace Go.Pv
open Go
set_option linter.unusedVariables false
set_option linter.unusedSimpArgs false
section
variable {K : Ctx} {Q : Post} {S : St}
variable {m : Mem} {β : Locs} {w : World} {a : Act}
variable {ops : Array Oper} {rest : List Oper} {ty : TypeId} {pos : String} {after : Array Edge} {g : Option (Nat × Bool)}
inductive LookT (x : Value) (nx e k : Nat) : List (Value × V) → List (Value × V) → List (List V) → Prop
 | nil : LookT x nx e k [] [] []
 | here {rws : List (List V)} {es : List (Value × V)} : LookT x nx e k ((x, .dsl e k rws) :: es) ((x, .own nx rws.length) :: es) rws
 | there {q : Value} {v : V} {es es' : List (Value × V)} {rws : List (List V)} (h : q ≠ x) (h' : LookT x nx e k es es' rws) : LookT x nx e k ((q, v) :: es) ((q, v) :: es') rws
theorem LookT.cases {x : Value} {nx e k : Nat} {es es' : List (Value × V)} {rws : List (List V)} (h : LookT x nx e k es es' rws) :
  (es' = es ∧ rws = [] ∧ ∀ p, p ∈ es → p.1 ≠ x) ∨ ∃ i, es[i]? = some (x, .dsl e k rws) ∧ es' = es.set i (x, .own nx rws.length) ∧ Look x es' (some (.own nx rws.length)) := by
 induction h with
 | nil => exact .inl ⟨rfl, rfl, by simp⟩
 | here => exact .inr ⟨0, rfl, rfl, .here⟩
 | @there q v es es' rws h h' ih =>
  rcases ih with ⟨h1, h2, h3⟩ | ⟨i, h1, h2, h3⟩
  ·refine .inl ⟨by rw [h1], h2, fun p hp => ?_⟩
   rcases List.mem_cons.1 hp with e | e
   ·rw [e]; exact h
   ·exact h3 p e
  ·exact .inr ⟨i + 1, by simpa using h1, by rw [h2]; rfl, .there h h3⟩
end
end Go.Pv
namespace Go.Pv
open Go
section
variable {K : Ctx} {Q : Post} {S : St}
variable {m : Mem} {β : Locs} {w : World} {a : Act}
variable {ops : Array Oper} {rest : List Oper} {ty : TypeId} {pos : String} {after : Array Edge} {g : Option (Nat × Bool)}
theorem Puts.other {x : Value} {v : V} {es es3 : List (Value × V)} (h : Puts x v es es3) (v' : V) : ∃ es2 i, Puts x v' es es2 ∧ es2[i]? = some (x, v') ∧ es3 = es2.set i (x, v) := by
 induction h with
 | nil => exact ⟨[(x, v')], 0, .nil, rfl, rfl⟩
 | @here v0 es => exact ⟨(x, v') :: es, 0, .here, rfl, rfl⟩
 | @there k v0 es es3 h h' ih =>
  obtain ⟨es2, i, h1, h2, h3⟩ := ih
  exact ⟨(k, v0) :: es2, i + 1, .there h h1, by simpa using h2, by rw [h3]; rfl⟩
variable {κ α : Type} [DecidableEq κ]
end
end Go.Pv
namespace Go.Pv
open Go
section
variable {K : Ctx} {Q : Post} {S : St}
variable {m : Mem} {β : Locs} {w : World} {a : Act}
variable {ops : Array Oper} {rest : List Oper} {ty : TypeId} {pos : String} {after : Array Edge} {g : Option (Nat × Bool)}
inductive LookD (x : Value) (d o : V) : List (Value × V) → List (Value × V) → Prop
 | here {es : List (Value × V)} : LookD x d o ((x, d) :: es) ((x, o) :: es)
 | there {q : Value} {v : V} {es es' : List (Value × V)} (h : q ≠ x) (h' : LookD x d o es es') : LookD x d o ((q, v) :: es) ((q, v) :: es')
theorem LookD.at {x : Value} {d o : V} {es es' : List (Value × V)} (h : LookD x d o es es') : ∃ i, es[i]? = some (x, d) ∧ es' = es.set i (x, o) ∧ Look x es' (some o) := by
 induction h with
 | here => exact ⟨0, rfl, rfl, .here⟩
 | @there q v es es' h h' ih =>
  obtain ⟨i, h1, h2, h3⟩ := ih
  exact ⟨i + 1, by simpa using h1, by rw [h2]; rfl, .there h h3⟩
end
variable {κ α β γ : Type} [DecidableEq κ]
section
variable {K : Ctx} {Q : Post} {S : St}
end
section
variable {K : Ctx} {Q : Post} {S : St} {s : List It}
variable {ops : Array Oper} {l : List Oper}
end
section
variable {K : Ctx} {Q : Post} {S : St}
variable {ops : Array Oper} {rest : List Oper} {ty : TypeId} {pos : String} {after : Array Edge} {g : Option (Nat × Bool)}
def sameAll (ts : List Nat) (v : V) (e : Env) : Env := match ts with | [] => e | t :: ts => (t, v) :: sameAll ts v e
theorem sameAll_sub {Y : Hy} {v v0 : V} {env : Env} (hk : ∀ v, Sub Y v v) (h : Sub Y v v0) : ∀ (ts : List Nat), (∀ t, t ∈ ts → get env t = v0) → ∀ t', Sub Y (get (sameAll ts v env) t') (get env t')
 | [], _, t' => hk _
 | t :: ts, hh, t' => by
  rw [sameAll, get_put]
  split
  ·rename_i he; subst he; rw [hh t (by simp)]; exact h
  ·exact sameAll_sub hk h ts (fun q hq => hh q (List.mem_cons_of_mem _ hq)) t'
theorem ghost_frzEs (id : Nat) (ts : List Nat) {e k n : Nat} {rows : List (List V)} (ho : hget S.hp id = .arr e k rows) (hi : ∀ row, row ∈ rows → Imms row)
  (ht : ∀ t, t ∈ ts → get S.env t = .own id n) (hn : n = rows.length) : Ghost K S ⟨sameAll ts (.lst k rows) S.env, (id, .dead) :: S.hp, S.nx⟩ :=
 ghost_freeze id _ _ ho hi (sameAll_sub (fun _ => Sub.keep) (Sub.frzAll hn) ts ht) hpFrz0 (by simp [hget_put])
inductive Zs : List V → List Value → Prop
 | nil : Zs [] []
 | con {v : Value} {cs : List V} {vs : List Value} (h : Zs cs vs) : Zs (.con v :: cs) (v :: vs)
 | sl {k : Nat} {cs : List V} {vs : List Value} (h : Zs cs vs) : Zs (.lst k [] :: cs) (.slice none 0 0 :: vs)
theorem Zs.ok {cs : List V} {vs : List Value} (h : Zs cs vs) (m : Mem) : cs.length = vs.length ∧ ∀ (i : Nat) c v, cs[i]? = some c → vs[i]? = some v → IRel m c v := by
 induction h with
 | nil => exact ⟨rfl, by simp⟩
 | con h ih =>
  refine ⟨by simp [ih.1], fun i c v a b => ?_⟩
  cases i with
  | zero => simp at a b; subst a; subst b; exact .con _
  | succ i => exact ih.2 i c v (by simpa using a) (by simpa using b)
 | sl h ih =>
  refine ⟨by simp [ih.1], fun i c v a b => ?_⟩
  cases i with
  | zero => simp at a b; subst a; subst b; exact .nil _ _ _
  | succ i => exact ih.2 i c v (by simpa using a) (by simpa using b)
end
end Go.Pv
namespace Go.Pv
open Go
set_option linter.unusedVariables false
set_option linter.unusedSimpArgs false
open Go.ChangeMaps (setBlock)
section
variable {K : Ctx} {Q : Post} {S : St}
variable {m : Mem} {β : Locs} {w : World} {a : Act}
variable {ops : Array Oper} {rest : List Oper} {ty : TypeId} {pos : String} {after : Array Edge} {g : Option (Nat × Bool)}
end
inductive EnvFz (Y : Hy) (env : Env) : Env → Prop
 | refl : EnvFz Y env env
 | put {e : Env} {t : Nat} {v v0 : V} (ht : get env t = v0) (hv : Sub Y v v0) (h : EnvFz Y env e) : EnvFz Y env ((t, v) :: e)
theorem EnvFz.get {Y : Hy} {env e : Env} (hk : ∀ v, Sub Y v v) (h : EnvFz Y env e) (t : Nat) : Sub Y (get e t) (get env t) := by
 induction h with
 | refl => exact hk _
 | put ht hv _ ih =>
  rw [get_put]
  split
  ·rename_i he; subst he; rw [ht]; exact hv
  ·exact ih
inductive HpFz (Y : Hy) (hp : Heap) : Heap → Prop
 | refl : HpFz Y hp hp
 | put {e : Heap} {t : Nat} {v v0 : Ob} (ht : hget hp t = v0) (hv : ObSub Y v v0) (h : HpFz Y hp e) : HpFz Y hp ((t, v) :: e)
theorem HpFz.get {Y : Hy} {hp e : Heap} (hk : ∀ v, ObSub Y v v) (h : HpFz Y hp e) (t : Nat) : ObSub Y (hget e t) (hget hp t) := by
 induction h with
 | refl => exact hk _
 | put ht hv _ ih =>
  rw [hget_put]
  split
  ·rename_i he; subst he; rw [ht]; exact hv
  ·exact ih
section
variable {K : Ctx} {S : St}
end
def RM {α : Type} (n : Nat) (l : List α) (P : Prop) : Prop := l.length < n ∧ P
theorem RM.zero {α : Type} {l : List α} {P : Prop} {X : Prop} (h : RM 0 l P) : X := absurd h.1 (Nat.not_lt_zero _)
theorem RM.start {α : Type} {l : List α} {P : Prop} (h : P) : RM (l.length + 1) l P := ⟨Nat.lt_succ_self _, h⟩
theorem RM.step {α : Type} {l l' : List α} {n : Nat} {P P' : Prop} (h : RM (n + 1) l P) (hq : l'.length < l.length) (h' : P') : RM n l' P' := ⟨by have := h.1; omega, h'⟩
section
variable {K : Ctx} {Q : Post} {S : St} {s : List It}
variable {ops : Array Oper} {rest : List Oper} {ty : TypeId} {pos : String} {after : Array Edge} {g : Option (Nat × Bool)}
end
end Go.Pv
namespace Go.Pv
open Go Go.RowKit
set_option linter.unusedVariables false
set_option linter.unusedSimpArgs false
open Go.Sort in
theorem mut_compactG {gl : Gl} {P : Program} {f : FuncId} {k id : Nat} {hp : Heap} {e : TypeId} {α : Type} [Inhabited α] (enc : α → Value) (h1c : ∀ x, (enc x).oneCell' = true) (l l' zs : List α) (hid : hget hp id = .arr e 1 (l.map fun x => [V.con (enc x)])) (hl : (l' ++ zs).length = l.length)
  (h : ∀ (w : World) (blk off cap : Nat), Holds enc w blk off l.toArray → blk < w.heap.size → l.length ≤ cap → Calls P f #[.slice (some ⟨blk, off, none⟩) l.length cap] w fun e w' =>
   e = .returned (.slice (some ⟨blk, off, none⟩) l'.length cap) ∧ ∃ n os, w' = grow (putRow enc (Sort.ahead w n) blk off (l' ++ zs).toArray) os)
  (hn : ∀ (w : World) (a : Option Addr), l = [] → Calls P f #[.slice a 0 0] w fun e w' => e = .returned (.slice a 0 0) ∧ Below w.heap.size w w' ∧ w.drawn ≤ w'.drawn) :
  MutG gl P f [.own id l.length] k hp (.own id l'.length) k ((id, .arr e 1 (l'.map fun x => [V.con (enc x)])) :: hp) := by
 intro m β w vs himm _ hargs hown hpriv hinj hhid hnx
 obtain ⟨v, rfl⟩ : ∃ v, vs = #[v] := by
  have := hargs.len
  simp at this
  exact ⟨vs[0], by
   apply Array.ext
   ·simp [← this]
   ·intro i h1 h2
    have : i = 0 := by simp at h2; omega
    subst this; simp⟩
 have hv := hargs.at' 0 _ _ rfl rfl
 have hob := hown id
 rw [hid] at hob
 have hg : ∀ q, hget ((id, Ob.arr e 1 (l'.map fun x => [V.con (enc x)])) :: hp) q = if id = q then Ob.arr e 1 (l'.map fun x => [V.con (enc x)]) else hget hp q := fun q => hget_put _ _ _ _
 have hlive : ∀ q, hget ((id, Ob.arr e 1 (l'.map fun x => [V.con (enc x)])) :: hp) q ≠ .dead → hget hp q ≠ .dead := fun q hq => by
  rw [hg] at hq
  split at hq
  ·rename_i hh; subst hh; rw [hid]; simp
  ·exact hq
 have hhids : ∀ (w' : World), w.heap.size ≤ w'.heap.size → ∀ q x, hget ((id, Ob.arr e 1 (l'.map fun x => [V.con (enc x)])) :: hp) q ≠ .dead → β.hid q x → x < w'.heap.size ∧ m x = none ∧ (x < w.heap.size → ¬ Foreign hp β x) ∧
   (∀ i b c, hget ((id, Ob.arr e 1 (l'.map fun x => [V.con (enc x)])) :: hp) i ≠ .dead → β i = some (some (b, c)) → x ≠ b) ∧ ∀ i, hget ((id, Ob.arr e 1 (l'.map fun x => [V.con (enc x)])) :: hp) i ≠ .dead → β.hid i x → i = q := by
  intro w' hs q x hq hx
  obtain ⟨q1, q2, q3, q4⟩ := hhid q x (hlive q hq) hx
  exact ⟨by omega, q2, fun _ hF => (hF q (hlive q hq)).2 hx, fun i b c hi => q3 i b c (hlive i hi), fun i hi => q4 i (hlive i hi)⟩
 generalize hnl : l.length = n at hv h
 cases hv with
 | imm h' => cases h'
 | @ownNil _ ad hb =>
  have hl0 : l = [] := List.length_eq_zero_iff.1 hnl
  subst hl0
  have hl' : l' = [] := by
   have : (l' ++ zs).length = 0 := by simpa using hl
   simp at this; exact this.1
  subst hl'
  refine (hn w ad rfl).mono ?_
  rintro ex w' ⟨rfl, hB, hdr⟩
  have hheap : ∀ b, b < w.heap.size → w'.heap[b]? = w.heap[b]? := hB.block
  refine ⟨_, m, β, rfl, .ownNil hb, Mem.le_refl _, fun b o hb => by rw [hheap b (lt_of_some (himm b o hb))]; exact himm b o hb, fun b hb _ => ⟨rfl, hheap b hb⟩, hB.size, ⟨hB.os, hB.tape, hB.output, hdr⟩, fun q => ?_, fun q b cap hq hbq => ?_, fun q q' b cap cap' hq hq' => hinj q q' b cap cap' (hlive q hq) (hlive q' hq'), hhids w' hB.size, hnx, fun q hq => ⟨hq, rfl⟩⟩
  ·rw [hg]
   split
   ·rename_i hh; subst hh; rw [hb]; simp [ObOk]
   ·by_cases hd : hget hp q = .dead
    ·rw [hd]; exact ObOk.dead' _
    ·exact ObOk.congr (fun b cap hbb => hheap b (live_lt hd hbb (hown q))) (fun x hx => hheap x (hhid q x hd hx).1) (hown q)
  ·have hq := hlive q hq
   exact ⟨hpriv q b cap hq hbq, fun _ hF => (hF q hq).1 cap hbq⟩
 | @own _ _ b cap hb =>
  rw [hb] at hob
  obtain ⟨arr, bl, o1, o2, o3, o4, o5, oB, o6⟩ := hob
  have hbs : b < w.heap.size := lt_of_some o1
  have hcell : ∀ j (hj : j < l.length), arr[cap.off + j]? = some (enc l[j]) := fun j hj => by
   obtain ⟨v, v1, v2, _⟩ := o6 j 0 [V.con (enc l[j])] (V.con (enc l[j])) (by simp [List.getElem?_eq_getElem hj]) rfl
   have := (v2.v rfl).of_con
   subst this
   simpa using v1
  refine (h w b cap.off cap.n (fun j hj => ?_) hbs (by simpa [hnl] using o3)).mono ?_
  ·have hj' : j < l.length := by simpa using hj
   have hz : (l.toArray)[j]! = l[j] := by rw [getElem!_pos _ j hj]; simp
   rw [hz]
   exact ⟨(cell_of_heap o1).trans (hcell j hj'), by simp [World.frozen?, o1]⟩
  rintro ex w' ⟨rfl, nd, os, rfl⟩
  have hheap := heap_sorted enc w nd b cap.off (l' ++ zs).toArray os
  have hother : ∀ b', b' < w.heap.size → b' ≠ b → (grow (putRow enc (Sort.ahead w nd) b cap.off (l' ++ zs).toArray) os).heap[b']? = w.heap[b']? := fun b' h1 h2 => by rw [hheap b' h1, if_neg (Ne.symm h2)]
  have hlid : hget hp id ≠ .dead := by rw [hid]; simp
  have hsz : w.heap.size ≤ (grow (putRow enc (Sort.ahead w nd) b cap.off (l' ++ zs).toArray) os).heap.size := by simp [grow, putRow, mapBlock, Sort.ahead]
  refine ⟨_, m, β, rfl, .own hb, Mem.le_refl _, fun b' o hb' => ?_, fun b' hb' hF => ⟨rfl, hother b' hb' (fun e => ?_)⟩, hsz, ⟨rfl, rfl, rfl, Nat.le_add_right _ _⟩, fun q => ?_, fun q b' cap' hq hbq => ?_, fun q q' b1 cap1 cap2 hq hq' => hinj q q' b1 cap1 cap2 (hlive q hq) (hlive q' hq'), hhids _ hsz, hnx, fun q hq => ⟨hq, rfl⟩⟩
  ·have hne : b' ≠ b := fun e => by
    subst e
    rw [hpriv id b' cap hlid hb] at hb'
    simp at hb'
   rw [hother b' (lt_of_some (himm b' o hb')) hne]
   exact himm b' o hb'
  ·subst e; exact (hF id hlid).1 cap hb
  ·rw [hg]
   split
   ·rename_i hh
    subst hh
    rw [hb]
    refine ⟨putCells enc cap.off (l' ++ zs).toArray arr, bl, by rw [hheap b hbs, if_pos rfl, o1]; rfl, by simp [putCells, o2], by simp at hl o3 ⊢; omega, o4, ?_, oB, fun i j row c hr hc => ?_⟩
    ·intro row hr
     obtain ⟨x, _, rfl⟩ := List.mem_map.1 hr
     rfl
    ·rw [List.getElem?_map] at hr
     cases hli : l'[i]? with
     | none => rw [hli] at hr; simp at hr
     | some x =>
      rw [hli] at hr
      simp at hr
      subst hr
      have hi : i < l'.length := (List.getElem?_eq_some_iff.1 hli).1
      have hx : l'[i] = x := (List.getElem?_eq_some_iff.1 hli).2
      have hj : j = 0 := by
       have := (List.getElem?_eq_some_iff.1 hc).1
       simp at this; exact this
      subst hj
      simp at hc
      subst hc
      have ha : cap.off + i < arr.size := by simp at hl o3; omega
      refine ⟨enc x, ?_, .inl (.imm (.con _)), h1c x⟩
      rw [Nat.mul_one, Nat.add_zero]
      unfold putCells
      rw [Array.getElem?_mapIdx, Array.getElem?_eq_getElem ha, Option.map_some, if_pos ⟨Nat.le_add_right _ _, by simp; omega⟩, Nat.add_sub_cancel_left, getElem!_pos _ i (by simp; omega)]
      simp [List.getElem_append_left hi, hx]
   ·by_cases hd : hget hp q = .dead
    ·rw [hd]; exact ObOk.dead' _
    ·refine ObOk.congr (fun b' cap' hbb => hother b' (live_lt hd hbb (hown q)) (fun e => ?_)) (fun x hx => hother x (hhid q x hd hx).1 ((hhid q x hd hx).2.2.1 id b cap hlid hb)) (hown q)
     subst e
     rename_i hne
     exact hne (hinj id q b' cap cap' hlid hd hb hbb)
  ·have hq := hlive q hq
   exact ⟨hpriv q b' cap' hq hbq, fun _ hF => (hF q hq).1 cap' hbq⟩
def cpt {α : Type} [Inhabited α] [DecidableEq α] (l : List α) : List α := Lib.compact l
theorem compactUpTo_len {α : Type} [Inhabited α] [DecidableEq α] (d : Array α) (m : Nat) : (Lib.compactUpTo d m).length ≤ m := by
 simp only [Lib.compactUpTo, List.length_map]
 exact Nat.le_trans (List.length_filter_le _ _) (by simp)
theorem cpt_len {α : Type} [Inhabited α] [DecidableEq α] (l : List α) : (cpt l).length ≤ l.length := compactUpTo_len _ _
theorem grow_nil (w : World) : w = Go.Sort.grow w #[] := by cases w; simp [Go.Sort.grow]
theorem pad_len {α : Type} (l c : List α) (h : c.length ≤ l.length) (z : α) : (c ++ List.replicate (l.length - c.length) z).length = l.length := by simp; omega
open Go.Sort in
theorem mut_compactS {gl : Gl} {P : Program} {f : FuncId} {k id : Nat} {hp : Heap} {e : TypeId} {α : Type} [Inhabited α] [DecidableEq α] (enc : α → Value) (h1c : ∀ x, (enc x).oneCell' = true) (z : α) (l : List α) (hid : hget hp id = .arr e 1 (l.map fun x => [V.con (enc x)]))
  (h : ∀ (blk off cap : Nat) (zs : List α) (w : World), Holds enc w blk off zs.toArray → zs.length ≤ 9223372036854775807 → zs.length ≤ cap → Calls P f #[.slice (some ⟨blk, off, none⟩) zs.length cap] w fun e w' =>
   e = .returned (.slice (some ⟨blk, off, none⟩) (Lib.compact zs).length cap) ∧ ∃ q, w' = putRow enc (Sort.ahead w q) blk off (Lib.compact zs ++ List.replicate (zs.length - (Lib.compact zs).length) z).toArray)
  (hn : ∀ (p : Option Addr) (w : World), Calls P f #[.slice p 0 0] w fun e w' => e = .returned (.slice p 0 0) ∧ w' = w) (hc : l.length ≤ 140737488355328) :
  MutG gl P f [.own id l.length] k hp (.own id (cpt l).length) k ((id, .arr e 1 ((cpt l).map fun x => [V.con (enc x)])) :: hp) :=
 mut_compactG enc h1c l (cpt l) (List.replicate (l.length - (cpt l).length) z) hid (pad_len _ _ (cpt_len l) z) (fun w blk off cap hH _ hcap => (h blk off cap l w hH (by omega) hcap).mono (by rintro e w' ⟨rfl, q, rfl⟩; exact ⟨rfl, q, #[], grow_nil _⟩)) (fun w a _ => (hn a w).mono (by rintro e w' ⟨rfl, rfl⟩; exact ⟨rfl, Below.refl _ _, Nat.le_refl _⟩))
end Go.Pv
namespace Go.Pv
open Go
set_option linter.unusedVariables false
def conL (f : V → Option Value) : List V → Option (List Value)
 | [] => some []
 | x :: l => match f x with | some v => (match conL f l with | some r => some (v :: r) | none => none) | none => none
def conV : Nat → V → Option Value
 | 0, _ => none
 | n + 1, v => match v with
  | .con v => some v
  | .agg cs => (match conL (conV n) cs with | some l => some (.agg l.toArray) | none => none)
  | _ => none
theorem conL_at {f : V → Option Value} : ∀ {cs : List V} {l : List Value}, conL f cs = some l → l.length = cs.length ∧ ∀ (i : Nat) c v, cs[i]? = some c → l[i]? = some v → f c = some v
 | [], l, h => by simp [conL] at h; subst h; simp
 | x :: cs, l, h => by
  simp only [conL] at h
  split at h
  ·rename_i y hy
   split at h
   ·rename_i q hq
    simp at h; subst h
    obtain ⟨h1, h2⟩ := conL_at hq
    refine ⟨by simp [h1], fun i c v a b => ?_⟩
    cases i with
    | zero => simp at a b; subst a; subst b; exact hy
    | succ i => exact h2 i c v (by simpa using a) (by simpa using b)
   ·simp at h
  ·simp at h
theorem conV_ok {m : Mem} {β : Locs} : ∀ {n : Nat} {v : V} {x y : Value}, conV n v = some x → VRel m β v y → y = x
 | 0, v, x, y, h => by simp [conV] at h
 | n + 1, v, x, y, h => by
  intro hv
  cases v with
  | con c => simp [conV] at h; subst h; exact hv.of_con
  | agg cs =>
   simp only [conV] at h
   split at h
   ·rename_i l hl
    simp at h; subst h
    obtain ⟨vs, rfl, h2, h3⟩ := agg_inv hv
    obtain ⟨a1, a2⟩ := conL_at hl
    congr 1
    apply Array.ext
    ·simp [a1, h2]
    ·intro i hi hj
     have hic : i < cs.length := by rw [h2]; exact hi
     have hil : i < l.length := by rw [a1]; exact hic
     have := conV_ok (a2 i _ _ (List.getElem?_eq_getElem hic) (List.getElem?_eq_getElem hil)) (h3 i _ _ (List.getElem?_eq_getElem hic) (Array.getElem?_eq_getElem hi))
     simpa using this
   ·simp at h
  | _ => simp [conV] at h
theorem irel_agg {m : Mem} (l : List Value) : IRel m (.agg (l.map .con)) (.agg l.toArray) := .agg (by simp) fun i c v a b => by
 simp only [List.getElem?_map, List.getElem?_toArray] at a b
 rw [b] at a
 simp at a; subst a; exact .con _
def unC : Value → V
 | .agg vs => .agg (vs.toList.map .con)
 | v => .con v
theorem unC_ok {m : Mem} {β : Locs} (v : Value) : VRel m β (unC v) v := by
 cases v with
 | agg vs =>
  refine .imm (.agg (by simp) fun i c u a b => ?_)
  simp only [List.getElem?_map, Array.getElem?_toList, b, Option.map_some, Option.some.injEq] at a
  subst a; exact .con _
 | _ => exact .imm (.con _)
section
variable {K : Ctx} {Q : Post} {S S' : St} {ops : Array Oper} {rest : List Oper} {t : TT} {ty : TypeId} {pos : String} {after : Array Edge} {g : Option (Nat × Bool)}
theorem aops_mkIface {d n : Nat} {T : TypeId} {x : Operand} {v : V} {c : Value} (hT : K.P.concrete T = true) (hw : Wants ops S ⟨some d, .makeInterface T x, ty, pos, after, g⟩ true) (hx : evl K S x = v) (hc : conV n v = some c) (hN : Nat.blt d K.N = true)
  (k : AOps K ops rest Q (S.put d (.con (.iface T c)))) : AOps K ops (⟨some d, .makeInterface T x, ty, pos, after, g⟩ :: rest) Q S :=
 aops_val _ hw hN (fun m β w a r => by
  have := r.reads x
  rw [hx] at this
  have := conV_ok hc this
  exact ⟨.iface T c, by simp only [execOp, this]; exact run_value (Go.run_makeInterface w T c hT), .imm (.con _)⟩) k
def clI (t : TT) (e : Env) : Op → Option (Nat × List V)
 | .call c => (match c.callee with
  | .invoke x name => (match evC e x with
   | some (.con (.iface T v)) => (match ask t T (TF.qM name) with
    | some f => (match evL e c.args.toList with
     | some vs => (match frc (unC v :: vs) with | some r => some (f, r) | none => none)
     | none => none)
    | none => none)
   | _ => none)
  | .value x => (match evC e x with
   | some (.con (.func (.method name) first caps)) => (match first.toList, caps.toList with
    | [.iface T v], [] => (match ask t T (TF.qM name) with
     | some f => (match evL e c.args.toList with
      | some vs => (match frc (unC v :: vs) with | some r => some (f, r) | none => none)
      | none => none)
     | none => none)
    | _, _ => none)
   | _ => none)
  | _ => none)
 | _ => none
theorem evL_at {e : Env} (ha : Ag e S) : ∀ {l : List Operand} {vs : List V}, evL e l = some vs → vs = l.map (evl K S) := fun h => (evL_ok ha h).symm
theorem clI_run0 (ht : TTok K.P t) {e : Env} (ha : Ag e S) {o : Oper} {f : Nat} {avs : List V} (h : clI t e o.op = some (f, avs)) :
  ∀ m β w a, Rel K m β w a S → ∃ vs : Array Value, (execOp a.eval o).run K.P w = .ok (.enter f vs) w ∧ VRels m β avs vs := by
 obtain ⟨dst, op, ty', pos, after, g⟩ := o
 cases op <;> simp only [clI, reduceCtorEq] at h
 rename_i c
 obtain ⟨callee, args, at'⟩ := c
 simp only at h
 split at h
 ·rename_i x name
  split at h
  ·rename_i T v hx
   split at h
   ·rename_i f' hm
    split at h
    ·rename_i vs hv
     split at h
     ·rename_i q hq
      simp only [Option.some.injEq, Prod.mk.injEq] at h
      obtain ⟨rfl, rfl⟩ := h
      have hq := frc_ok hq
      have hv := evL_at (K := K) ha hv
      have hmm := (askM ht hm).1
      subst hq
      intro m β w a r
      have hr := r.con (evC_ok (K := K) ha hx)
      refine ⟨#[v] ++ args.map a.eval, ?_, ?_⟩
      ·have : (execOp a.eval ⟨dst, .call ⟨.invoke x name, args, at'⟩, ty', pos, after, g⟩) = callMethod (.iface T v) name (args.map a.eval) := by
        simp only [execOp, resolve, hr, pure_bind]
        show invoke (.fn (.method name) #[]) (#[Value.iface T v] ++ args.map a.eval) = _
        simp only [invoke]
        rw [show (#[Value.iface T v] ++ args.map a.eval)[0]? = some (Value.iface T v) by rw [Array.getElem?_append_left (by simp)]; rfl]
        simp only
        congr 1
        apply Array.ext'
        simp
        exact List.take_of_length_le (by simp)
       rw [this]
       exact hmm v (args.map a.eval) w
      ·refine ⟨by simp [hv]; omega, fun i c u h1 h2 => ?_⟩
       cases i with
       | zero =>
        rw [Array.getElem?_append_left (by simp)] at h2
        simp at h1 h2; subst h1; subst h2; exact unC_ok v
       | succ i =>
        simp only [List.getElem?_cons_succ, hv, List.getElem?_map, Array.getElem?_toList] at h1
        rw [Array.getElem?_append_right (by simp)] at h2
        simp only [List.size_toArray, List.length_cons, List.length_nil, Nat.zero_add, Nat.add_sub_cancel, Array.getElem?_map] at h2
        cases ho : args[i]? with
        | none => rw [ho] at h1; simp at h1
        | some y =>
         rw [ho] at h1 h2
         simp at h1 h2
         subst h1; subst h2
         exact r.reads y
     ·simp at h
    ·simp at h
   ·simp at h
  ·simp at h
 ·rename_i x
  split at h
  ·rename_i name first caps hx
   split at h
   ·rename_i T v hf1 hc1
    have hf1 := toList_one hf1
    have hc1 := toList_nil hc1
    subst hf1 hc1
    split at h
    ·rename_i f' hm
     split at h
     ·rename_i vs hv
      split at h
      ·rename_i q hq
       simp only [Option.some.injEq, Prod.mk.injEq] at h
       obtain ⟨rfl, rfl⟩ := h
       have hq := frc_ok hq
       have hv := evL_at (K := K) ha hv
       have hmm := (askM ht hm).1
       subst hq
       intro m β w a r
       have hr := r.con (evC_ok (K := K) ha hx)
       refine ⟨#[v] ++ args.map a.eval, ?_, ?_⟩
       ·have : (execOp a.eval ⟨dst, .call ⟨.value x, args, at'⟩, ty', pos, after, g⟩) = callMethod (.iface T v) name (args.map a.eval) := by
         simp only [execOp, resolve, hr, Deferred.ofValue, pure_bind]
         show invoke (.fn (.method name) #[]) (#[Value.iface T v] ++ args.map a.eval) = _
         simp only [invoke]
         rw [show (#[Value.iface T v] ++ args.map a.eval)[0]? = some (Value.iface T v) by rw [Array.getElem?_append_left (by simp)]; rfl]
         simp only
         congr 1
         apply Array.ext'
         simp
         exact List.take_of_length_le (by simp)
        rw [this]
        exact hmm v (args.map a.eval) w
       ·refine ⟨by simp [hv]; omega, fun i c u h1 h2 => ?_⟩
        cases i with
        | zero =>
         rw [Array.getElem?_append_left (by simp)] at h2
         simp at h1 h2; subst h1; subst h2; exact unC_ok v
        | succ i =>
         simp only [List.getElem?_cons_succ, hv, List.getElem?_map, Array.getElem?_toList] at h1
         rw [Array.getElem?_append_right (by simp)] at h2
         simp only [List.size_toArray, List.length_cons, List.length_nil, Nat.zero_add, Nat.add_sub_cancel, Array.getElem?_map] at h2
         cases ho : args[i]? with
         | none => rw [ho] at h1; simp at h1
         | some y =>
          rw [ho] at h1 h2
          simp at h1 h2
          subst h1; subst h2
          exact r.reads y
      ·simp at h
     ·simp at h
    ·simp at h
   ·simp at h
  ·simp at h
 ·simp at h
theorem aops_mkMeth {d : Nat} {name : String} {x : Operand} {iv : Value} (hw : Wants ops S ⟨some d, .makeFunc (.method name) #[x] #[], ty, pos, after, g⟩ true) (hx : evl K S x = .con iv) (hN : Nat.blt d K.N = true)
  (k : AOps K ops rest Q (S.put d (.con (.func (.method name) #[iv] #[])))) : AOps K ops (⟨some d, .makeFunc (.method name) #[x] #[], ty, pos, after, g⟩ :: rest) Q S :=
 aops_val _ hw hN (fun m β w a r => ⟨.func (.method name) #[iv] #[], by simp only [execOp]; exact run_value (by simp [Instr.makeFunc, pure, r.con hx]), .imm (.con _)⟩) k
theorem aops_nilMeth {d : Nat} {name : String} {x : Operand} {T : TypeId} {v : Value} (hT : ∀ (v : Value) (w : World), (nilAhead (K.P.types.size + Made.depth) T v name).run K.P w = .ok (some false) w) (hw : Wants ops S ⟨some d, .nilCheck x, ty, pos, after, g⟩ true) (hx : evl K S x = .con (.func (.method name) #[.iface T v] #[])) (hN : Nat.blt d K.N = true)
  (k : AOps K ops rest Q (S.put d (.con (.func (.method name) #[.iface T v] #[])))) : AOps K ops (⟨some d, .nilCheck x, ty, pos, after, g⟩ :: rest) Q S :=
 aops_val _ hw hN (fun m β w a r => ⟨.func (.method name) #[.iface T v] #[], by
  simp only [execOp, r.con hx]
  simp [Sem.run_bind, hT, Result.andThen, pure], .imm (.con _)⟩) k
theorem run_eqNilM {P : Program} {w : World} {T : TypeId} {x y : Operand} (neg : Bool) (hT : tyMp P T = true) (b : Option Nat) :
      (do eqGuard (if neg then .neq else .eql) T x y (.map b) (.map none); binOp (if neg then .neq else .eql) T (.map b) (.map none) : Sem Value).run P w = .ok (.bool (if neg then !b.isNone else b.isNone)) w := by
  obtain ⟨k, e, hu⟩ : ∃ k e, P.underlying T = some (.map k e) := by
    unfold tyMp at hT
    split at hT
    · exact ⟨_, _, ‹_›⟩
    · simp at hT
  have hd : (10000 : Nat) = 9999 + 1 := rfl
  have hg : ∀ op : BinOp, (eqGuard op T x y (.map b) (.map none)).run P w = .ok () w := by
    intro op; unfold eqGuard; cases op <;> simp [pure]
  have hq : (Op.equal T (.map b) (.map none)).run P w = .ok b.isNone w := by
    rw [Op.equal, Op.maxDepth, hd, Op.equalIn]
    simp only [Sem.run_bind, run_underlying hu, Result.andThen_ok]
    cases b <;> rfl
  rw [Sem.run_bind, hg, Result.andThen_ok]
  cases neg
  · simp only [Bool.false_eq_true, if_false, binOp, Sem.run_bind, hq, Result.andThen_ok]; rfl
  · simp only [if_true, binOp, Sem.run_bind, hq, Result.andThen_ok]; rfl
def mapNil : V → Option Bool
 | .con (.map none) => some true
 | .map _ => some false
 | _ => none
theorem aops_eqNilM {d : Nat} {x y : Operand} {T T' : TypeId} {v : V} {b : Bool} (neg : Bool) (hT : tyMp K.P T = true) (hw : Wants ops S ⟨some d, .binOp (if neg then .neq else .eql) T x y T', ty, pos, after, g⟩ true)
  (hx : evl K S x = v) (hv : mapNil v = some b) (hy : evl K S y = .con (.map none)) (hN : Nat.blt d K.N = true)
  (k : AOps K ops rest Q (S.put d (.con (.bool (if neg then !b else b))))) : AOps K ops (⟨some d, .binOp (if neg then .neq else .eql) T x y T', ty, pos, after, g⟩ :: rest) Q S :=
 aops_val _ hw hN (fun m β w a r => by
  have h := r.reads x
  rw [hx] at h
  have key : ∃ o, a.eval x = .map o ∧ o.isNone = b := by
   generalize a.eval x = u at h
   unfold mapNil at hv
   split at hv
   ·simp at hv; subst hv; exact ⟨none, h.of_con, rfl⟩
   ·simp at hv; subst hv
    cases h with
    | imm h => cases h
    | map hb => exact ⟨_, rfl, rfl⟩
   ·simp at hv
  obtain ⟨o, ho, hb⟩ := key
  have hr := run_eqNilM (P := K.P) (w := w) (x := x) (y := y) neg hT o
  refine ⟨.bool (if neg then !b else b), ?_, .imm (.con _)⟩
  simp only [execOp, ho, r.con hy]
  rw [← hb]
  exact run_value hr) k
end
structure KRow where
 row : List V
 imm : Imms row
 one : row.all oneV = true
structure KV where
 t : Nat
 d : V
def KV.enc (x : KV) : List V := [.ifc x.t x.d]
theorem KRow.ext' {a b : KRow} (h : a.row = b.row) : a = b := by cases a; cases b; cases h; rfl
theorem KV.enc_imm (x : KV) : Imms x.enc := fun c hc => by
 have : c = .ifc x.t x.d := by simpa [KV.enc] using hc
 rw [this]; exact Imm.ifc _ _
theorem KV.enc_one (x : KV) : x.enc.all oneV = true := rfl
section
variable {τ R : Type}
open Classical in
noncomputable def kdec (enc : τ → List V) (x : KRow) : Option τ := if h : ∃ y, enc y = x.row then some h.choose else none
theorem kdec_some {enc : τ → List V} {x : KRow} {y : τ} (h : kdec enc x = some y) : x.row = enc y := by
 unfold kdec at h
 split at h
 ·rename_i hx; rw [← Option.some.inj h]; exact hx.choose_spec.symm
 ·cases h
theorem kdec_eq {enc : τ → List V} (inj : ∀ a b, enc a = enc b → a = b) {x : KRow} {y : τ} (h : x.row = enc y) : kdec enc x = some y := by
 unfold kdec
 have hx : ∃ y, enc y = x.row := ⟨y, h.symm⟩
 rw [dif_pos hx]
 exact congrArg some (inj _ _ (hx.choose_spec.trans h))
open Classical in
noncomputable def vdec (enc : τ → List V) (T : Nat) (x : KV) : Option τ := if h : ∃ y, x.t = T ∧ x.d = .agg (enc y) then some h.choose else none
theorem vdec_some {enc : τ → List V} {T : Nat} {x : KV} {y : τ} (h : vdec enc T x = some y) : x.t = T ∧ x.d = .agg (enc y) := by
 unfold vdec at h
 split at h
 ·rename_i hx; rw [← Option.some.inj h]; exact hx.choose_spec
 ·cases h
theorem vdec_eq {enc : τ → List V} (inj : ∀ a b, enc a = enc b → a = b) {T : Nat} {x : KV} {y : τ} (h : x.t = T) (h' : x.d = .agg (enc y)) : vdec enc T x = some y := by
 unfold vdec
 have hx : ∃ y, x.t = T ∧ x.d = .agg (enc y) := ⟨y, h, h'⟩
 rw [dif_pos hx]
 refine congrArg some (inj _ _ ?_)
 have := hx.choose_spec.2.symm.trans h'
 exact V.agg.inj this
theorem vdec_ne {enc : τ → List V} {T : Nat} {x : KV} (h : x.t ≠ T) : vdec enc T x = none := by
 unfold vdec
 rw [dif_neg]
 rintro ⟨y, h1, _⟩; exact h h1
def mkK (T : Nat) (enc : τ → List V) (y : τ) : KV := ⟨T, .agg (enc y)⟩
def oel (o : Option τ) (f : τ → Option R) (g : Option R) : Option R := match o with | some y => f y | none => g
theorem oeK {o : Option τ} {f : τ → Option R} {g : Option R} {r : R} {P : Prop} (h : oel o f g = some r) (k1 : ∀ y, o = some y → f y = some r → P) (k2 : g = some r → P) : P := by
 cases o with
 | none => exact k2 h
 | some y => exact k1 y rfl h
end
section
variable {K : Ctx} {Q : Post} {S : St} {s : List It}
variable {ops : Array Oper} {l rest : List Oper} {ty : TypeId} {pos : String} {after : Array Edge} {g : Option (Nat × Bool)}
theorem ghost_eqv (t : Nat) {v v' : V} (ht : get S.env t = v) (h : v = v') : Ghost K S ⟨(t, v') :: S.env, S.hp, S.nx⟩ := by
 subst h
 refine Ghost.env (S := S) (fun q => ?_)
 show (bif Nat.beq t q then v else get S.env q) = get S.env q
 cases hq : Nat.beq t q
 ·rfl
 ·have := Nat.eq_of_beq_eq_true hq
  subst this
  exact ht.symm
theorem kroO {τ : Type} {enc : τ → List V} {x : KRow} {y : τ} (t : Nat) (h : kdec enc x = some y) (ht : gtC S.env t = some (.iptr x.row 0)) (k : WG K Q (.o ops l :: s) ⟨(t, .iptr (enc y) 0) :: S.env, S.hp, S.nx⟩) : WG K Q (.o ops l :: s) S :=
 wg_cl (.inr ⟨_, _, rfl⟩) (ghost_eqv t (gtC_ok ht) (by rw [kdec_some h])) k
theorem aops_mkIfc {d : Nat} {T : TypeId} {x : Operand} {v : V} (hT : K.P.concrete T = true) (hw : Wants ops S ⟨some d, .makeInterface T x, ty, pos, after, g⟩ true) (hx : evl K S x = v) (hi : Imm v) (hN : Nat.blt d K.N = true)
  (k : AOps K ops rest Q (S.put d (.ifc T v))) : AOps K ops (⟨some d, .makeInterface T x, ty, pos, after, g⟩ :: rest) Q S :=
 aops_val _ hw hN (fun m β w a r => by
  have := r.reads x
  rw [hx] at this
  exact ⟨.iface T (a.eval x), by simp only [execOp]; exact run_value (Go.run_makeInterface w T _ hT), .imm (.ifc (hi.2 _ _ _ this))⟩) k
theorem aops_invoke {d f : Nat} {T : TypeId} {x : Operand} {name : String} {args : Array Operand} {at' : Array TypeId} {dv dr : V} {avs : List V} (hm : ∀ (v : Value) (args : Array Value) (w : World), (callMethod (.iface T v) name args).run K.P w = .ok (.enter f (#[v] ++ args)) w)
  (hw : Wants ops S ⟨some d, .call ⟨.invoke x name, args, at'⟩, ty, pos, after, g⟩ true) (hx : evl K S x = .ifc T dv) (ha : args.toList.map (evl K S) = avs) (hi : Imms avs) (hc : PureG K.gl K.P f (dv :: avs) dr) (hN : Nat.blt d K.N = true)
  (kk : AOps K ops rest Q (S.put d dr)) : AOps K ops (⟨some d, .call ⟨.invoke x name, args, at'⟩, ty, pos, after, g⟩ :: rest) Q S := by
 refine aops_calls hw rfl hN (fun m β w a r => ?_) hc kk
 have hr := r.reads x
 rw [hx] at hr
 obtain ⟨v, hv, hd⟩ : ∃ v, a.eval x = .iface T v ∧ IRel m dv v := by
  generalize a.eval x = u at hr
  cases hr with
  | imm h => cases h with | ifc h => exact ⟨_, rfl, h⟩
 refine ⟨#[v] ++ args.map a.eval, ?_, ?_⟩
 ·have : (execOp a.eval ⟨some d, .call ⟨.invoke x name, args, at'⟩, ty, pos, after, g⟩) = callMethod (.iface T v) name (args.map a.eval) := by
   simp only [execOp, resolve, hv, pure_bind]
   show invoke (.fn (.method name) #[]) (#[Value.iface T v] ++ args.map a.eval) = _
   simp only [invoke]
   rw [show (#[Value.iface T v] ++ args.map a.eval)[0]? = some (Value.iface T v) by rw [Array.getElem?_append_left (by simp)]; rfl]
   simp only
   congr 1
   apply Array.ext'
   simp
   exact List.take_of_length_le (by simp)
  rw [this]
  exact hm v (args.map a.eval) w
 ·refine ⟨by simp [← ha]; omega, fun i c u h1 h2 => ?_⟩
  cases i with
  | zero =>
   rw [Array.getElem?_append_left (by simp)] at h2
   simp at h1 h2; subst h1; subst h2; exact hd
  | succ i =>
   rw [List.getElem?_cons_succ] at h1
   have h1' := h1
   rw [← ha, List.getElem?_map, Array.getElem?_toList] at h1
   rw [Array.getElem?_append_right (by simp)] at h2
   simp only [List.size_toArray, List.length_cons, List.length_nil, Nat.zero_add, Nat.add_sub_cancel, Array.getElem?_map] at h2
   cases ho : args[i]? with
   | none => rw [ho] at h1; simp at h1
   | some y =>
    rw [ho] at h1 h2
    simp at h1 h2
    subst h2
    exact (hi.get h1').2 m β _ (h1 ▸ r.reads y)
end
theorem pure_indexByte {gl : Gl} {P : Program} {f : FuncId} {s : List UInt8} {c : Int} (h : ∀ (c : Int) (w : World), Calls P f #[.string ⟨s.toArray⟩, .int .u8 c] w fun e w' => e = .returned (.int .i64 (Lib.indexByte (⟨s.toArray⟩ : ByteArray).data.toList c.toNat.toUInt8)) ∧ w' = w) :
  PureG gl P f [sV s, V.con (.int .u8 c)] (iV (Lib.indexByte s c.toNat.toUInt8)) :=
 pure_same (l := [str s, .int .u8 c]) (v := .int .i64 (Lib.indexByte s c.toNat.toUInt8)) (fun w => h c w) (fun m => .con _)
theorem idx_mapK {τ : Type} {enc : τ → List V} {xs : List KRow} {n : Int} {x : KRow} {y : τ} (h : idx xs n = some x) (hy : kdec enc x = some y) : (xs.map KRow.row)[n.toNat]? = some (enc y) := by
 rw [← kdec_some hy]; exact idx_map KRow.row h
instance : EI KRow.row := ⟨KRow.imm, KRow.one⟩
instance : EI KV.enc := ⟨KV.enc_imm, KV.enc_one⟩
def DispG (gl : Gl) (P : Program) (name : String) (k : KV) (avs : List V) (dr : V) : Prop :=
 ∃ f : FuncId, (∀ (v : Value) (args : Array Value) (w : World), (callMethod (.iface k.t v) name args).run P w = .ok (.enter f (#[v] ++ args)) w) ∧ PureG gl P f (k.d :: avs) dr
theorem disp_of {gl : Gl} {P : Program} {name : String} {k : KV} {avs : List V} {dr : V} {τ : Type} {enc : τ → List V} {T f : Nat} {y : τ} (hm : ∀ (v : Value) (args : Array Value) (w : World), (callMethod (.iface T v) name args).run P w = .ok (.enter f (#[v] ++ args)) w)
  (hy : vdec enc T k = some y) (hc : PureG gl P f (V.agg (enc y) :: avs) dr) : DispG gl P name k avs dr := by
 obtain ⟨h1, h2⟩ := vdec_some hy
 exact ⟨f, by rw [h1]; exact hm, by rw [h2]; exact hc⟩
section
variable {K : Ctx} {Q : Post} {S : St}
variable {ops : Array Oper} {l rest : List Oper} {ty : TypeId} {pos : String} {after : Array Edge} {g : Option (Nat × Bool)}
theorem aops_mkMethI {d : Nat} {T : TypeId} {name : String} {x : Operand} {dv : V} (hw : Wants ops S ⟨some d, .makeFunc (.method name) #[x] #[], ty, pos, after, g⟩ true) (hx : evl K S x = .ifc T dv) (hN : Nat.blt d K.N = true)
  (k : AOps K ops rest Q (S.put d (.fn (.method name) [.ifc T dv] []))) : AOps K ops (⟨some d, .makeFunc (.method name) #[x] #[], ty, pos, after, g⟩ :: rest) Q S :=
 aops_val _ hw hN (fun m β w a r => by
  have hr := r.reads x
  rw [hx] at hr
  refine ⟨.func (.method name) #[a.eval x] #[], by simp only [execOp]; exact run_value (by simp [Instr.makeFunc, pure]), .imm (.fn rfl rfl (fun i c v h1 h2 => ?_) (fun i c v h1 h2 => by simp at h1))⟩
  cases i with
  | zero =>
   simp at h1 h2; subst h1; subst h2
   generalize a.eval x = u at hr
   cases hr with
   | imm h => exact h
  | succ i => simp at h1) k
theorem aops_nilMethI {d : Nat} {name : String} {x : Operand} {T : TypeId} {dv : V} (hT : ∀ (v : Value) (w : World), (nilAhead (K.P.types.size + Made.depth) T v name).run K.P w = .ok (some false) w) (hw : Wants ops S ⟨some d, .nilCheck x, ty, pos, after, g⟩ true)
  (hx : evl K S x = .fn (.method name) [.ifc T dv] []) (hN : Nat.blt d K.N = true)
  (k : AOps K ops rest Q (S.put d (.fn (.method name) [.ifc T dv] []))) : AOps K ops (⟨some d, .nilCheck x, ty, pos, after, g⟩ :: rest) Q S :=
 aops_val _ hw hN (fun m β w a r => by
  have hr := r.reads x
  rw [hx] at hr
  have hr2 := hr
  obtain ⟨v, hv⟩ : ∃ v, a.eval x = .func (.method name) #[.iface T v] #[] := by
   generalize a.eval x = u at hr
   have key : ∀ (fs cs : Array Value), 1 = fs.size → 0 = cs.size → (∀ (i : Nat) (c : V) (v : Value), [V.ifc T dv][i]? = some c → fs[i]? = some v → VRel m β c v) → ∃ v, (Value.func (.method name) fs cs) = .func (.method name) #[.iface T v] #[] := by
    intro fs cs h1 h2 h3
    obtain ⟨l⟩ := fs
    obtain ⟨l2⟩ := cs
    match l, l2, h1, h2 with
    | [y], [], _, _ =>
     have := h3 0 _ y rfl rfl
     cases this with
     | imm h => cases h with | ifc h => exact ⟨_, rfl⟩
   cases hr with
   | imm h => cases h with | fn h1 h2 h3 h4 => exact key _ _ h1 h2 (fun i c v a b => .imm (h3 i c v a b))
   | fn h1 h2 h3 h4 => exact key _ _ h1 h2 h3
  refine ⟨.func (.method name) #[.iface T v] #[], ?_, by rw [← hv]; exact hr2⟩
  simp only [execOp, hv]
  simp [Sem.run_bind, hT, Result.andThen, pure]) k
theorem aops_invokeD {d : Nat} {k : KV} {x : Operand} {name : String} {args : Array Operand} {at' : Array TypeId} (dr : V) (avs : List V)
  (hw : Wants ops S ⟨some d, .call ⟨.invoke x name, args, at'⟩, ty, pos, after, g⟩ true) (hx : evl K S x = .ifc k.t k.d) (ha : args.toList.map (evl K S) = avs) (hi : Imms avs) (hc : DispG K.gl K.P name k avs dr) (hN : Nat.blt d K.N = true)
  (kk : AOps K ops rest Q (S.put d dr)) : AOps K ops (⟨some d, .call ⟨.invoke x name, args, at'⟩, ty, pos, after, g⟩ :: rest) Q S := by
 obtain ⟨f, hm, hc⟩ := hc
 exact aops_invoke hm hw hx ha hi hc hN kk
end
end Go.Pv
