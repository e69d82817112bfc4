/- Part of the proof: LM, DP, DQ, DM, DN, DO, DR, ZC, ZV, EI. -/
import Derived.Test.YtkeeppclihjlhaaGreatDoorRZA
import Derived.Test.YtkeeppclihjlhaaGreatDoorRWA
import Derived.Maps.RangeRun
import Derived.Lib.SlicesCompact
import Derived.Lib.SlicesDelete
import Derived.Lib.SliceRun
namespace Go.Pv
open Go
section
variable {K : Ctx} {Q : Post} {S S' : St}
variable {m : Mem} {β : Locs} {w : World} {a : Act}
variable {ops : Array Oper} {rest : List Oper} {ty : TypeId} {pos : String} {after : Array Edge} {g : Option (Nat × Bool)}
theorem Rel.adopt (r : Rel K m β w a S) (id0 nx' : Nat) (hfree : β id0 = none) (hpid : ∀ q, q < K.pins → q ≠ id0) (hidn : id0 < nx') (hnn : S.nx ≤ nx') (loc : Option (Nat × Cap)) (ob : Ob)
  (hblk : ∀ b c, loc = some (b, c) → m b = none ∧ (b < K.w0.heap.size → ¬ K.old b) ∧ (∀ i c', hget S.hp i ≠ .dead → β i ≠ some (some (b, c'))) ∧ ∀ i, hget S.hp i ≠ .dead → ¬ β.hid i b)
  (hok : ∀ β', β.le β' → ObOk m β' w (fun _ => False) (some loc) ob) :
  ∃ β' : Locs, β.le β' ∧ β' id0 = some loc ∧ Rel K m β' w a ⟨S.env, (id0, ob) :: S.hp, nx'⟩ := by
 let β' : Locs := ⟨fun i => if i = id0 then some loc else β i, fun i => if i = id0 then (fun _ => False) else β.hid i⟩
 have hle : β.le β' := by
  intro i l h
  show (if i = id0 then _ else _) = _
  rw [if_neg]
  ·exact h
  ·intro e; rw [e, hfree] at h; simp at h
 have en : β' id0 = some loc := by show (if _ then _ else _) = _; rw [if_pos rfl]
 have eo : ∀ i, id0 ≠ i → β' i = β i := fun i h => by show (if _ then _ else _) = _; rw [if_neg (Ne.symm h)]
 have hn : β'.hid id0 = fun _ => False := by show (if _ then _ else _) = _; rw [if_pos rfl]
 have ho : ∀ i, id0 ≠ i → β'.hid i = β.hid i := fun i h => by show (if _ then _ else _) = _; rw [if_neg (Ne.symm h)]
 refine ⟨β', hle, en, ?_⟩
 constructor
 ·exact r.imm
 ·exact r.ext
 ·exact r.mold
 ·exact r.frame
 ·exact r.size
 ·exact r.same
 ·exact r.tn
 ·exact r.df
 ·exact fun t => (r.env t).mono (Mem.le_refl _) hle
 ·intro id
  simp only [hget_put]
  by_cases h : id0 = id
  ·subst h; rw [if_pos rfl]
   show ObOk m β' w (β'.hid id0) (β' id0) ob
   rw [en, hn]; exact hok β' hle
  ·rw [if_neg h]
   show ObOk m β' w (β'.hid id) (β' id) _
   rw [eo id h, ho id h]
   exact ObOk.mono (Mem.le_refl _) hle (fun _ _ h => h) (fun _ _ => rfl) (r.own id)
 ·intro id b c hl hb
  simp only [hget_put] at hl
  by_cases h : id0 = id
  ·subst h
   rw [en] at hb
   simp only [Option.some.injEq] at hb
   exact ⟨(hblk b c hb).1, (hblk b c hb).2.1⟩
  ·rw [if_neg h] at hl
   rw [eo id h] at hb
   exact r.priv id b c hl hb
 ·intro id id' b c c' hl hl' hb hb'
  simp only [hget_put] at hl hl'
  by_cases h : id0 = id <;> by_cases h' : id0 = id'
  ·rw [← h, ← h']
  ·exfalso
   subst h
   rw [if_neg h'] at hl'
   rw [eo id' h'] at hb'
   rw [en] at hb
   simp only [Option.some.injEq] at hb
   exact (hblk b c hb).2.2.1 id' c' hl' hb'
  ·exfalso
   subst h'
   rw [if_neg h] at hl
   rw [eo id h] at hb
   rw [en] at hb'
   simp only [Option.some.injEq] at hb'
   exact (hblk b c' hb').2.2.1 id c hl hb
  ·rw [if_neg h] at hl
   rw [if_neg h'] at hl'
   rw [eo id h] at hb
   rw [eo id' h'] at hb'
   exact r.inj id id' b c c' hl hl' hb hb'
 ·intro id x hl hx
  simp only [hget_put] at hl
  by_cases h : id0 = id
  ·subst h; rw [hn] at hx; exact hx.elim
  ·rw [if_neg h] at hl
   rw [ho id h] at hx
   have q := r.hid id x hl hx
   refine ⟨q.lt, q.m, q.old, fun i b c hi hb => ?_, fun i hi hx' => ?_⟩
   ·simp only [hget_put] at hi
    by_cases h' : id0 = i
    ·subst h'
     rw [en] at hb
     simp only [Option.some.injEq] at hb
     intro e; subst e
     exact (hblk _ c hb).2.2.2 id hl hx
    ·rw [if_neg h'] at hi
     rw [eo i h'] at hb
     exact q.ne i b c hi hb
   ·simp only [hget_put] at hi
    by_cases h' : id0 = i
    ·subst h'; rw [hn] at hx'; exact hx'.elim
    ·rw [if_neg h'] at hi
     rw [ho i h'] at hx'
     exact q.un i hi hx'
 ·intro id hid
  have hid : nx' ≤ id := hid
  show β' id = none
  rw [eo id (by omega)]
  exact r.nx id (by omega)
 ·intro q hq
  obtain ⟨p1, p2⟩ := r.pin q hq
  exact ⟨Nat.lt_of_lt_of_le p1 hnn, by rw [eo q (Ne.symm (hpid q hq))]; exact p2⟩
inductive Lent (j : Nat) : V → V → Prop
 | con (v : Value) : Lent j (.con v) (.con v)
 | own {n : Nat} : Lent j (.own 0 n) (.own j n)
 | tup {cs ds : List V} (hl : cs.length = ds.length) (h : ∀ (i : Nat) c d, cs[i]? = some c → ds[i]? = some d → (∃ v, c = .con v ∧ d = .con v) ∨ ∃ n, c = .own 0 n ∧ d = .own j n) : Lent j (.tup cs) (.tup ds)
theorem Lent.own' {j : Nat} {m m' : Mem} {β β' : Locs} {n : Nat} {v : Value} (hj : β' j = β 0) (hv : VRel m β (.own 0 n) v) : VRel m' β' (.own j n) v := by
 cases hv with
 | imm h => cases h
 | ownNil h => exact .ownNil (by rw [hj]; exact h)
 | own h => exact .own (by rw [hj]; exact h)
theorem Lent.get {j : Nat} {c d : V} (h : Lent j c d) {m m' : Mem} {β β' : Locs} {v : Value} (hj : β' j = β 0) (hv : VRel m β c v) : VRel m' β' d v := by
 cases h with
 | con u => rw [hv.of_con]; exact .imm (.con _)
 | own => exact Lent.own' hj hv
 | @tup cs ds hl h =>
  have key : ∀ (i : Nat) c d u, cs[i]? = some c → ds[i]? = some d → VRel m β c u → VRel m' β' d u := by
   intro i c d u hc hd hu
   rcases h i c d hc hd with ⟨x, rfl, rfl⟩ | ⟨n, rfl, rfl⟩
   ·rw [hu.of_con]; exact .imm (.con _)
   ·exact Lent.own' hj hu
  cases hv with
  | imm hi =>
   cases hi with
   | tup hl' hi =>
    refine .tup (by rw [← hl]; exact hl') (fun i c v hc hv => ?_)
    have hlt := (List.getElem?_eq_some_iff.1 hc).1
    have hlt' : i < cs.length := by rw [hl]; exact hlt
    exact key i _ c v (List.getElem?_eq_getElem hlt') hc (.imm (hi i _ v (List.getElem?_eq_getElem hlt') hv))
  | tup hl' hi =>
   refine .tup (by rw [← hl]; exact hl') (fun i c v hc hv => ?_)
   have hlt := (List.getElem?_eq_some_iff.1 hc).1
   have hlt' : i < cs.length := by rw [hl]; exact hlt
   exact key i _ c v (List.getElem?_eq_getElem hlt') hc (hi i _ v (List.getElem?_eq_getElem hlt') hv)
end
end Go.Pv
namespace Go.Pv
open Go
section
variable {K : Ctx} {S : St}
def Mv (id idn : Nat) : Hy := fun m β m' β' => m' = m ∧ β' = β ∧ β idn = β id
instance {id idn : Nat} : HyMC (Mv id idn) := ⟨fun m β m' β' hy => by rw [hy.1]; exact Mem.le_refl _⟩
theorem Sub.mv {id idn n : Nat} : Sub (Mv id idn) (.own idn n) (.own id n) := fun m β m' β' x hy hx => by
 obtain ⟨rfl, rfl, e⟩ := hy
 cases hx with
 | imm h => cases h
 | ownNil h => exact .ownNil (by rw [e]; exact h)
 | own h => exact .own (by rw [e]; exact h)
end
end Go.Pv
namespace Go.Pv
open Go
section
variable {K : Ctx} {Q : Post} {S : St}
variable {m : Mem} {β : Locs} {w : World} {a : Act}
variable {ops : Array Oper} {rest : List Oper} {ty : TypeId} {pos : String} {after : Array Edge} {g : Option (Nat × Bool)}
@[reducible] def BndIs (K : Ctx) (S : St) (o : Option Operand) (n v : Nat) : Prop := match o with | none => v = n | some y => ∃ ik, evl K S y = .con (.int ik v)
theorem slice_own_run (r : Rel K m β w a S) {d k n a0 b0 : Nat} {x : Operand} {lo hi : Option Operand} {T : TypeId} (hT : tySl K.P T k = true)
  (hlo : BndIs K S lo 0 a0) (hhi : BndIs K S hi n b0)
  (h1 : a0 ≤ b0) (h2 : b0 ≤ n) (ad : Option Addr) (cap : Nat) (hv : a.eval x = .slice ad n cap) (hcap : n ≤ cap) :
  (execOp a.eval ⟨some d, .slice T x lo hi none, ty, pos, after, g⟩).run K.P w = .ok (.value (.slice (if cap = a0 then ad else ad.map (·.add (a0 * k))) (b0 - a0) (cap - a0))) w := by
 obtain ⟨e, i, hu, hi', hs⟩ := tySl_inv hT
 have hk : K.P.cellsOf e = k := by simp [Program.cellsOf, hi', hs]
 have bnd : ∀ (n y : Nat) (c : BoundsCode) (ik : IntKind), n ≤ y → (Instr.sliceBound (.int ik n) y c).run K.P w = .ok n w := by
  intro n y c ik h
  simp only [Instr.sliceBound, asIntOf, Sem.run_bind, pure, Sem.run, Result.andThen_ok]
  rw [if_pos ⟨by omega, by omega⟩]
  simp
 have hb : (Instr.sliceBounds true n cap (lo.map a.eval) (hi.map a.eval) none).run K.P w = .ok (a0, b0, cap) w := by
  cases lo with
  | none =>
   have hlo : a0 = 0 := hlo; subst hlo
   cases hi with
   | none => have hhi : b0 = n := hhi; subst hhi; simp [Instr.sliceBounds, pure]
   | some y =>
    obtain ⟨ik, hy⟩ := hhi
    simp [Instr.sliceBounds, pure, r.con hy, bnd b0 cap _ ik (by omega)]
  | some z =>
   obtain ⟨ik, hz⟩ := hlo
   cases hi with
   | none => have hhi : b0 = n := hhi; subst hhi; simp [Instr.sliceBounds, pure, r.con hz, bnd a0 _ _ ik h1]
   | some y =>
    obtain ⟨ik', hy⟩ := hhi
    simp [Instr.sliceBounds, pure, r.con hz, r.con hy, bnd a0 _ _ ik h1, bnd b0 cap _ ik' (by omega)]
 simp only [execOp, hv]
 refine run_value ?_
 simp only [Instr.sliceAt, Sem.run_bind, run_underlying hu, Result.andThen_ok, Option.map_none, Instr.slice, hb, run_sizeOf w hi', hk]
 rfl
theorem aops_slice_ownhi {d k n id e b0 : Nat} {x : Operand} {hi : Option Operand} {T : TypeId} {rows : List (List V)} (hT : tySl K.P T k = true)
  (hw : Wants ops S ⟨some d, .slice T x none hi none, ty, pos, after, g⟩ true) (hx : evl K S x = .own id n) (ho : hget S.hp id = .arr e k rows) (hn : n ≤ rows.length)
  (hhi : BndIs K S hi n b0) (h2 : b0 ≤ n) (hN : Nat.blt d K.N = true) (kk : AOps K ops rest Q (S.put d (.own id b0))) :
  AOps K ops (⟨some d, .slice T x none hi none, ty, pos, after, g⟩ :: rest) Q S :=
 aops_val _ hw hN (fun m β w a r => by
  have h := r.reads x
  rw [hx] at h
  generalize hv : a.eval x = v at h
  cases h with
  | imm h => cases h
  | @ownNil _ ad hb =>
   have := slice_own_run (a0 := 0) (b0 := b0) (lo := none) (d := d) (ty := ty) (pos := pos) (after := after) (g := g) r hT rfl hhi (Nat.zero_le _) h2 ad 0 hv (Nat.le_refl _)
   have hb0 : b0 = 0 := by omega
   subst hb0
   exact ⟨_, this, by simpa using .ownNil hb⟩
  | @own _ _ b cap hb =>
   obtain ⟨arr, bl, q1, q2, q3, q4, q5, q6, q7⟩ := r.obj hb ho
   have := slice_own_run (a0 := 0) (b0 := b0) (lo := none) (d := d) (ty := ty) (pos := pos) (after := after) (g := g) r hT rfl hhi (Nat.zero_le _) h2 _ cap.n hv (by omega)
   have had : (some (⟨b, cap.off, none⟩ : Addr)).map (·.add (0 * k)) = some ⟨b, cap.off, none⟩ := by simp only [Option.map_some]; rw [add_spot]; simp
   rw [had] at this
   exact ⟨_, this, by simpa using .own hb⟩) kk
theorem aops_slice_own {d k n id e nx : Nat} {x : Operand} {lo hi : Option Operand} {T : TypeId} {rows : List (List V)} (a0 b0 : Nat) (rows' : List (List V)) (hT : tySl K.P T k = true)
  (hw : Wants ops S ⟨some d, .slice T x lo hi none, ty, pos, after, g⟩ true) (hx : evl K S x = .own id n) (ho : hget S.hp id = .arr e k rows) (hn : n = rows.length) (hnx : S.nx = nx)
  (hlo : BndIs K S lo 0 a0) (hhi : BndIs K S hi n b0)
  (h1 : a0 ≤ b0) (h2 : b0 ≤ n) (hl : rows.drop a0 = rows') (hnd : ∀ row, row ∈ rows → ndB row = true) (hN : Nat.blt d K.N = true)
  (kk : AOps K ops rest Q ⟨(d, .own nx (b0 - a0)) :: S.env, (nx, .arr e k rows') :: (id, .dead) :: S.hp, nx + 1⟩) :
  AOps K ops (⟨some d, .slice T x lo hi none, ty, pos, after, g⟩ :: rest) Q S := by
 subst hnx hn hl
 refine aops_runs hw (fun m β w a r => ?_) kk
 have hl0 : hget S.hp id ≠ .dead := by rw [ho]; simp
 have h := r.reads x
 rw [hx] at h
 generalize hv : a.eval x = v at h
 generalize hnn : rows.length = n at h hv hhi h2
 have rk := r.kill id
 cases h with
 | imm h => cases h
 | @ownNil _ ad hb =>
  have := slice_own_run (a0 := a0) (b0 := b0) (d := d) (ty := ty) (pos := pos) (after := after) (g := g) r hT hlo hhi h1 h2 ad 0 hv (Nat.le_refl _)
  have hb0 : b0 = 0 := by omega
  have ha0 : a0 = 0 := by omega
  subst hb0 ha0
  have hr0 : rows = [] := List.length_eq_zero_iff.1 hnn
  subst hr0
  obtain ⟨β', hle, hβ, r3⟩ := rk.adopt S.nx (S.nx + 1) (r.nx _ (Nat.le_refl _)) (fun q hq => Nat.ne_of_lt (r.pin q hq).1) (Nat.lt_succ_self _) (Nat.le_succ _) none (.arr e k []) (fun b c hb => by simp at hb) (fun _ _ => rfl)
  exact ⟨_, w, m, β', .inl this, r3.put hN (by simpa using .ownNil hβ)⟩
 | @own _ _ b cap hb =>
  obtain ⟨arr, bl, q1, q2, q3, q4, q5, q6, q7⟩ := r.obj hb ho
  have hcn : n ≤ cap.n := by omega
  have := slice_own_run (a0 := a0) (b0 := b0) (d := d) (ty := ty) (pos := pos) (after := after) (g := g) r hT hlo hhi h1 h2 _ cap.n hv hcn
  by_cases hc : cap.n = a0
  ·have hb0 : b0 - a0 = 0 := by omega
   have hd : rows.drop a0 = [] := List.drop_eq_nil_of_le (by omega)
   rw [if_pos hc] at this
   obtain ⟨β', hle, hβ, r3⟩ := rk.adopt S.nx (S.nx + 1) (r.nx _ (Nat.le_refl _)) (fun q hq => Nat.ne_of_lt (r.pin q hq).1) (Nat.lt_succ_self _) (Nat.le_succ _) none (.arr e k (rows.drop a0)) (fun b c hb => by simp at hb) (fun _ _ => hd)
   refine ⟨_, w, m, β', .inl this, r3.put hN ?_⟩
   rw [hb0, show cap.n - a0 = 0 by omega]
   exact .ownNil hβ
  ·rw [if_neg hc] at this
   have had : (some (⟨b, cap.off, none⟩ : Addr)).map (·.add (a0 * k)) = some ⟨b, cap.off + a0 * k, none⟩ := by simp only [Option.map_some]; rw [add_spot]
   rw [had] at this
   obtain ⟨p1, p2⟩ := r.priv id b cap hl0 hb
   obtain ⟨β', hle, hβ, r3⟩ := rk.adopt S.nx (S.nx + 1) (r.nx _ (Nat.le_refl _)) (fun q hq => Nat.ne_of_lt (r.pin q hq).1) (Nat.lt_succ_self _) (Nat.le_succ _) (some (b, ⟨cap.n - a0, cap.off + a0 * k⟩)) (.arr e k (rows.drop a0))
    (fun b' c hb' => by
     simp only [Option.some.injEq, Prod.mk.injEq] at hb'
     obtain ⟨rfl, rfl⟩ := hb'
     refine ⟨p1, p2, fun i c' hi hbi => ?_, fun i hi hx => ?_⟩
     ·rw [hget_put] at hi
      split at hi
      ·exact hi rfl
      ·rename_i hne
       exact hne (r.inj id i _ _ _ hl0 hi hb hbi)
     ·rw [hget_put] at hi
      split at hi
      ·exact hi rfl
      ·exact (r.hid i _ hi hx).ne id _ cap hl0 hb rfl)
    (fun β' hle => by
     refine ⟨arr, fun _ _ => False, q1, ?_, ?_, by show cap.n - a0 ≤ maxLen; omega, fun row hr => q5 row (List.mem_of_mem_drop hr), bls_none, fun i j row c hi hj => ?_⟩
     ·show arr.size = (cap.off + a0 * k) + (cap.n - a0) * k
      rw [q2, Nat.add_assoc, ← Nat.add_mul, show a0 + (cap.n - a0) = cap.n by omega]
     ·show (rows.drop a0).length ≤ cap.n - a0
      rw [List.length_drop]; omega
     ·rw [List.getElem?_drop] at hi
      obtain ⟨v, v1, v2, v3⟩ := q7 (a0 + i) j row c hi hj
      refine ⟨v, ?_, .inl ((v2.v (ndB_at (hnd row (List.mem_of_getElem? hi)) hj)).mono (Mem.le_refl _) hle), v3⟩
      rw [← v1]
      congr 1
      show cap.off + a0 * k + (i * k + j) = _
      rw [Nat.add_mul]; omega)
   exact ⟨_, w, m, β', .inl this, r3.put hN (.own hβ)⟩
end
end Go.Pv
namespace Go.Pv
open Go
section
variable {K : Ctx} {S : St}
end
end Go.Pv
namespace Go.Pv
open Go
section
variable {K : Ctx} {Q : Post} {S' : St} {env : Env} {hpS : Heap}
variable {ops : Array Oper} {rest : List Oper} {ty : TypeId} {pos : String} {after : Array Edge} {g : Option (Nat × Bool)}
theorem aops_mcallS {d : Nat} {f : FuncId} {args : Array Operand} {at' : Array TypeId} {avs' : List V} {k k' : Nat} {hp hp' : Heap} {dc : V} (dv : V) (avs : List V) (σ τ : Nat → Nat) (nx nx' : Nat) (u : Heap) (hf : fnOk K.P f = true)
  (hw : Wants ops ⟨env, hpS, nx⟩ ⟨some d, .call ⟨.value (.func f), args, at'⟩, ty, pos, after, g⟩ true) (hN : Nat.blt d K.N = true) (ha : args.toList.map (evl K ⟨env, hpS, nx⟩) = avs)
  (hsub : Subs (Ren k σ) avs' avs) (hhp : HpSub (Ren k σ) k σ hpS hp) (hc : MutG K.gl K.P f avs' k hp dc k' hp')
  (hto : toB k k' nx nx' σ τ (fun _ => false) = true) (hτ : injB k' τ = true) (hle : Nat.ble nx nx' = true) (hkk : Nat.ble k k' = true)
  (hdv : Sub (To k' τ) dv dc) (hu : HpTo (To k' τ) τ hp' k' 0 u) (up : Heap) (hup : u ++ hpS = up)
  (kk : AOps K ops rest Q ⟨(d, dv) :: env, up, nx'⟩) : AOps K ops (⟨some d, .call ⟨.value (.func f), args, at'⟩, ty, pos, after, g⟩ :: rest) Q ⟨env, hpS, nx⟩ :=
 aops_mcall dv avs σ τ nx nx' u hf hw hN ha hsub hhp hc rfl hto hτ hle hkk hdv hu (by rw [← hup] at kk; exact kk)
end
end Go.Pv
namespace Go.Pv
open Go
section
variable {K : Ctx} {Q : Post} {env : Env} {hpS : Heap}
variable {ops : Array Oper} {rest : List Oper} {ty : TypeId} {pos : String} {after : Array Edge} {g : Option (Nat × Bool)}
end
end Go.Pv
namespace Go.Pv
open Go
section
variable {K : Ctx} {Q : Post} {S : St}
variable {ops : Array Oper} {rest : List Oper} {ty : TypeId} {pos : String} {after : Array Edge} {g : Option (Nat × Bool)}
theorem aops_buildA {d T n k : Nat} {parts : Array (Nat × Operand)} {zs : List Value} (ps : List (Nat × V)) (cs : List V) (hz : zeroCells K.P T = some zs) (hA : tyArr K.P T n k = true)
  (h1 : zs.all (·.oneCell') = true) (hw : Wants ops S ⟨some d, .build T parts, ty, pos, after, g⟩ true)
  (hps : parts.toList.map (fun p => (p.1, evl K S p.2)) = ps) (hf : fillV (fun i => some (i * k, k)) (zs.map .con) ps = some cs) (hN : Nat.blt d K.N = true)
  (kk : AOps K ops rest Q (S.put d (.agg cs))) : AOps K ops (⟨some d, .build T parts, ty, pos, after, g⟩ :: rest) Q S :=
 aops_val _ hw hN (fun m β w a r => by
  obtain ⟨hl, hr⟩ := parts_rel r parts ps hps
  obtain ⟨cells', f1, f2⟩ := fill_rel ps _ _ cs zs.toArray hf (zero_cells h1 m β) hl hr
  have hb : K.P.built T (parts.map fun (i, x) => (i, a.eval x)).toList = some cells' := by
   obtain ⟨e, i, hu, hi, hs⟩ := tyArr_inv hA
   unfold zeroCells at hz
   cases hii : K.P.info? T with
   | none => simp [hii] at hz
   | some it =>
    cases hzz : it.zero with
    | none => simp [hii, hzz] at hz
    | some z =>
     simp [hii, hzz] at hz
     simp only [Program.built, hii, hu, hzz, hi, hs]
     rw [← f1, ← hz]
  refine ⟨.agg cells', by simp only [execOp]; exact run_value (run_build w T _ cells' hb), .agg f2.1 fun i c v hc hv => (f2.2 i c v hc hv).1⟩) kk
end
end Go.Pv
namespace Go.Pv
open Go
section
variable {K : Ctx} {Q : Post} {S : St}
variable {ops : Array Oper} {rest : List Oper} {ty : TypeId} {pos : String} {after : Array Edge} {g : Option (Nat × Bool)}
theorem agg_inv {m : Mem} {β : Locs} {cs : List V} {v : Value} (h : VRel m β (.agg cs) v) : ∃ vs, v = .agg vs ∧ cs.length = vs.size ∧ ∀ (i : Nat) (c : V) (u : Value), cs[i]? = some c → vs[i]? = some u → VRel m β c u := by
 cases h with
 | imm h => cases h with | agg hl h => exact ⟨_, rfl, hl, fun i c u a b => .imm (h i c u a b)⟩
 | agg hl h => exact ⟨_, rfl, hl, h⟩
theorem aops_indexA {d T n k e : Nat} {x y : Operand} {ik : IntKind} {i : Int} {cs : List V} (row : List V) (hT : tyArrA K.P T n k e = true)
  (hw : Wants ops S ⟨some d, .index T x y, ty, pos, after, g⟩ true) (hx : evl K S x = .agg cs) (hy : evl K S y = .con (.int ik i))
  (hi : 0 ≤ i ∧ i.toNat < n) (hl : cs.length = n * k) (hr : (cs.drop (i.toNat * k)).take k = row) (hN : Nat.blt d K.N = true)
  (kk : AOps K ops rest Q (S.put d (.agg row))) : AOps K ops (⟨some d, .index T x y, ty, pos, after, g⟩ :: rest) Q S :=
 aops_val _ hw hN (fun m β w a r => by
  obtain ⟨hu, hA⟩ := tyArrA_inv hT
  have h := r.reads x
  rw [hx] at h
  obtain ⟨vs, h1, h2, h3⟩ := agg_inv h
  have ha := tyA_run hA w
  refine ⟨.agg (vs.extract (i.toNat * k) (i.toNat * k + k)), ?_, ?_⟩
  ·simp only [execOp, h1, r.con hy]
   refine run_value ?_
   simp only [Instr.index, asIntOf, Sem.run_bind, pure, Sem.run, Result.andThen_ok, run_underlying hu]
   rw [if_pos ⟨hi.1, by omega⟩]
   simp only [Sem.run_bind, ha.2, Result.andThen_ok, part, ha.1, if_true]
   rfl
  ·have hk : i.toNat * k + k ≤ n * k := by
    have : (i.toNat + 1) * k ≤ n * k := Nat.mul_le_mul_right _ hi.2
    rwa [Nat.add_mul, Nat.one_mul] at this
   refine .agg ?_ (fun j c u hc hu => ?_)
   ·rw [← hr]; simp only [List.length_take, List.length_drop, Array.size_extract, hl, ← h2]; omega
   ·rw [← hr, List.getElem?_take] at hc
    split at hc
    ·rename_i hj
     rw [List.getElem?_drop] at hc
     rw [Array.getElem?_extract] at hu
     split at hu
     ·exact h3 _ c u hc hu
     ·simp at hu
    ·simp at hc) kk
theorem aops_indexAC {d T n e : Nat} {x y : Operand} {ik : IntKind} {i : Int} {cs : List V} (c : V) (hT : tyArrC K.P T n e = true)
  (hw : Wants ops S ⟨some d, .index T x y, ty, pos, after, g⟩ true) (hx : evl K S x = .agg cs) (hy : evl K S y = .con (.int ik i))
  (hi : 0 ≤ i ∧ i.toNat < n) (hl : cs[i.toNat]? = some c) (hN : Nat.blt d K.N = true)
  (kk : AOps K ops rest Q (S.put d c)) : AOps K ops (⟨some d, .index T x y, ty, pos, after, g⟩ :: rest) Q S :=
 aops_val _ hw hN (fun m β w a r => by
  obtain ⟨hu, hA⟩ := tyArrC_inv hT
  have h := r.reads x
  rw [hx] at h
  obtain ⟨vs, h1, h2, h3⟩ := agg_inv h
  have ha := tyC_run hA w
  have hlt : i.toNat < vs.size := by rw [← h2]; exact (List.getElem?_eq_some_iff.1 hl).1
  refine ⟨vs[i.toNat], ?_, h3 _ c _ hl (Array.getElem?_eq_getElem hlt)⟩
  simp only [execOp, h1, r.con hy]
  refine run_value ?_
  simp only [Instr.index, asIntOf, Sem.run_bind, pure, Sem.run, Result.andThen_ok, run_underlying hu]
  rw [if_pos ⟨hi.1, by omega⟩]
  simp only [Sem.run_bind, ha.2, Result.andThen_ok, part, ha.1, Nat.mul_one, Array.getElem?_eq_getElem hlt]
  rfl) kk
end
end Go.Pv
namespace Go.Pv
theorem arr_row {α : Type} {n k i : Nat} {f : Nat → α} {enc : α → List V} {cs : List V} (hc : cs = (List.range n).flatMap (fun j => enc (f j))) (hk : ∀ x, (enc x).length = k) (hi : i < n) : (cs.drop (i * k)).take k = enc (f i) := by
 subst hc
 have key : ∀ (l : List Nat) (i : Nat) (hi : i < l.length), ((l.flatMap (fun j => enc (f j))).drop (i * k)).take k = enc (f l[i]) := by
  intro l
  induction l with
  | nil => intro i hi; simp at hi
  | cons a l ih =>
   intro i hi
   cases i with
   | zero =>
    simp only [List.flatMap_cons, Nat.zero_mul, List.drop_zero, List.getElem_cons_zero]
    rw [List.take_append_of_le_length (by rw [hk]; exact Nat.le_refl _)]
    exact List.take_of_length_le (by rw [hk]; exact Nat.le_refl _)
   | succ i =>
    simp only [List.flatMap_cons, List.getElem_cons_succ]
    rw [Nat.add_mul, Nat.one_mul, Nat.add_comm, ← List.drop_drop, List.drop_left' (hk _)]
    exact ih i (by simpa using hi)
 have := key (List.range n) i (by simpa using hi)
 simpa using this
end Go.Pv
namespace Go.Pv
open Go
set_option linter.unusedVariables false
set_option linter.unusedSimpArgs false
section
variable {K : Ctx} {S : St}
variable {m : Mem} {β : Locs} {w : World} {a : Act}
theorem Rel.take (r : Rel K m β w a S) {id : Nat} (hl0 : hget S.hp id ≠ .dead) (hnid : id ≠ S.nx) (Bc Bn : Nat → Prop) (loc : Option (Nat × Cap)) (ob' ob2 : Ob) (hsub : ∀ x, Bc x → β.hid id x) (hBn : ∀ x, Bn x → Bc x)
  (hloc : ∀ b' c', loc = some (b', c') → Bc b' ∧ ¬ Bn b') (hobj : ∀ β' : Locs, ObOk m β' w Bn (some loc) ob2)
  (hob : ∀ β' : Locs, β.le β' → β' S.nx = some loc → ObOk m β' w (fun x => β.hid id x ∧ ¬ Bc x) (β id) ob') :
  ∃ m' β', Rel K m' β' w a ⟨S.env, (id, ob') :: (S.nx, ob2) :: S.hp, S.nx + 1⟩ := by
 let β' : Locs := ⟨fun q => if q = S.nx then some loc else β q, fun q => if q = S.nx then Bn else if q = id then (fun x => β.hid id x ∧ ¬ Bc x) else β.hid q⟩
 have en : β' S.nx = some loc := by show (if _ then _ else _) = _; rw [if_pos rfl]
 have eo : ∀ q, q ≠ S.nx → β' q = β q := fun q h => by show (if _ then _ else _) = _; rw [if_neg h]
 have hn : β'.hid S.nx = Bn := by show (if _ then _ else _) = _; rw [if_pos rfl]
 have hid' : β'.hid id = fun x => β.hid id x ∧ ¬ Bc x := by show (if _ then _ else if _ then _ else _) = _; rw [if_neg hnid, if_pos rfl]
 have hoth : ∀ q, q ≠ S.nx → q ≠ id → β'.hid q = β.hid q := fun q h1 h2 => by show (if _ then _ else if _ then _ else _) = _; rw [if_neg h1, if_neg h2]
 have hle : β.le β' := by
  intro q l h
  rw [eo q]
  ·exact h
  ·intro e; rw [e, r.nx _ (Nat.le_refl _)] at h; simp at h
 have hg : ∀ q, hget ((id, ob') :: (S.nx, ob2) :: S.hp) q = if id = q then ob' else if S.nx = q then ob2 else hget S.hp q := fun q => by rw [hget_put, hget_put]
 have live : ∀ q, q ≠ S.nx → hget ((id, ob') :: (S.nx, ob2) :: S.hp) q ≠ .dead → hget S.hp q ≠ .dead := by
  intro q hq h
  rw [hg] at h
  split at h
  ·rename_i e; rw [← e]; exact hl0
  ·rw [if_neg (Ne.symm hq)] at h; exact h
 -- the hidden blocks of the new state, seen in the old one
 have hh : ∀ q x, hget ((id, ob') :: (S.nx, ob2) :: S.hp) q ≠ .dead → β'.hid q x → (q = S.nx ∧ Bn x) ∨ (q ≠ S.nx ∧ hget S.hp q ≠ .dead ∧ β.hid q x ∧ (q = id → ¬ Bc x)) := by
  intro q x hl hx
  by_cases e1 : q = S.nx
  ·subst e1; rw [hn] at hx; exact .inl ⟨rfl, hx⟩
  ·refine .inr ⟨e1, live q e1 hl, ?_⟩
   by_cases e2 : q = id
   ·subst e2; rw [hid'] at hx; exact ⟨hx.1, fun _ => hx.2⟩
   ·rw [hoth q e1 e2] at hx; exact ⟨hx, fun h => absurd h e2⟩
 refine ⟨m, β', r.imm, r.ext, r.mold, r.frame, r.size, r.same, r.tn, r.df, fun t => (r.env t).mono (Mem.le_refl _) hle, fun q => ?_, fun q b1 c1 hl hb1 => ?_, fun q q' b1 c1 c2 hl hl' hb1 hb2 => ?_, fun q x hl hx => ?_, fun q hq => ?_, fun q hq => ?_⟩
 ·rw [hg]
  split
  ·rename_i h; subst h
   show ObOk m β' w (β'.hid id) (β' id) _
   rw [hid', eo id hnid]; exact hob β' hle en
  ·split
   ·rename_i h; subst h
    show ObOk m β' w (β'.hid S.nx) (β' S.nx) _
    rw [hn, en]; exact hobj β'
   ·rename_i h1 h2
    show ObOk m β' w (β'.hid q) (β' q) _
    rw [hoth q (Ne.symm h2) (Ne.symm h1), eo q (Ne.symm h2)]
    exact ObOk.mono (Mem.le_refl _) hle (fun _ _ h => h) (fun _ _ => rfl) (r.own q)
 ·by_cases e1 : q = S.nx
  ·subst e1; rw [en] at hb1
   simp only [Option.some.injEq] at hb1
   have h := r.hid id b1 hl0 (hsub _ (hloc b1 c1 hb1).1)
   exact ⟨h.m, h.old⟩
  ·rw [eo q e1] at hb1; exact r.priv q b1 c1 (live q e1 hl) hb1
 ·have key : ∀ q c, q ≠ S.nx → hget S.hp q ≠ .dead → β q = some (some (b1, c)) → ∀ c', loc = some (b1, c') → False := by
   intro q c _ hl hbq c' hc
   exact (r.hid id b1 hl0 (hsub _ (hloc b1 c' hc).1)).ne q b1 c hl hbq rfl
  by_cases e1 : q = S.nx <;> by_cases e2 : q' = S.nx
  ·rw [e1, e2]
  ·exfalso; subst e1
   rw [en] at hb1; rw [eo q' e2] at hb2
   simp only [Option.some.injEq] at hb1
   exact key q' c2 e2 (live q' e2 hl') hb2 c1 hb1
  ·exfalso; subst e2
   rw [en] at hb2; rw [eo q e1] at hb1
   simp only [Option.some.injEq] at hb2
   exact key q c1 e1 (live q e1 hl) hb1 c2 hb2
  ·rw [eo q e1] at hb1; rw [eo q' e2] at hb2
   exact r.inj q q' b1 c1 c2 (live q e1 hl) (live q' e2 hl') hb1 hb2
 ·
  have hx0 := hh q x hl hx
  have hidx : ∃ q0, hget S.hp q0 ≠ .dead ∧ β.hid q0 x ∧ (q = S.nx → q0 = id ∧ Bc x) ∧ (q ≠ S.nx → q0 = q) := by
   rcases hx0 with ⟨e1, h1⟩ | ⟨e1, h1, h2, h3⟩
   ·exact ⟨id, hl0, hsub x (hBn x h1), fun _ => ⟨rfl, hBn x h1⟩, fun h => absurd e1 h⟩
   ·exact ⟨q, h1, h2, fun h => absurd h e1, fun _ => rfl⟩
  obtain ⟨q0, g1, g2, g3, g4⟩ := hidx
  have hr := r.hid q0 x g1 g2
  refine ⟨hr.lt, hr.m, hr.old, fun p b1 c1 hl1 hb1 => ?_, fun p hl1 hx1 => ?_⟩
  ·by_cases e2 : p = S.nx
   ·subst e2
    rw [en] at hb1
    simp only [Option.some.injEq] at hb1
    intro e; subst e
    obtain ⟨k1, k2⟩ := hloc _ c1 hb1
    rcases hx0 with ⟨e1, h1⟩ | ⟨e1, h1, h2, h3⟩
    ·exact k2 h1
    ·have := (r.hid q _ h1 h2).un id hl0 (hsub _ k1)
     exact h3 this.symm k1
   ·rw [eo p e2] at hb1
    exact hr.ne p b1 c1 (live p e2 hl1) hb1
  ·rcases hh p x hl1 hx1 with ⟨e2, h2⟩ | ⟨e2, h2, h3, h4⟩
   ·rcases hx0 with ⟨e1, h1⟩ | ⟨e1, h1, h2', h3'⟩
    ·rw [e1, e2]
    ·exfalso
     have := (r.hid q _ h1 h2').un id hl0 (hsub _ (hBn x h2))
     exact h3' this.symm (hBn x h2)
   ·rcases hx0 with ⟨e1, h1⟩ | ⟨e1, h1, h2', h3'⟩
    ·exfalso
     have := (r.hid id _ hl0 (hsub _ (hBn x h1))).un p h2 h3
     exact h4 this (hBn x h1)
    ·exact (r.hid q _ h1 h2').un p h2 h3
 ·have hq : S.nx + 1 ≤ q := hq
  rw [eo q (by omega)]; exact r.nx q (by omega)
 ·obtain ⟨p1, p2⟩ := r.pin q hq
  exact ⟨Nat.lt_succ_of_lt p1, by rw [eo q (Nat.ne_of_lt p1)]; exact p2⟩
end
end Go.Pv
namespace Go.Pv
open Go
set_option linter.unusedVariables false
set_option linter.unusedSimpArgs false
section
variable {K : Ctx} {Q : Post} {S : St}
variable {m : Mem} {β : Locs} {w : World} {a : Act}
variable {ops : Array Oper} {rest : List Oper} {ty : TypeId} {pos : String} {after : Array Edge} {g : Option (Nat × Bool)}
inductive LookT (x : Value) (nx e k : Nat) : List (Value × V) → List (Value × V) → List (List V) → Prop
 | nil : LookT x nx e k [] [] []
 | here {rws : List (List V)} {es : List (Value × V)} : LookT x nx e k ((x, .dsl e k rws) :: es) ((x, .own nx rws.length) :: es) rws
 | there {q : Value} {v : V} {es es' : List (Value × V)} {rws : List (List V)} (h : q ≠ x) (h' : LookT x nx e k es es' rws) : LookT x nx e k ((q, v) :: es) ((q, v) :: es') rws
theorem LookT.cases {x : Value} {nx e k : Nat} {es es' : List (Value × V)} {rws : List (List V)} (h : LookT x nx e k es es' rws) :
  (es' = es ∧ rws = [] ∧ ∀ p, p ∈ es → p.1 ≠ x) ∨ ∃ i, es[i]? = some (x, .dsl e k rws) ∧ es' = es.set i (x, .own nx rws.length) ∧ Look x es' (some (.own nx rws.length)) := by
 induction h with
 | nil => exact .inl ⟨rfl, rfl, by simp⟩
 | here => exact .inr ⟨0, rfl, rfl, .here⟩
 | @there q v es es' rws h h' ih =>
  rcases ih with ⟨h1, h2, h3⟩ | ⟨i, h1, h2, h3⟩
  ·refine .inl ⟨by rw [h1], h2, fun p hp => ?_⟩
   rcases List.mem_cons.1 hp with e | e
   ·rw [e]; exact h
   ·exact h3 p e
  ·exact .inr ⟨i + 1, by simpa using h1, by rw [h2]; rfl, .there h h3⟩
end
end Go.Pv
namespace Go.Pv
open Go
section
variable {K : Ctx} {Q : Post} {S : St}
variable {m : Mem} {β : Locs} {w : World} {a : Act}
variable {ops : Array Oper} {rest : List Oper} {ty : TypeId} {pos : String} {after : Array Edge} {g : Option (Nat × Bool)}
theorem Puts.other {x : Value} {v : V} {es es3 : List (Value × V)} (h : Puts x v es es3) (v' : V) : ∃ es2 i, Puts x v' es es2 ∧ es2[i]? = some (x, v') ∧ es3 = es2.set i (x, v) := by
 induction h with
 | nil => exact ⟨[(x, v')], 0, .nil, rfl, rfl⟩
 | @here v0 es => exact ⟨(x, v') :: es, 0, .here, rfl, rfl⟩
 | @there k v0 es es3 h h' ih =>
  obtain ⟨es2, i, h1, h2, h3⟩ := ih
  exact ⟨(k, v0) :: es2, i + 1, .there h h1, by simpa using h2, by rw [h3]; rfl⟩
variable {κ α : Type} [DecidableEq κ]
end
end Go.Pv
namespace Go.Pv
open Go
section
variable {K : Ctx} {Q : Post} {S : St}
variable {m : Mem} {β : Locs} {w : World} {a : Act}
variable {ops : Array Oper} {rest : List Oper} {ty : TypeId} {pos : String} {after : Array Edge} {g : Option (Nat × Bool)}
inductive LookD (x : Value) (d o : V) : List (Value × V) → List (Value × V) → Prop
 | here {es : List (Value × V)} : LookD x d o ((x, d) :: es) ((x, o) :: es)
 | there {q : Value} {v : V} {es es' : List (Value × V)} (h : q ≠ x) (h' : LookD x d o es es') : LookD x d o ((q, v) :: es) ((q, v) :: es')
theorem LookD.at {x : Value} {d o : V} {es es' : List (Value × V)} (h : LookD x d o es es') : ∃ i, es[i]? = some (x, d) ∧ es' = es.set i (x, o) ∧ Look x es' (some o) := by
 induction h with
 | here => exact ⟨0, rfl, rfl, .here⟩
 | @there q v es es' h h' ih =>
  obtain ⟨i, h1, h2, h3⟩ := ih
  exact ⟨i + 1, by simpa using h1, by rw [h2]; rfl, .there h h3⟩
end
variable {κ α β γ : Type} [DecidableEq κ]
section
variable {K : Ctx} {Q : Post} {S : St}
end
section
variable {K : Ctx} {Q : Post} {S : St} {s : List It}
variable {ops : Array Oper} {l : List Oper}
end
section
variable {K : Ctx} {Q : Post} {S : St}
variable {ops : Array Oper} {rest : List Oper} {ty : TypeId} {pos : String} {after : Array Edge} {g : Option (Nat × Bool)}
def sameAll (ts : List Nat) (v : V) (e : Env) : Env := match ts with | [] => e | t :: ts => (t, v) :: sameAll ts v e
theorem sameAll_sub {Y : Hy} {v v0 : V} {env : Env} (hk : ∀ v, Sub Y v v) (h : Sub Y v v0) : ∀ (ts : List Nat), (∀ t, t ∈ ts → get env t = v0) → ∀ t', Sub Y (get (sameAll ts v env) t') (get env t')
 | [], _, t' => hk _
 | t :: ts, hh, t' => by
  rw [sameAll, get_put]
  split
  ·rename_i he; subst he; rw [hh t (by simp)]; exact h
  ·exact sameAll_sub hk h ts (fun q hq => hh q (List.mem_cons_of_mem _ hq)) t'
theorem ghost_frzEs (id : Nat) (ts : List Nat) {e k n : Nat} {rows : List (List V)} (ho : hget S.hp id = .arr e k rows) (hi : ∀ row, row ∈ rows → Imms row)
  (ht : ∀ t, t ∈ ts → get S.env t = .own id n) (hn : n = rows.length) : Ghost K S ⟨sameAll ts (.lst k rows) S.env, (id, .dead) :: S.hp, S.nx⟩ :=
 ghost_freeze id _ _ ho hi (sameAll_sub (fun _ => Sub.keep) (Sub.frzAll hn) ts ht) hpFrz0 (by simp [hget_put])
inductive Zs : List V → List Value → Prop
 | nil : Zs [] []
 | con {v : Value} {cs : List V} {vs : List Value} (h : Zs cs vs) : Zs (.con v :: cs) (v :: vs)
 | sl {k : Nat} {cs : List V} {vs : List Value} (h : Zs cs vs) : Zs (.lst k [] :: cs) (.slice none 0 0 :: vs)
theorem Zs.ok {cs : List V} {vs : List Value} (h : Zs cs vs) (m : Mem) : cs.length = vs.length ∧ ∀ (i : Nat) c v, cs[i]? = some c → vs[i]? = some v → IRel m c v := by
 induction h with
 | nil => exact ⟨rfl, by simp⟩
 | con h ih =>
  refine ⟨by simp [ih.1], fun i c v a b => ?_⟩
  cases i with
  | zero => simp at a b; subst a; subst b; exact .con _
  | succ i => exact ih.2 i c v (by simpa using a) (by simpa using b)
 | sl h ih =>
  refine ⟨by simp [ih.1], fun i c v a b => ?_⟩
  cases i with
  | zero => simp at a b; subst a; subst b; exact .nil _ _ _
  | succ i => exact ih.2 i c v (by simpa using a) (by simpa using b)
end
end Go.Pv
namespace Go.Pv
open Go
set_option linter.unusedVariables false
set_option linter.unusedSimpArgs false
open Go.ChangeMaps (setBlock)
section
variable {K : Ctx} {Q : Post} {S : St}
variable {m : Mem} {β : Locs} {w : World} {a : Act}
variable {ops : Array Oper} {rest : List Oper} {ty : TypeId} {pos : String} {after : Array Edge} {g : Option (Nat × Bool)}
end
inductive EnvFz (Y : Hy) (env : Env) : Env → Prop
 | refl : EnvFz Y env env
 | put {e : Env} {t : Nat} {v v0 : V} (ht : get env t = v0) (hv : Sub Y v v0) (h : EnvFz Y env e) : EnvFz Y env ((t, v) :: e)
theorem EnvFz.get {Y : Hy} {env e : Env} (hk : ∀ v, Sub Y v v) (h : EnvFz Y env e) (t : Nat) : Sub Y (get e t) (get env t) := by
 induction h with
 | refl => exact hk _
 | put ht hv _ ih =>
  rw [get_put]
  split
  ·rename_i he; subst he; rw [ht]; exact hv
  ·exact ih
inductive HpFz (Y : Hy) (hp : Heap) : Heap → Prop
 | refl : HpFz Y hp hp
 | put {e : Heap} {t : Nat} {v v0 : Ob} (ht : hget hp t = v0) (hv : ObSub Y v v0) (h : HpFz Y hp e) : HpFz Y hp ((t, v) :: e)
theorem HpFz.get {Y : Hy} {hp e : Heap} (hk : ∀ v, ObSub Y v v) (h : HpFz Y hp e) (t : Nat) : ObSub Y (hget e t) (hget hp t) := by
 induction h with
 | refl => exact hk _
 | put ht hv _ ih =>
  rw [hget_put]
  split
  ·rename_i he; subst he; rw [ht]; exact hv
  ·exact ih
section
variable {K : Ctx} {S : St}
end
def RM {α : Type} (n : Nat) (l : List α) (P : Prop) : Prop := l.length < n ∧ P
theorem RM.zero {α : Type} {l : List α} {P : Prop} {X : Prop} (h : RM 0 l P) : X := absurd h.1 (Nat.not_lt_zero _)
theorem RM.start {α : Type} {l : List α} {P : Prop} (h : P) : RM (l.length + 1) l P := ⟨Nat.lt_succ_self _, h⟩
theorem RM.step {α : Type} {l l' : List α} {n : Nat} {P P' : Prop} (h : RM (n + 1) l P) (hq : l'.length < l.length) (h' : P') : RM n l' P' := ⟨by have := h.1; omega, h'⟩
section
variable {K : Ctx} {Q : Post} {S : St} {s : List It}
variable {ops : Array Oper} {rest : List Oper} {ty : TypeId} {pos : String} {after : Array Edge} {g : Option (Nat × Bool)}
end
end Go.Pv
namespace Go.Pv
open Go Go.RowKit
set_option linter.unusedVariables false
set_option linter.unusedSimpArgs false
theorem grow_nil (w : World) : w = Go.Sort.grow w #[] := by cases w; simp [Go.Sort.grow]
end Go.Pv
namespace Go.Pv
open Go Go.RowKit Go.Lib
set_option linter.unusedVariables false
set_option linter.unusedSimpArgs false
theorem run_clearK {P : Program} {n : Nat} (w : World) (t e ty : TypeId) (z : Value) (ht : P.underlying t = some (.slice e)) (hv : ∀ w, (zeroValue e).run P w = .ok z w) (h1 : ∀ v ∈ (Builtin.zeroCells z.cells n).toList, v.oneCell' = true) (b o c : Nat) (hn : 0 < n)
  (hc : ∀ j, j < n * z.cells.size → (w.cell? ⟨b, o + j, none⟩).isSome = true) (hf : ∀ j, j < n * z.cells.size → w.frozen? ⟨b, o + j, none⟩ = false) :
  (Builtin.clear_ #[t] ty #[.slice (some ⟨b, o, none⟩) n c]).run P w = .ok (.tuple #[]) (w.setCells b o (Builtin.zeroCells z.cells n).toList) := by
 have hl : (Builtin.zeroCells z.cells n).toList.length = n * z.cells.size := by simp [Builtin.zeroCells]
 have hst := run_storeCells_cells (P := P) b o (Builtin.zeroCells z.cells n).toList 0 w (by rw [hl]; simpa using hc) (by rw [hl]; simpa using hf) h1
 simp only [Nat.add_zero] at hst
 obtain ⟨m, rfl⟩ : ∃ m, n = m + 1 := ⟨n - 1, by omega⟩
 simp [Builtin.clear_, run_underlying ht, hv, hst]
theorem zero_one {z : Array Value} {n : Nat} (h : z.all (·.oneCell') = true) : ∀ v ∈ (Builtin.zeroCells z n).toList, v.oneCell' = true := by
 intro v hv
 simp only [Builtin.zeroCells, Array.toList_map, List.mem_map, Array.mem_toList_iff, Array.mem_range] at hv
 obtain ⟨t, ht, rfl⟩ := hv
 have h0 : 0 < z.size := by
  rcases Nat.eq_zero_or_pos z.size with q | q
  ·rw [q] at ht; simp at ht
  ·exact q
 rw [getElem!_pos z _ (Nat.mod_lt _ h0)]
 exact Array.all_eq_true.1 h _ (Nat.mod_lt _ h0)
theorem delete_arr2 {α : Type} (d : Array α) (i j : Nat) (zs : List α) (hz : zs.length = j - i) (hij : i ≤ j) (hj : j ≤ d.size) :
  lay (lay d i (d.toList.drop j)) (i + (d.size - j)) zs = (d.toList.take i ++ d.toList.drop j ++ zs).toArray := by
 apply Array.ext_getElem?
 intro t
 have l1 : (d.toList.take i).length = i := by simp; omega
 have l2 : (d.toList.drop j).length = d.size - j := by simp
 rw [lay_get? _ _ _ _ (by rw [lay_size]; omega), lay_get? _ _ _ _ (by rw [l2]; omega), show (d.toList.take i ++ d.toList.drop j ++ zs).toArray[t]? = (d.toList.take i ++ d.toList.drop j ++ zs)[t]? from List.getElem?_toArray]
 simp only [hz, l2]
 by_cases c1 : t < i
 ·rw [if_neg (by omega), if_neg (by omega), List.getElem?_append_left (by simp; omega), List.getElem?_append_left (by omega), List.getElem?_take, if_pos c1, Array.getElem?_toList]
 ·by_cases c2 : t < i + (d.size - j)
  ·rw [if_neg (by omega), if_pos (by omega), List.getElem?_append_left (by simp; omega), List.getElem?_append_right (by omega), l1]
  ·rw [List.getElem?_append_right (by simp; omega)]
   simp only [List.length_append, l1, l2]
   by_cases c3 : t < d.size
   ·rw [if_pos (by omega)]
   ·rw [if_neg (by omega), if_neg (by omega), Array.getElem?_eq_none (by omega), List.getElem?_eq_none (by omega)]
def DelSpec (P : Program) (f : FuncId) (k : Nat) : Prop := ∀ (blk off cap n i j : Nat) (d : Array Value) (w : World), d.size = n * k → (∀ x, x ∈ d.toList → x.oneCell' = true) → Go.Sort.Holds (fun v => v) w blk off d → n ≤ cap → cap ≤ 9223372036854775807 → i ≤ j → j ≤ n →
 Calls P f #[.slice (some ⟨blk, off, none⟩) n cap, .int .i64 i, .int .i64 j] w fun e w' => e = .returned (.slice (some ⟨blk, off, none⟩) (n - (j - i)) cap) ∧ ∃ q zs, zs.length = (j - i) * k ∧ w' = Go.Sort.putRow (fun v => v) (Sort.ahead w q) blk off (d.toList.take (i * k) ++ d.toList.drop (j * k) ++ zs).toArray
def DelNil (P : Program) (f : FuncId) : Prop := ∀ (a : Option Addr) (w : World), Calls P f #[.slice a 0 0, .int .i64 0, .int .i64 0] w fun e w' => e = .returned (.slice a 0 0) ∧ w' = w
theorem three_of {vs : Array Value} (h : vs.size = 3) : ∃ a b c, vs = #[a, b, c] := by
 obtain ⟨l⟩ := vs
 match l, h with
 | [a, b, c], _ => exact ⟨a, b, c, rfl⟩
theorem flat_getD {d : Array Value} {k i j : Nat} {zs : List Value} {n t c : Nat} (hd : d.size = n * k) (hij : i ≤ j) (hj : j ≤ n) (hc : c < k) (ht : t < n - (j - i)) :
  (d.toList.take (i * k) ++ d.toList.drop (j * k) ++ zs)[t * k + c]? = d[(if t < i then t else t + (j - i)) * k + c]? := by
 have hik : i * k ≤ j * k := Nat.mul_le_mul_right _ hij
 have hjk : j * k ≤ n * k := Nat.mul_le_mul_right _ hj
 have l1 : (d.toList.take (i * k)).length = i * k := by simp; omega
 have l2 : (d.toList.drop (j * k)).length = n * k - j * k := by simp [hd]
 have hN : (n - (j - i)) * k = i * k + (n * k - j * k) := by
  rw [Nat.sub_mul, Nat.sub_mul]; omega
 have h1 : t * k + k ≤ (n - (j - i)) * k := by
  rw [← Nat.succ_mul]; exact Nat.mul_le_mul_right _ ht
 rw [List.getElem?_append_left (by rw [List.length_append, l1, l2]; omega)]
 by_cases hti : t < i
 ·have h2 : t * k + k ≤ i * k := by rw [← Nat.succ_mul]; exact Nat.mul_le_mul_right _ hti
  rw [if_pos hti, List.getElem?_append_left (by rw [l1]; omega), List.getElem?_take, if_pos (by omega), Array.getElem?_toList]
 ·have h2 : i * k ≤ t * k := Nat.mul_le_mul_right _ (by omega)
  rw [if_neg hti, List.getElem?_append_right (by rw [l1]; omega), l1, List.getElem?_drop, Array.getElem?_toList]
  congr 1
  rw [Nat.add_mul, Nat.sub_mul]; omega
open Go.Sort in
theorem mut_deleteG {gl : Gl} {P : Program} {f : FuncId} {kk id : Nat} {hp : Heap} {e : TypeId} {k : Nat} {T : Type} (enc : T → List V) (hek : ∀ x, (enc x).length = k) (hnd : ∀ x, Imms (enc x)) (l : List T) (i j : Int)
  (hid : hget hp id = .arr e k (l.map enc)) (hD : DelSpec P f k) (hn : DelNil P f) (hc : 0 ≤ i ∧ i ≤ j ∧ j.toNat ≤ l.length) :
  MutG gl P f [.own id l.length, .con (.int .i64 i), .con (.int .i64 j)] kk hp (.own id (l.take i.toNat ++ l.drop j.toNat).length) kk ((id, .arr e k ((l.take i.toNat ++ l.drop j.toNat).map enc)) :: hp) := by
 obtain ⟨h0, hij, hjl⟩ := hc
 obtain ⟨i, rfl⟩ := Int.eq_ofNat_of_zero_le h0
 obtain ⟨j, rfl⟩ := Int.eq_ofNat_of_zero_le (Int.le_trans h0 hij)
 simp only [Int.ofNat_eq_natCast, Int.toNat_natCast] at hij hjl ⊢
 have hij : i ≤ j := by omega
 intro m β w vs himm _ hargs hown hpriv hinj hhid hnx
 obtain ⟨v, u1, u2, rfl⟩ := three_of (vs := vs) (by have := hargs.len; simpa using this.symm)
 have hv := hargs.at' 0 _ _ rfl rfl
 have hu1 := (hargs.at' 1 _ _ rfl rfl).of_con
 have hu2 := (hargs.at' 2 _ _ rfl rfl).of_con
 subst hu1 hu2
 have hob := hown id
 rw [hid] at hob
 have hl' : (l.take i ++ l.drop j).length = l.length - (j - i) := by simp; omega
 generalize hr : l.take i ++ l.drop j = l' at hl' ⊢
 have hg : ∀ q, hget ((id, Ob.arr e k (l'.map enc)) :: hp) q = if id = q then Ob.arr e k (l'.map enc) else hget hp q := fun q => hget_put _ _ _ _
 have hlive : ∀ q, hget ((id, Ob.arr e k (l'.map enc)) :: hp) q ≠ .dead → hget hp q ≠ .dead := fun q hq => by
  rw [hg] at hq
  split at hq
  ·rename_i hh; subst hh; rw [hid]; simp
  ·exact hq
 have hhids : ∀ (w' : World), w.heap.size ≤ w'.heap.size → ∀ q x, hget ((id, Ob.arr e k (l'.map enc)) :: hp) q ≠ .dead → β.hid q x → x < w'.heap.size ∧ m x = none ∧ (x < w.heap.size → ¬ Foreign hp β x) ∧
   (∀ i b c, hget ((id, Ob.arr e k (l'.map enc)) :: hp) i ≠ .dead → β i = some (some (b, c)) → x ≠ b) ∧ ∀ i, hget ((id, Ob.arr e k (l'.map enc)) :: hp) i ≠ .dead → β.hid i x → i = q := by
  intro w' hs q x hq hx
  obtain ⟨q1, q2, q3, q4⟩ := hhid q x (hlive q hq) hx
  exact ⟨by omega, q2, fun _ hF => (hF q (hlive q hq)).2 hx, fun i b c hi => q3 i b c (hlive i hi), fun i hi => q4 i (hlive i hi)⟩
 generalize hnl : l.length = n at hv hjl hl'
 cases hv with
 | imm h' => cases h'
 | @ownNil _ ad hb =>
  have hj0 : j = 0 := by omega
  have hi0 : i = 0 := by omega
  subst hj0 hi0
  have hl0 : l = [] := List.length_eq_zero_iff.1 hnl
  subst hl0
  simp at hr
  subst hr
  refine (hn ad w).mono ?_
  rintro ex w' ⟨rfl, rfl⟩
  refine ⟨_, m, β, rfl, .ownNil hb, Mem.le_refl _, himm, fun b hb _ => ⟨rfl, rfl⟩, Nat.le_refl _, ⟨rfl, rfl, rfl, Nat.le_refl _⟩, fun q => ?_, fun q b cap hq hbq => ?_, fun q q' b cap cap' hq hq' => hinj q q' b cap cap' (hlive q hq) (hlive q' hq'), hhids w' (Nat.le_refl _), hnx, fun q hq => ⟨hq, rfl⟩⟩
  ·rw [hg]
   split
   ·rename_i hh; subst hh; rw [hb]; simp [ObOk]
   ·exact hown q
  ·have hq := hlive q hq
   exact ⟨hpriv q b cap hq hbq, fun _ hF => (hF q hq).1 cap hbq⟩
 | @own _ _ b cap hb =>
  rw [hb] at hob
  obtain ⟨arr, bl, o1, o2, o3, o4, o5, oB, o6⟩ := hob
  have hbs : b < w.heap.size := lt_of_some o1
  rw [List.length_map, hnl] at o3
  have hnk : n * k ≤ cap.n * k := Nat.mul_le_mul_right _ o3
  obtain ⟨d, hd⟩ : ∃ d, d = arr.extract cap.off (cap.off + n * k) := ⟨_, rfl⟩
  have hds : d.size = n * k := by rw [hd]; simp; omega
  have hdg : ∀ t, t < n * k → d[t]? = arr[cap.off + t]? := fun t ht => by rw [hd, Array.getElem?_extract, if_pos (by omega)]
  have hcell : ∀ t c, t < n → c < k → ∃ v cv row, l[t]? = some row ∧ (enc row)[c]? = some cv ∧ arr[cap.off + (t * k + c)]? = some v ∧ VRel m β cv v ∧ v.oneCell' = true := fun t c ht hc => by
   have ht' : t < l.length := by omega
   have hc' : c < (enc l[t]).length := by rw [hek]; exact hc
   obtain ⟨v, v1, v2, v3⟩ := o6 t c (enc l[t]) (enc l[t])[c] (by rw [List.getElem?_map, List.getElem?_eq_getElem ht']; rfl) (List.getElem?_eq_getElem hc')
   exact ⟨v, _, l[t], List.getElem?_eq_getElem ht', List.getElem?_eq_getElem hc', v1, v2.v (hnd _ _ (List.getElem_mem hc')).1, v3⟩
  have hone : ∀ x, x ∈ d.toList → x.oneCell' = true := by
   intro x hx
   obtain ⟨t, ht, rfl⟩ := List.getElem_of_mem hx
   have ht' : t < n * k := by rw [← hds]; simpa using ht
   have hk : 0 < k := by
    rcases Nat.eq_zero_or_pos k with h | h
    ·subst h; simp at ht'
    ·exact h
   obtain ⟨v, _, _, _, _, a1, _, a2⟩ := hcell (t / k) (t % k) (Nat.div_lt_of_lt_mul (by rw [Nat.mul_comm]; exact ht')) (Nat.mod_lt _ hk)
   have e1 : t / k * k + t % k = t := by rw [Nat.mul_comm]; exact Nat.div_add_mod t k
   rw [e1, ← hdg t ht'] at a1
   have : d.toList[t] = v := by
    have : d.toList[t]? = some v := by rw [Array.getElem?_toList]; exact a1
    rw [List.getElem?_eq_getElem ht] at this
    exact Option.some.inj this
   rw [this]; exact a2
  have hcm : cap.n ≤ 9223372036854775807 := o4
  refine (hD b cap.off cap.n n i j d w hds hone (fun t ht => ?_) o3 hcm hij hjl).mono ?_
  ·have ht' : t < n * k := by rw [← hds]; exact ht
   have hx := hdg t ht'
   rw [Array.getElem?_eq_getElem ht] at hx
   rw [getElem!_pos d t ht]
   exact ⟨(cell_of_heap o1).trans hx.symm, by simp [World.frozen?, o1]⟩
  rintro ex w' ⟨rfl, nd, zs, hzs, rfl⟩
  obtain ⟨new, hnew⟩ : ∃ new, new = d.toList.take (i * k) ++ d.toList.drop (j * k) ++ zs := ⟨_, rfl⟩
  have hik : i * k ≤ j * k := Nat.mul_le_mul_right _ hij
  have hjk : j * k ≤ n * k := Nat.mul_le_mul_right _ hjl
  have hnewl : new.length = n * k := by
   rw [hnew, List.length_append, List.length_append, hzs, Nat.sub_mul, List.length_take, List.length_drop, Array.length_toList, hds]; omega
  rw [← hnew]
  have hheap := heap_sorted (fun v : Value => v) w nd b cap.off new.toArray #[]
  rw [← grow_nil] at hheap
  have hother : ∀ b', b' < w.heap.size → b' ≠ b → (putRow (fun v : Value => v) (Sort.ahead w nd) b cap.off new.toArray).heap[b']? = w.heap[b']? := fun b' h1 h2 => by rw [hheap b' h1, if_neg (Ne.symm h2)]
  have hlid : hget hp id ≠ .dead := by rw [hid]; simp
  have hsz : w.heap.size ≤ (putRow (fun v : Value => v) (Sort.ahead w nd) b cap.off new.toArray).heap.size := by simp [putRow, mapBlock, Sort.ahead]
  have hres : VRel m β (.own id l'.length) (.slice (some ⟨b, cap.off, none⟩) (n - (j - i)) cap.n) := by rw [hl']; exact .own hb
  refine ⟨_, m, β, rfl, hres, Mem.le_refl _, fun b' o hb' => ?_, fun b' hb' hF => ⟨rfl, hother b' hb' (fun e => ?_)⟩, hsz, ⟨rfl, rfl, rfl, Nat.le_add_right _ _⟩, fun q => ?_, fun q b' cap' hq hbq => ?_, fun q q' b1 cap1 cap2 hq hq' => hinj q q' b1 cap1 cap2 (hlive q hq) (hlive q' hq'), hhids _ hsz, hnx, fun q hq => ⟨hq, rfl⟩⟩
  ·have hne : b' ≠ b := fun e => by
    subst e
    rw [hpriv id b' cap hlid hb] at hb'
    simp at hb'
   rw [hother b' (lt_of_some (himm b' o hb')) hne]
   exact himm b' o hb'
  ·subst e; exact (hF id hlid).1 cap hb
  ·rw [hg]
   split
   ·rename_i hh
    subst hh
    rw [hb]
    refine ⟨putCells (fun v : Value => v) cap.off new.toArray arr, bl, by rw [hheap b hbs, if_pos rfl, o1]; rfl, by simp [putCells, o2], by rw [List.length_map, hl']; omega, o4, ?_, oB, fun t c row cv hr' hcv => ?_⟩
    ·intro row hr'
     obtain ⟨x, _, rfl⟩ := List.mem_map.1 hr'
     exact hek x
    ·rw [List.getElem?_map] at hr'
     cases hli : l'[t]? with
     | none => rw [hli] at hr'; simp at hr'
     | some x =>
      rw [hli] at hr'
      simp at hr'
      subst hr'
      have ht : t < l'.length := (List.getElem?_eq_some_iff.1 hli).1
      rw [hl'] at ht
      have hck : c < k := by
       have := (List.getElem?_eq_some_iff.1 hcv).1
       rw [hek] at this; exact this
      obtain ⟨v, cv', row', a1, a2, a3, a4, a5⟩ := hcell (if t < i then t else t + (j - i)) c (by split <;> omega) hck
      have hrow : row' = x := by
       have : l'[t]? = l[if t < i then t else t + (j - i)]? := by
        rw [← hr]
        by_cases hti : t < i
        ·rw [if_pos hti, List.getElem?_append_left (by simp; omega), List.getElem?_take, if_pos hti]
        ·rw [if_neg hti, List.getElem?_append_right (by simp; omega), List.getElem?_drop]
         congr 1
         simp; omega
       rw [hli, a1] at this
       exact (Option.some.inj this).symm
      subst hrow
      rw [hcv] at a2
      simp only [Option.some.injEq] at a2
      subst a2
      have hpos : t * k + c < n * k := by
       have h1 : t * k + k ≤ n * k := by rw [← Nat.succ_mul]; exact Nat.mul_le_mul_right _ (by omega)
       omega
      have ha : cap.off + (t * k + c) < arr.size := by rw [o2]; omega
      refine ⟨v, ?_, .inl a4, a5⟩
      unfold putCells
      rw [Array.getElem?_mapIdx, Array.getElem?_eq_getElem ha, Option.map_some, if_pos ⟨Nat.le_add_right _ _, by simp [hnewl]; omega⟩, Nat.add_sub_cancel_left, getElem!_pos _ (t * k + c) (by simp [hnewl]; exact hpos)]
      have hfg := flat_getD (zs := zs) hds hij hjl hck ht
      rw [← hnew, List.getElem?_eq_getElem (by rw [hnewl]; exact hpos)] at hfg
      have hq : (if t < i then t else t + (j - i)) * k + c < n * k := by
       have h1 : (if t < i then t else t + (j - i)) + 1 ≤ n := by split <;> omega
       have h2 := Nat.mul_le_mul_right k h1
       rw [Nat.succ_mul] at h2; omega
      rw [hdg _ hq, a3] at hfg
      simpa using hfg
   ·by_cases hd0 : hget hp q = .dead
    ·rw [hd0]; exact ObOk.dead' _
    ·refine ObOk.congr (fun b' cap' hbb => hother b' (live_lt hd0 hbb (hown q)) (fun e => ?_)) (fun x hx => hother x (hhid q x hd0 hx).1 ((hhid q x hd0 hx).2.2.1 id b cap hlid hb)) (hown q)
     subst e
     rename_i hne
     exact hne (hinj id q b' cap cap' hlid hd0 hb hbb)
  ·have hq := hlive q hq
   exact ⟨hpriv q b' cap' hq hbq, fun _ hF => (hF q hq).1 cap' hbq⟩
end Go.Pv
namespace Go.Pv
open Go
set_option linter.unusedVariables false
def conL (f : V → Option Value) : List V → Option (List Value)
 | [] => some []
 | x :: l => match f x with | some v => (match conL f l with | some r => some (v :: r) | none => none) | none => none
def conV : Nat → V → Option Value
 | 0, _ => none
 | n + 1, v => match v with
  | .con v => some v
  | .agg cs => (match conL (conV n) cs with | some l => some (.agg l.toArray) | none => none)
  | _ => none
theorem conL_at {f : V → Option Value} : ∀ {cs : List V} {l : List Value}, conL f cs = some l → l.length = cs.length ∧ ∀ (i : Nat) c v, cs[i]? = some c → l[i]? = some v → f c = some v
 | [], l, h => by simp [conL] at h; subst h; simp
 | x :: cs, l, h => by
  simp only [conL] at h
  split at h
  ·rename_i y hy
   split at h
   ·rename_i q hq
    simp at h; subst h
    obtain ⟨h1, h2⟩ := conL_at hq
    refine ⟨by simp [h1], fun i c v a b => ?_⟩
    cases i with
    | zero => simp at a b; subst a; subst b; exact hy
    | succ i => exact h2 i c v (by simpa using a) (by simpa using b)
   ·simp at h
  ·simp at h
theorem conV_ok {m : Mem} {β : Locs} : ∀ {n : Nat} {v : V} {x y : Value}, conV n v = some x → VRel m β v y → y = x
 | 0, v, x, y, h => by simp [conV] at h
 | n + 1, v, x, y, h => by
  intro hv
  cases v with
  | con c => simp [conV] at h; subst h; exact hv.of_con
  | agg cs =>
   simp only [conV] at h
   split at h
   ·rename_i l hl
    simp at h; subst h
    obtain ⟨vs, rfl, h2, h3⟩ := agg_inv hv
    obtain ⟨a1, a2⟩ := conL_at hl
    congr 1
    apply Array.ext
    ·simp [a1, h2]
    ·intro i hi hj
     have hic : i < cs.length := by rw [h2]; exact hi
     have hil : i < l.length := by rw [a1]; exact hic
     have := conV_ok (a2 i _ _ (List.getElem?_eq_getElem hic) (List.getElem?_eq_getElem hil)) (h3 i _ _ (List.getElem?_eq_getElem hic) (Array.getElem?_eq_getElem hi))
     simpa using this
   ·simp at h
  | _ => simp [conV] at h
theorem irel_agg {m : Mem} (l : List Value) : IRel m (.agg (l.map .con)) (.agg l.toArray) := .agg (by simp) fun i c v a b => by
 simp only [List.getElem?_map, List.getElem?_toArray] at a b
 rw [b] at a
 simp at a; subst a; exact .con _
def unC : Value → V
 | .agg vs => .agg (vs.toList.map .con)
 | v => .con v
theorem unC_ok {m : Mem} {β : Locs} (v : Value) : VRel m β (unC v) v := by
 cases v with
 | agg vs =>
  refine .imm (.agg (by simp) fun i c u a b => ?_)
  simp only [List.getElem?_map, Array.getElem?_toList, b, Option.map_some, Option.some.injEq] at a
  subst a; exact .con _
 | _ => exact .imm (.con _)
section
variable {K : Ctx} {Q : Post} {S S' : St} {ops : Array Oper} {rest : List Oper} {t : TT} {ty : TypeId} {pos : String} {after : Array Edge} {g : Option (Nat × Bool)}
theorem aops_mkIface {d n : Nat} {T : TypeId} {x : Operand} {v : V} {c : Value} (hT : K.P.concrete T = true) (hw : Wants ops S ⟨some d, .makeInterface T x, ty, pos, after, g⟩ true) (hx : evl K S x = v) (hc : conV n v = some c) (hN : Nat.blt d K.N = true)
  (k : AOps K ops rest Q (S.put d (.con (.iface T c)))) : AOps K ops (⟨some d, .makeInterface T x, ty, pos, after, g⟩ :: rest) Q S :=
 aops_val _ hw hN (fun m β w a r => by
  have := r.reads x
  rw [hx] at this
  have := conV_ok hc this
  exact ⟨.iface T c, by simp only [execOp, this]; exact run_value (Go.run_makeInterface w T c hT), .imm (.con _)⟩) k
def clI (t : TT) (e : Env) : Op → Option (Nat × List V)
 | .call c => (match c.callee with
  | .invoke x name => (match evC e x with
   | some (.con (.iface T v)) => (match ask t T (TF.qM name) with
    | some f => (match evL e c.args.toList with
     | some vs => (match frc (unC v :: vs) with | some r => some (f, r) | none => none)
     | none => none)
    | none => none)
   | _ => none)
  | .value x => (match evC e x with
   | some (.con (.func (.method name) first caps)) => (match first.toList, caps.toList with
    | [.iface T v], [] => (match ask t T (TF.qM name) with
     | some f => (match evL e c.args.toList with
      | some vs => (match frc (unC v :: vs) with | some r => some (f, r) | none => none)
      | none => none)
     | none => none)
    | _, _ => none)
   | _ => none)
  | _ => none)
 | _ => none
theorem evL_at {e : Env} (ha : Ag e S) : ∀ {l : List Operand} {vs : List V}, evL e l = some vs → vs = l.map (evl K S) := fun h => (evL_ok ha h).symm
theorem clI_run0 (ht : TTok K.P t) {e : Env} (ha : Ag e S) {o : Oper} {f : Nat} {avs : List V} (h : clI t e o.op = some (f, avs)) :
  ∀ m β w a, Rel K m β w a S → ∃ vs : Array Value, (execOp a.eval o).run K.P w = .ok (.enter f vs) w ∧ VRels m β avs vs := by
 obtain ⟨dst, op, ty', pos, after, g⟩ := o
 cases op <;> simp only [clI, reduceCtorEq] at h
 rename_i c
 obtain ⟨callee, args, at'⟩ := c
 simp only at h
 split at h
 ·rename_i x name
  split at h
  ·rename_i T v hx
   split at h
   ·rename_i f' hm
    split at h
    ·rename_i vs hv
     split at h
     ·rename_i q hq
      simp only [Option.some.injEq, Prod.mk.injEq] at h
      obtain ⟨rfl, rfl⟩ := h
      have hq := frc_ok hq
      have hv := evL_at (K := K) ha hv
      have hmm := (askM ht hm).1
      subst hq
      intro m β w a r
      have hr := r.con (evC_ok (K := K) ha hx)
      refine ⟨#[v] ++ args.map a.eval, ?_, ?_⟩
      ·have : (execOp a.eval ⟨dst, .call ⟨.invoke x name, args, at'⟩, ty', pos, after, g⟩) = callMethod (.iface T v) name (args.map a.eval) := by
        simp only [execOp, resolve, hr, pure_bind]
        show invoke (.fn (.method name) #[]) (#[Value.iface T v] ++ args.map a.eval) = _
        simp only [invoke]
        rw [show (#[Value.iface T v] ++ args.map a.eval)[0]? = some (Value.iface T v) by rw [Array.getElem?_append_left (by simp)]; rfl]
        simp only
        congr 1
        apply Array.ext'
        simp
        exact List.take_of_length_le (by simp)
       rw [this]
       exact hmm v (args.map a.eval) w
      ·refine ⟨by simp [hv]; omega, fun i c u h1 h2 => ?_⟩
       cases i with
       | zero =>
        rw [Array.getElem?_append_left (by simp)] at h2
        simp at h1 h2; subst h1; subst h2; exact unC_ok v
       | succ i =>
        simp only [List.getElem?_cons_succ, hv, List.getElem?_map, Array.getElem?_toList] at h1
        rw [Array.getElem?_append_right (by simp)] at h2
        simp only [List.size_toArray, List.length_cons, List.length_nil, Nat.zero_add, Nat.add_sub_cancel, Array.getElem?_map] at h2
        cases ho : args[i]? with
        | none => rw [ho] at h1; simp at h1
        | some y =>
         rw [ho] at h1 h2
         simp at h1 h2
         subst h1; subst h2
         exact r.reads y
     ·simp at h
    ·simp at h
   ·simp at h
  ·simp at h
 ·rename_i x
  split at h
  ·rename_i name first caps hx
   split at h
   ·rename_i T v hf1 hc1
    have hf1 := toList_one hf1
    have hc1 := toList_nil hc1
    subst hf1 hc1
    split at h
    ·rename_i f' hm
     split at h
     ·rename_i vs hv
      split at h
      ·rename_i q hq
       simp only [Option.some.injEq, Prod.mk.injEq] at h
       obtain ⟨rfl, rfl⟩ := h
       have hq := frc_ok hq
       have hv := evL_at (K := K) ha hv
       have hmm := (askM ht hm).1
       subst hq
       intro m β w a r
       have hr := r.con (evC_ok (K := K) ha hx)
       refine ⟨#[v] ++ args.map a.eval, ?_, ?_⟩
       ·have : (execOp a.eval ⟨dst, .call ⟨.value x, args, at'⟩, ty', pos, after, g⟩) = callMethod (.iface T v) name (args.map a.eval) := by
         simp only [execOp, resolve, hr, Deferred.ofValue, pure_bind]
         show invoke (.fn (.method name) #[]) (#[Value.iface T v] ++ args.map a.eval) = _
         simp only [invoke]
         rw [show (#[Value.iface T v] ++ args.map a.eval)[0]? = some (Value.iface T v) by rw [Array.getElem?_append_left (by simp)]; rfl]
         simp only
         congr 1
         apply Array.ext'
         simp
         exact List.take_of_length_le (by simp)
        rw [this]
        exact hmm v (args.map a.eval) w
       ·refine ⟨by simp [hv]; omega, fun i c u h1 h2 => ?_⟩
        cases i with
        | zero =>
         rw [Array.getElem?_append_left (by simp)] at h2
         simp at h1 h2; subst h1; subst h2; exact unC_ok v
        | succ i =>
         simp only [List.getElem?_cons_succ, hv, List.getElem?_map, Array.getElem?_toList] at h1
         rw [Array.getElem?_append_right (by simp)] at h2
         simp only [List.size_toArray, List.length_cons, List.length_nil, Nat.zero_add, Nat.add_sub_cancel, Array.getElem?_map] at h2
         cases ho : args[i]? with
         | none => rw [ho] at h1; simp at h1
         | some y =>
          rw [ho] at h1 h2
          simp at h1 h2
          subst h1; subst h2
          exact r.reads y
      ·simp at h
     ·simp at h
    ·simp at h
   ·simp at h
  ·simp at h
 ·simp at h
theorem aops_mkMeth {d : Nat} {name : String} {x : Operand} {iv : Value} (hw : Wants ops S ⟨some d, .makeFunc (.method name) #[x] #[], ty, pos, after, g⟩ true) (hx : evl K S x = .con iv) (hN : Nat.blt d K.N = true)
  (k : AOps K ops rest Q (S.put d (.con (.func (.method name) #[iv] #[])))) : AOps K ops (⟨some d, .makeFunc (.method name) #[x] #[], ty, pos, after, g⟩ :: rest) Q S :=
 aops_val _ hw hN (fun m β w a r => ⟨.func (.method name) #[iv] #[], by simp only [execOp]; exact run_value (by simp [Instr.makeFunc, pure, r.con hx]), .imm (.con _)⟩) k
theorem aops_nilMeth {d : Nat} {name : String} {x : Operand} {T : TypeId} {v : Value} (hT : ∀ (v : Value) (w : World), (nilAhead (K.P.types.size + Made.depth) T v name).run K.P w = .ok (some false) w) (hw : Wants ops S ⟨some d, .nilCheck x, ty, pos, after, g⟩ true) (hx : evl K S x = .con (.func (.method name) #[.iface T v] #[])) (hN : Nat.blt d K.N = true)
  (k : AOps K ops rest Q (S.put d (.con (.func (.method name) #[.iface T v] #[])))) : AOps K ops (⟨some d, .nilCheck x, ty, pos, after, g⟩ :: rest) Q S :=
 aops_val _ hw hN (fun m β w a r => ⟨.func (.method name) #[.iface T v] #[], by
  simp only [execOp, r.con hx]
  simp [Sem.run_bind, hT, Result.andThen, pure], .imm (.con _)⟩) k
theorem run_eqNilM {P : Program} {w : World} {T : TypeId} {x y : Operand} (neg : Bool) (hT : tyMp P T = true) (b : Option Nat) :
      (do eqGuard (if neg then .neq else .eql) T x y (.map b) (.map none); binOp (if neg then .neq else .eql) T (.map b) (.map none) : Sem Value).run P w = .ok (.bool (if neg then !b.isNone else b.isNone)) w := by
  obtain ⟨k, e, hu⟩ : ∃ k e, P.underlying T = some (.map k e) := by
    unfold tyMp at hT
    split at hT
    · exact ⟨_, _, ‹_›⟩
    · simp at hT
  have hd : (10000 : Nat) = 9999 + 1 := rfl
  have hg : ∀ op : BinOp, (eqGuard op T x y (.map b) (.map none)).run P w = .ok () w := by
    intro op; unfold eqGuard; cases op <;> simp [pure]
  have hq : (Op.equal T (.map b) (.map none)).run P w = .ok b.isNone w := by
    rw [Op.equal, Op.maxDepth, hd, Op.equalIn]
    simp only [Sem.run_bind, run_underlying hu, Result.andThen_ok]
    cases b <;> rfl
  rw [Sem.run_bind, hg, Result.andThen_ok]
  cases neg
  · simp only [Bool.false_eq_true, if_false, binOp, Sem.run_bind, hq, Result.andThen_ok]; rfl
  · simp only [if_true, binOp, Sem.run_bind, hq, Result.andThen_ok]; rfl
def mapNil : V → Option Bool
 | .con (.map none) => some true
 | .map _ => some false
 | _ => none
theorem aops_eqNilM {d : Nat} {x y : Operand} {T T' : TypeId} {v : V} {b : Bool} (neg : Bool) (hT : tyMp K.P T = true) (hw : Wants ops S ⟨some d, .binOp (if neg then .neq else .eql) T x y T', ty, pos, after, g⟩ true)
  (hx : evl K S x = v) (hv : mapNil v = some b) (hy : evl K S y = .con (.map none)) (hN : Nat.blt d K.N = true)
  (k : AOps K ops rest Q (S.put d (.con (.bool (if neg then !b else b))))) : AOps K ops (⟨some d, .binOp (if neg then .neq else .eql) T x y T', ty, pos, after, g⟩ :: rest) Q S :=
 aops_val _ hw hN (fun m β w a r => by
  have h := r.reads x
  rw [hx] at h
  have key : ∃ o, a.eval x = .map o ∧ o.isNone = b := by
   generalize a.eval x = u at h
   unfold mapNil at hv
   split at hv
   ·simp at hv; subst hv; exact ⟨none, h.of_con, rfl⟩
   ·simp at hv; subst hv
    cases h with
    | imm h => cases h
    | map hb => exact ⟨_, rfl, rfl⟩
   ·simp at hv
  obtain ⟨o, ho, hb⟩ := key
  have hr := run_eqNilM (P := K.P) (w := w) (x := x) (y := y) neg hT o
  refine ⟨.bool (if neg then !b else b), ?_, .imm (.con _)⟩
  simp only [execOp, ho, r.con hy]
  rw [← hb]
  exact run_value hr) k
end
end Go.Pv
