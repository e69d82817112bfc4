/- Part of the proof: EXC. -/
import Derived.Test.YtpbkggamiipdmaaGreatR3EXB
namespace Go.Pv
open Go
section
variable {K : Ctx} {Q : Post} {S S' : St} {ops : Array Oper} {rest : List Oper} {t : TT}
def od2 (cb : Nat → List V → Option V) (cb2 : Nat → List V → Heap → Nat → Option (V × Heap × Nat)) (t : TT) (mt : List MT) (N fr : Nat) (ops : Array Oper) (o : Oper) (e : Env) (hp : Heap) (nx : Nat) : Option (OD × Nat) :=
  match rdO2 ops o e with
  | none => none
  | some re => (match wt ops re o.guard with
    | none => none
    | some b => (match b with
      | false => (match o.dst with | some d => (match Nat.blt d N with | true => some (⟨re, [], [(d, .con undef)], []⟩, fr) | false => none) | none => none)
      | true => (match hrL re hp (hrO o.op) [] with
        | none => none
        | some rh => (match o.dst with
          | some d => (match Nat.blt d N with
            | false => none
            | true => (match val t re rh o.op with
              | some v => some (⟨re, rh, [(d, v)], []⟩, fr)
              | none => (match alY t re fr o.op with
                | some (v, ob) => (match Nat.blt fr nx, hgC hp fr with
                  | true, some .res => some (⟨re, (fr, .res) :: rh, [(d, v)], [(fr, ob)]⟩, fr + 1)
                  | _, _ => none)
                | none => (match clD re o.op with
                  | some (f, avs) => (match allNB immB avs, cb f avs with
                    | true, some v => some (⟨re, rh, [(d, v)], []⟩, fr)
                    | _, _ => (match clB cb2 f avs hp fr nx with
                      | some (dv, rh2, u, fr') => some (⟨re, rh2, [(d, dv)], u⟩, fr')
                      | none => none))
                  | none => (match oneY t mt re rh nx o.op with
                    | some (v, [], 0) => some (⟨re, rh, [(d, v)], []⟩, fr)
                    | _ => none)))))
          | none => (match wrY t mt re rh o.op with | some (id, ob) => some (⟨re, rh, [], [(id, ob)]⟩, fr) | none => none)))))
theorem od2_ok {cb : Nat → List V → Option V} {cb2 : Nat → List V → Heap → Nat → Option (V × Heap × Nat)} (hcb2 : ∀ f avs hp k v hp' k', cb2 f avs hp k = some (v, hp', k') → fnOk K.P f = true ∧ MutG K.gl K.P f avs k hp v k' hp') (hcb : ∀ f avs v, cb f avs = some v → fnOk K.P f = true ∧ PureG K.gl K.P f avs v) (ht : TTok K.P t) {mt : List MT} (hmt : MTok K.P mt) {o : Oper} {D : OD} {e : Env} {hp : Heap} {fr fr' nx : Nat} (hpin : K.pins ≤ fr)
    (h : od2 cb cb2 t mt K.N fr ops o e hp nx = some (D, fr')) : OStep K nx ops o D ∧ RdE e D.re ∧ RdH hp D.rh ∧ fr ≤ fr' := by
  unfold od2 at h
  split at h
  · simp at h
  · rename_i re hre
    have hre' := rdO2_ok hre
    split at h
    · simp at h
    · rename_i b hw
      split at h
      · split at h
        · rename_i d hd
          split at h
          · rename_i hN
            simp at h; obtain ⟨rfl, rfl⟩ := h
            exact ⟨fun S2 hn h1 h2 => aops_skip (wt_ok (ag_rdE h1) hw) hd hN (aops_nil ⟨rfl, rfl⟩), hre', trivial, Nat.le_refl _⟩
          · simp at h
        · simp at h
      · split at h
        · simp at h
        · rename_i rh hrh
          have hrh' := hrL_ok (l := []) trivial hrh
          obtain ⟨dst, op, ty, pos, after, g⟩ := o
          cases dst with
          | some d =>
            simp only at h
            split at h
            · simp at h
            · rename_i hN
              split at h
              · rename_i v hv
                simp at h; obtain ⟨rfl, rfl⟩ := h
                exact ⟨fun S2 hn h1 h2 => val_ok ht (ag_rdE h1) (ag_rdH h2) hv (wt_ok (ag_rdE h1) hw) hN (aops_nil ⟨rfl, rfl⟩), hre', hrh', Nat.le_refl _⟩
              · split at h
                · rename_i v ob hv
                  split at h
                  · rename_i hb hres
                    simp at h; obtain ⟨rfl, rfl⟩ := h
                    exact ⟨fun S2 hn h1 h2 => alY_ok ht (ag_rdE h1) hv (by rw [hb, Bool.true_and]; exact Nat.ble_eq_true_of_le hpin) hn h2.1 (wt_ok (ag_rdE h1) hw) hN (aops_nil ⟨rfl, rfl⟩), hre', ⟨hgC_ok hres, hrh'⟩, Nat.le_succ _⟩
                  · simp at h
                · split at h
                  · rename_i f avs hc
                    split at h
                    · rename_i v hai hcv
                      simp at h; obtain ⟨rfl, rfl⟩ := h
                      obtain ⟨q1, q2⟩ := hcb _ _ _ hcv
                      refine ⟨fun S2 hn h1 h2 => ?_, hre', hrh', Nat.le_refl _⟩
                      refine aops_calls (o := ⟨some d, op, ty, pos, after, g⟩) (wt_ok (ag_rdE h1) hw) rfl hN (fun m β w a r => ?_) q2 (aops_nil ⟨rfl, rfl⟩)
                      obtain ⟨vs, e1, e2⟩ := clD_run0 (o := ⟨some d, op, ty, pos, after, g⟩) (ag_rdE h1) hc q1 m β w a r
                      exact ⟨vs, e1, ⟨e2.len, fun i c v a b => immN_ok (allN_ok hai c (List.mem_of_getElem? a)) (e2.at' i c v a b)⟩⟩
                    · split at h
                      · rename_i dv rh2 u fr2 hB
                        simp only [Option.some.injEq, Prod.mk.injEq] at h; obtain ⟨rfl, rfl⟩ := h
                        have p := fun (Q : Post) => clB_ok (Q := Q) (ops := ops) (rest := []) hcb2 hB hpin (o := ⟨some d, op, ty, pos, after, g⟩) hc rfl hN
                        exact ⟨fun S2 hn h1 h2 => (p _).2.2 S2 hn (ag_rdE h1) h2 (wt_ok (ag_rdE h1) hw) (aops_nil ⟨rfl, rfl⟩), hre', (p (fun _ _ => True)).1, (p (fun _ _ => True)).2.1⟩
                      · simp at h
                  · split at h
                    · rename_i v hv
                      simp at h; obtain ⟨rfl, rfl⟩ := h
                      exact ⟨fun S2 hn h1 h2 => oneY_ok ht hmt (ag_rdE h1) (ag_rdH h2) hn hv (wt_ok (ag_rdE h1) hw) hN (aops_nil ⟨rfl, rfl⟩), hre', hrh', Nat.le_refl _⟩
                    · simp at h
          | none =>
            simp only at h
            split at h
            · rename_i id ob hv
              simp at h; obtain ⟨rfl, rfl⟩ := h
              exact ⟨fun S2 hn h1 h2 => wrY_ok ht hmt (ag_rdE h1) (ag_rdH h2) hv (wt_ok (ag_rdE h1) hw) (aops_nil ⟨rfl, rfl⟩), hre', hrh', Nat.le_refl _⟩
            · simp at h
theorem get_appc {e e' : Env} (h : ∀ t, get e t = get e' t) : ∀ (u : Env) (t : Nat), get (u ++ e) t = get (u ++ e') t
  | [], t => h t
  | (i, o) :: u, t => by
    show get ((i, o) :: (u ++ e)) t = get ((i, o) :: (u ++ e')) t
    rw [get_put, get_put, get_appc h u]
theorem hget_appc {e e' : Heap} (h : ∀ t, hget e t = hget e' t) : ∀ (u : Heap) (t : Nat), hget (u ++ e) t = hget (u ++ e') t
  | [], t => h t
  | (i, o) :: u, t => by
    show hget ((i, o) :: (u ++ e)) t = hget ((i, o) :: (u ++ e')) t
    rw [hget_put, hget_put, hget_appc h u]
def drR (cb : Nat → List V → Option V) (cb2 : Nat → List V → Heap → Nat → Option (V × Heap × Nat)) (t : TT) (mt : List MT) (N : Nat) (ops : Array Oper) : List Oper → Nat → Env → Heap → Nat → Option (List OD × Env × Heap)
  | [], _, e, hp, _ => some ([], e, hp)
  | o :: l, fr, e, hp, nx => (match od2 cb cb2 t mt N fr ops o e hp nx with
    | some (D, fr') => (match drR cb cb2 t mt N ops l fr' (putsE D.ue e) (putsH D.uh hp) nx with | some (ds, e', hp') => some (D :: ds, e', hp') | none => none)
    | none => none)
theorem drR_ok {cb : Nat → List V → Option V} {cb2 : Nat → List V → Heap → Nat → Option (V × Heap × Nat)} (hcb2 : ∀ f avs hp k v hp' k', cb2 f avs hp k = some (v, hp', k') → fnOk K.P f = true ∧ MutG K.gl K.P f avs k hp v k' hp') (hcb : ∀ f avs v, cb f avs = some v → fnOk K.P f = true ∧ PureG K.gl K.P f avs v) (ht : TTok K.P t) {mt : List MT} (hmt : MTok K.P mt) {nx : Nat} :
    ∀ {l : List Oper} {fr : Nat} {e e' : Env} {hp hp' : Heap} {ds : List OD} {S : St}, K.pins ≤ fr → drR cb cb2 t mt K.N ops l fr e hp nx = some (ds, e', hp') → S.nx = nx → (∀ t, get S.env t = get e t) → (∀ t, hget S.hp t = hget hp t) →
    LexOk S ds ∧ OSteps K nx ops l ds ∧ (∀ t, get (lexEnd S ds).env t = get e' t) ∧ (∀ t, hget (lexEnd S ds).hp t = hget hp' t) ∧ (lexEnd S ds).nx = nx
  | [], fr, e, e', hp, hp', ds, S, hpin, h, hn, h1, h2 => by
    simp [drR] at h; obtain ⟨rfl, rfl, rfl⟩ := h
    exact ⟨trivial, .nil, h1, h2, hn⟩
  | o :: l, fr, e, e', hp, hp', ds, S, hpin, h, hn, h1, h2 => by
    simp only [drR] at h
    split at h
    · rename_i D fr' hD
      obtain ⟨a1, a2, a3, a4⟩ := od2_ok hcb2 hcb ht hmt hpin hD
      split at h
      · rename_i ds' e2 hp2 hR
        simp at h; obtain ⟨rfl, rfl, rfl⟩ := h
        have := drR_ok hcb2 hcb ht hmt (S := S.upd D) (Nat.le_trans hpin a4) hR hn (fun t => (get_appc h1 _ t).trans (get_putsE _ _ t).symm) (fun t => (hget_appc h2 _ t).trans (hget_putsH _ _ t).symm)
        exact ⟨⟨RdE.congr (fun t _ => (h1 t).symm) a2, RdH.congr (fun t _ => (h2 t).symm) a3, this.1⟩, .cons a1 this.2.1, this.2.2⟩
      · simp at h
    · simp at h
/-- Numbers kept free. -/
def resH (nx : Nat) : Nat → Heap → Heap
  | 0, hp => hp
  | n + 1, hp => (nx + n, .res) :: resH nx n hp
theorem awp_res {c : Code} {e : Env} {hp : Heap} {nx : Nat} : ∀ (n : Nat), AWP K c Q ⟨e, resH nx n hp, nx + n⟩ → AWP K c Q ⟨e, hp, nx⟩
  | 0, h => h
  | n + 1, h => awp_res n (awp_ghost ghost_res h)
theorem awp_pins {c : Code} (h : K.pins ≤ S.nx → AWP K c Q S) : AWP K c Q S := by
  intro m β w a r
  refine h ?_ m β w a r
  cases hp : K.pins with
  | zero => exact Nat.zero_le _
  | succ q => have := (r.pin q (by omega)).1; omega
theorem awp_dr {cb : Nat → List V → Option V} {cb2 : Nat → List V → Heap → Nat → Option (V × Heap × Nat)} (hcb2 : ∀ f avs hp k v hp' k', cb2 f avs hp k = some (v, hp', k') → fnOk K.P f = true ∧ MutG K.gl K.P f avs k hp v k' hp') (hcb : ∀ f avs v, cb f avs = some v → fnOk K.P f = true ∧ PureG K.gl K.P f avs v) (ht : TTok K.P t) {mt : List MT} (hmt : MTok K.P mt) (hm : K.P.follows .mixedOrders = true) {rid n nx : Nat} {e e' : Env} {hp hp' : Heap} {ds : List OD}
    (h : drR cb cb2 t mt K.N ops ops.toList nx e (resH nx n hp) (nx + n) = some (ds, e', hp')) (hok : anyOk ops.toList ds = true) (k : ∀ S1, Ghost K S1 ⟨e', hp', nx + n⟩ → Q .normal S1) : AWP K (.region rid ops true) Q ⟨e, hp, nx⟩ := by
  refine awp_pins (fun hpin => awp_res n ?_)
  obtain ⟨l⟩ := ops
  obtain ⟨a1, a2, a3, a4, a5⟩ := drR_ok hcb2 hcb ht hmt (S := ⟨e, resH nx n hp, nx + n⟩) hpin h rfl (fun _ => rfl) (fun _ => rfl)
  exact awp_any ds hm a1 hok a2 (k _ (fun m β _ _ r => ⟨m, β, r.congr (fun t => (a3 t).symm) (fun t => (a4 t).symm) a5.symm⟩))
end
end Go.Pv
