/- Part of the proof: EXC, EW, RTz, REz, Z5Sh. -/
import Derived.Test.YtpbkggamiipdmaaGreatS5EXB
import Derived.Test.YtpbkggamiipdmaaGreatProg
import Derived.KernelRfl
import Derived.Shelf.Strconv.Itoa0
import Derived.Shelf.Sort.Plain
import Derived.Ground.Names2Prog
import Derived.Shelf.Slices.CompactI
import Derived.Shelf.Slices.CompactS
import Derived.Shelf.Slices.SearchI
import Derived.Shelf.Slices.In.SortNone
import Derived.Ground.SlsfProg
import Derived.Shelf.SlSortCmp.WholeK
import Derived.Shelf.SlSortCmp.NoneTotal
namespace Go.Pv
open Go
section
variable {K : Ctx} {Q : Post} {S S' : St} {ops : Array Oper} {rest : List Oper} {t : TT}
def od2 (cb : Nat → List V → Option V) (cb2 : Nat → List V → Heap → Nat → Option (V × Heap × Nat)) (t : TT) (mt : List MT) (N fr : Nat) (ops : Array Oper) (o : Oper) (e : Env) (hp : Heap) (nx : Nat) : Option (OD × Nat) :=
 match rdO2 ops o e with
 | none => none
 | some re => (match wt ops re o.guard with
  | none => none
  | some b => (match b with
   | false => (match o.dst with | some d => (match Nat.blt d N with | true => some (⟨re, [], [(d, .con undef)], []⟩, fr) | false => none) | none => none)
   | true => (match hrL re hp (hrO o.op) [] with
    | none => none
    | some rh => (match o.dst with
     | some d => (match Nat.blt d N with
      | false => none
      | true => (match val t re rh o.op with
       | some v => some (⟨re, rh, [(d, v)], []⟩, fr)
       | none => (match alY t re fr o.op with
        | some (v, ob) => (match Nat.blt fr nx, hgC hp fr with
         | true, some .res => some (⟨re, (fr, .res) :: rh, [(d, v)], [(fr, ob)]⟩, fr + 1)
         | _, _ => none)
        | none => (match clD re o.op with
         | some (f, avs) => (match allNB immB avs, cb f avs with
          | true, some v => some (⟨re, rh, [(d, v)], []⟩, fr)
          | _, _ => (match clB cb2 f avs hp fr nx with
           | some (dv, rh2, u, fr') => some (⟨re, rh2, [(d, dv)], u⟩, fr')
           | none => none))
         | none => (match oneY t mt re rh nx o.op with
          | some (v, [], 0) => some (⟨re, rh, [(d, v)], []⟩, fr)
          | _ => none)))))
     | none => (match wrY t mt re rh o.op with | some (id, ob) => some (⟨re, rh, [], [(id, ob)]⟩, fr) | none => none)))))
theorem od2_ok {cb : Nat → List V → Option V} {cb2 : Nat → List V → Heap → Nat → Option (V × Heap × Nat)} (hcb2 : ∀ f avs hp k v hp' k', cb2 f avs hp k = some (v, hp', k') → fnOk K.P f = true ∧ MutG K.gl K.P f avs k hp v k' hp') (hcb : ∀ f avs v, cb f avs = some v → fnOk K.P f = true ∧ PureG K.gl K.P f avs v) (ht : TTok K.P t) {mt : List MT} (hmt : MTok K.P mt) {o : Oper} {D : OD} {e : Env} {hp : Heap} {fr fr' nx : Nat} (hpin : K.pins ≤ fr)
  (h : od2 cb cb2 t mt K.N fr ops o e hp nx = some (D, fr')) : OStep K nx ops o D ∧ RdE e D.re ∧ RdH hp D.rh ∧ fr ≤ fr' := by
 unfold od2 at h
 split at h
 ·simp at h
 ·rename_i re hre
  have hre' := rdO2_ok hre
  split at h
  ·simp at h
  ·rename_i b hw
   split at h
   ·split at h
    ·rename_i d hd
     split at h
     ·rename_i hN
      simp at h; obtain ⟨rfl, rfl⟩ := h
      exact ⟨fun S2 hn h1 h2 => aops_skip (wt_ok (ag_rdE h1) hw) hd hN (aops_nil ⟨rfl, rfl⟩), hre', trivial, Nat.le_refl _⟩
     ·simp at h
    ·simp at h
   ·split at h
    ·simp at h
    ·rename_i rh hrh
     have hrh' := hrL_ok (l := []) trivial hrh
     obtain ⟨dst, op, ty, pos, after, g⟩ := o
     cases dst with
     | some d =>
      simp only at h
      split at h
      ·simp at h
      ·rename_i hN
       split at h
       ·rename_i v hv
        simp at h; obtain ⟨rfl, rfl⟩ := h
        exact ⟨fun S2 hn h1 h2 => val_ok ht (ag_rdE h1) (ag_rdH h2) hv (wt_ok (ag_rdE h1) hw) hN (aops_nil ⟨rfl, rfl⟩), hre', hrh', Nat.le_refl _⟩
       ·split at h
        ·rename_i v ob hv
         split at h
         ·rename_i hb hres
          simp at h; obtain ⟨rfl, rfl⟩ := h
          exact ⟨fun S2 hn h1 h2 => alY_ok ht (ag_rdE h1) hv (by rw [hb, Bool.true_and]; exact Nat.ble_eq_true_of_le hpin) hn h2.1 (wt_ok (ag_rdE h1) hw) hN (aops_nil ⟨rfl, rfl⟩), hre', ⟨hgC_ok hres, hrh'⟩, Nat.le_succ _⟩
         ·simp at h
        ·split at h
         ·rename_i f avs hc
          split at h
          ·rename_i v hai hcv
           simp at h; obtain ⟨rfl, rfl⟩ := h
           obtain ⟨q1, q2⟩ := hcb _ _ _ hcv
           refine ⟨fun S2 hn h1 h2 => ?_, hre', hrh', Nat.le_refl _⟩
           refine aops_calls (o := ⟨some d, op, ty, pos, after, g⟩) (wt_ok (ag_rdE h1) hw) rfl hN (fun m β w a r => ?_) q2 (aops_nil ⟨rfl, rfl⟩)
           obtain ⟨vs, e1, e2⟩ := clD_run0 (o := ⟨some d, op, ty, pos, after, g⟩) (ag_rdE h1) hc q1 m β w a r
           exact ⟨vs, e1, ⟨e2.len, fun i c v a b => immN_ok (allN_ok hai c (List.mem_of_getElem? a)) (e2.at' i c v a b)⟩⟩
          ·split at h
           ·rename_i dv rh2 u fr2 hB
            simp only [Option.some.injEq, Prod.mk.injEq] at h; obtain ⟨rfl, rfl⟩ := h
            have p := fun (Q : Post) => clB_ok (Q := Q) (ops := ops) (rest := []) hcb2 hB hpin (o := ⟨some d, op, ty, pos, after, g⟩) hc rfl hN
            exact ⟨fun S2 hn h1 h2 => (p _).2.2 S2 hn (ag_rdE h1) h2 (wt_ok (ag_rdE h1) hw) (aops_nil ⟨rfl, rfl⟩), hre', (p (fun _ _ => True)).1, (p (fun _ _ => True)).2.1⟩
           ·simp at h
         ·split at h
          ·rename_i v hv
           simp at h; obtain ⟨rfl, rfl⟩ := h
           exact ⟨fun S2 hn h1 h2 => oneY_ok ht hmt (ag_rdE h1) (ag_rdH h2) hn hv (wt_ok (ag_rdE h1) hw) hN (aops_nil ⟨rfl, rfl⟩), hre', hrh', Nat.le_refl _⟩
          ·simp at h
     | none =>
      simp only at h
      split at h
      ·rename_i id ob hv
       simp at h; obtain ⟨rfl, rfl⟩ := h
       exact ⟨fun S2 hn h1 h2 => wrY_ok ht hmt (ag_rdE h1) (ag_rdH h2) hv (wt_ok (ag_rdE h1) hw) (aops_nil ⟨rfl, rfl⟩), hre', hrh', Nat.le_refl _⟩
      ·simp at h
theorem get_appc {e e' : Env} (h : ∀ t, get e t = get e' t) : ∀ (u : Env) (t : Nat), get (u ++ e) t = get (u ++ e') t
 | [], t => h t
 | (i, o) :: u, t => by
  show get ((i, o) :: (u ++ e)) t = get ((i, o) :: (u ++ e')) t
  rw [get_put, get_put, get_appc h u]
theorem hget_appc {e e' : Heap} (h : ∀ t, hget e t = hget e' t) : ∀ (u : Heap) (t : Nat), hget (u ++ e) t = hget (u ++ e') t
 | [], t => h t
 | (i, o) :: u, t => by
  show hget ((i, o) :: (u ++ e)) t = hget ((i, o) :: (u ++ e')) t
  rw [hget_put, hget_put, hget_appc h u]
def drR (cb : Nat → List V → Option V) (cb2 : Nat → List V → Heap → Nat → Option (V × Heap × Nat)) (t : TT) (mt : List MT) (N : Nat) (ops : Array Oper) : List Oper → Nat → Env → Heap → Nat → Option (List OD × Env × Heap)
 | [], _, e, hp, _ => some ([], e, hp)
 | o :: l, fr, e, hp, nx => (match od2 cb cb2 t mt N fr ops o e hp nx with
  | some (D, fr') => (match drR cb cb2 t mt N ops l fr' (putsE D.ue e) (putsH D.uh hp) nx with | some (ds, e', hp') => some (D :: ds, e', hp') | none => none)
  | none => none)
theorem drR_ok {cb : Nat → List V → Option V} {cb2 : Nat → List V → Heap → Nat → Option (V × Heap × Nat)} (hcb2 : ∀ f avs hp k v hp' k', cb2 f avs hp k = some (v, hp', k') → fnOk K.P f = true ∧ MutG K.gl K.P f avs k hp v k' hp') (hcb : ∀ f avs v, cb f avs = some v → fnOk K.P f = true ∧ PureG K.gl K.P f avs v) (ht : TTok K.P t) {mt : List MT} (hmt : MTok K.P mt) {nx : Nat} :
  ∀ {l : List Oper} {fr : Nat} {e e' : Env} {hp hp' : Heap} {ds : List OD} {S : St}, K.pins ≤ fr → drR cb cb2 t mt K.N ops l fr e hp nx = some (ds, e', hp') → S.nx = nx → (∀ t, get S.env t = get e t) → (∀ t, hget S.hp t = hget hp t) →
  LexOk S ds ∧ OSteps K nx ops l ds ∧ (∀ t, get (lexEnd S ds).env t = get e' t) ∧ (∀ t, hget (lexEnd S ds).hp t = hget hp' t) ∧ (lexEnd S ds).nx = nx
 | [], fr, e, e', hp, hp', ds, S, hpin, h, hn, h1, h2 => by
  simp [drR] at h; obtain ⟨rfl, rfl, rfl⟩ := h
  exact ⟨trivial, .nil, h1, h2, hn⟩
 | o :: l, fr, e, e', hp, hp', ds, S, hpin, h, hn, h1, h2 => by
  simp only [drR] at h
  split at h
  ·rename_i D fr' hD
   obtain ⟨a1, a2, a3, a4⟩ := od2_ok hcb2 hcb ht hmt hpin hD
   split at h
   ·rename_i ds' e2 hp2 hR
    simp at h; obtain ⟨rfl, rfl, rfl⟩ := h
    have := drR_ok hcb2 hcb ht hmt (S := S.upd D) (Nat.le_trans hpin a4) hR hn (fun t => (get_appc h1 _ t).trans (get_putsE _ _ t).symm) (fun t => (hget_appc h2 _ t).trans (hget_putsH _ _ t).symm)
    exact ⟨⟨RdE.congr (fun t _ => (h1 t).symm) a2, RdH.congr (fun t _ => (h2 t).symm) a3, this.1⟩, .cons a1 this.2.1, this.2.2⟩
   ·simp at h
  ·simp at h
def resH (nx : Nat) : Nat → Heap → Heap
 | 0, hp => hp
 | n + 1, hp => (nx + n, .res) :: resH nx n hp
theorem awp_res {c : Code} {e : Env} {hp : Heap} {nx : Nat} : ∀ (n : Nat), AWP K c Q ⟨e, resH nx n hp, nx + n⟩ → AWP K c Q ⟨e, hp, nx⟩
 | 0, h => h
 | n + 1, h => awp_res n (awp_ghost ghost_res h)
theorem awp_pins {c : Code} (h : K.pins ≤ S.nx → AWP K c Q S) : AWP K c Q S := by
 intro m β w a r
 refine h ?_ m β w a r
 cases hp : K.pins with
 | zero => exact Nat.zero_le _
 | succ q => have := (r.pin q (by omega)).1; omega
theorem awp_dr {cb : Nat → List V → Option V} {cb2 : Nat → List V → Heap → Nat → Option (V × Heap × Nat)} (hcb2 : ∀ f avs hp k v hp' k', cb2 f avs hp k = some (v, hp', k') → fnOk K.P f = true ∧ MutG K.gl K.P f avs k hp v k' hp') (hcb : ∀ f avs v, cb f avs = some v → fnOk K.P f = true ∧ PureG K.gl K.P f avs v) (ht : TTok K.P t) {mt : List MT} (hmt : MTok K.P mt) (hm : K.P.follows .mixedOrders = true) {rid n nx : Nat} {e e' : Env} {hp hp' : Heap} {ds : List OD}
  (h : drR cb cb2 t mt K.N ops ops.toList nx e (resH nx n hp) (nx + n) = some (ds, e', hp')) (hok : anyOk ops.toList ds = true) (k : ∀ S1, Ghost K S1 ⟨e', hp', nx + n⟩ → Q .normal S1) : AWP K (.region rid ops true) Q ⟨e, hp, nx⟩ := by
 refine awp_pins (fun hpin => awp_res n ?_)
 obtain ⟨l⟩ := ops
 obtain ⟨a1, a2, a3, a4, a5⟩ := drR_ok hcb2 hcb ht hmt (S := ⟨e, resH nx n hp, nx + n⟩) hpin h rfl (fun _ => rfl) (fun _ => rfl)
 exact awp_any ds hm a1 hok a2 (k _ (fun m β _ _ r => ⟨m, β, r.congr (fun t => (a3 t).symm) (fun t => (a4 t).symm) a5.symm⟩))
end
section
variable {K : Ctx} {Q : Post} {S S' : St} {ops : Array Oper} {rest : List Oper} {t : TT}
theorem aops_idcall {o : Oper} {d : Nat} {f : FuncId} {avs : List V} {k' : Nat} {hp' : Heap} {dv : V} (hw : Wants ops S o true) (hd : o.dst = some d) (hN : Nat.blt d K.N = true)
  (hrun : ∀ m β w a, Rel K m β w a S → ∃ vs : Array Value, (execOp a.eval o).run K.P w = .ok (.enter f vs) w ∧ VRels m β avs vs)
  (hc : MutG K.gl K.P f avs S.nx S.hp dv k' hp') (kk : AOps K ops rest Q ⟨(d, dv) :: S.env, hp', k'⟩) : AOps K ops (o :: rest) Q S := by
 intro m β w a r
 unfold wpList
 rw [if_pos (hw.at r)]
 left
 obtain ⟨vs, h1, h2⟩ := hrun m β w a r
 unfold Oper.wp
 rw [h1]
 refine (hc m β w vs r.imm (K.glok.mono r.ext) h2 r.own (fun id b cap hl hb => (r.priv id b cap hl hb).1) r.inj (fun id x hl hx => let q := r.hid id x hl hx; ⟨q.lt, q.m, q.ne, q.un⟩) r.nx).mono ?_
 rintro e w' ⟨v, m', β', rfl, hv, g⟩
 simp only [hd]
 have hle : S.nx ≤ k' := by
  cases hn : S.nx with
  | zero => exact Nat.zero_le _
  | succ q => have := (g.pin q (by omega)).1; omega
 have hβle : β.le β' := by
  intro id l hl
  by_cases h : id < S.nx
  ·rw [(g.pin id h).2]; exact hl
  ·rw [r.nx id (by omega)] at hl; simp at hl
 have hold : ∀ b, b < K.w0.heap.size → K.old b → b < w.heap.size ∧ Foreign S.hp β b := fun b hb ho =>
  ⟨Nat.lt_of_lt_of_le hb r.size, fun i hl => ⟨fun c hb' => (r.priv _ _ _ hl hb').2 hb ho, fun hx => (r.hid _ _ hl hx).old hb ho⟩⟩
 have r2 : Rel K m' β' w' a ⟨S.env, hp', k'⟩ := by
  constructor
  ·exact g.imm
  ·exact Mem.le_trans r.ext g.le
  ·intro b hb ho
   obtain ⟨q1, q2⟩ := hold b hb ho
   rw [(g.old b q1 q2).1]
   exact r.mold b hb ho
  ·intro b hb ho
   obtain ⟨q1, q2⟩ := hold b hb ho
   rw [(g.old b q1 q2).2]
   exact r.frame b hb ho
  ·exact Nat.le_trans r.size g.size
  ·exact r.same.trans g.same
  ·exact r.tn
  ·exact r.df
  ·exact fun t => (r.env t).mono g.le hβle
  ·exact g.own
  ·intro id b cap hl hb
   obtain ⟨q1, q2⟩ := g.priv id b cap hl hb
   exact ⟨q1, fun hb0 ho => q2 (hold b hb0 ho).1 (hold b hb0 ho).2⟩
  ·exact g.inj
  ·intro id x hl hx
   obtain ⟨q1, q2, q3, q4, q5⟩ := g.hid id x hl hx
   exact ⟨q1, q2, fun hb0 ho => q3 (hold x hb0 ho).1 (hold x hb0 ho).2, q4, q5⟩
  ·exact g.nx
  ·intro q hq
   obtain ⟨p1, p2⟩ := r.pin q hq
   have := g.pin q p1
   exact ⟨this.1, this.2.trans p2⟩
 exact kk m' β' w' _ (r2.put hN hv)
def rsvM (t : TT) (e : Env) (hp : Heap) : ResultVar → Option V
 | .tmp x => gtC e x
 | .cell x T => (match gtC e x with
  | some (.ptr id k i o) => (match hgC hp id with
   | some (.arr _ k2 rows) => (match Nat.beq k k2 with | true => (match lgt rows i with | some row => ldV t T row o | none => none) | false => none)
   | _ => none)
  | _ => none)
theorem rsvM_ok (ht : TTok K.P t) {rv : ResultVar} {v : V} (h : rsvM t S.env S.hp rv = some v) : ResOneM K.P S rv v := by
 cases rv with
 | tmp x => exact .tmp (gtC_ok h)
 | cell x T =>
  simp only [rsvM] at h
  split at h
  ·rename_i id k i o hx
   split at h
   ·rename_i k2 rows ho
    split at h
    ·rename_i hk
     have hk := Nat.eq_of_beq_eq_true hk
     subst hk
     split at h
     ·rename_i row hr
      cases hn : ask t T TF.qA with
      | some n =>
       obtain ⟨cs, rfl, hc, hd⟩ := ldV_agg hn h
       exact .agg (askA ht hn) (gtC_ok hx) (hgC_ok ho) (lgt_ok hr) (cut_ok hc).1 (cut_ok hc).2 hd
      | none =>
       obtain ⟨hq, hc, hd⟩ := ldV_cell hn h
       exact .cell (askC ht hq) (gtC_ok hx) (hgC_ok ho) (lgt_ok hr) (lgt_ok hc) hd
     ·simp at h
    ·simp at h
   ·simp at h
  ·simp at h
def rsL (t : TT) (e : Env) (hp : Heap) : List ResultVar → Option (List V)
 | [] => some []
 | r :: l => (match rsvM t e hp r with | some v => (match rsL t e hp l with | some q => some (v :: q) | none => none) | none => none)
theorem rsL_ok (ht : TTok K.P t) : ∀ {l : List ResultVar} {ds : List V}, rsL t S.env S.hp l = some ds → ResL K.P S l ds
 | [], ds, h => by simp [rsL] at h; subst h; exact .nil
 | r :: l, ds, h => by
  simp only [rsL] at h
  split at h
  ·rename_i v hv
   split at h
   ·rename_i q hq; simp at h; subst h; exact .cons (rsvM_ok ht hv) (rsL_ok ht hq)
   ·simp at h
  ·simp at h
abbrev FT := List (Nat × Func)
def FTok (P : Program) (ft : FT) : Prop := ∀ p, p ∈ ft → P.funcs[p.1]? = some p.2 ∧ fnOk P p.1 = true
abbrev XT := List (Nat × (List V → Option V))
def XTok (gl : Gl) (P : Program) (xt : XT) : Prop := ∀ p, p ∈ xt → fnOk P p.1 = true ∧ ∀ avs v, p.2 avs = some v → PureG gl P p.1 avs v
def opOf (N : Nat) (ops : Array Oper) (e : Env) (o : Oper) : Option (Nat × Nat × List V) :=
 match dsC N ops e o with
 | some d => (match clD e o.op with | some (f, avs) => some (d, f, avs) | none => none)
 | none => none
def nAl : List Oper → Nat
 | [] => 0
 | o :: l => (match o.op with | .alloc _ => nAl l + 1 | .box _ _ => nAl l + 1 | .makeMap _ _ => nAl l + 1 | .buildSlice _ _ _ => nAl l + 1 | .makeSlice _ _ _ => nAl l + 1 | .call c => (match c.callee with | .value _ => nAl l + 12 | _ => nAl l) | _ => nAl l)
def evR (ft : FT) (xt : XT) (t : TT) (mt : List MT) : Nat → Nat → List It → St → Option St
 | 0, _, _, _ => none
 | _ + 1, _, [], S => some S
 | n + 1, N, x :: s, ⟨e, hp, nx⟩ =>
  match x with
  | .c .ret => some ⟨e, hp, nx⟩
  | .c (.loop c) => evR ft xt t mt n N (.c c :: .c (.loop c) :: s) ⟨e, hp, nx⟩
  | .c (.region _ ops true) =>
   (match drR (fun f avs => match lk xt f with
     | some g => g avs
     | none => (match lk ft f with
      | some fn => (match fn.body with
       | some c => (match Nat.ble avs.length fn.ntmps, evR ft xt t mt n fn.ntmps [.c c] ⟨argEnv 0 avs, [], 0⟩ with
        | true, some ⟨e1, hp1, _⟩ => (match rsL t e1 hp1 fn.results.toList with
         | some ds => (match immB (resV ds) with | true => some (resV ds) | false => none)
         | none => none)
        | _, _ => none)
       | none => none)
      | none => none)) (fun f avs hp k => match lk ft f with
      | some fn => (match fn.body with
       | some c => (match Nat.ble avs.length fn.ntmps, evR ft xt t mt n fn.ntmps [.c c] ⟨argEnv 0 avs, hp, k⟩ with
        | true, some ⟨e1, hp1, k1⟩ => (match rsL t e1 hp1 fn.results.toList with
         | some ds => some (resV ds, hp1, k1)
         | none => none)
        | _, _ => none)
       | none => none)
      | none => none) t mt N ops ops.toList nx e (resH nx (nAl ops.toList) hp) (nx + nAl ops.toList) with
   | some (ds, e', hp') => (match anyOk ops.toList ds with | true => evR ft xt t mt n N s ⟨e', dropR nx (nAl ops.toList) hp', nx + nAl ops.toList⟩ | false => none)
   | none => none)
  | .o ops (o :: l) =>
   (match one t N ops o ⟨e, hp, nx⟩ with
   | some ⟨e', hp', nx'⟩ => evR ft xt t mt n N (.o ops l :: s) ⟨tidyE e', tidyH hp', nx'⟩
   | none => (match opOf N ops e o with
    | some (d, f, avs) => (match lk xt f with
     | some g => (match g avs with | some v => (match allNB immB avs with | true => evR ft xt t mt n N (.o ops l :: s) ⟨putE d v e, hp, nx⟩ | false => none) | none => none)
     | none => (match lk ft f with
      | some fn => (match fn.body with
       | some c => (match Nat.ble avs.length fn.ntmps, evR ft xt t mt n fn.ntmps [.c c] ⟨argEnv 0 avs, hp, nx⟩ with
        | true, some ⟨e1, hp1, nx1⟩ => (match rsL t e1 hp1 fn.results.toList with
         | some ds => evR ft xt t mt n N (.o ops l :: s) ⟨putE d (resV ds) e, hp1, nx1⟩
         | none => none)
        | _, _ => none)
       | none => none)
      | none => none))
    | none => (match dsC N ops e o with
     | some d => (match oneY t mt e hp nx o.op with | some (v, u, q) => evR ft xt t mt n N (.o ops l :: s) ⟨putE d v e, putsH u hp, nx + q⟩ | none => (match o.guard, apN t d e hp nx o.op with | none, some (ue, uh) => evR ft xt t mt n N (.o ops l :: s) ⟨putsE ue e, putsH uh hp, nx + 2⟩ | _, _ => none))
     | none => (match o.dst, wt ops e o.guard with
      | none, some true => (match wrY t mt e hp o.op with | some (id, ob) => evR ft xt t mt n N (.o ops l :: s) ⟨e, putH id ob hp, nx⟩ | none => none)
      | _, _ => none))))
  | x => (match stp t N (x :: s) ⟨e, hp, nx⟩ with | some (s', S') => evR ft xt t mt n N s' S' | none => none)
theorem ghost_putE {d : Nat} {v : V} {e : Env} {hp : Heap} {nx : Nat} : Ghost K ⟨(d, v) :: e, hp, nx⟩ ⟨putE d v e, hp, nx⟩ := fun m β _ _ r => ⟨m, β, r.congr (get_putE d v e) (fun _ => rfl) rfl⟩
theorem ghost_putH {id : Nat} {ob : Ob} {e : Env} {hp : Heap} {nx : Nat} : Ghost K ⟨e, (id, ob) :: hp, nx⟩ ⟨e, putH id ob hp, nx⟩ := fun m β _ _ r => ⟨m, β, r.congr (fun _ => rfl) (hget_putH id ob hp) rfl⟩
theorem ghost_puts {d : Nat} {v : V} {e : Env} {u hp : Heap} {nx : Nat} : Ghost K ⟨(d, v) :: e, u ++ hp, nx⟩ ⟨putE d v e, putsH u hp, nx⟩ := fun m β _ _ r => ⟨m, β, r.congr (get_putE d v e) (hget_putsH u hp) rfl⟩
theorem ghost_puts2 {ue e : Env} {u hp : Heap} {nx : Nat} : Ghost K ⟨ue ++ e, u ++ hp, nx⟩ ⟨putsE ue e, putsH u hp, nx⟩ := fun m β _ _ r => ⟨m, β, r.congr (get_putsE ue e) (hget_putsH u hp) rfl⟩
theorem ghost_trans {S1 S2 S3 : St} (h : Ghost K S1 S2) (h' : Ghost K S2 S3) : Ghost K S1 S3 := Ghost.trans h h'
theorem ghost_refl : Ghost K S S := fun m β _ _ r => ⟨m, β, r⟩
theorem wg_b {i : Nat} {s : List It} (h : WG K Q s S) : WG K Q (.b i :: s) S := h
theorem evR_ok {gl : Gl} {P : Program} {ft : FT} {xt : XT} {mt : List MT} (hft : FTok P ft) (hxt : XTok gl P xt) (ht : TTok P t) (hmt : MTok P mt) (hm : P.follows .mixedOrders = true) :
  ∀ (n : Nat) (K : Ctx), K.P = P → K.gl = gl → ∀ (s : List It) (S S' : St) (Q : Post), evR ft xt t mt n K.N s S = some S' → (∀ S0, Ghost K S0 S' → ∀ e, (e = .ret ∨ e = .normal) → Q e S0) → ∀ S0, Ghost K S0 S → WG K Q s S0 := by
 intro n
 induction n with
 | zero => intro K hP hgl s S S' Q h _; simp [evR] at h
 | succ n ih =>
  -- a call by its text
  have call : ∀ (f : Nat) (fn : Func) (c : Code) (avs : List V) (hp hp1 : Heap) (nx nx1 : Nat) (e1 : Env) (ds : List V), P.funcs[f]? = some fn → fn.body = some c → Nat.ble avs.length fn.ntmps = true →
    evR ft xt t mt n fn.ntmps [.c c] ⟨argEnv 0 avs, hp, nx⟩ = some ⟨e1, hp1, nx1⟩ → rsL t e1 hp1 fn.results.toList = some ds → MutG gl P f avs nx hp (resV ds) nx1 hp1 := by
   intro f fn c avs hp hp1 nx nx1 e1 ds q1 hb hle hrun hds
   refine mut_enter (l := fn.results.toList) q1 hb rfl (by simp) hle _ rfl (fun w0 m0 β0 hg => ?_)
   refine ih (mctx gl P fn.ntmps nx hp w0 m0 β0 hg) rfl rfl [.c c] _ _ _ hrun ?_ _ ghost_refl
   exact fun S0 hg e he => ⟨he, e1, hg, rsL_ok (S := ⟨e1, hp1, nx1⟩) ht hds⟩
  intro K hP hgl s S S' Q h hQ S0 hg0
  cases s with
  | nil => simp only [evR, Option.some.injEq] at h; subst h; exact hQ _ hg0 _ (.inr rfl)
  | cons x s =>
   obtain ⟨e, hp, nx⟩ := S
   have ha : Ag e ⟨e, hp, nx⟩ := agE (S := ⟨e, hp, nx⟩)
   have htK : TTok K.P t := by rw [hP]; exact ht
   have hmK : MTok K.P mt := by rw [hP]; exact hmt
   simp only [evR] at h
   split at h
   ·simp only [Option.some.injEq] at h; subst h; exact awp_ret (post_ret (hQ _ hg0 _ (.inl rfl)))
   ·exact awp_ghost hg0 (awp_loop (ih K hP hgl _ _ _ _ h hQ _ ghost_refl))
   ·split at h
    ·rename_i ds e' hp' hdr
     split at h
     ·rename_i hok
      refine awp_ghost hg0 (awp_dr ?_ ?_ htK hmK (by rw [hP]; exact hm) hdr hok (fun S1 hg1 => ih K hP hgl _ _ _ _ h hQ _ (ghost_trans hg1 (ghost_less (dropR_at _ _ _)))))
      ·intro f avs hp k v hp' k' hv
       split at hv
       ·rename_i fn hfn
        obtain ⟨q1, q2⟩ := hft _ (lk_mem hfn)
        split at hv
        ·rename_i c hb
         split at hv
         ·rename_i e1 hp1 nx1 hle hrun
          split at hv
          ·rename_i ds hds
           simp only [Option.some.injEq, Prod.mk.injEq] at hv; obtain ⟨rfl, rfl, rfl⟩ := hv
           exact ⟨by rw [hP]; exact q2, by rw [hP, hgl]; exact call f fn c avs hp hp1 k nx1 e1 ds q1 hb hle hrun hds⟩
          ·simp at hv
         ·simp at hv
        ·simp at hv
       ·simp at hv
      intro f avs v hv
      split at hv
      ·rename_i g hg
       obtain ⟨q1, q2⟩ := hxt _ (lk_mem hg)
       exact ⟨by rw [hP]; exact q1, by rw [hP, hgl]; exact q2 _ _ hv⟩
      ·split at hv
       ·rename_i fn hfn
        obtain ⟨q1, q2⟩ := hft _ (lk_mem hfn)
        split at hv
        ·rename_i c hb
         split at hv
         ·rename_i e1 hp1 nx1 hle hrun
          split at hv
          ·rename_i ds hds
           split at hv
           ·rename_i him
            simp only [Option.some.injEq] at hv; subst hv
            exact ⟨by rw [hP]; exact q2, by rw [hP, hgl]; exact mut_pure (call f fn c avs [] hp1 0 _ e1 ds q1 hb hle hrun hds) him⟩
           ·simp at hv
          ·simp at hv
         ·simp at hv
        ·simp at hv
       ·simp at hv
     ·simp at h
    ·simp at h
   ·rename_i ops o l
    refine aops_ghost hg0 ?_
    split at h
    ·rename_i e' hp' nx' h1
     exact one_ok htK h1 (ih K hP hgl _ _ _ _ h hQ _ ghost_tidy)
    ·split at h
     ·rename_i d f avs hop
      unfold opOf at hop
      split at hop
      ·rename_i d' hd
       split at hop
       ·rename_i hc
        simp only [Option.some.injEq, Prod.mk.injEq] at hop
        obtain ⟨rfl, rfl, rfl⟩ := hop
        obtain ⟨w1, w2, w3⟩ := dsC_ok ha hd
        split at h
        ·rename_i g hg
         split at h
         ·rename_i v hv
          obtain ⟨q1, q2⟩ := hxt _ (lk_mem hg)
          split at h
          ·rename_i him
           exact aops_calls w1 w2 w3 (fun m β w a r => by
            obtain ⟨vs, e1, e2⟩ := clD_run0 ha hc (by rw [hP]; exact q1) m β w a r
            exact ⟨vs, e1, ⟨e2.len, fun i c v a b => immN_ok (allN_ok him c (List.mem_of_getElem? a)) (e2.at' i c v a b)⟩⟩) (by rw [hP, hgl]; exact q2 _ _ hv) (ih K hP hgl _ _ _ _ h hQ _ ghost_putE)
          ·simp at h
         ·simp at h
        ·split at h
         ·rename_i fn hfn
          obtain ⟨q1, q2⟩ := hft _ (lk_mem hfn)
          split at h
          ·rename_i c hb
           split at h
           ·rename_i e1 hp1 nx1 hle hrun
            split at h
            ·rename_i ds hds
             exact aops_idcall w1 w2 w3 (clD_run0 ha hc (by rw [hP]; exact q2)) (by rw [hP, hgl]; exact call _ _ _ _ _ _ _ _ _ _ q1 hb hle hrun hds) (ih K hP hgl _ _ _ _ h hQ _ ghost_putE)
            ·simp at h
           ·simp at h
          ·simp at h
         ·simp at h
       ·simp at hop
      ·simp at hop
     ·split at h
      ·rename_i d hd
       obtain ⟨w1, w2, w3⟩ := dsC_ok ha hd
       split at h
       ·rename_i v u q h1
        obtain ⟨dst, op, ty, pos, after, g⟩ := o
        simp only at w2
        subst w2
        exact oneY_ok htK hmK ha (agH (S := ⟨e, hp, nx⟩)) rfl h1 w1 w3 (ih K hP hgl _ _ _ _ h hQ _ ghost_puts)
       ·split at h
        ·rename_i hgd h1
         obtain ⟨dst, op, ty, pos, after, g⟩ := o
         simp only at w2
         subst w2
         exact apN_ok htK h1 hgd w3 (ih K hP hgl _ _ _ _ h hQ _ ghost_puts2)
        ·simp at h
      ·split at h
       ·rename_i hdst hwt
        have hw := wt_ok ha hwt
        split at h
        ·rename_i id ob h1
         obtain ⟨dst, op, ty, pos, after, g⟩ := o
         simp only at hdst
         subst hdst
         exact wrY_ok htK hmK ha (agH (S := ⟨e, hp, nx⟩)) h1 hw (ih K hP hgl _ _ _ _ h hQ _ ghost_putH)
        ·simp at h
       ·simp at h
   ·rename_i x4 n1 n2 n3 n4
    split at h
    ·rename_i s' S2 h1
     have k := stp_ok (Q := Q) htK h1 (ih K hP hgl _ _ _ _ h hQ _ ghost_refl)
     cases x with
     | c x => exact awp_ghost hg0 k
     | o ops l => exact aops_ghost hg0 k
     | b i => simp only [stp, Option.some.injEq, Prod.mk.injEq] at h1; obtain ⟨rfl, rfl⟩ := h1; exact wg_b (ih K hP hgl _ _ _ _ h hQ _ hg0)
     | j J => simp [stp] at h1
    ·simp at h
def evF (ft : FT) (xt : XT) (t : TT) (mt : List MT) (n f : Nat) (avs : List V) : Option V :=
 match lk ft f with
 | some fn => (match fn.body with
  | some c => (match Nat.ble avs.length fn.ntmps, evR ft xt t mt n fn.ntmps [.c c] ⟨argEnv 0 avs, [], 0⟩ with
   | true, some ⟨e1, hp1, _⟩ => (match rsL t e1 hp1 fn.results.toList with
    | some ds => (match immB (resV ds) with | true => some (resV ds) | false => none)
    | none => none)
   | _, _ => none)
  | none => none)
 | none => none
theorem evF_ok {gl : Gl} {P : Program} {ft : FT} {xt : XT} {mt : List MT} (hft : FTok P ft) (hxt : XTok gl P xt) (ht : TTok P t) (hmt : MTok P mt) (hm : P.follows .mixedOrders = true) {n f : Nat} {avs : List V} {v : V}
  (h : evF ft xt t mt n f avs = some v) : PureG gl P f avs v := by
 unfold evF at h
 split at h
 ·rename_i fn hfn
  obtain ⟨q1, q2⟩ := hft _ (lk_mem hfn)
  split at h
  ·rename_i c hb
   split at h
   ·rename_i e1 hp1 nx1 hle hrun
    split at h
    ·rename_i ds hds
     split at h
     ·rename_i him
      simp only [Option.some.injEq] at h; subst h
      refine mut_pure (k' := nx1) (hp' := hp1) ?_ him
      refine mut_enter (l := fn.results.toList) q1 hb rfl (by simp) hle _ rfl (fun w0 m0 β0 hg => ?_)
      refine evR_ok hft hxt ht hmt hm n (mctx gl P fn.ntmps 0 [] w0 m0 β0 hg) rfl rfl [.c c] _ _ _ hrun ?_ _ ghost_refl
      exact fun S0 hg e he => ⟨he, e1, hg, rsL_ok (S := ⟨e1, hp1, nx1⟩) ht hds⟩
     ·simp at h
    ·simp at h
   ·simp at h
  ·simp at h
 ·simp at h
end
end Go.Pv
namespace Go.Proofs.YtpbkggamiipdmaaGreat
open Go Go.Pv
set_option maxRecDepth 100000
noncomputable def evft : FT := [(14, Tryz.f14), (17, Tryz.f17), (23, Tryz.f23), (25, Tryz.f25), (26, Tryz.f26), (41, Tryz.f41), (59, Tryz.f59), (60, Tryz.f60), (78, Tryz.f78), (79, Tryz.f79), (86, Tryz.f86), (89, Tryz.f89), (100, Tryz.f100), (117, Tryz.f117), (127, Tryz.f127), (128, Tryz.f128), (129, Tryz.f129), (130, Tryz.f130), (143, Tryz.f143), (148, Tryz.f148), (149, Tryz.f149), (150, Tryz.f150), (151, Tryz.f151), (158, Tryz.f158), (164, Tryz.f164), (169, Tryz.f169), (173, Tryz.f173), (174, Tryz.f174), (204, Tryz.f204), (207, Tryz.f207), (208, Tryz.f208)]
theorem evft_ok : FTok Tryz.prog evft := by
 intro p hp
 simp only [evft, List.mem_cons, List.not_mem_nil, or_false] at hp
 rcases hp with rfl | rfl | rfl | rfl | rfl | rfl | rfl | rfl | rfl | rfl | rfl | rfl | rfl | rfl | rfl | rfl | rfl | rfl | rfl | rfl | rfl | rfl | rfl | rfl | rfl | rfl | rfl | rfl | rfl | rfl | rfl
 ·exact ⟨Tryz.func14, by kernel_rfl⟩
 ·exact ⟨Tryz.func17, by kernel_rfl⟩
 ·exact ⟨Tryz.func23, by kernel_rfl⟩
 ·exact ⟨Tryz.func25, by kernel_rfl⟩
 ·exact ⟨Tryz.func26, by kernel_rfl⟩
 ·exact ⟨Tryz.func41, by kernel_rfl⟩
 ·exact ⟨Tryz.func59, by kernel_rfl⟩
 ·exact ⟨Tryz.func60, by kernel_rfl⟩
 ·exact ⟨Tryz.func78, by kernel_rfl⟩
 ·exact ⟨Tryz.func79, by kernel_rfl⟩
 ·exact ⟨Tryz.func86, by kernel_rfl⟩
 ·exact ⟨Tryz.func89, by kernel_rfl⟩
 ·exact ⟨Tryz.func100, by kernel_rfl⟩
 ·exact ⟨Tryz.func117, by kernel_rfl⟩
 ·exact ⟨Tryz.func127, by kernel_rfl⟩
 ·exact ⟨Tryz.func128, by kernel_rfl⟩
 ·exact ⟨Tryz.func129, by kernel_rfl⟩
 ·exact ⟨Tryz.func130, by kernel_rfl⟩
 ·exact ⟨Tryz.func143, by kernel_rfl⟩
 ·exact ⟨Tryz.func148, by kernel_rfl⟩
 ·exact ⟨Tryz.func149, by kernel_rfl⟩
 ·exact ⟨Tryz.func150, by kernel_rfl⟩
 ·exact ⟨Tryz.func151, by kernel_rfl⟩
 ·exact ⟨Tryz.func158, by kernel_rfl⟩
 ·exact ⟨Tryz.func164, by kernel_rfl⟩
 ·exact ⟨Tryz.func169, by kernel_rfl⟩
 ·exact ⟨Tryz.func173, by kernel_rfl⟩
 ·exact ⟨Tryz.func174, by kernel_rfl⟩
 ·exact ⟨Tryz.func204, by kernel_rfl⟩
 ·exact ⟨Tryz.func207, by kernel_rfl⟩
 ·exact ⟨Tryz.func208, by kernel_rfl⟩
def evtt : TT := [(3, [.Z 1 [.int .i64 0], .C, .U, .I .i64]), (4, [.C, .Z 1 [.bool false], .S 1]), (9, [.Z 1 [.string ⟨#[]⟩], .C, .Str]), (22, [.C, .Sn, .Sl 2]), (23, [.C, .Sn, .Sl 2]), (24, [.El 94 4 80, .C, .Sl 4, .Sn]), (25, [.El 9 1 16, .Sn, .Sl 1, .C]), (27, [.Z 4 [.slice none 0 0, .slice none 0 0, .slice none 0 0, .slice none 0 0], .Pl [(0, 1), (1, 1), (2, 1), (3, 1)], .S 4, .A 4, .F 2 2, .F 1 1, .F 0 0, .F 3 3]), (83, [.C]), (87, [.C]), (88, [.C]), (89, [.C]), (91, [.Z 9 [.slice none 0 0, .slice none 0 0, .slice none 0 0, .slice none 0 0, .map none, .map none, .map none, .map none, .bool false], .Pl [(0, 4), (4, 1), (5, 1), (6, 1), (7, 1), (8, 1)], .S 9, .F 1 4, .F 2 5, .F 3 6, .F 4 7, .F 0 0, .F 5 8]), (92, [.El 109 4 56, .C, .Sn, .Sl 4]), (94, [.Z 4 [.string ⟨#[]⟩, .string ⟨#[]⟩, .slice none 0 0, .slice none 0 0], .Pl [(0, 1), (1, 1), (2, 1), (3, 1)], .F 0 0, .A 4, .S 4, .F 3 3, .F 2 2, .F 1 1]), (98, [.A 2, .Z 2 [.string ⟨#[]⟩, .slice none 0 0], .S 2, .F 0 0, .F 1 1]), (102, [.C, .Sn, .Sl 2]), (104, [.A 2, .Z 2 [.string ⟨#[]⟩, .slice none 0 0], .S 2, .F 0 0, .F 1 1]), (109, [.Z 4 [.int .i64 0, .string ⟨#[]⟩, .string ⟨#[]⟩, .string ⟨#[]⟩], .Pl [(0, 1), (1, 1), (2, 1), (3, 1)], .A 4, .S 4, .F 3 3, .F 0 0, .F 1 1, .F 2 2]), (116, [.A 2, .Z 2 [.string ⟨#[]⟩, .string ⟨#[]⟩], .S 2, .F 0 0, .F 1 1]), (122, [.C]), (124, [.A 4, .Z 4 [.bool false, .map none, .map none, .map none], .Pl [(0, 1), (1, 1), (2, 1), (3, 1)], .S 4, .F 1 1, .F 2 2, .F 3 3, .F 0 0]), (164, [.C, .Sn, .Sl 1, .El 4 1 1]), (165, [.El 3 1 8, .Sn, .C, .Sl 1, .S 1]), (167, [.C]), (168, [.C, .Sn, .Sl 2, .El 304 2 32, .S 1]), (170, [.F 1 1, .Z 7 [.pointer none, .slice none 0 0, .slice none 0 0, .map none, .slice none 0 0, .slice none 0 0, .slice none 0 0], .Pl [(0, 1), (1, 1), (2, 1), (3, 1), (4, 1), (5, 1), (6, 1)], .S 7, .F 6 6, .F 2 2, .F 0 0, .F 4 4, .F 3 3]), (244, [.I .u64, .U]), (304, [.A 2, .Z 2 [.string ⟨#[]⟩, .string ⟨#[]⟩], .S 2, .F 0 0, .F 1 1, .Pl [(0, 1), (1, 1)]])]
theorem evtt_ok : TTok Tryz.prog evtt := tt_all ⟨⟨⟨(by kernel_rfl : zeroCells Tryz.prog 3 = some [.int .i64 0]), rfl⟩, (by kernel_rfl : tyC Tryz.prog 3 = true), (by kernel_rfl : tyU Tryz.prog 3 = true), (by kernel_rfl : tyI Tryz.prog 3 .i64 = true), trivial⟩, ⟨(by kernel_rfl : tyC Tryz.prog 4 = true), ⟨(by kernel_rfl : zeroCells Tryz.prog 4 = some [.bool false]), rfl⟩, (by kernel_rfl : tyS Tryz.prog 4 1 = true), trivial⟩, ⟨⟨(by kernel_rfl : zeroCells Tryz.prog 9 = some [.string ⟨#[]⟩]), rfl⟩, (by kernel_rfl : tyC Tryz.prog 9 = true), (by kernel_rfl : tyStr Tryz.prog 9 = true), trivial⟩, ⟨(by kernel_rfl : tyC Tryz.prog 22 = true), (by kernel_rfl : tySlice Tryz.prog 22 = true), (by kernel_rfl : tySl Tryz.prog 22 2 = true), trivial⟩, ⟨(by kernel_rfl : tyC Tryz.prog 23 = true), (by kernel_rfl : tySlice Tryz.prog 23 = true), (by kernel_rfl : tySl Tryz.prog 23 2 = true), trivial⟩, ⟨(by kernel_rfl : tyEl Tryz.prog 24 94 4 80 = true), (by kernel_rfl : tyC Tryz.prog 24 = true), (by kernel_rfl : tySl Tryz.prog 24 4 = true), (by kernel_rfl : tySlice Tryz.prog 24 = true), trivial⟩, ⟨(by kernel_rfl : tyEl Tryz.prog 25 9 1 16 = true), (by kernel_rfl : tySlice Tryz.prog 25 = true), (by kernel_rfl : tySl Tryz.prog 25 1 = true), (by kernel_rfl : tyC Tryz.prog 25 = true), trivial⟩, ⟨⟨(by kernel_rfl : zeroCells Tryz.prog 27 = some [.slice none 0 0, .slice none 0 0, .slice none 0 0, .slice none 0 0]), rfl⟩, (by kernel_rfl : tyPlaces Tryz.prog 27 = some [(0, 1), (1, 1), (2, 1), (3, 1)]), (by kernel_rfl : tyS Tryz.prog 27 4 = true), (by kernel_rfl : tyA Tryz.prog 27 4 = true), (by kernel_rfl : tyF Tryz.prog 27 2 2 = true), (by kernel_rfl : tyF Tryz.prog 27 1 1 = true), (by kernel_rfl : tyF Tryz.prog 27 0 0 = true), (by kernel_rfl : tyF Tryz.prog 27 3 3 = true), trivial⟩, ⟨(by kernel_rfl : tyC Tryz.prog 83 = true), trivial⟩, ⟨(by kernel_rfl : tyC Tryz.prog 87 = true), trivial⟩, ⟨(by kernel_rfl : tyC Tryz.prog 88 = true), trivial⟩, ⟨(by kernel_rfl : tyC Tryz.prog 89 = true), trivial⟩, ⟨⟨(by kernel_rfl : zeroCells Tryz.prog 91 = some [.slice none 0 0, .slice none 0 0, .slice none 0 0, .slice none 0 0, .map none, .map none, .map none, .map none, .bool false]), rfl⟩, (by kernel_rfl : tyPlaces Tryz.prog 91 = some [(0, 4), (4, 1), (5, 1), (6, 1), (7, 1), (8, 1)]), (by kernel_rfl : tyS Tryz.prog 91 9 = true), (by kernel_rfl : tyF Tryz.prog 91 1 4 = true), (by kernel_rfl : tyF Tryz.prog 91 2 5 = true), (by kernel_rfl : tyF Tryz.prog 91 3 6 = true), (by kernel_rfl : tyF Tryz.prog 91 4 7 = true), (by kernel_rfl : tyF Tryz.prog 91 0 0 = true), (by kernel_rfl : tyF Tryz.prog 91 5 8 = true), trivial⟩, ⟨(by kernel_rfl : tyEl Tryz.prog 92 109 4 56 = true), (by kernel_rfl : tyC Tryz.prog 92 = true), (by kernel_rfl : tySlice Tryz.prog 92 = true), (by kernel_rfl : tySl Tryz.prog 92 4 = true), trivial⟩, ⟨⟨(by kernel_rfl : zeroCells Tryz.prog 94 = some [.string ⟨#[]⟩, .string ⟨#[]⟩, .slice none 0 0, .slice none 0 0]), rfl⟩, (by kernel_rfl : tyPlaces Tryz.prog 94 = some [(0, 1), (1, 1), (2, 1), (3, 1)]), (by kernel_rfl : tyF Tryz.prog 94 0 0 = true), (by kernel_rfl : tyA Tryz.prog 94 4 = true), (by kernel_rfl : tyS Tryz.prog 94 4 = true), (by kernel_rfl : tyF Tryz.prog 94 3 3 = true), (by kernel_rfl : tyF Tryz.prog 94 2 2 = true), (by kernel_rfl : tyF Tryz.prog 94 1 1 = true), trivial⟩, ⟨(by kernel_rfl : tyA Tryz.prog 98 2 = true), ⟨(by kernel_rfl : zeroCells Tryz.prog 98 = some [.string ⟨#[]⟩, .slice none 0 0]), rfl⟩, (by kernel_rfl : tyS Tryz.prog 98 2 = true), (by kernel_rfl : tyF Tryz.prog 98 0 0 = true), (by kernel_rfl : tyF Tryz.prog 98 1 1 = true), trivial⟩, ⟨(by kernel_rfl : tyC Tryz.prog 102 = true), (by kernel_rfl : tySlice Tryz.prog 102 = true), (by kernel_rfl : tySl Tryz.prog 102 2 = true), trivial⟩, ⟨(by kernel_rfl : tyA Tryz.prog 104 2 = true), ⟨(by kernel_rfl : zeroCells Tryz.prog 104 = some [.string ⟨#[]⟩, .slice none 0 0]), rfl⟩, (by kernel_rfl : tyS Tryz.prog 104 2 = true), (by kernel_rfl : tyF Tryz.prog 104 0 0 = true), (by kernel_rfl : tyF Tryz.prog 104 1 1 = true), trivial⟩, ⟨⟨(by kernel_rfl : zeroCells Tryz.prog 109 = some [.int .i64 0, .string ⟨#[]⟩, .string ⟨#[]⟩, .string ⟨#[]⟩]), rfl⟩, (by kernel_rfl : tyPlaces Tryz.prog 109 = some [(0, 1), (1, 1), (2, 1), (3, 1)]), (by kernel_rfl : tyA Tryz.prog 109 4 = true), (by kernel_rfl : tyS Tryz.prog 109 4 = true), (by kernel_rfl : tyF Tryz.prog 109 3 3 = true), (by kernel_rfl : tyF Tryz.prog 109 0 0 = true), (by kernel_rfl : tyF Tryz.prog 109 1 1 = true), (by kernel_rfl : tyF Tryz.prog 109 2 2 = true), trivial⟩, ⟨(by kernel_rfl : tyA Tryz.prog 116 2 = true), ⟨(by kernel_rfl : zeroCells Tryz.prog 116 = some [.string ⟨#[]⟩, .string ⟨#[]⟩]), rfl⟩, (by kernel_rfl : tyS Tryz.prog 116 2 = true), (by kernel_rfl : tyF Tryz.prog 116 0 0 = true), (by kernel_rfl : tyF Tryz.prog 116 1 1 = true), trivial⟩, ⟨(by kernel_rfl : tyC Tryz.prog 122 = true), trivial⟩, ⟨(by kernel_rfl : tyA Tryz.prog 124 4 = true), ⟨(by kernel_rfl : zeroCells Tryz.prog 124 = some [.bool false, .map none, .map none, .map none]), rfl⟩, (by kernel_rfl : tyPlaces Tryz.prog 124 = some [(0, 1), (1, 1), (2, 1), (3, 1)]), (by kernel_rfl : tyS Tryz.prog 124 4 = true), (by kernel_rfl : tyF Tryz.prog 124 1 1 = true), (by kernel_rfl : tyF Tryz.prog 124 2 2 = true), (by kernel_rfl : tyF Tryz.prog 124 3 3 = true), (by kernel_rfl : tyF Tryz.prog 124 0 0 = true), trivial⟩, ⟨(by kernel_rfl : tyC Tryz.prog 164 = true), (by kernel_rfl : tySlice Tryz.prog 164 = true), (by kernel_rfl : tySl Tryz.prog 164 1 = true), (by kernel_rfl : tyEl Tryz.prog 164 4 1 1 = true), trivial⟩, ⟨(by kernel_rfl : tyEl Tryz.prog 165 3 1 8 = true), (by kernel_rfl : tySlice Tryz.prog 165 = true), (by kernel_rfl : tyC Tryz.prog 165 = true), (by kernel_rfl : tySl Tryz.prog 165 1 = true), (by kernel_rfl : tyS Tryz.prog 165 1 = true), trivial⟩, ⟨(by kernel_rfl : tyC Tryz.prog 167 = true), trivial⟩, ⟨(by kernel_rfl : tyC Tryz.prog 168 = true), (by kernel_rfl : tySlice Tryz.prog 168 = true), (by kernel_rfl : tySl Tryz.prog 168 2 = true), (by kernel_rfl : tyEl Tryz.prog 168 304 2 32 = true), (by kernel_rfl : tyS Tryz.prog 168 1 = true), trivial⟩, ⟨(by kernel_rfl : tyF Tryz.prog 170 1 1 = true), ⟨(by kernel_rfl : zeroCells Tryz.prog 170 = some [.pointer none, .slice none 0 0, .slice none 0 0, .map none, .slice none 0 0, .slice none 0 0, .slice none 0 0]), rfl⟩, (by kernel_rfl : tyPlaces Tryz.prog 170 = some [(0, 1), (1, 1), (2, 1), (3, 1), (4, 1), (5, 1), (6, 1)]), (by kernel_rfl : tyS Tryz.prog 170 7 = true), (by kernel_rfl : tyF Tryz.prog 170 6 6 = true), (by kernel_rfl : tyF Tryz.prog 170 2 2 = true), (by kernel_rfl : tyF Tryz.prog 170 0 0 = true), (by kernel_rfl : tyF Tryz.prog 170 4 4 = true), (by kernel_rfl : tyF Tryz.prog 170 3 3 = true), trivial⟩, ⟨(by kernel_rfl : tyI Tryz.prog 244 .u64 = true), (by kernel_rfl : tyU Tryz.prog 244 = true), trivial⟩, ⟨(by kernel_rfl : tyA Tryz.prog 304 2 = true), ⟨(by kernel_rfl : zeroCells Tryz.prog 304 = some [.string ⟨#[]⟩, .string ⟨#[]⟩]), rfl⟩, (by kernel_rfl : tyS Tryz.prog 304 2 = true), (by kernel_rfl : tyF Tryz.prog 304 0 0 = true), (by kernel_rfl : tyF Tryz.prog 304 1 1 = true), (by kernel_rfl : tyPlaces Tryz.prog 304 = some [(0, 1), (1, 1)]), trivial⟩, trivial⟩
def evmt : List MT := [⟨87, 9, 3, true, .i64, .con (.int .i64 0)⟩, ⟨88, 9, 165, true, .i64, .con (.slice none 0 0)⟩, ⟨89, 9, 4, true, .i64, .con (.bool false)⟩]
theorem evmt_ok : MTok Tryz.prog evmt := by
 intro p hp
 simp only [evmt, List.mem_cons, List.not_mem_nil, or_false] at hp
 rcases hp with rfl | rfl | rfl
 ·exact ⟨by kernel_rfl, keyT_str (by kernel_rfl), _, by kernel_rfl, fun _ => (.con _)⟩
 ·exact ⟨by kernel_rfl, keyT_str (by kernel_rfl), _, by kernel_rfl, fun _ => (.con _)⟩
 ·exact ⟨by kernel_rfl, keyT_str (by kernel_rfl), _, by kernel_rfl, fun _ => (.con _)⟩
def evxt : XT := []
theorem evxt_ok {gl : Gl} : XTok gl Tryz.prog evxt := by intro p hp; simp [evxt] at hp
theorem kmixed : Tryz.prog.follows .mixedOrders = true := by kernel_rfl
theorem told_run : evF evft evxt evtt evmt 3000 14 [] = some (.con (.bool true)) := by kernel_rfl
theorem told_pure {gl : Gl} : PureG gl Tryz.prog 14 [] (bV true) := evF_ok evft_ok evxt_ok evtt_ok evmt_ok kmixed told_run
end Go.Proofs.YtpbkggamiipdmaaGreat
/-
 DERIVED: THE SHELF's CONTRACTS AT THIS DUMP, IN PLAIN WORDS (tools/lay-plain.mjs out of 'TryzShelf.lean', which tools/lay-shelf.mjs wrote): THE SAME DECLARATIONS UNDER THE SAME NAMES: 'import', 'namespace', 'open', 'def', 'theorem' AND NOTHING ELSE: no command of the shelf's: FOR A HAND-IN. Each laying: the table of numbers ('.._ren') and one theorem, a field a fact of the dump's own or the kernel's comparison; each contract: ONE APPLICATION.
-/
namespace Go.Proofs
open Go.Shelf
def Tryz.lays189_ren : Go.Shelf.Ren := ⟨fun | 189 => 152 | 125 => 135 | 257 => 195 | 128 => 185 | 129 => 186 | 294 => 247 | 295 => 248 | 296 => 249 | 297 => 250 | 298 => 251 | 299 => 252 | 216 => 253 | 300 => 254 | 301 => 255 | 328 => 272 | 329 => 234 | 330 => 235 | 331 => 273 | 332 => 274 | 215 => 170 | 343 => 280 | n => n, fun | 28 => 165 | 3 => 3 | 46 => 244 | 0 => 0 | 51 => 295 | 53 => 297 | 4 => 4 | 183 => 289 | 182 => 288 | 131 => 86 | 5 => 5 | 9 => 9 | 218 => 332 | 222 => 336 | 228 => 358 | 229 => 359 | n => n, fun | n => n⟩
theorem Tryz.lays189 : Go.Proofs.Lays.n189 Tryz.prog Tryz.lays189_ren := {
 mixed := by kernel_rfl
 f125 := Tryz.func135.trans (congrArg some (by kernel_rfl))
 f128 := Tryz.func185.trans (congrArg some (by kernel_rfl))
 f129 := Tryz.func186.trans (congrArg some (by kernel_rfl))
 f189 := Tryz.func152.trans (congrArg some (by kernel_rfl))
 f215 := Tryz.func170.trans (congrArg some (by kernel_rfl))
 f216 := Tryz.func253.trans (congrArg some (by kernel_rfl))
 f257 := Tryz.func195.trans (congrArg some (by kernel_rfl))
 f294 := Tryz.func247.trans (congrArg some (by kernel_rfl))
 f295 := Tryz.func248.trans (congrArg some (by kernel_rfl))
 f296 := Tryz.func249.trans (congrArg some (by kernel_rfl))
 f297 := Tryz.func250.trans (congrArg some (by kernel_rfl))
 f298 := Tryz.func251.trans (congrArg some (by kernel_rfl))
 f299 := Tryz.func252.trans (congrArg some (by kernel_rfl))
 f300 := Tryz.func254.trans (congrArg some (by kernel_rfl))
 f301 := Tryz.func255.trans (congrArg some (by kernel_rfl))
 f328 := Tryz.func272.trans (congrArg some (by kernel_rfl))
 f329 := Tryz.func234.trans (congrArg some (by kernel_rfl))
 f330 := Tryz.func235.trans (congrArg some (by kernel_rfl))
 f331 := Tryz.func273.trans (congrArg some (by kernel_rfl))
 f332 := Tryz.func274.trans (congrArg some (by kernel_rfl))
 f343 := Tryz.func280.trans (congrArg some (by kernel_rfl))
 t0 := Tryz.underlying0
 a0 := Tryz.isAgg0
 z0 := Tryz.sizeOf0
 v0 := Tryz.zeroValue0
 t3 := Tryz.underlying3
 a3 := Tryz.isAgg3
 z3 := Tryz.sizeOf3
 v3 := Tryz.zeroValue3
 t4 := Tryz.underlying4
 a4 := Tryz.isAgg4
 z4 := Tryz.sizeOf4
 v4 := Tryz.zeroValue4
 t5 := Tryz.underlying5
 a5 := Tryz.isAgg5
 z5 := Tryz.sizeOf5
 v5 := Tryz.zeroValue5
 t9 := Tryz.underlying9
 a9 := Tryz.isAgg9
 z9 := Tryz.sizeOf9
 v9 := Tryz.zeroValue9
 t28 := Tryz.underlying165
 a28 := Tryz.isAgg165
 z28 := Tryz.sizeOf165
 v28 := Tryz.zeroValue165
 t46 := Tryz.underlying244
 a46 := Tryz.isAgg244
 z46 := Tryz.sizeOf244
 v46 := Tryz.zeroValue244
 t51 := Tryz.underlying295
 a51 := Tryz.isAgg295
 z51 := Tryz.sizeOf295
 v51 := Tryz.zeroValue295
 t53 := Tryz.underlying297
 a53 := Tryz.isAgg297
 z53 := Tryz.sizeOf297
 v53 := Tryz.zeroValue297
 t131 := Tryz.underlying86
 a131 := Tryz.isAgg86
 z131 := Tryz.sizeOf86
 v131 := Tryz.zeroValue86
 t182 := Tryz.underlying288
 a182 := Tryz.isAgg288
 z182 := Tryz.sizeOf288
 v182 := Tryz.zeroValue288
 t183 := Tryz.underlying289
 a183 := Tryz.isAgg289
 z183 := Tryz.sizeOf289
 v183 := Tryz.zeroValue289
 t218 := Tryz.underlying332
 a218 := Tryz.isAgg332
 z218 := Tryz.sizeOf332
 v218 := Tryz.zeroValue332
 t222 := Tryz.underlying336
 a222 := Tryz.isAgg336
 z222 := Tryz.sizeOf336
 v222 := Tryz.zeroValue336
 t228 := Tryz.underlying358
 a228 := Tryz.isAgg358
 z228 := Tryz.sizeOf358
 v228 := Tryz.zeroValue358
 t229 := Tryz.underlying359
 a229 := Tryz.isAgg359
 z229 := Tryz.sizeOf359
 v229 := Tryz.zeroValue359 }
open Go.Sort Go.RowKit in
theorem Tryz.slices_Sort_int (blk off cap : Nat) (zs : List Int) (w : World) (hH : Holds (Value.int .i64) w blk off zs.toArray) (hblk : blk < w.heap.size) (hsz : zs.length < 4611686018427387904) :
  Calls Tryz.prog 152 #[.slice (some ⟨blk, off, none⟩) zs.length cap] w fun e w' =>
   e = .returned (.tuple #[]) ∧ ∃ n os, w' = grow (putRow (Value.int .i64) (Sort.ahead w n) blk off (zs.mergeSort fun x y => decide (x ≤ y)).toArray) os := Any.slices_Sort_int Tryz.lays189 blk off cap zs w hH hblk hsz
def Tryz.lays190_ren : Go.Shelf.Ren := ⟨fun | 190 => 70 | 125 => 135 | 258 => 134 | 128 => 185 | 129 => 186 | 302 => 176 | 303 => 177 | 304 => 178 | 305 => 179 | 306 => 180 | 307 => 181 | 308 => 182 | 309 => 183 | 310 => 184 | 333 => 233 | 329 => 234 | 330 => 235 | 334 => 236 | 335 => 237 | 336 => 158 | 344 => 268 | n => n, fun | 31 => 25 | 9 => 9 | 3 => 3 | 46 => 244 | 0 => 0 | 51 => 295 | 53 => 297 | 4 => 4 | 183 => 289 | 182 => 288 | 131 => 86 | 5 => 5 | 218 => 332 | 222 => 336 | 228 => 358 | 229 => 359 | n => n, fun | n => n⟩
theorem Tryz.lays190 : Go.Proofs.Lays.n190 Tryz.prog Tryz.lays190_ren := {
 mixed := by kernel_rfl
 f125 := Tryz.func135.trans (congrArg some (by kernel_rfl))
 f128 := Tryz.func185.trans (congrArg some (by kernel_rfl))
 f129 := Tryz.func186.trans (congrArg some (by kernel_rfl))
 f190 := Tryz.func70.trans (congrArg some (by kernel_rfl))
 f258 := Tryz.func134.trans (congrArg some (by kernel_rfl))
 f302 := Tryz.func176.trans (congrArg some (by kernel_rfl))
 f303 := Tryz.func177.trans (congrArg some (by kernel_rfl))
 f304 := Tryz.func178.trans (congrArg some (by kernel_rfl))
 f305 := Tryz.func179.trans (congrArg some (by kernel_rfl))
 f306 := Tryz.func180.trans (congrArg some (by kernel_rfl))
 f307 := Tryz.func181.trans (congrArg some (by kernel_rfl))
 f308 := Tryz.func182.trans (congrArg some (by kernel_rfl))
 f309 := Tryz.func183.trans (congrArg some (by kernel_rfl))
 f310 := Tryz.func184.trans (congrArg some (by kernel_rfl))
 f329 := Tryz.func234.trans (congrArg some (by kernel_rfl))
 f330 := Tryz.func235.trans (congrArg some (by kernel_rfl))
 f333 := Tryz.func233.trans (congrArg some (by kernel_rfl))
 f334 := Tryz.func236.trans (congrArg some (by kernel_rfl))
 f335 := Tryz.func237.trans (congrArg some (by kernel_rfl))
 f336 := Tryz.func158.trans (congrArg some (by kernel_rfl))
 f344 := Tryz.func268.trans (congrArg some (by kernel_rfl))
 t0 := Tryz.underlying0
 a0 := Tryz.isAgg0
 z0 := Tryz.sizeOf0
 v0 := Tryz.zeroValue0
 t3 := Tryz.underlying3
 a3 := Tryz.isAgg3
 z3 := Tryz.sizeOf3
 v3 := Tryz.zeroValue3
 t4 := Tryz.underlying4
 a4 := Tryz.isAgg4
 z4 := Tryz.sizeOf4
 v4 := Tryz.zeroValue4
 t5 := Tryz.underlying5
 a5 := Tryz.isAgg5
 z5 := Tryz.sizeOf5
 v5 := Tryz.zeroValue5
 t9 := Tryz.underlying9
 a9 := Tryz.isAgg9
 z9 := Tryz.sizeOf9
 v9 := Tryz.zeroValue9
 t31 := Tryz.underlying25
 a31 := Tryz.isAgg25
 z31 := Tryz.sizeOf25
 v31 := Tryz.zeroValue25
 t46 := Tryz.underlying244
 a46 := Tryz.isAgg244
 z46 := Tryz.sizeOf244
 v46 := Tryz.zeroValue244
 t51 := Tryz.underlying295
 a51 := Tryz.isAgg295
 z51 := Tryz.sizeOf295
 v51 := Tryz.zeroValue295
 t53 := Tryz.underlying297
 a53 := Tryz.isAgg297
 z53 := Tryz.sizeOf297
 v53 := Tryz.zeroValue297
 t131 := Tryz.underlying86
 a131 := Tryz.isAgg86
 z131 := Tryz.sizeOf86
 v131 := Tryz.zeroValue86
 t182 := Tryz.underlying288
 a182 := Tryz.isAgg288
 z182 := Tryz.sizeOf288
 v182 := Tryz.zeroValue288
 t183 := Tryz.underlying289
 a183 := Tryz.isAgg289
 z183 := Tryz.sizeOf289
 v183 := Tryz.zeroValue289
 t218 := Tryz.underlying332
 a218 := Tryz.isAgg332
 z218 := Tryz.sizeOf332
 v218 := Tryz.zeroValue332
 t222 := Tryz.underlying336
 a222 := Tryz.isAgg336
 z222 := Tryz.sizeOf336
 v222 := Tryz.zeroValue336
 t228 := Tryz.underlying358
 a228 := Tryz.isAgg358
 z228 := Tryz.sizeOf358
 v228 := Tryz.zeroValue358
 t229 := Tryz.underlying359
 a229 := Tryz.isAgg359
 z229 := Tryz.sizeOf359
 v229 := Tryz.zeroValue359 }
open Go.Sort Go.RowKit in
theorem Tryz.slices_Sort_string (blk off cap : Nat) (ss : List (List UInt8)) (w : World) (hH : Holds encStr w blk off ss.toArray) (hblk : blk < w.heap.size) (hsz : ss.length < 4611686018427387904) :
  Calls Tryz.prog 70 #[.slice (some ⟨blk, off, none⟩) ss.length cap] w fun e w' =>
   e = .returned (.tuple #[]) ∧ ∃ n os, w' = grow (putRow encStr (Sort.ahead w n) blk off (ss.mergeSort fun x y => decide (x ≤ y)).toArray) os := Any.slices_Sort_string Tryz.lays190 blk off cap ss w hH hblk hsz
def Tryz.laysNm220_ren : Go.Shelf.Ren := ⟨fun | 20 => 153 | n => n, fun | 22 => 165 | 3 => 3 | 4 => 4 | 0 => 0 | n => n, fun | n => n⟩
theorem Tryz.laysNm220 : Go.Proofs.Lays2.n20 Tryz.prog Tryz.laysNm220_ren := {
 mixed := by kernel_rfl
 f20 := Tryz.func153.trans (congrArg some (by kernel_rfl))
 t0 := Tryz.underlying0
 a0 := Tryz.isAgg0
 z0 := Tryz.sizeOf0
 v0 := Tryz.zeroValue0
 t3 := Tryz.underlying3
 a3 := Tryz.isAgg3
 z3 := Tryz.sizeOf3
 v3 := Tryz.zeroValue3
 t4 := Tryz.underlying4
 a4 := Tryz.isAgg4
 z4 := Tryz.sizeOf4
 v4 := Tryz.zeroValue4
 t22 := Tryz.underlying165
 a22 := Tryz.isAgg165
 z22 := Tryz.sizeOf165
 v22 := Tryz.zeroValue165
 i3 := by kernel_rfl }
open Go.RowKit Go.Lib Go.Sort in
theorem Tryz.slices_Compact_int (blk off cap : Nat) (zs : List Int) (w : World) (hH : Holds (Value.int .i64) w blk off zs.toArray) (hsz : zs.length ≤ 9223372036854775807) (hcap : zs.length ≤ cap) :
  Calls Tryz.prog 153 #[.slice (some ⟨blk, off, none⟩) zs.length cap] w fun e w' => e = .returned (.slice (some ⟨blk, off, none⟩) (Lib.compact zs).length cap) ∧ ∃ q, w' = putRow (Value.int .i64) (Sort.ahead w q) blk off (Lib.compact zs ++ List.replicate (zs.length - (Lib.compact zs).length) 0).toArray := Any.slices_Compact_int Tryz.laysNm220 blk off cap zs w hH hsz hcap
open Go.RowKit Go.Lib Go.Sort in
theorem Tryz.slices_Compact_int_empty (a : Option Addr) (cap : Nat) (w : World) :
  Calls Tryz.prog 153 #[.slice a 0 cap] w fun e w' => e = .returned (.slice a 0 cap) ∧ w' = w := Any.slices_Compact_int_empty Tryz.laysNm220 a cap w
open Go.RowKit Go.Sort in
theorem Tryz.slices_Sort_string_none (p : Option Addr) (cap : Nat) (w : World) :
  Calls Tryz.prog 70 #[.slice p 0 cap] w fun e w' => e = .returned (.tuple #[]) ∧ w' = w := Any.slices_Sort_string_none Tryz.lays190 p cap w
open Go.RowKit Go.Sort in
theorem Tryz.slices_Sort_int_none (p : Option Addr) (cap : Nat) (w : World) :
  Calls Tryz.prog 152 #[.slice p 0 cap] w fun e w' => e = .returned (.tuple #[]) ∧ w' = w := Any.slices_Sort_int_none Tryz.lays189 p cap w
def Tryz.laysSlF06_f144_ren : Go.Shelf.Ren := ⟨fun | 6 => 144 | 15 => 135 | 14 => 189 | 28 => 185 | 29 => 186 | 20 => 238 | 21 => 239 | 22 => 240 | 23 => 241 | 24 => 242 | 25 => 243 | 26 => 244 | 27 => 245 | 46 => 269 | 47 => 234 | 48 => 235 | 49 => 270 | 50 => 271 | 57 => 279 | n => n, fun | 22 => 43 | 24 => 160 | 25 => 249 | 3 => 3 | 39 => 244 | 0 => 0 | 53 => 295 | 55 => 297 | 4 => 4 | 46 => 289 | 45 => 288 | 50 => 86 | 5 => 5 | 9 => 9 | 66 => 332 | 70 => 336 | 76 => 358 | 77 => 359 | n => n, fun | n => n⟩
theorem Tryz.laysSlF06_f144 : Go.Proofs.SlLaysF0.n6 Tryz.prog Tryz.laysSlF06_f144_ren := {
 mixed := by kernel_rfl
 f6 := ⟨Tryz.f144.name, by decide, Tryz.func144.trans (congrArg some (by kernel_rfl))⟩
 f14 := ⟨Tryz.f189.name, by decide, Tryz.func189.trans (congrArg some (by kernel_rfl))⟩
 f15 := Tryz.func135.trans (congrArg some (by kernel_rfl))
 f20 := ⟨Tryz.f238.name, by decide, Tryz.func238.trans (congrArg some (by kernel_rfl))⟩
 f21 := ⟨Tryz.f239.name, by decide, Tryz.func239.trans (congrArg some (by kernel_rfl))⟩
 f22 := ⟨Tryz.f240.name, by decide, Tryz.func240.trans (congrArg some (by kernel_rfl))⟩
 f23 := ⟨Tryz.f241.name, by decide, Tryz.func241.trans (congrArg some (by kernel_rfl))⟩
 f24 := ⟨Tryz.f242.name, by decide, Tryz.func242.trans (congrArg some (by kernel_rfl))⟩
 f25 := ⟨Tryz.f243.name, by decide, Tryz.func243.trans (congrArg some (by kernel_rfl))⟩
 f26 := ⟨Tryz.f244.name, by decide, Tryz.func244.trans (congrArg some (by kernel_rfl))⟩
 f27 := ⟨Tryz.f245.name, by decide, Tryz.func245.trans (congrArg some (by kernel_rfl))⟩
 f28 := Tryz.func185.trans (congrArg some (by kernel_rfl))
 f29 := Tryz.func186.trans (congrArg some (by kernel_rfl))
 f46 := ⟨Tryz.f269.name, by decide, Tryz.func269.trans (congrArg some (by kernel_rfl))⟩
 f47 := Tryz.func234.trans (congrArg some (by kernel_rfl))
 f48 := Tryz.func235.trans (congrArg some (by kernel_rfl))
 f49 := ⟨Tryz.f270.name, by decide, Tryz.func270.trans (congrArg some (by kernel_rfl))⟩
 f50 := ⟨Tryz.f271.name, by decide, Tryz.func271.trans (congrArg some (by kernel_rfl))⟩
 f57 := ⟨Tryz.f279.name, by decide, Tryz.func279.trans (congrArg some (by kernel_rfl))⟩
 t0 := Tryz.underlying0
 a0 := Tryz.isAgg0
 z0 := Tryz.sizeOf0
 v0 := Tryz.zeroValue0
 t3 := Tryz.underlying3
 a3 := Tryz.isAgg3
 z3 := Tryz.sizeOf3
 v3 := Tryz.zeroValue3
 t4 := Tryz.underlying4
 a4 := Tryz.isAgg4
 z4 := Tryz.sizeOf4
 v4 := Tryz.zeroValue4
 t5 := Tryz.underlying5
 a5 := Tryz.isAgg5
 z5 := Tryz.sizeOf5
 v5 := Tryz.zeroValue5
 t9 := Tryz.underlying9
 a9 := Tryz.isAgg9
 z9 := Tryz.sizeOf9
 v9 := Tryz.zeroValue9
 t22 := Tryz.underlying43
 a22 := Tryz.isAgg43
 z22 := Tryz.sizeOf43
 v22 := Tryz.zeroValue43
 t25 := Tryz.underlying249
 a25 := Tryz.isAgg249
 z25 := Tryz.sizeOf249
 v25 := Tryz.zeroValue249
 t39 := Tryz.underlying244
 a39 := Tryz.isAgg244
 z39 := Tryz.sizeOf244
 v39 := Tryz.zeroValue244
 t45 := Tryz.underlying288
 a45 := Tryz.isAgg288
 z45 := Tryz.sizeOf288
 v45 := Tryz.zeroValue288
 t46 := Tryz.underlying289
 a46 := Tryz.isAgg289
 z46 := Tryz.sizeOf289
 v46 := Tryz.zeroValue289
 t50 := Tryz.underlying86
 a50 := Tryz.isAgg86
 z50 := Tryz.sizeOf86
 v50 := Tryz.zeroValue86
 t53 := Tryz.underlying295
 a53 := Tryz.isAgg295
 z53 := Tryz.sizeOf295
 v53 := Tryz.zeroValue295
 t55 := Tryz.underlying297
 a55 := Tryz.isAgg297
 z55 := Tryz.sizeOf297
 v55 := Tryz.zeroValue297
 t66 := Tryz.underlying332
 a66 := Tryz.isAgg332
 z66 := Tryz.sizeOf332
 v66 := Tryz.zeroValue332
 t70 := Tryz.underlying336
 a70 := Tryz.isAgg336
 z70 := Tryz.sizeOf336
 v70 := Tryz.zeroValue336
 t76 := Tryz.underlying358
 a76 := Tryz.isAgg358
 z76 := Tryz.sizeOf358
 v76 := Tryz.zeroValue358
 t77 := Tryz.underlying359
 a77 := Tryz.isAgg359
 z77 := Tryz.sizeOf359
 v77 := Tryz.zeroValue359 }
open Go.RowKit Go.Lib Go.Sort in
theorem Tryz.slices_SortFunc_f144 {α : Type} [Inhabited α] (k : Nat) (aE : ∀ w, (isAgg (Tryz.laysSlF06_f144_ren.t 24)).run Tryz.prog w = .ok true w) (zE : ∀ w, (Go.sizeOf (Tryz.laysSlF06_f144_ren.t 24)).run Tryz.prog w = .ok k w) (enc : α → List Value) (hk : ∀ x, (enc x).length = k) (h1 : ∀ x, ∀ v ∈ enc x, v.oneCell' = true) (cf : α → α → Int) (hO : SWO (ltOf cf)) (g : Nat) (cb : Array Value) (blk off cap : Nat) (d : Array α) (w : World) (eg : ∀ args w, (callFunc g args).run Tryz.prog w = .ok (.enter g args) w) (hcmp : CmpLays Tryz.prog g cb enc k cf blk off d.size w) (hH : HoldsK enc k w blk off d) (hblk : blk < w.heap.size) (hsz : d.size < 4611686018427387904) :
  Calls Tryz.prog 144 #[.slice (some ⟨blk, off, none⟩) d.size cap, .func (.func g) #[] cb] w fun e w' =>
   e = .returned (.tuple #[]) ∧ ∃ d' n os, PermIn 0 d.size d d' ∧ SortedIn (ltOf cf) 0 d.size d' ∧ w' = sortWorldK enc k w blk off n d' os := AnyQ.slices_SortFunc Tryz.laysSlF06_f144 k aE zE enc hk h1 cf hO g cb blk off cap d w eg hcmp hH hblk hsz
open Go.RowKit Go.Lib Go.Sort in
theorem Tryz.slices_SortFunc_none_f144 {α : Type} [Inhabited α] (p : Option Addr) (cap : Nat) (fv : Value) (w : World) :
  Calls Tryz.prog 144 #[.slice p 0 cap, fv] w fun e w' => e = .returned (.tuple #[]) ∧ w' = w := AnyF.slices_SortFunc_none Tryz.laysSlF06_f144 p cap fv w
end Go.Proofs
