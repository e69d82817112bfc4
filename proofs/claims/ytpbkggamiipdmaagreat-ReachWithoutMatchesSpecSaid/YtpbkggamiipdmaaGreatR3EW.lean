/- Part of the proof: EW. -/
import Derived.Test.YtpbkggamiipdmaaGreatR3EXC
namespace Go.Pv
open Go
section
variable {K : Ctx} {Q : Post} {S S' : St} {ops : Array Oper} {rest : List Oper} {t : TT}
/-- A call that is handed all objects. -/
theorem aops_idcall {o : Oper} {d : Nat} {f : FuncId} {avs : List V} {k' : Nat} {hp' : Heap} {dv : V} (hw : Wants ops S o true) (hd : o.dst = some d) (hN : Nat.blt d K.N = true)
    (hrun : ∀ m β w a, Rel K m β w a S → ∃ vs : Array Value, (execOp a.eval o).run K.P w = .ok (.enter f vs) w ∧ VRels m β avs vs)
    (hc : MutG K.gl K.P f avs S.nx S.hp dv k' hp') (kk : AOps K ops rest Q ⟨(d, dv) :: S.env, hp', k'⟩) : AOps K ops (o :: rest) Q S := by
  intro m β w a r
  unfold wpList
  rw [if_pos (hw.at r)]
  left
  obtain ⟨vs, h1, h2⟩ := hrun m β w a r
  unfold Oper.wp
  rw [h1]
  refine (hc m β w vs r.imm (K.glok.mono r.ext) h2 r.own (fun id b cap hl hb => (r.priv id b cap hl hb).1) r.inj (fun id x hl hx => let q := r.hid id x hl hx; ⟨q.lt, q.m, q.ne, q.un⟩) r.nx).mono ?_
  rintro e w' ⟨v, m', β', rfl, hv, g⟩
  simp only [hd]
  have hle : S.nx ≤ k' := by
    cases hn : S.nx with
    | zero => exact Nat.zero_le _
    | succ q => have := (g.pin q (by omega)).1; omega
  have hβle : β.le β' := by
    intro id l hl
    by_cases h : id < S.nx
    · rw [(g.pin id h).2]; exact hl
    · rw [r.nx id (by omega)] at hl; simp at hl
  have hold : ∀ b, b < K.w0.heap.size → K.old b → b < w.heap.size ∧ Foreign S.hp β b := fun b hb ho =>
    ⟨Nat.lt_of_lt_of_le hb r.size, fun i hl => ⟨fun c hb' => (r.priv _ _ _ hl hb').2 hb ho, fun hx => (r.hid _ _ hl hx).old hb ho⟩⟩
  have r2 : Rel K m' β' w' a ⟨S.env, hp', k'⟩ := by
    constructor
    · exact g.imm
    · exact Mem.le_trans r.ext g.le
    · intro b hb ho
      obtain ⟨q1, q2⟩ := hold b hb ho
      rw [(g.old b q1 q2).1]
      exact r.mold b hb ho
    · intro b hb ho
      obtain ⟨q1, q2⟩ := hold b hb ho
      rw [(g.old b q1 q2).2]
      exact r.frame b hb ho
    · exact Nat.le_trans r.size g.size
    · exact r.same.trans g.same
    · exact r.tn
    · exact r.df
    · exact fun t => (r.env t).mono g.le hβle
    · exact g.own
    · intro id b cap hl hb
      obtain ⟨q1, q2⟩ := g.priv id b cap hl hb
      exact ⟨q1, fun hb0 ho => q2 (hold b hb0 ho).1 (hold b hb0 ho).2⟩
    · exact g.inj
    · intro id x hl hx
      obtain ⟨q1, q2, q3, q4, q5⟩ := g.hid id x hl hx
      exact ⟨q1, q2, fun hb0 ho => q3 (hold x hb0 ho).1 (hold x hb0 ho).2, q4, q5⟩
    · exact g.nx
    · intro q hq
      obtain ⟨p1, p2⟩ := r.pin q hq
      have := g.pin q p1
      exact ⟨this.1, this.2.trans p2⟩
  exact kk m' β' w' _ (r2.put hN hv)
def rsvM (t : TT) (e : Env) (hp : Heap) : ResultVar → Option V
  | .tmp x => gtC e x
  | .cell x T => (match gtC e x with
    | some (.ptr id k i o) => (match hgC hp id with
      | some (.arr _ k2 rows) => (match Nat.beq k k2 with | true => (match lgt rows i with | some row => ldV t T row o | none => none) | false => none)
      | _ => none)
    | _ => none)
theorem rsvM_ok (ht : TTok K.P t) {rv : ResultVar} {v : V} (h : rsvM t S.env S.hp rv = some v) : ResOneM K.P S rv v := by
  cases rv with
  | tmp x => exact .tmp (gtC_ok h)
  | cell x T =>
    simp only [rsvM] at h
    split at h
    · rename_i id k i o hx
      split at h
      · rename_i k2 rows ho
        split at h
        · rename_i hk
          have hk := Nat.eq_of_beq_eq_true hk
          subst hk
          split at h
          · rename_i row hr
            cases hn : ask t T TF.qA with
            | some n =>
              obtain ⟨cs, rfl, hc, hd⟩ := ldV_agg hn h
              exact .agg (askA ht hn) (gtC_ok hx) (hgC_ok ho) (lgt_ok hr) (cut_ok hc).1 (cut_ok hc).2 hd
            | none =>
              obtain ⟨hq, hc, hd⟩ := ldV_cell hn h
              exact .cell (askC ht hq) (gtC_ok hx) (hgC_ok ho) (lgt_ok hr) (lgt_ok hc) hd
          · simp at h
        · simp at h
      · simp at h
    · simp at h
def rsL (t : TT) (e : Env) (hp : Heap) : List ResultVar → Option (List V)
  | [] => some []
  | r :: l => (match rsvM t e hp r with | some v => (match rsL t e hp l with | some q => some (v :: q) | none => none) | none => none)
theorem rsL_ok (ht : TTok K.P t) : ∀ {l : List ResultVar} {ds : List V}, rsL t S.env S.hp l = some ds → ResL K.P S l ds
  | [], ds, h => by simp [rsL] at h; subst h; exact .nil
  | r :: l, ds, h => by
    simp only [rsL] at h
    split at h
    · rename_i v hv
      split at h
      · rename_i q hq; simp at h; subst h; exact .cons (rsvM_ok ht hv) (rsL_ok ht hq)
      · simp at h
    · simp at h
/-- The functions: number, text. -/
abbrev FT := List (Nat × Func)
def FTok (P : Program) (ft : FT) : Prop := ∀ p, p ∈ ft → P.funcs[p.1]? = some p.2 ∧ fnOk P p.1 = true
/-- What is known of a function from elsewhere. -/
abbrev XT := List (Nat × (List V → Option V))
def XTok (gl : Gl) (P : Program) (xt : XT) : Prop := ∀ p, p ∈ xt → fnOk P p.1 = true ∧ ∀ avs v, p.2 avs = some v → PureG gl P p.1 avs v
def opOf (N : Nat) (ops : Array Oper) (e : Env) (o : Oper) : Option (Nat × Nat × List V) :=
  match dsC N ops e o with
  | some d => (match clD e o.op with | some (f, avs) => some (d, f, avs) | none => none)
  | none => none
def nAl : List Oper → Nat
  | [] => 0
  | o :: l => (match o.op with | .alloc _ => nAl l + 1 | .box _ _ => nAl l + 1 | .makeMap _ _ => nAl l + 1 | .buildSlice _ _ _ => nAl l + 1 | .makeSlice _ _ _ => nAl l + 1 | .call c => (match c.callee with | .value _ => nAl l + 12 | _ => nAl l) | _ => nAl l)
def evR (ft : FT) (xt : XT) (t : TT) (mt : List MT) : Nat → Nat → List It → St → Option St
  | 0, _, _, _ => none
  | _ + 1, _, [], S => some S
  | n + 1, N, x :: s, ⟨e, hp, nx⟩ =>
    match x with
    | .c .ret => some ⟨e, hp, nx⟩
    | .c (.loop c) => evR ft xt t mt n N (.c c :: .c (.loop c) :: s) ⟨e, hp, nx⟩
    | .c (.region _ ops true) =>
      (match drR (fun f avs => match lk xt f with
          | some g => g avs
          | none => (match lk ft f with
            | some fn => (match fn.body with
              | some c => (match Nat.ble avs.length fn.ntmps, evR ft xt t mt n fn.ntmps [.c c] ⟨argEnv 0 avs, [], 0⟩ with
                | true, some ⟨e1, hp1, _⟩ => (match rsL t e1 hp1 fn.results.toList with
                  | some ds => (match immB (resV ds) with | true => some (resV ds) | false => none)
                  | none => none)
                | _, _ => none)
              | none => none)
            | none => none)) (fun f avs hp k => match lk ft f with
            | some fn => (match fn.body with
              | some c => (match Nat.ble avs.length fn.ntmps, evR ft xt t mt n fn.ntmps [.c c] ⟨argEnv 0 avs, hp, k⟩ with
                | true, some ⟨e1, hp1, k1⟩ => (match rsL t e1 hp1 fn.results.toList with
                  | some ds => some (resV ds, hp1, k1)
                  | none => none)
                | _, _ => none)
              | none => none)
            | none => none) t mt N ops ops.toList nx e (resH nx (nAl ops.toList) hp) (nx + nAl ops.toList) with
      | some (ds, e', hp') => (match anyOk ops.toList ds with | true => evR ft xt t mt n N s ⟨e', dropR nx (nAl ops.toList) hp', nx + nAl ops.toList⟩ | false => none)
      | none => none)
    | .o ops (o :: l) =>
      (match one t N ops o ⟨e, hp, nx⟩ with
      | some ⟨e', hp', nx'⟩ => evR ft xt t mt n N (.o ops l :: s) ⟨tidyE e', tidyH hp', nx'⟩
      | none => (match opOf N ops e o with
        | some (d, f, avs) => (match lk xt f with
          | some g => (match g avs with | some v => (match allNB immB avs with | true => evR ft xt t mt n N (.o ops l :: s) ⟨putE d v e, hp, nx⟩ | false => none) | none => none)
          | none => (match lk ft f with
            | some fn => (match fn.body with
              | some c => (match Nat.ble avs.length fn.ntmps, evR ft xt t mt n fn.ntmps [.c c] ⟨argEnv 0 avs, hp, nx⟩ with
                | true, some ⟨e1, hp1, nx1⟩ => (match rsL t e1 hp1 fn.results.toList with
                  | some ds => evR ft xt t mt n N (.o ops l :: s) ⟨putE d (resV ds) e, hp1, nx1⟩
                  | none => none)
                | _, _ => none)
              | none => none)
            | none => none))
        | none => (match dsC N ops e o with
          | some d => (match oneY t mt e hp nx o.op with | some (v, u, q) => evR ft xt t mt n N (.o ops l :: s) ⟨putE d v e, putsH u hp, nx + q⟩ | none => (match o.guard, apN t d e hp nx o.op with | none, some (ue, uh) => evR ft xt t mt n N (.o ops l :: s) ⟨putsE ue e, putsH uh hp, nx + 2⟩ | _, _ => none))
          | none => (match o.dst, wt ops e o.guard with
            | none, some true => (match wrY t mt e hp o.op with | some (id, ob) => evR ft xt t mt n N (.o ops l :: s) ⟨e, putH id ob hp, nx⟩ | none => none)
            | _, _ => none))))
    | x => (match stp t N (x :: s) ⟨e, hp, nx⟩ with | some (s', S') => evR ft xt t mt n N s' S' | none => none)
theorem ghost_putE {d : Nat} {v : V} {e : Env} {hp : Heap} {nx : Nat} : Ghost K ⟨(d, v) :: e, hp, nx⟩ ⟨putE d v e, hp, nx⟩ := fun m β _ _ r => ⟨m, β, r.congr (get_putE d v e) (fun _ => rfl) rfl⟩
theorem ghost_putH {id : Nat} {ob : Ob} {e : Env} {hp : Heap} {nx : Nat} : Ghost K ⟨e, (id, ob) :: hp, nx⟩ ⟨e, putH id ob hp, nx⟩ := fun m β _ _ r => ⟨m, β, r.congr (fun _ => rfl) (hget_putH id ob hp) rfl⟩
theorem ghost_puts {d : Nat} {v : V} {e : Env} {u hp : Heap} {nx : Nat} : Ghost K ⟨(d, v) :: e, u ++ hp, nx⟩ ⟨putE d v e, putsH u hp, nx⟩ := fun m β _ _ r => ⟨m, β, r.congr (get_putE d v e) (hget_putsH u hp) rfl⟩
theorem ghost_puts2 {ue e : Env} {u hp : Heap} {nx : Nat} : Ghost K ⟨ue ++ e, u ++ hp, nx⟩ ⟨putsE ue e, putsH u hp, nx⟩ := fun m β _ _ r => ⟨m, β, r.congr (get_putsE ue e) (hget_putsH u hp) rfl⟩
theorem ghost_trans {S1 S2 S3 : St} (h : Ghost K S1 S2) (h' : Ghost K S2 S3) : Ghost K S1 S3 := Ghost.trans h h'
theorem ghost_refl : Ghost K S S := fun m β _ _ r => ⟨m, β, r⟩
theorem wg_b {i : Nat} {s : List It} (h : WG K Q s S) : WG K Q (.b i :: s) S := h
theorem evR_ok {gl : Gl} {P : Program} {ft : FT} {xt : XT} {mt : List MT} (hft : FTok P ft) (hxt : XTok gl P xt) (ht : TTok P t) (hmt : MTok P mt) (hm : P.follows .mixedOrders = true) :
    ∀ (n : Nat) (K : Ctx), K.P = P → K.gl = gl → ∀ (s : List It) (S S' : St) (Q : Post), evR ft xt t mt n K.N s S = some S' → (∀ S0, Ghost K S0 S' → ∀ e, (e = .ret ∨ e = .normal) → Q e S0) → ∀ S0, Ghost K S0 S → WG K Q s S0 := by
  intro n
  induction n with
  | zero => intro K hP hgl s S S' Q h _; simp [evR] at h
  | succ n ih =>
    -- a call by its text
    have call : ∀ (f : Nat) (fn : Func) (c : Code) (avs : List V) (hp hp1 : Heap) (nx nx1 : Nat) (e1 : Env) (ds : List V), P.funcs[f]? = some fn → fn.body = some c → Nat.ble avs.length fn.ntmps = true →
        evR ft xt t mt n fn.ntmps [.c c] ⟨argEnv 0 avs, hp, nx⟩ = some ⟨e1, hp1, nx1⟩ → rsL t e1 hp1 fn.results.toList = some ds → MutG gl P f avs nx hp (resV ds) nx1 hp1 := by
      intro f fn c avs hp hp1 nx nx1 e1 ds q1 hb hle hrun hds
      refine mut_enter (l := fn.results.toList) q1 hb rfl (by simp) hle _ rfl (fun w0 m0 β0 hg => ?_)
      refine ih (mctx gl P fn.ntmps nx hp w0 m0 β0 hg) rfl rfl [.c c] _ _ _ hrun ?_ _ ghost_refl
      exact fun S0 hg e he => ⟨he, e1, hg, rsL_ok (S := ⟨e1, hp1, nx1⟩) ht hds⟩
    intro K hP hgl s S S' Q h hQ S0 hg0
    cases s with
    | nil => simp only [evR, Option.some.injEq] at h; subst h; exact hQ _ hg0 _ (.inr rfl)
    | cons x s =>
      obtain ⟨e, hp, nx⟩ := S
      have ha : Ag e ⟨e, hp, nx⟩ := agE (S := ⟨e, hp, nx⟩)
      have htK : TTok K.P t := by rw [hP]; exact ht
      have hmK : MTok K.P mt := by rw [hP]; exact hmt
      simp only [evR] at h
      split at h
      · simp only [Option.some.injEq] at h; subst h; exact awp_ret (post_ret (hQ _ hg0 _ (.inl rfl)))
      · exact awp_ghost hg0 (awp_loop (ih K hP hgl _ _ _ _ h hQ _ ghost_refl))
      · split at h
        · rename_i ds e' hp' hdr
          split at h
          · rename_i hok
            refine awp_ghost hg0 (awp_dr ?_ ?_ htK hmK (by rw [hP]; exact hm) hdr hok (fun S1 hg1 => ih K hP hgl _ _ _ _ h hQ _ (ghost_trans hg1 (ghost_less (dropR_at _ _ _)))))
            · intro f avs hp k v hp' k' hv
              split at hv
              · rename_i fn hfn
                obtain ⟨q1, q2⟩ := hft _ (lk_mem hfn)
                split at hv
                · rename_i c hb
                  split at hv
                  · rename_i e1 hp1 nx1 hle hrun
                    split at hv
                    · rename_i ds hds
                      simp only [Option.some.injEq, Prod.mk.injEq] at hv; obtain ⟨rfl, rfl, rfl⟩ := hv
                      exact ⟨by rw [hP]; exact q2, by rw [hP, hgl]; exact call f fn c avs hp hp1 k nx1 e1 ds q1 hb hle hrun hds⟩
                    · simp at hv
                  · simp at hv
                · simp at hv
              · simp at hv
            intro f avs v hv
            split at hv
            · rename_i g hg
              obtain ⟨q1, q2⟩ := hxt _ (lk_mem hg)
              exact ⟨by rw [hP]; exact q1, by rw [hP, hgl]; exact q2 _ _ hv⟩
            · split at hv
              · rename_i fn hfn
                obtain ⟨q1, q2⟩ := hft _ (lk_mem hfn)
                split at hv
                · rename_i c hb
                  split at hv
                  · rename_i e1 hp1 nx1 hle hrun
                    split at hv
                    · rename_i ds hds
                      split at hv
                      · rename_i him
                        simp only [Option.some.injEq] at hv; subst hv
                        exact ⟨by rw [hP]; exact q2, by rw [hP, hgl]; exact mut_pure (call f fn c avs [] hp1 0 _ e1 ds q1 hb hle hrun hds) him⟩
                      · simp at hv
                    · simp at hv
                  · simp at hv
                · simp at hv
              · simp at hv
          · simp at h
        · simp at h
      · rename_i ops o l
        refine aops_ghost hg0 ?_
        split at h
        · rename_i e' hp' nx' h1
          exact one_ok htK h1 (ih K hP hgl _ _ _ _ h hQ _ ghost_tidy)
        · split at h
          · rename_i d f avs hop
            unfold opOf at hop
            split at hop
            · rename_i d' hd
              split at hop
              · rename_i hc
                simp only [Option.some.injEq, Prod.mk.injEq] at hop
                obtain ⟨rfl, rfl, rfl⟩ := hop
                obtain ⟨w1, w2, w3⟩ := dsC_ok ha hd
                split at h
                · rename_i g hg
                  split at h
                  · rename_i v hv
                    obtain ⟨q1, q2⟩ := hxt _ (lk_mem hg)
                    split at h
                    · rename_i him
                      exact aops_calls w1 w2 w3 (fun m β w a r => by
                        obtain ⟨vs, e1, e2⟩ := clD_run0 ha hc (by rw [hP]; exact q1) m β w a r
                        exact ⟨vs, e1, ⟨e2.len, fun i c v a b => immN_ok (allN_ok him c (List.mem_of_getElem? a)) (e2.at' i c v a b)⟩⟩) (by rw [hP, hgl]; exact q2 _ _ hv) (ih K hP hgl _ _ _ _ h hQ _ ghost_putE)
                    · simp at h
                  · simp at h
                · split at h
                  · rename_i fn hfn
                    obtain ⟨q1, q2⟩ := hft _ (lk_mem hfn)
                    split at h
                    · rename_i c hb
                      split at h
                      · rename_i e1 hp1 nx1 hle hrun
                        split at h
                        · rename_i ds hds
                          exact aops_idcall w1 w2 w3 (clD_run0 ha hc (by rw [hP]; exact q2)) (by rw [hP, hgl]; exact call _ _ _ _ _ _ _ _ _ _ q1 hb hle hrun hds) (ih K hP hgl _ _ _ _ h hQ _ ghost_putE)
                        · simp at h
                      · simp at h
                    · simp at h
                  · simp at h
              · simp at hop
            · simp at hop
          · split at h
            · rename_i d hd
              obtain ⟨w1, w2, w3⟩ := dsC_ok ha hd
              split at h
              · rename_i v u q h1
                obtain ⟨dst, op, ty, pos, after, g⟩ := o
                simp only at w2
                subst w2
                exact oneY_ok htK hmK ha (agH (S := ⟨e, hp, nx⟩)) rfl h1 w1 w3 (ih K hP hgl _ _ _ _ h hQ _ ghost_puts)
              · split at h
                · rename_i hgd h1
                  obtain ⟨dst, op, ty, pos, after, g⟩ := o
                  simp only at w2
                  subst w2
                  exact apN_ok htK h1 hgd w3 (ih K hP hgl _ _ _ _ h hQ _ ghost_puts2)
                · simp at h
            · split at h
              · rename_i hdst hwt
                have hw := wt_ok ha hwt
                split at h
                · rename_i id ob h1
                  obtain ⟨dst, op, ty, pos, after, g⟩ := o
                  simp only at hdst
                  subst hdst
                  exact wrY_ok htK hmK ha (agH (S := ⟨e, hp, nx⟩)) h1 hw (ih K hP hgl _ _ _ _ h hQ _ ghost_putH)
                · simp at h
              · simp at h
      · rename_i x4 n1 n2 n3 n4
        split at h
        · rename_i s' S2 h1
          have k := stp_ok (Q := Q) htK h1 (ih K hP hgl _ _ _ _ h hQ _ ghost_refl)
          cases x with
          | c x => exact awp_ghost hg0 k
          | o ops l => exact aops_ghost hg0 k
          | b i => simp only [stp, Option.some.injEq, Prod.mk.injEq] at h1; obtain ⟨rfl, rfl⟩ := h1; exact wg_b (ih K hP hgl _ _ _ _ h hQ _ hg0)
          | j J => simp [stp] at h1
        · simp at h
/-- A call of a function that is handed nothing of the caller's own, run. -/
def evF (ft : FT) (xt : XT) (t : TT) (mt : List MT) (n f : Nat) (avs : List V) : Option V :=
  match lk ft f with
  | some fn => (match fn.body with
    | some c => (match Nat.ble avs.length fn.ntmps, evR ft xt t mt n fn.ntmps [.c c] ⟨argEnv 0 avs, [], 0⟩ with
      | true, some ⟨e1, hp1, _⟩ => (match rsL t e1 hp1 fn.results.toList with
        | some ds => (match immB (resV ds) with | true => some (resV ds) | false => none)
        | none => none)
      | _, _ => none)
    | none => none)
  | none => none
theorem evF_ok {gl : Gl} {P : Program} {ft : FT} {xt : XT} {mt : List MT} (hft : FTok P ft) (hxt : XTok gl P xt) (ht : TTok P t) (hmt : MTok P mt) (hm : P.follows .mixedOrders = true) {n f : Nat} {avs : List V} {v : V}
    (h : evF ft xt t mt n f avs = some v) : PureG gl P f avs v := by
  unfold evF at h
  split at h
  · rename_i fn hfn
    obtain ⟨q1, q2⟩ := hft _ (lk_mem hfn)
    split at h
    · rename_i c hb
      split at h
      · rename_i e1 hp1 nx1 hle hrun
        split at h
        · rename_i ds hds
          split at h
          · rename_i him
            simp only [Option.some.injEq] at h; subst h
            refine mut_pure (k' := nx1) (hp' := hp1) ?_ him
            refine mut_enter (l := fn.results.toList) q1 hb rfl (by simp) hle _ rfl (fun w0 m0 β0 hg => ?_)
            refine evR_ok hft hxt ht hmt hm n (mctx gl P fn.ntmps 0 [] w0 m0 β0 hg) rfl rfl [.c c] _ _ _ hrun ?_ _ ghost_refl
            exact fun S0 hg e he => ⟨he, e1, hg, rsL_ok (S := ⟨e1, hp1, nx1⟩) ht hds⟩
          · simp at h
        · simp at h
      · simp at h
    · simp at h
  · simp at h
end
end Go.Pv
