/- Part of the proof: EW, L9T, L9Sh, L9X, L9E, L3W3a, KL. -/
import Derived.Test.YtgkplonohfnlhaaGreatDoorLEC
import Derived.Test.YtgkplonohfnlhaaGreatDoorProg
import Derived.KernelRfl
import Derived.Shelf.Small.Strs
import Derived.Shelf.Strconv.Atoi
import Derived.Shelf.Strconv.Itoa0
import Derived.Shelf.Strconv.Itoa1
import Derived.Shelf.LaysM
import Derived.Shelf.Strconv.Itoa2
import Derived.Shelf.Strconv.Itoa3
import Derived.Shelf.Strings.Search1
import Derived.Lib.SmallJoins
import Derived.Test.YtgkplonohfnlhaaGreatDoorLPvQ
import Derived.OpenShut
import Derived.MakeChecks
namespace Go.Pv
open Go
section
variable {K : Ctx} {Q : Post} {S S' : St} {ops : Array Oper} {rest : List Oper} {t : TT}
/-- A call that is handed all objects. -/
theorem aops_idcall {o : Oper} {d : Nat} {f : FuncId} {avs : List V} {k' : Nat} {hp' : Heap} {dv : V} (hw : Wants ops S o true) (hd : o.dst = some d) (hN : Nat.blt d K.N = true)
    (hrun : ∀ m β w a, Rel K m β w a S → ∃ vs : Array Value, (execOp a.eval o).run K.P w = .ok (.enter f vs) w ∧ VRels m β avs vs)
    (hc : MutG K.gl K.P f avs S.nx S.hp dv k' hp') (kk : AOps K ops rest Q ⟨(d, dv) :: S.env, hp', k'⟩) : AOps K ops (o :: rest) Q S := by
  intro m β w a r
  unfold wpList
  rw [if_pos (hw.at r)]
  left
  obtain ⟨vs, h1, h2⟩ := hrun m β w a r
  unfold Oper.wp
  rw [h1]
  refine (hc m β w vs r.imm (K.glok.mono r.ext) h2 r.own (fun id b cap hl hb => (r.priv id b cap hl hb).1) r.inj (fun id x hl hx => let q := r.hid id x hl hx; ⟨q.lt, q.m, q.ne, q.un⟩) r.nx).mono ?_
  rintro e w' ⟨v, m', β', rfl, hv, g⟩
  simp only [hd]
  have hle : S.nx ≤ k' := by
    cases hn : S.nx with
    | zero => exact Nat.zero_le _
    | succ q => have := (g.pin q (by omega)).1; omega
  have hβle : β.le β' := by
    intro id l hl
    by_cases h : id < S.nx
    · rw [(g.pin id h).2]; exact hl
    · rw [r.nx id (by omega)] at hl; simp at hl
  have hold : ∀ b, b < K.w0.heap.size → K.old b → b < w.heap.size ∧ Foreign S.hp β b := fun b hb ho =>
    ⟨Nat.lt_of_lt_of_le hb r.size, fun i hl => ⟨fun c hb' => (r.priv _ _ _ hl hb').2 hb ho, fun hx => (r.hid _ _ hl hx).old hb ho⟩⟩
  have r2 : Rel K m' β' w' a ⟨S.env, hp', k'⟩ := by
    constructor
    · exact g.imm
    · exact Mem.le_trans r.ext g.le
    · intro b hb ho
      obtain ⟨q1, q2⟩ := hold b hb ho
      rw [(g.old b q1 q2).1]
      exact r.mold b hb ho
    · intro b hb ho
      obtain ⟨q1, q2⟩ := hold b hb ho
      rw [(g.old b q1 q2).2]
      exact r.frame b hb ho
    · exact Nat.le_trans r.size g.size
    · exact r.same.trans g.same
    · exact r.tn
    · exact r.df
    · exact fun t => (r.env t).mono g.le hβle
    · exact g.own
    · intro id b cap hl hb
      obtain ⟨q1, q2⟩ := g.priv id b cap hl hb
      exact ⟨q1, fun hb0 ho => q2 (hold b hb0 ho).1 (hold b hb0 ho).2⟩
    · exact g.inj
    · intro id x hl hx
      obtain ⟨q1, q2, q3, q4, q5⟩ := g.hid id x hl hx
      exact ⟨q1, q2, fun hb0 ho => q3 (hold x hb0 ho).1 (hold x hb0 ho).2, q4, q5⟩
    · exact g.nx
    · intro q hq
      obtain ⟨p1, p2⟩ := r.pin q hq
      have := g.pin q p1
      exact ⟨this.1, this.2.trans p2⟩
  exact kk m' β' w' _ (r2.put hN hv)
def rsvM (t : TT) (e : Env) (hp : Heap) : ResultVar → Option V
  | .tmp x => gtC e x
  | .cell x T => (match gtC e x with
    | some (.ptr id k i o) => (match hgC hp id with
      | some (.arr _ k2 rows) => (match Nat.beq k k2 with | true => (match lgt rows i with | some row => ldV t T row o | none => none) | false => none)
      | _ => none)
    | _ => none)
theorem rsvM_ok (ht : TTok K.P t) {rv : ResultVar} {v : V} (h : rsvM t S.env S.hp rv = some v) : ResOneM K.P S rv v := by
  cases rv with
  | tmp x => exact .tmp (gtC_ok h)
  | cell x T =>
    simp only [rsvM] at h
    split at h
    · rename_i id k i o hx
      split at h
      · rename_i k2 rows ho
        split at h
        · rename_i hk
          have hk := Nat.eq_of_beq_eq_true hk
          subst hk
          split at h
          · rename_i row hr
            cases hn : ask t T TF.qA with
            | some n =>
              obtain ⟨cs, rfl, hc, hd⟩ := ldV_agg hn h
              exact .agg (askA ht hn) (gtC_ok hx) (hgC_ok ho) (lgt_ok hr) (cut_ok hc).1 (cut_ok hc).2 hd
            | none =>
              obtain ⟨hq, hc, hd⟩ := ldV_cell hn h
              exact .cell (askC ht hq) (gtC_ok hx) (hgC_ok ho) (lgt_ok hr) (lgt_ok hc) hd
          · simp at h
        · simp at h
      · simp at h
    · simp at h
def rsL (t : TT) (e : Env) (hp : Heap) : List ResultVar → Option (List V)
  | [] => some []
  | r :: l => (match rsvM t e hp r with | some v => (match rsL t e hp l with | some q => some (v :: q) | none => none) | none => none)
theorem rsL_ok (ht : TTok K.P t) : ∀ {l : List ResultVar} {ds : List V}, rsL t S.env S.hp l = some ds → ResL K.P S l ds
  | [], ds, h => by simp [rsL] at h; subst h; exact .nil
  | r :: l, ds, h => by
    simp only [rsL] at h
    split at h
    · rename_i v hv
      split at h
      · rename_i q hq; simp at h; subst h; exact .cons (rsvM_ok ht hv) (rsL_ok ht hq)
      · simp at h
    · simp at h
/-- The functions: number, text. -/
abbrev FT := List (Nat × Func)
def FTok (P : Program) (ft : FT) : Prop := ∀ p, p ∈ ft → P.funcs[p.1]? = some p.2 ∧ fnOk P p.1 = true
/-- What is known of a function from elsewhere. -/
abbrev XT := List (Nat × (List V → Option V))
def XTok (gl : Gl) (P : Program) (xt : XT) : Prop := ∀ p, p ∈ xt → fnOk P p.1 = true ∧ ∀ avs v, p.2 avs = some v → PureG gl P p.1 avs v
def opOf (t : TT) (N : Nat) (ops : Array Oper) (e : Env) (o : Oper) : Option (Nat × Nat × List V) :=
  match dsC N ops e o with
  | some d => (match clX t e o.op with | some (f, avs) => some (d, f, avs) | none => none)
  | none => none
def nAl (t : TT) : List Oper → Nat
  | [] => 0
  | o :: l => (match o.op with | .alloc _ => nAl t l + 1 | .box _ _ => nAl t l + 1 | .makeMap _ _ => nAl t l + 1 | .buildSlice _ _ _ => nAl t l + 1 | .makeSlice _ _ _ => nAl t l + 1 | .call c => (match c.callee with | .value x => (match x with | .func f => (match ask t f TF.qR with | some n => nAl t l + n | none => nAl t l + 12) | _ => nAl t l + 12) | .invoke _ _ => nAl t l + 12 | .builtin .append => nAl t l + 2 | _ => nAl t l) | _ => nAl t l)
def evR (ft : FT) (xt : XT) (t : TT) (mt : List MT) : Nat → Nat → List It → St → Option St
  | 0, _, _, _ => none
  | _ + 1, _, [], S => some S
  | n + 1, N, x :: s, ⟨e, hp, nx⟩ =>
    match x with
    | .c .ret => some ⟨e, hp, nx⟩
    | .c (.loop c) => evR ft xt t mt n N (.c c :: .c (.loop c) :: s) ⟨e, hp, nx⟩
    | .c (.region _ ops true) =>
      (match drR (fun f avs => match lk xt f with
          | some g => g avs
          | none => (match lk ft f with
            | some fn => (match fn.body with
              | some c => (match Nat.ble avs.length fn.ntmps, finO 0 fn.results.toList (evR ft xt t mt n fn.ntmps [.c c] ⟨argEnv 0 avs, [], 0⟩) with
                | true, some ⟨e1, hp1, _⟩ => (match rsL t e1 hp1 fn.results.toList with
                  | some ds => (match immB (resV ds) with | true => some (resV ds) | false => none)
                  | none => none)
                | _, _ => none)
              | none => none)
            | none => none)) (fun f avs hp k => match lk ft f with
            | some fn => (match fn.body with
              | some c => (match Nat.ble avs.length fn.ntmps, finO k fn.results.toList (evR ft xt t mt n fn.ntmps [.c c] ⟨argEnv 0 avs, hp, k⟩) with
                | true, some ⟨e1, hp1, k1⟩ => (match rsL t e1 hp1 fn.results.toList with
                  | some ds => some (resV ds, hp1, k1)
                  | none => none)
                | _, _ => none)
              | none => none)
            | none => none) t mt N ops ops.toList nx e (resH nx (nAl t ops.toList) hp) (nx + nAl t ops.toList) with
      | some (ds, e', hp') => (match anyOk ops.toList ds with | true => evR ft xt t mt n N s ⟨e', dropR nx (nAl t ops.toList) hp', nx + nAl t ops.toList⟩ | false => none)
      | none => none)
    | .o ops (o :: l) =>
      (match one t N ops o ⟨e, hp, nx⟩ with
      | some ⟨e', hp', nx'⟩ => evR ft xt t mt n N (.o ops l :: s) ⟨tidyE e', tidyH hp', nx'⟩
      | none => (match opOf t N ops e o with
        | some (d, f, avs) => (match lk xt f with
          | some g => (match g avs with | some v => (match allNB immB avs with | true => evR ft xt t mt n N (.o ops l :: s) ⟨putE d v e, hp, nx⟩ | false => none) | none => none)
          | none => (match lk ft f with
            | some fn => (match fn.body with
              | some c => (match Nat.ble avs.length fn.ntmps, finO nx fn.results.toList (evR ft xt t mt n fn.ntmps [.c c] ⟨argEnv 0 avs, hp, nx⟩) with
                | true, some ⟨e1, hp1, nx1⟩ => (match rsL t e1 hp1 fn.results.toList with
                  | some ds => evR ft xt t mt n N (.o ops l :: s) ⟨putE d (resV ds) e, hp1, nx1⟩
                  | none => none)
                | _, _ => none)
              | none => none)
            | none => none))
        | none => (match dsC N ops e o with
          | some d => (match oneY t mt e hp nx o.op with | some (v, u, q) => evR ft xt t mt n N (.o ops l :: s) ⟨putE d v e, putsH u hp, nx + q⟩ | none => (match o.guard, apN t d e hp nx o.op with | none, some (ue, uh) => evR ft xt t mt n N (.o ops l :: s) ⟨putsE ue e, putsH uh hp, nx + 2⟩ | _, _ => none))
          | none => (match o.dst, wt ops e o.guard with
            | none, some true => (match wrY t mt e hp o.op with | some (id, ob) => evR ft xt t mt n N (.o ops l :: s) ⟨e, putH id ob hp, nx⟩ | none => none)
            | _, _ => none))))
    | x => (match stp t N (x :: s) ⟨e, hp, nx⟩ with | some (s', S') => evR ft xt t mt n N s' S' | none => none)
theorem ghost_putE {d : Nat} {v : V} {e : Env} {hp : Heap} {nx : Nat} : Ghost K ⟨(d, v) :: e, hp, nx⟩ ⟨putE d v e, hp, nx⟩ := fun m β _ _ r => ⟨m, β, r.congr (get_putE d v e) (fun _ => rfl) rfl⟩
theorem ghost_putH {id : Nat} {ob : Ob} {e : Env} {hp : Heap} {nx : Nat} : Ghost K ⟨e, (id, ob) :: hp, nx⟩ ⟨e, putH id ob hp, nx⟩ := fun m β _ _ r => ⟨m, β, r.congr (fun _ => rfl) (hget_putH id ob hp) rfl⟩
theorem ghost_puts {d : Nat} {v : V} {e : Env} {u hp : Heap} {nx : Nat} : Ghost K ⟨(d, v) :: e, u ++ hp, nx⟩ ⟨putE d v e, putsH u hp, nx⟩ := fun m β _ _ r => ⟨m, β, r.congr (get_putE d v e) (hget_putsH u hp) rfl⟩
theorem ghost_puts2 {ue e : Env} {u hp : Heap} {nx : Nat} : Ghost K ⟨ue ++ e, u ++ hp, nx⟩ ⟨putsE ue e, putsH u hp, nx⟩ := fun m β _ _ r => ⟨m, β, r.congr (get_putsE ue e) (hget_putsH u hp) rfl⟩
theorem ghost_trans {S1 S2 S3 : St} (h : Ghost K S1 S2) (h' : Ghost K S2 S3) : Ghost K S1 S3 := Ghost.trans h h'
theorem ghost_refl : Ghost K S S := fun m β _ _ r => ⟨m, β, r⟩
theorem wg_b {i : Nat} {s : List It} (h : WG K Q s S) : WG K Q (.b i :: s) S := h
theorem evR_ok {gl : Gl} {P : Program} {ft : FT} {xt : XT} {mt : List MT} (hft : FTok P ft) (hxt : XTok gl P xt) (ht : TTok P t) (hmt : MTok P mt) (hm : P.follows .mixedOrders = true) :
    ∀ (n : Nat) (K : Ctx), K.P = P → K.gl = gl → ∀ (s : List It) (S S' : St) (Q : Post), evR ft xt t mt n K.N s S = some S' → (∀ S0, Ghost K S0 S' → ∀ e, (e = .ret ∨ e = .normal) → Q e S0) → ∀ S0, Ghost K S0 S → WG K Q s S0 := by
  intro n
  induction n with
  | zero => intro K hP hgl s S S' Q h _; simp [evR] at h
  | succ n ih =>
    -- a call by its text
    have call : ∀ (f : Nat) (fn : Func) (c : Code) (avs : List V) (hp hp1 : Heap) (nx nx1 : Nat) (e1 : Env) (ds : List V), P.funcs[f]? = some fn → fn.body = some c → Nat.ble avs.length fn.ntmps = true →
        finO nx fn.results.toList (evR ft xt t mt n fn.ntmps [.c c] ⟨argEnv 0 avs, hp, nx⟩) = some ⟨e1, hp1, nx1⟩ → rsL t e1 hp1 fn.results.toList = some ds → MutG gl P f avs nx hp (resV ds) nx1 hp1 := by
      intro f fn c avs hp hp1 nx nx1 e1 ds q1 hb hle hrun hds
      refine mut_enter (l := fn.results.toList) q1 hb rfl (by simp) hle _ rfl (fun w0 m0 β0 hg => ?_)
      obtain ⟨S9, hr9, hf9⟩ := finO_some hrun
      refine ih (mctx gl P fn.ntmps nx hp w0 m0 β0 hg) rfl rfl [.c c] _ _ _ hr9 ?_ _ ghost_refl
      exact fun S0 hg e he => ⟨he, e1, Ghost.trans hg (by rw [← hf9]; exact fin_ok rfl), rsL_ok (S := ⟨e1, hp1, nx1⟩) ht hds⟩
    intro K hP hgl s S S' Q h hQ S0 hg0
    cases s with
    | nil => simp only [evR, Option.some.injEq] at h; subst h; exact hQ _ hg0 _ (.inr rfl)
    | cons x s =>
      obtain ⟨e, hp, nx⟩ := S
      have ha : Ag e ⟨e, hp, nx⟩ := agE (S := ⟨e, hp, nx⟩)
      have htK : TTok K.P t := by rw [hP]; exact ht
      have hmK : MTok K.P mt := by rw [hP]; exact hmt
      simp only [evR] at h
      split at h
      · simp only [Option.some.injEq] at h; subst h; exact awp_ret (post_ret (hQ _ hg0 _ (.inl rfl)))
      · exact awp_ghost hg0 (awp_loop (ih K hP hgl _ _ _ _ h hQ _ ghost_refl))
      · split at h
        · rename_i ds e' hp' hdr
          split at h
          · rename_i hok
            refine awp_ghost hg0 (awp_dr ?_ ?_ htK hmK (by rw [hP]; exact hm) hdr hok (fun S1 hg1 => ih K hP hgl _ _ _ _ h hQ _ (ghost_trans hg1 (ghost_less (dropR_at _ _ _)))))
            · intro f avs hp k v hp' k' hv
              split at hv
              · rename_i fn hfn
                obtain ⟨q1, q2⟩ := hft _ (lk_mem hfn)
                split at hv
                · rename_i c hb
                  split at hv
                  · rename_i e1 hp1 nx1 hle hrun
                    split at hv
                    · rename_i ds hds
                      simp only [Option.some.injEq, Prod.mk.injEq] at hv; obtain ⟨rfl, rfl, rfl⟩ := hv
                      exact ⟨by rw [hP]; exact q2, by rw [hP, hgl]; exact call f fn c avs hp hp1 k nx1 e1 ds q1 hb hle hrun hds⟩
                    · simp at hv
                  · simp at hv
                · simp at hv
              · simp at hv
            intro f avs v hv
            split at hv
            · rename_i g hg
              obtain ⟨q1, q2⟩ := hxt _ (lk_mem hg)
              exact ⟨by rw [hP]; exact q1, by rw [hP, hgl]; exact q2 _ _ hv⟩
            · split at hv
              · rename_i fn hfn
                obtain ⟨q1, q2⟩ := hft _ (lk_mem hfn)
                split at hv
                · rename_i c hb
                  split at hv
                  · rename_i e1 hp1 nx1 hle hrun
                    split at hv
                    · rename_i ds hds
                      split at hv
                      · rename_i him
                        simp only [Option.some.injEq] at hv; subst hv
                        exact ⟨by rw [hP]; exact q2, by rw [hP, hgl]; exact mut_pure (call f fn c avs [] hp1 0 _ e1 ds q1 hb hle hrun hds) him⟩
                      · simp at hv
                    · simp at hv
                  · simp at hv
                · simp at hv
              · simp at hv
          · simp at h
        · simp at h
      · rename_i ops o l
        refine aops_ghost hg0 ?_
        split at h
        · rename_i e' hp' nx' h1
          exact one_ok htK h1 (ih K hP hgl _ _ _ _ h hQ _ ghost_tidy)
        · split at h
          · rename_i d f avs hop
            unfold opOf at hop
            split at hop
            · rename_i d' hd
              split at hop
              · rename_i hc
                simp only [Option.some.injEq, Prod.mk.injEq] at hop
                obtain ⟨rfl, rfl, rfl⟩ := hop
                obtain ⟨w1, w2, w3⟩ := dsC_ok ha hd
                split at h
                · rename_i g hg
                  split at h
                  · rename_i v hv
                    obtain ⟨q1, q2⟩ := hxt _ (lk_mem hg)
                    split at h
                    · rename_i him
                      exact aops_calls w1 w2 w3 (fun m β w a r => by
                        obtain ⟨vs, e1, e2⟩ := clX_run0 htK ha hc (by rw [hP]; exact q1) m β w a r
                        exact ⟨vs, e1, ⟨e2.len, fun i c v a b => immN_ok (allN_ok him c (List.mem_of_getElem? a)) (e2.at' i c v a b)⟩⟩) (by rw [hP, hgl]; exact q2 _ _ hv) (ih K hP hgl _ _ _ _ h hQ _ ghost_putE)
                    · simp at h
                  · simp at h
                · split at h
                  · rename_i fn hfn
                    obtain ⟨q1, q2⟩ := hft _ (lk_mem hfn)
                    split at h
                    · rename_i c hb
                      split at h
                      · rename_i e1 hp1 nx1 hle hrun
                        split at h
                        · rename_i ds hds
                          exact aops_idcall w1 w2 w3 (clX_run0 htK ha hc (by rw [hP]; exact q2)) (by rw [hP, hgl]; exact call _ _ _ _ _ _ _ _ _ _ q1 hb hle hrun hds) (ih K hP hgl _ _ _ _ h hQ _ ghost_putE)
                        · simp at h
                      · simp at h
                    · simp at h
                  · simp at h
              · simp at hop
            · simp at hop
          · split at h
            · rename_i d hd
              obtain ⟨w1, w2, w3⟩ := dsC_ok ha hd
              split at h
              · rename_i v u q h1
                obtain ⟨dst, op, ty, pos, after, g⟩ := o
                simp only at w2
                subst w2
                exact oneY_ok htK hmK ha (agH (S := ⟨e, hp, nx⟩)) rfl h1 w1 w3 (ih K hP hgl _ _ _ _ h hQ _ ghost_puts)
              · split at h
                · rename_i hgd h1
                  obtain ⟨dst, op, ty, pos, after, g⟩ := o
                  simp only at w2
                  subst w2
                  exact apN_ok htK h1 hgd w3 (ih K hP hgl _ _ _ _ h hQ _ ghost_puts2)
                · simp at h
            · split at h
              · rename_i hdst hwt
                have hw := wt_ok ha hwt
                split at h
                · rename_i id ob h1
                  obtain ⟨dst, op, ty, pos, after, g⟩ := o
                  simp only at hdst
                  subst hdst
                  exact wrY_ok htK hmK ha (agH (S := ⟨e, hp, nx⟩)) h1 hw (ih K hP hgl _ _ _ _ h hQ _ ghost_putH)
                · simp at h
              · simp at h
      · rename_i x4 n1 n2 n3 n4
        split at h
        · rename_i s' S2 h1
          have k := stp_ok (Q := Q) htK h1 (ih K hP hgl _ _ _ _ h hQ _ ghost_refl)
          cases x with
          | c x => exact awp_ghost hg0 k
          | o ops l => exact aops_ghost hg0 k
          | b i => simp only [stp, Option.some.injEq, Prod.mk.injEq] at h1; obtain ⟨rfl, rfl⟩ := h1; exact wg_b (ih K hP hgl _ _ _ _ h hQ _ hg0)
          | j J => simp [stp] at h1
        · simp at h
/-- A call of a function that is handed nothing of the caller's own, run. -/
def evF (ft : FT) (xt : XT) (t : TT) (mt : List MT) (n f : Nat) (avs : List V) : Option V :=
  match lk ft f with
  | some fn => (match fn.body with
    | some c => (match Nat.ble avs.length fn.ntmps, evR ft xt t mt n fn.ntmps [.c c] ⟨argEnv 0 avs, [], 0⟩ with
      | true, some ⟨e1, hp1, _⟩ => (match rsL t e1 hp1 fn.results.toList with
        | some ds => (match immB (resV ds) with | true => some (resV ds) | false => none)
        | none => none)
      | _, _ => none)
    | none => none)
  | none => none
theorem evF_ok {gl : Gl} {P : Program} {ft : FT} {xt : XT} {mt : List MT} (hft : FTok P ft) (hxt : XTok gl P xt) (ht : TTok P t) (hmt : MTok P mt) (hm : P.follows .mixedOrders = true) {n f : Nat} {avs : List V} {v : V}
    (h : evF ft xt t mt n f avs = some v) : PureG gl P f avs v := by
  unfold evF at h
  split at h
  · rename_i fn hfn
    obtain ⟨q1, q2⟩ := hft _ (lk_mem hfn)
    split at h
    · rename_i c hb
      split at h
      · rename_i e1 hp1 nx1 hle hrun
        split at h
        · rename_i ds hds
          split at h
          · rename_i him
            simp only [Option.some.injEq] at h; subst h
            refine mut_pure (k' := nx1) (hp' := hp1) ?_ him
            refine mut_enter (l := fn.results.toList) q1 hb rfl (by simp) hle _ rfl (fun w0 m0 β0 hg => ?_)
            refine evR_ok hft hxt ht hmt hm n (mctx gl P fn.ntmps 0 [] w0 m0 β0 hg) rfl rfl [.c c] _ _ _ hrun ?_ _ ghost_refl
            exact fun S0 hg e he => ⟨he, e1, hg, rsL_ok (S := ⟨e1, hp1, nx1⟩) ht hds⟩
          · simp at h
        · simp at h
      · simp at h
    · simp at h
  · simp at h
end
end Go.Pv

namespace Go.Proofs.YtgkplonohfnlhaaGreatDoor
open Go Go.Pv
set_option maxRecDepth 100000
noncomputable def evft : FT := [(6, Tryz.f6), (8, Tryz.f8), (9, Tryz.f9), (10, Tryz.f10), (11, Tryz.f11), (12, Tryz.f12), (13, Tryz.f13), (14, Tryz.f14), (15, Tryz.f15), (16, Tryz.f16), (17, Tryz.f17), (18, Tryz.f18), (19, Tryz.f19), (20, Tryz.f20), (21, Tryz.f21), (22, Tryz.f22), (23, Tryz.f23), (24, Tryz.f24), (25, Tryz.f25), (26, Tryz.f26), (27, Tryz.f27), (28, Tryz.f28), (29, Tryz.f29), (30, Tryz.f30), (31, Tryz.f31), (32, Tryz.f32), (33, Tryz.f33), (34, Tryz.f34), (35, Tryz.f35), (36, Tryz.f36), (37, Tryz.f37), (38, Tryz.f38), (39, Tryz.f39), (40, Tryz.f40), (41, Tryz.f41), (42, Tryz.f42), (43, Tryz.f43), (44, Tryz.f44), (45, Tryz.f45), (46, Tryz.f46), (47, Tryz.f47), (48, Tryz.f48), (49, Tryz.f49), (50, Tryz.f50), (51, Tryz.f51), (52, Tryz.f52), (53, Tryz.f53), (54, Tryz.f54), (55, Tryz.f55), (56, Tryz.f56), (57, Tryz.f57), (58, Tryz.f58), (59, Tryz.f59), (60, Tryz.f60), (61, Tryz.f61), (62, Tryz.f62), (63, Tryz.f63), (64, Tryz.f64), (65, Tryz.f65), (66, Tryz.f66), (67, Tryz.f67), (68, Tryz.f68), (69, Tryz.f69), (70, Tryz.f70), (71, Tryz.f71), (72, Tryz.f72), (73, Tryz.f73), (75, Tryz.f75), (76, Tryz.f76), (77, Tryz.f77), (78, Tryz.f78), (79, Tryz.f79), (80, Tryz.f80), (81, Tryz.f81), (82, Tryz.f82), (83, Tryz.f83), (84, Tryz.f84), (85, Tryz.f85), (86, Tryz.f86), (87, Tryz.f87), (88, Tryz.f88), (89, Tryz.f89), (90, Tryz.f90), (91, Tryz.f91), (92, Tryz.f92), (93, Tryz.f93), (94, Tryz.f94), (110, Tryz.f110), (111, Tryz.f111), (112, Tryz.f112), (113, Tryz.f113), (114, Tryz.f114), (115, Tryz.f115), (116, Tryz.f116), (117, Tryz.f117), (118, Tryz.f118), (119, Tryz.f119), (120, Tryz.f120), (121, Tryz.f121), (122, Tryz.f122), (123, Tryz.f123), (124, Tryz.f124), (125, Tryz.f125)]
theorem evft_ok : FTok Tryz.prog evft := by
  intro p hp
  simp only [evft, List.mem_cons, List.not_mem_nil, or_false] at hp
  rcases hp with rfl | rfl | rfl | rfl | rfl | rfl | rfl | rfl | rfl | rfl | rfl | rfl | rfl | rfl | rfl | rfl | rfl | rfl | rfl | rfl | rfl | rfl | rfl | rfl | rfl | rfl | rfl | rfl | rfl | rfl | rfl | rfl | rfl | rfl | rfl | rfl | rfl | rfl | rfl | rfl | rfl | rfl | rfl | rfl | rfl | rfl | rfl | rfl | rfl | rfl | rfl | rfl | rfl | rfl | rfl | rfl | rfl | rfl | rfl | rfl | rfl | rfl | rfl | rfl | rfl | rfl | rfl | rfl | rfl | rfl | rfl | rfl | rfl | rfl | rfl | rfl | rfl | rfl | rfl | rfl | rfl | rfl | rfl | rfl | rfl | rfl | rfl | rfl | rfl | rfl | rfl | rfl | rfl | rfl | rfl | rfl | rfl | rfl | rfl | rfl | rfl | rfl | rfl
  · exact ⟨Tryz.func6, by kernel_rfl⟩
  · exact ⟨Tryz.func8, by kernel_rfl⟩
  · exact ⟨Tryz.func9, by kernel_rfl⟩
  · exact ⟨Tryz.func10, by kernel_rfl⟩
  · exact ⟨Tryz.func11, by kernel_rfl⟩
  · exact ⟨Tryz.func12, by kernel_rfl⟩
  · exact ⟨Tryz.func13, by kernel_rfl⟩
  · exact ⟨Tryz.func14, by kernel_rfl⟩
  · exact ⟨Tryz.func15, by kernel_rfl⟩
  · exact ⟨Tryz.func16, by kernel_rfl⟩
  · exact ⟨Tryz.func17, by kernel_rfl⟩
  · exact ⟨Tryz.func18, by kernel_rfl⟩
  · exact ⟨Tryz.func19, by kernel_rfl⟩
  · exact ⟨Tryz.func20, by kernel_rfl⟩
  · exact ⟨Tryz.func21, by kernel_rfl⟩
  · exact ⟨Tryz.func22, by kernel_rfl⟩
  · exact ⟨Tryz.func23, by kernel_rfl⟩
  · exact ⟨Tryz.func24, by kernel_rfl⟩
  · exact ⟨Tryz.func25, by kernel_rfl⟩
  · exact ⟨Tryz.func26, by kernel_rfl⟩
  · exact ⟨Tryz.func27, by kernel_rfl⟩
  · exact ⟨Tryz.func28, by kernel_rfl⟩
  · exact ⟨Tryz.func29, by kernel_rfl⟩
  · exact ⟨Tryz.func30, by kernel_rfl⟩
  · exact ⟨Tryz.func31, by kernel_rfl⟩
  · exact ⟨Tryz.func32, by kernel_rfl⟩
  · exact ⟨Tryz.func33, by kernel_rfl⟩
  · exact ⟨Tryz.func34, by kernel_rfl⟩
  · exact ⟨Tryz.func35, by kernel_rfl⟩
  · exact ⟨Tryz.func36, by kernel_rfl⟩
  · exact ⟨Tryz.func37, by kernel_rfl⟩
  · exact ⟨Tryz.func38, by kernel_rfl⟩
  · exact ⟨Tryz.func39, by kernel_rfl⟩
  · exact ⟨Tryz.func40, by kernel_rfl⟩
  · exact ⟨Tryz.func41, by kernel_rfl⟩
  · exact ⟨Tryz.func42, by kernel_rfl⟩
  · exact ⟨Tryz.func43, by kernel_rfl⟩
  · exact ⟨Tryz.func44, by kernel_rfl⟩
  · exact ⟨Tryz.func45, by kernel_rfl⟩
  · exact ⟨Tryz.func46, by kernel_rfl⟩
  · exact ⟨Tryz.func47, by kernel_rfl⟩
  · exact ⟨Tryz.func48, by kernel_rfl⟩
  · exact ⟨Tryz.func49, by kernel_rfl⟩
  · exact ⟨Tryz.func50, by kernel_rfl⟩
  · exact ⟨Tryz.func51, by kernel_rfl⟩
  · exact ⟨Tryz.func52, by kernel_rfl⟩
  · exact ⟨Tryz.func53, by kernel_rfl⟩
  · exact ⟨Tryz.func54, by kernel_rfl⟩
  · exact ⟨Tryz.func55, by kernel_rfl⟩
  · exact ⟨Tryz.func56, by kernel_rfl⟩
  · exact ⟨Tryz.func57, by kernel_rfl⟩
  · exact ⟨Tryz.func58, by kernel_rfl⟩
  · exact ⟨Tryz.func59, by kernel_rfl⟩
  · exact ⟨Tryz.func60, by kernel_rfl⟩
  · exact ⟨Tryz.func61, by kernel_rfl⟩
  · exact ⟨Tryz.func62, by kernel_rfl⟩
  · exact ⟨Tryz.func63, by kernel_rfl⟩
  · exact ⟨Tryz.func64, by kernel_rfl⟩
  · exact ⟨Tryz.func65, by kernel_rfl⟩
  · exact ⟨Tryz.func66, by kernel_rfl⟩
  · exact ⟨Tryz.func67, by kernel_rfl⟩
  · exact ⟨Tryz.func68, by kernel_rfl⟩
  · exact ⟨Tryz.func69, by kernel_rfl⟩
  · exact ⟨Tryz.func70, by kernel_rfl⟩
  · exact ⟨Tryz.func71, by kernel_rfl⟩
  · exact ⟨Tryz.func72, by kernel_rfl⟩
  · exact ⟨Tryz.func73, by kernel_rfl⟩
  · exact ⟨Tryz.func75, by kernel_rfl⟩
  · exact ⟨Tryz.func76, by kernel_rfl⟩
  · exact ⟨Tryz.func77, by kernel_rfl⟩
  · exact ⟨Tryz.func78, by kernel_rfl⟩
  · exact ⟨Tryz.func79, by kernel_rfl⟩
  · exact ⟨Tryz.func80, by kernel_rfl⟩
  · exact ⟨Tryz.func81, by kernel_rfl⟩
  · exact ⟨Tryz.func82, by kernel_rfl⟩
  · exact ⟨Tryz.func83, by kernel_rfl⟩
  · exact ⟨Tryz.func84, by kernel_rfl⟩
  · exact ⟨Tryz.func85, by kernel_rfl⟩
  · exact ⟨Tryz.func86, by kernel_rfl⟩
  · exact ⟨Tryz.func87, by kernel_rfl⟩
  · exact ⟨Tryz.func88, by kernel_rfl⟩
  · exact ⟨Tryz.func89, by kernel_rfl⟩
  · exact ⟨Tryz.func90, by kernel_rfl⟩
  · exact ⟨Tryz.func91, by kernel_rfl⟩
  · exact ⟨Tryz.func92, by kernel_rfl⟩
  · exact ⟨Tryz.func93, by kernel_rfl⟩
  · exact ⟨Tryz.func94, by kernel_rfl⟩
  · exact ⟨Tryz.func110, by kernel_rfl⟩
  · exact ⟨Tryz.func111, by kernel_rfl⟩
  · exact ⟨Tryz.func112, by kernel_rfl⟩
  · exact ⟨Tryz.func113, by kernel_rfl⟩
  · exact ⟨Tryz.func114, by kernel_rfl⟩
  · exact ⟨Tryz.func115, by kernel_rfl⟩
  · exact ⟨Tryz.func116, by kernel_rfl⟩
  · exact ⟨Tryz.func117, by kernel_rfl⟩
  · exact ⟨Tryz.func118, by kernel_rfl⟩
  · exact ⟨Tryz.func119, by kernel_rfl⟩
  · exact ⟨Tryz.func120, by kernel_rfl⟩
  · exact ⟨Tryz.func121, by kernel_rfl⟩
  · exact ⟨Tryz.func122, by kernel_rfl⟩
  · exact ⟨Tryz.func123, by kernel_rfl⟩
  · exact ⟨Tryz.func124, by kernel_rfl⟩
  · exact ⟨Tryz.func125, by kernel_rfl⟩
def evtt : TT := [(2, [.I .i64, .U]), (3, [.C, .S 1, .Z 1 [.int .i64 0], .I .i64, .U]), (4, [.C, .S 1]), (5, [.Z 1 [.int .u8 0], .C, .U, .I .u8, .S 1]), (9, [.Str, .C, .S 1, .Z 1 [.string ⟨#[]⟩], .U, .Cn]), (22, [.Sn, .Sl 4, .El 29 4 32]), (23, [.C, .S 1]), (29, [.F 3 3, .Z 4 [.int .i64 0, .int .i64 0, .int .i64 0, .int .i64 0], .Pl [(0, 1), (1, 1), (2, 1), (3, 1)], .S 4, .F 2 2, .A 4]), (31, [.C, .El 57 9 128, .Sn, .S 1, .Sl 9]), (32, [.C, .El 60 6 72, .Sn, .S 1, .Sl 6]), (34, [.Z 2 [.slice none 0 0, .slice none 0 0], .S 2, .A 2, .Pl [(0, 1), (1, 1)], .F 0 0, .F 1 1]), (40, [.Z 2 [.string ⟨#[]⟩, .int .i64 0], .Pl [(0, 1), (1, 1)], .A 2, .S 2, .F 0 0, .F 1 1]), (41, [.El 40 2 24, .C, .Sn, .Sl 2]), (42, [.C, .Sn, .Sl 2]), (44, [.Z 4 [.string ⟨#[]⟩, .string ⟨#[]⟩, .slice none 0 0, .slice none 0 0], .Pl [(0, 1), (1, 1), (2, 1), (3, 1)], .A 4, .S 4, .F 1 1, .F 0 0, .F 2 2, .F 3 3]), (45, [.El 44 4 80, .Sn, .Sl 4]), (46, [.S 1, .C]), (48, [.F 0 0, .F 2 2, .Z 3 [.int .i64 0, .string ⟨#[]⟩, .int .i64 0], .Pl [(0, 1), (1, 1), (2, 1)], .S 3, .F 1 1, .A 3]), (50, [.Z 7 [.string ⟨#[]⟩, .int .i64 0, .int .i64 0, .string ⟨#[]⟩, .int .i64 0, .int .i64 0, .int .i64 0], .Pl [(0, 1), (1, 1), (2, 3), (5, 1), (6, 1)], .S 7, .F 2 2, .F 4 6, .F 3 5, .F 1 1, .F 0 0]), (52, [.El 9 1 16, .Sn, .Sl 1, .C, .S 1]), (53, [.El 55 6 88, .C, .Sn, .S 1, .Sl 6]), (55, [.S 6, .A 6, .Z 6 [.int .i64 0, .string ⟨#[]⟩, .slice none 0 0, .int .i64 0, .int .i64 0, .slice none 0 0], .Pl [(0, 1), (1, 1), (2, 1), (3, 1), (4, 1), (5, 1)], .F 5 5, .F 0 0, .F 1 1, .F 2 2, .F 3 3, .F 4 4]), (57, [.Z 9 [.string ⟨#[]⟩, .string ⟨#[]⟩, .int .i64 0, .string ⟨#[]⟩, .slice none 0 0, .int .i64 0, .int .i64 0, .slice none 0 0, .int .i64 0], .A 9, .Pl [(0, 1), (1, 1), (2, 6), (8, 1)], .S 9, .F 1 1, .F 3 8, .F 2 2, .F 0 0]), (60, [.Z 6 [.string ⟨#[]⟩, .string ⟨#[]⟩, .int .i64 0, .int .i64 0, .string ⟨#[]⟩, .int .i64 0], .A 6, .Pl [(0, 1), (1, 1), (2, 1), (3, 1), (4, 1), (5, 1)], .S 6, .F 1 1, .F 2 2, .F 3 3, .F 4 4, .F 5 5, .F 0 0]), (66, [.Sn, .Sl 3, .El 84 3 40]), (77, [.C, .Mn]), (82, [.C, .Sn, .Sl 1, .El 3 1 8, .S 1]), (84, [.A 3, .Z 3 [.int .i64 0, .int .i64 0, .slice none 0 0], .S 3, .F 0 0, .F 1 1, .F 2 2, .Pl [(0, 1), (1, 1), (2, 1)]]), (87, [.U, .El 5 1 1, .Sn, .Sl 1]), (94, [.C]), (106, [.Z 1 [.nilIface], .C]), (109, [.C]), (111, [.A 2, .Z 2 [.map none, .map none], .Pl [(0, 1), (1, 1)], .S 2, .F 0 0, .F 1 1]), (115, [.Z 4 [.bool false, .bool false, .bool false, .int .i64 0], .S 4, .F 0 0, .F 1 1, .F 2 2, .Pl [(0, 1), (1, 1), (2, 1), (3, 1)], .F 3 3]), (116, [.AA 9 4 115, .A 36, .Z 36 [.bool false, .bool false, .bool false, .int .i64 0, .bool false, .bool false, .bool false, .int .i64 0, .bool false, .bool false, .bool false, .int .i64 0, .bool false, .bool false, .bool false, .int .i64 0, .bool false, .bool false, .bool false, .int .i64 0, .bool false, .bool false, .bool false, .int .i64 0, .bool false, .bool false, .bool false, .int .i64 0, .bool false, .bool false, .bool false, .int .i64 0, .bool false, .bool false, .bool false, .int .i64 0], .Arr 9 4, .S 36]), (122, [.A 2, .Z 2 [.string ⟨#[]⟩, .string ⟨#[]⟩], .S 2, .F 0 0, .F 1 1]), (123, [.El 106 1 16, .Sn, .Sl 1, .C]), (125, [.Z 2 [.string ⟨#[]⟩, .slice none 0 0], .Pl [(0, 1), (1, 1)], .Cn, .S 2, .F 0 0, .F 1 1, .M "provender/policy.holds" 112]), (126, [.Z 2 [.string ⟨#[]⟩, .slice none 0 0], .Pl [(0, 1), (1, 1)], .Cn, .S 2, .F 0 0, .F 1 1, .M "provender/policy.holds" 115]), (128, [.Z 1 [.string ⟨#[]⟩], .Pl [(0, 1)], .Cn, .S 1, .F 0 0, .M "provender/policy.holds" 119]), (130, [.Z 3 [.string ⟨#[]⟩, .int .i64 0, .int .i64 0], .Pl [(0, 1), (1, 1), (2, 1)], .Cn, .S 3, .F 0 0, .F 1 1, .F 2 2, .M "provender/policy.holds" 120]), (132, [.Z 1 [.nilIface], .Pl [(0, 1)], .Cn, .S 1, .F 0 0, .M "provender/policy.holds" 122]), (134, [.Z 1 [.slice none 0 0], .Pl [(0, 1)], .Cn, .S 1, .F 0 0, .M "provender/policy.holds" 123]), (135, [.Z 1 [.slice none 0 0], .Pl [(0, 1)], .Cn, .S 1, .F 0 0, .M "provender/policy.holds" 124]), (137, [.Z 0 [], .Pl [], .Cn, .S 0, .M "provender/policy.holds" 125]), (139, [.Z 4 [.bool false, .bool false, .string ⟨#[]⟩, .int .i64 0], .S 4, .F 0 0, .F 2 2, .A 4, .F 1 1, .F 3 3]), (140, [.AC 6 9, .A 6, .Z 6 [.string ⟨#[]⟩, .string ⟨#[]⟩, .string ⟨#[]⟩, .string ⟨#[]⟩, .string ⟨#[]⟩, .string ⟨#[]⟩], .Arr 6 1, .S 6]), (142, [.Cn]), (145, [.Cn]), (148, [.U, .I .u64, .C]), (151, [.I .u64, .U]), (154, [.Z 3 [.string ⟨#[]⟩, .string ⟨#[]⟩, .nilIface], .Pl [(0, 1), (1, 1), (2, 1)], .S 3]), (159, [.Cn]), (161, [.Z 1 [.string ⟨#[]⟩], .Pl [(0, 1)], .S 1]), (163, [.Z 24 [.int .u8 0, .int .u8 0, .int .u8 0, .int .u8 0, .int .u8 0, .int .u8 0, .int .u8 0, .int .u8 0, .int .u8 0, .int .u8 0, .int .u8 0, .int .u8 0, .int .u8 0, .int .u8 0, .int .u8 0, .int .u8 0, .int .u8 0, .int .u8 0, .int .u8 0, .int .u8 0, .int .u8 0, .int .u8 0, .int .u8 0, .int .u8 0], .Arr 24 1]), (169, [.Arr 20 1]), (170, [.I .u32, .U]), (171, [.Z 65 [.int .u8 0, .int .u8 0, .int .u8 0, .int .u8 0, .int .u8 0, .int .u8 0, .int .u8 0, .int .u8 0, .int .u8 0, .int .u8 0, .int .u8 0, .int .u8 0, .int .u8 0, .int .u8 0, .int .u8 0, .int .u8 0, .int .u8 0, .int .u8 0, .int .u8 0, .int .u8 0, .int .u8 0, .int .u8 0, .int .u8 0, .int .u8 0, .int .u8 0, .int .u8 0, .int .u8 0, .int .u8 0, .int .u8 0, .int .u8 0, .int .u8 0, .int .u8 0, .int .u8 0, .int .u8 0, .int .u8 0, .int .u8 0, .int .u8 0, .int .u8 0, .int .u8 0, .int .u8 0, .int .u8 0, .int .u8 0, .int .u8 0, .int .u8 0, .int .u8 0, .int .u8 0, .int .u8 0, .int .u8 0, .int .u8 0, .int .u8 0, .int .u8 0, .int .u8 0, .int .u8 0, .int .u8 0, .int .u8 0, .int .u8 0, .int .u8 0, .int .u8 0, .int .u8 0, .int .u8 0, .int .u8 0, .int .u8 0, .int .u8 0, .int .u8 0, .int .u8 0], .Arr 65 1]), (174, [.Arr 32 1]), (175, [.Arr 64 1])]
theorem evtt_ok : TTok Tryz.prog evtt := tt_all ⟨⟨(by kernel_rfl : tyI Tryz.prog 2 .i64 = true), (by kernel_rfl : tyU Tryz.prog 2 = true), trivial⟩, ⟨(by kernel_rfl : tyC Tryz.prog 3 = true), (by kernel_rfl : tyS Tryz.prog 3 1 = true), ⟨(by kernel_rfl : zeroCells Tryz.prog 3 = some [.int .i64 0]), rfl⟩, (by kernel_rfl : tyI Tryz.prog 3 .i64 = true), (by kernel_rfl : tyU Tryz.prog 3 = true), trivial⟩, ⟨(by kernel_rfl : tyC Tryz.prog 4 = true), (by kernel_rfl : tyS Tryz.prog 4 1 = true), trivial⟩, ⟨⟨(by kernel_rfl : zeroCells Tryz.prog 5 = some [.int .u8 0]), rfl⟩, (by kernel_rfl : tyC Tryz.prog 5 = true), (by kernel_rfl : tyU Tryz.prog 5 = true), (by kernel_rfl : tyI Tryz.prog 5 .u8 = true), (by kernel_rfl : tyS Tryz.prog 5 1 = true), trivial⟩, ⟨(by kernel_rfl : tyStr Tryz.prog 9 = true), (by kernel_rfl : tyC Tryz.prog 9 = true), (by kernel_rfl : tyS Tryz.prog 9 1 = true), ⟨(by kernel_rfl : zeroCells Tryz.prog 9 = some [.string ⟨#[]⟩]), rfl⟩, (by kernel_rfl : tyU Tryz.prog 9 = true), (by kernel_rfl : Program.concrete Tryz.prog 9 = true), trivial⟩, ⟨(by kernel_rfl : tySlice Tryz.prog 22 = true), (by kernel_rfl : tySl Tryz.prog 22 4 = true), (by kernel_rfl : tyEl Tryz.prog 22 29 4 32 = true), trivial⟩, ⟨(by kernel_rfl : tyC Tryz.prog 23 = true), (by kernel_rfl : tyS Tryz.prog 23 1 = true), trivial⟩, ⟨(by kernel_rfl : tyF Tryz.prog 29 3 3 = true), ⟨(by kernel_rfl : zeroCells Tryz.prog 29 = some [.int .i64 0, .int .i64 0, .int .i64 0, .int .i64 0]), rfl⟩, (by kernel_rfl : tyPlaces Tryz.prog 29 = some [(0, 1), (1, 1), (2, 1), (3, 1)]), (by kernel_rfl : tyS Tryz.prog 29 4 = true), (by kernel_rfl : tyF Tryz.prog 29 2 2 = true), (by kernel_rfl : tyA Tryz.prog 29 4 = true), trivial⟩, ⟨(by kernel_rfl : tyC Tryz.prog 31 = true), (by kernel_rfl : tyEl Tryz.prog 31 57 9 128 = true), (by kernel_rfl : tySlice Tryz.prog 31 = true), (by kernel_rfl : tyS Tryz.prog 31 1 = true), (by kernel_rfl : tySl Tryz.prog 31 9 = true), trivial⟩, ⟨(by kernel_rfl : tyC Tryz.prog 32 = true), (by kernel_rfl : tyEl Tryz.prog 32 60 6 72 = true), (by kernel_rfl : tySlice Tryz.prog 32 = true), (by kernel_rfl : tyS Tryz.prog 32 1 = true), (by kernel_rfl : tySl Tryz.prog 32 6 = true), trivial⟩, ⟨⟨(by kernel_rfl : zeroCells Tryz.prog 34 = some [.slice none 0 0, .slice none 0 0]), rfl⟩, (by kernel_rfl : tyS Tryz.prog 34 2 = true), (by kernel_rfl : tyA Tryz.prog 34 2 = true), (by kernel_rfl : tyPlaces Tryz.prog 34 = some [(0, 1), (1, 1)]), (by kernel_rfl : tyF Tryz.prog 34 0 0 = true), (by kernel_rfl : tyF Tryz.prog 34 1 1 = true), trivial⟩, ⟨⟨(by kernel_rfl : zeroCells Tryz.prog 40 = some [.string ⟨#[]⟩, .int .i64 0]), rfl⟩, (by kernel_rfl : tyPlaces Tryz.prog 40 = some [(0, 1), (1, 1)]), (by kernel_rfl : tyA Tryz.prog 40 2 = true), (by kernel_rfl : tyS Tryz.prog 40 2 = true), (by kernel_rfl : tyF Tryz.prog 40 0 0 = true), (by kernel_rfl : tyF Tryz.prog 40 1 1 = true), trivial⟩, ⟨(by kernel_rfl : tyEl Tryz.prog 41 40 2 24 = true), (by kernel_rfl : tyC Tryz.prog 41 = true), (by kernel_rfl : tySlice Tryz.prog 41 = true), (by kernel_rfl : tySl Tryz.prog 41 2 = true), trivial⟩, ⟨(by kernel_rfl : tyC Tryz.prog 42 = true), (by kernel_rfl : tySlice Tryz.prog 42 = true), (by kernel_rfl : tySl Tryz.prog 42 2 = true), trivial⟩, ⟨⟨(by kernel_rfl : zeroCells Tryz.prog 44 = some [.string ⟨#[]⟩, .string ⟨#[]⟩, .slice none 0 0, .slice none 0 0]), rfl⟩, (by kernel_rfl : tyPlaces Tryz.prog 44 = some [(0, 1), (1, 1), (2, 1), (3, 1)]), (by kernel_rfl : tyA Tryz.prog 44 4 = true), (by kernel_rfl : tyS Tryz.prog 44 4 = true), (by kernel_rfl : tyF Tryz.prog 44 1 1 = true), (by kernel_rfl : tyF Tryz.prog 44 0 0 = true), (by kernel_rfl : tyF Tryz.prog 44 2 2 = true), (by kernel_rfl : tyF Tryz.prog 44 3 3 = true), trivial⟩, ⟨(by kernel_rfl : tyEl Tryz.prog 45 44 4 80 = true), (by kernel_rfl : tySlice Tryz.prog 45 = true), (by kernel_rfl : tySl Tryz.prog 45 4 = true), trivial⟩, ⟨(by kernel_rfl : tyS Tryz.prog 46 1 = true), (by kernel_rfl : tyC Tryz.prog 46 = true), trivial⟩, ⟨(by kernel_rfl : tyF Tryz.prog 48 0 0 = true), (by kernel_rfl : tyF Tryz.prog 48 2 2 = true), ⟨(by kernel_rfl : zeroCells Tryz.prog 48 = some [.int .i64 0, .string ⟨#[]⟩, .int .i64 0]), rfl⟩, (by kernel_rfl : tyPlaces Tryz.prog 48 = some [(0, 1), (1, 1), (2, 1)]), (by kernel_rfl : tyS Tryz.prog 48 3 = true), (by kernel_rfl : tyF Tryz.prog 48 1 1 = true), (by kernel_rfl : tyA Tryz.prog 48 3 = true), trivial⟩, ⟨⟨(by kernel_rfl : zeroCells Tryz.prog 50 = some [.string ⟨#[]⟩, .int .i64 0, .int .i64 0, .string ⟨#[]⟩, .int .i64 0, .int .i64 0, .int .i64 0]), rfl⟩, (by kernel_rfl : tyPlaces Tryz.prog 50 = some [(0, 1), (1, 1), (2, 3), (5, 1), (6, 1)]), (by kernel_rfl : tyS Tryz.prog 50 7 = true), (by kernel_rfl : tyF Tryz.prog 50 2 2 = true), (by kernel_rfl : tyF Tryz.prog 50 4 6 = true), (by kernel_rfl : tyF Tryz.prog 50 3 5 = true), (by kernel_rfl : tyF Tryz.prog 50 1 1 = true), (by kernel_rfl : tyF Tryz.prog 50 0 0 = true), trivial⟩, ⟨(by kernel_rfl : tyEl Tryz.prog 52 9 1 16 = true), (by kernel_rfl : tySlice Tryz.prog 52 = true), (by kernel_rfl : tySl Tryz.prog 52 1 = true), (by kernel_rfl : tyC Tryz.prog 52 = true), (by kernel_rfl : tyS Tryz.prog 52 1 = true), trivial⟩, ⟨(by kernel_rfl : tyEl Tryz.prog 53 55 6 88 = true), (by kernel_rfl : tyC Tryz.prog 53 = true), (by kernel_rfl : tySlice Tryz.prog 53 = true), (by kernel_rfl : tyS Tryz.prog 53 1 = true), (by kernel_rfl : tySl Tryz.prog 53 6 = true), trivial⟩, ⟨(by kernel_rfl : tyS Tryz.prog 55 6 = true), (by kernel_rfl : tyA Tryz.prog 55 6 = true), ⟨(by kernel_rfl : zeroCells Tryz.prog 55 = some [.int .i64 0, .string ⟨#[]⟩, .slice none 0 0, .int .i64 0, .int .i64 0, .slice none 0 0]), rfl⟩, (by kernel_rfl : tyPlaces Tryz.prog 55 = some [(0, 1), (1, 1), (2, 1), (3, 1), (4, 1), (5, 1)]), (by kernel_rfl : tyF Tryz.prog 55 5 5 = true), (by kernel_rfl : tyF Tryz.prog 55 0 0 = true), (by kernel_rfl : tyF Tryz.prog 55 1 1 = true), (by kernel_rfl : tyF Tryz.prog 55 2 2 = true), (by kernel_rfl : tyF Tryz.prog 55 3 3 = true), (by kernel_rfl : tyF Tryz.prog 55 4 4 = true), trivial⟩, ⟨⟨(by kernel_rfl : zeroCells Tryz.prog 57 = some [.string ⟨#[]⟩, .string ⟨#[]⟩, .int .i64 0, .string ⟨#[]⟩, .slice none 0 0, .int .i64 0, .int .i64 0, .slice none 0 0, .int .i64 0]), rfl⟩, (by kernel_rfl : tyA Tryz.prog 57 9 = true), (by kernel_rfl : tyPlaces Tryz.prog 57 = some [(0, 1), (1, 1), (2, 6), (8, 1)]), (by kernel_rfl : tyS Tryz.prog 57 9 = true), (by kernel_rfl : tyF Tryz.prog 57 1 1 = true), (by kernel_rfl : tyF Tryz.prog 57 3 8 = true), (by kernel_rfl : tyF Tryz.prog 57 2 2 = true), (by kernel_rfl : tyF Tryz.prog 57 0 0 = true), trivial⟩, ⟨⟨(by kernel_rfl : zeroCells Tryz.prog 60 = some [.string ⟨#[]⟩, .string ⟨#[]⟩, .int .i64 0, .int .i64 0, .string ⟨#[]⟩, .int .i64 0]), rfl⟩, (by kernel_rfl : tyA Tryz.prog 60 6 = true), (by kernel_rfl : tyPlaces Tryz.prog 60 = some [(0, 1), (1, 1), (2, 1), (3, 1), (4, 1), (5, 1)]), (by kernel_rfl : tyS Tryz.prog 60 6 = true), (by kernel_rfl : tyF Tryz.prog 60 1 1 = true), (by kernel_rfl : tyF Tryz.prog 60 2 2 = true), (by kernel_rfl : tyF Tryz.prog 60 3 3 = true), (by kernel_rfl : tyF Tryz.prog 60 4 4 = true), (by kernel_rfl : tyF Tryz.prog 60 5 5 = true), (by kernel_rfl : tyF Tryz.prog 60 0 0 = true), trivial⟩, ⟨(by kernel_rfl : tySlice Tryz.prog 66 = true), (by kernel_rfl : tySl Tryz.prog 66 3 = true), (by kernel_rfl : tyEl Tryz.prog 66 84 3 40 = true), trivial⟩, ⟨(by kernel_rfl : tyC Tryz.prog 77 = true), (by kernel_rfl : tyMp Tryz.prog 77 = true), trivial⟩, ⟨(by kernel_rfl : tyC Tryz.prog 82 = true), (by kernel_rfl : tySlice Tryz.prog 82 = true), (by kernel_rfl : tySl Tryz.prog 82 1 = true), (by kernel_rfl : tyEl Tryz.prog 82 3 1 8 = true), (by kernel_rfl : tyS Tryz.prog 82 1 = true), trivial⟩, ⟨(by kernel_rfl : tyA Tryz.prog 84 3 = true), ⟨(by kernel_rfl : zeroCells Tryz.prog 84 = some [.int .i64 0, .int .i64 0, .slice none 0 0]), rfl⟩, (by kernel_rfl : tyS Tryz.prog 84 3 = true), (by kernel_rfl : tyF Tryz.prog 84 0 0 = true), (by kernel_rfl : tyF Tryz.prog 84 1 1 = true), (by kernel_rfl : tyF Tryz.prog 84 2 2 = true), (by kernel_rfl : tyPlaces Tryz.prog 84 = some [(0, 1), (1, 1), (2, 1)]), trivial⟩, ⟨(by kernel_rfl : tyU Tryz.prog 87 = true), (by kernel_rfl : tyEl Tryz.prog 87 5 1 1 = true), (by kernel_rfl : tySlice Tryz.prog 87 = true), (by kernel_rfl : tySl Tryz.prog 87 1 = true), trivial⟩, ⟨(by kernel_rfl : tyC Tryz.prog 94 = true), trivial⟩, ⟨⟨(by kernel_rfl : zeroCells Tryz.prog 106 = some [.nilIface]), rfl⟩, (by kernel_rfl : tyC Tryz.prog 106 = true), trivial⟩, ⟨(by kernel_rfl : tyC Tryz.prog 109 = true), trivial⟩, ⟨(by kernel_rfl : tyA Tryz.prog 111 2 = true), ⟨(by kernel_rfl : zeroCells Tryz.prog 111 = some [.map none, .map none]), rfl⟩, (by kernel_rfl : tyPlaces Tryz.prog 111 = some [(0, 1), (1, 1)]), (by kernel_rfl : tyS Tryz.prog 111 2 = true), (by kernel_rfl : tyF Tryz.prog 111 0 0 = true), (by kernel_rfl : tyF Tryz.prog 111 1 1 = true), trivial⟩, ⟨⟨(by kernel_rfl : zeroCells Tryz.prog 115 = some [.bool false, .bool false, .bool false, .int .i64 0]), rfl⟩, (by kernel_rfl : tyS Tryz.prog 115 4 = true), (by kernel_rfl : tyF Tryz.prog 115 0 0 = true), (by kernel_rfl : tyF Tryz.prog 115 1 1 = true), (by kernel_rfl : tyF Tryz.prog 115 2 2 = true), (by kernel_rfl : tyPlaces Tryz.prog 115 = some [(0, 1), (1, 1), (2, 1), (3, 1)]), (by kernel_rfl : tyF Tryz.prog 115 3 3 = true), trivial⟩, ⟨(by kernel_rfl : tyArrA Tryz.prog 116 9 4 115 = true), (by kernel_rfl : tyA Tryz.prog 116 36 = true), ⟨(by kernel_rfl : zeroCells Tryz.prog 116 = some [.bool false, .bool false, .bool false, .int .i64 0, .bool false, .bool false, .bool false, .int .i64 0, .bool false, .bool false, .bool false, .int .i64 0, .bool false, .bool false, .bool false, .int .i64 0, .bool false, .bool false, .bool false, .int .i64 0, .bool false, .bool false, .bool false, .int .i64 0, .bool false, .bool false, .bool false, .int .i64 0, .bool false, .bool false, .bool false, .int .i64 0, .bool false, .bool false, .bool false, .int .i64 0]), rfl⟩, (by kernel_rfl : tyArr Tryz.prog 116 9 4 = true), (by kernel_rfl : tyS Tryz.prog 116 36 = true), trivial⟩, ⟨(by kernel_rfl : tyA Tryz.prog 122 2 = true), ⟨(by kernel_rfl : zeroCells Tryz.prog 122 = some [.string ⟨#[]⟩, .string ⟨#[]⟩]), rfl⟩, (by kernel_rfl : tyS Tryz.prog 122 2 = true), (by kernel_rfl : tyF Tryz.prog 122 0 0 = true), (by kernel_rfl : tyF Tryz.prog 122 1 1 = true), trivial⟩, ⟨(by kernel_rfl : tyEl Tryz.prog 123 106 1 16 = true), (by kernel_rfl : tySlice Tryz.prog 123 = true), (by kernel_rfl : tySl Tryz.prog 123 1 = true), (by kernel_rfl : tyC Tryz.prog 123 = true), trivial⟩, ⟨⟨(by kernel_rfl : zeroCells Tryz.prog 125 = some [.string ⟨#[]⟩, .slice none 0 0]), rfl⟩, (by kernel_rfl : tyPlaces Tryz.prog 125 = some [(0, 1), (1, 1)]), (by kernel_rfl : Program.concrete Tryz.prog 125 = true), (by kernel_rfl : tyS Tryz.prog 125 2 = true), (by kernel_rfl : tyF Tryz.prog 125 0 0 = true), (by kernel_rfl : tyF Tryz.prog 125 1 1 = true), ⟨fun v args w => by kernel_rfl, fun v w => by kernel_rfl⟩, trivial⟩, ⟨⟨(by kernel_rfl : zeroCells Tryz.prog 126 = some [.string ⟨#[]⟩, .slice none 0 0]), rfl⟩, (by kernel_rfl : tyPlaces Tryz.prog 126 = some [(0, 1), (1, 1)]), (by kernel_rfl : Program.concrete Tryz.prog 126 = true), (by kernel_rfl : tyS Tryz.prog 126 2 = true), (by kernel_rfl : tyF Tryz.prog 126 0 0 = true), (by kernel_rfl : tyF Tryz.prog 126 1 1 = true), ⟨fun v args w => by kernel_rfl, fun v w => by kernel_rfl⟩, trivial⟩, ⟨⟨(by kernel_rfl : zeroCells Tryz.prog 128 = some [.string ⟨#[]⟩]), rfl⟩, (by kernel_rfl : tyPlaces Tryz.prog 128 = some [(0, 1)]), (by kernel_rfl : Program.concrete Tryz.prog 128 = true), (by kernel_rfl : tyS Tryz.prog 128 1 = true), (by kernel_rfl : tyF Tryz.prog 128 0 0 = true), ⟨fun v args w => by kernel_rfl, fun v w => by kernel_rfl⟩, trivial⟩, ⟨⟨(by kernel_rfl : zeroCells Tryz.prog 130 = some [.string ⟨#[]⟩, .int .i64 0, .int .i64 0]), rfl⟩, (by kernel_rfl : tyPlaces Tryz.prog 130 = some [(0, 1), (1, 1), (2, 1)]), (by kernel_rfl : Program.concrete Tryz.prog 130 = true), (by kernel_rfl : tyS Tryz.prog 130 3 = true), (by kernel_rfl : tyF Tryz.prog 130 0 0 = true), (by kernel_rfl : tyF Tryz.prog 130 1 1 = true), (by kernel_rfl : tyF Tryz.prog 130 2 2 = true), ⟨fun v args w => by kernel_rfl, fun v w => by kernel_rfl⟩, trivial⟩, ⟨⟨(by kernel_rfl : zeroCells Tryz.prog 132 = some [.nilIface]), rfl⟩, (by kernel_rfl : tyPlaces Tryz.prog 132 = some [(0, 1)]), (by kernel_rfl : Program.concrete Tryz.prog 132 = true), (by kernel_rfl : tyS Tryz.prog 132 1 = true), (by kernel_rfl : tyF Tryz.prog 132 0 0 = true), ⟨fun v args w => by kernel_rfl, fun v w => by kernel_rfl⟩, trivial⟩, ⟨⟨(by kernel_rfl : zeroCells Tryz.prog 134 = some [.slice none 0 0]), rfl⟩, (by kernel_rfl : tyPlaces Tryz.prog 134 = some [(0, 1)]), (by kernel_rfl : Program.concrete Tryz.prog 134 = true), (by kernel_rfl : tyS Tryz.prog 134 1 = true), (by kernel_rfl : tyF Tryz.prog 134 0 0 = true), ⟨fun v args w => by kernel_rfl, fun v w => by kernel_rfl⟩, trivial⟩, ⟨⟨(by kernel_rfl : zeroCells Tryz.prog 135 = some [.slice none 0 0]), rfl⟩, (by kernel_rfl : tyPlaces Tryz.prog 135 = some [(0, 1)]), (by kernel_rfl : Program.concrete Tryz.prog 135 = true), (by kernel_rfl : tyS Tryz.prog 135 1 = true), (by kernel_rfl : tyF Tryz.prog 135 0 0 = true), ⟨fun v args w => by kernel_rfl, fun v w => by kernel_rfl⟩, trivial⟩, ⟨⟨(by kernel_rfl : zeroCells Tryz.prog 137 = some []), rfl⟩, (by kernel_rfl : tyPlaces Tryz.prog 137 = some []), (by kernel_rfl : Program.concrete Tryz.prog 137 = true), (by kernel_rfl : tyS Tryz.prog 137 0 = true), ⟨fun v args w => by kernel_rfl, fun v w => by kernel_rfl⟩, trivial⟩, ⟨⟨(by kernel_rfl : zeroCells Tryz.prog 139 = some [.bool false, .bool false, .string ⟨#[]⟩, .int .i64 0]), rfl⟩, (by kernel_rfl : tyS Tryz.prog 139 4 = true), (by kernel_rfl : tyF Tryz.prog 139 0 0 = true), (by kernel_rfl : tyF Tryz.prog 139 2 2 = true), (by kernel_rfl : tyA Tryz.prog 139 4 = true), (by kernel_rfl : tyF Tryz.prog 139 1 1 = true), (by kernel_rfl : tyF Tryz.prog 139 3 3 = true), trivial⟩, ⟨(by kernel_rfl : tyArrC Tryz.prog 140 6 9 = true), (by kernel_rfl : tyA Tryz.prog 140 6 = true), ⟨(by kernel_rfl : zeroCells Tryz.prog 140 = some [.string ⟨#[]⟩, .string ⟨#[]⟩, .string ⟨#[]⟩, .string ⟨#[]⟩, .string ⟨#[]⟩, .string ⟨#[]⟩]), rfl⟩, (by kernel_rfl : tyArr Tryz.prog 140 6 1 = true), (by kernel_rfl : tyS Tryz.prog 140 6 = true), trivial⟩, ⟨(by kernel_rfl : Program.concrete Tryz.prog 142 = true), trivial⟩, ⟨(by kernel_rfl : Program.concrete Tryz.prog 145 = true), trivial⟩, ⟨(by kernel_rfl : tyU Tryz.prog 148 = true), (by kernel_rfl : tyI Tryz.prog 148 .u64 = true), (by kernel_rfl : tyC Tryz.prog 148 = true), trivial⟩, ⟨(by kernel_rfl : tyI Tryz.prog 151 .u64 = true), (by kernel_rfl : tyU Tryz.prog 151 = true), trivial⟩, ⟨⟨(by kernel_rfl : zeroCells Tryz.prog 154 = some [.string ⟨#[]⟩, .string ⟨#[]⟩, .nilIface]), rfl⟩, (by kernel_rfl : tyPlaces Tryz.prog 154 = some [(0, 1), (1, 1), (2, 1)]), (by kernel_rfl : tyS Tryz.prog 154 3 = true), trivial⟩, ⟨(by kernel_rfl : Program.concrete Tryz.prog 159 = true), trivial⟩, ⟨⟨(by kernel_rfl : zeroCells Tryz.prog 161 = some [.string ⟨#[]⟩]), rfl⟩, (by kernel_rfl : tyPlaces Tryz.prog 161 = some [(0, 1)]), (by kernel_rfl : tyS Tryz.prog 161 1 = true), trivial⟩, ⟨⟨(by kernel_rfl : zeroCells Tryz.prog 163 = some [.int .u8 0, .int .u8 0, .int .u8 0, .int .u8 0, .int .u8 0, .int .u8 0, .int .u8 0, .int .u8 0, .int .u8 0, .int .u8 0, .int .u8 0, .int .u8 0, .int .u8 0, .int .u8 0, .int .u8 0, .int .u8 0, .int .u8 0, .int .u8 0, .int .u8 0, .int .u8 0, .int .u8 0, .int .u8 0, .int .u8 0, .int .u8 0]), rfl⟩, (by kernel_rfl : tyArr Tryz.prog 163 24 1 = true), trivial⟩, ⟨(by kernel_rfl : tyArr Tryz.prog 169 20 1 = true), trivial⟩, ⟨(by kernel_rfl : tyI Tryz.prog 170 .u32 = true), (by kernel_rfl : tyU Tryz.prog 170 = true), trivial⟩, ⟨⟨(by kernel_rfl : zeroCells Tryz.prog 171 = some [.int .u8 0, .int .u8 0, .int .u8 0, .int .u8 0, .int .u8 0, .int .u8 0, .int .u8 0, .int .u8 0, .int .u8 0, .int .u8 0, .int .u8 0, .int .u8 0, .int .u8 0, .int .u8 0, .int .u8 0, .int .u8 0, .int .u8 0, .int .u8 0, .int .u8 0, .int .u8 0, .int .u8 0, .int .u8 0, .int .u8 0, .int .u8 0, .int .u8 0, .int .u8 0, .int .u8 0, .int .u8 0, .int .u8 0, .int .u8 0, .int .u8 0, .int .u8 0, .int .u8 0, .int .u8 0, .int .u8 0, .int .u8 0, .int .u8 0, .int .u8 0, .int .u8 0, .int .u8 0, .int .u8 0, .int .u8 0, .int .u8 0, .int .u8 0, .int .u8 0, .int .u8 0, .int .u8 0, .int .u8 0, .int .u8 0, .int .u8 0, .int .u8 0, .int .u8 0, .int .u8 0, .int .u8 0, .int .u8 0, .int .u8 0, .int .u8 0, .int .u8 0, .int .u8 0, .int .u8 0, .int .u8 0, .int .u8 0, .int .u8 0, .int .u8 0, .int .u8 0]), rfl⟩, (by kernel_rfl : tyArr Tryz.prog 171 65 1 = true), trivial⟩, ⟨(by kernel_rfl : tyArr Tryz.prog 174 32 1 = true), trivial⟩, ⟨(by kernel_rfl : tyArr Tryz.prog 175 64 1 = true), trivial⟩, trivial⟩
def evmt : List MT := [⟨77, 9, 4, true, .i64, .con (.bool false)⟩, ⟨109, 9, 139, true, .i64, .agg [.con (.bool false), .con (.bool false), .con (.string ⟨#[]⟩), .con (.int .i64 0)]⟩]
theorem evmt_ok : MTok Tryz.prog evmt := by
  intro p hp
  simp only [evmt, List.mem_cons, List.not_mem_nil, or_false] at hp
  rcases hp with rfl | rfl
  · exact ⟨by kernel_rfl, keyT_str (by kernel_rfl), _, by kernel_rfl, fun _ => (.con _)⟩
  · exact ⟨by kernel_rfl, keyT_str (by kernel_rfl), _, by kernel_rfl, fun _ => (irel_agg [Value.bool false, Value.bool false, Value.string ⟨#[]⟩, Value.int .i64 0])⟩
end Go.Proofs.YtgkplonohfnlhaaGreatDoor

/-
  DERIVED: THE SHELF's CONTRACTS AT THIS DUMP, IN PLAIN WORDS (tools/lay-plain.mjs out of 'TryzShelf.lean', which tools/lay-shelf.mjs wrote): THE SAME DECLARATIONS UNDER THE SAME NAMES: 'import', 'namespace', 'open', 'def', 'theorem' AND NOTHING ELSE: no command of the shelf's: FOR A HAND-IN. Each laying: the table of numbers ('.._ren') and one theorem, a field a fact of the dump's own or the kernel's comparison; each contract: ONE APPLICATION.
-/
namespace Go.Proofs
open Go.Shelf
def Tryz.lays172_ren : Go.Shelf.Ren := ⟨fun | 172 => 43 | 244 => 59 | 245 => 60 | 247 => 69 | 279 => 70 | 280 => 71 | 281 => 72 | 282 => 73 | 287 => 76 | 316 => 77 | 171 => 79 | 205 => 78 | 321 => 80 | 322 => 81 | 243 => 82 | 246 => 83 | 283 => 84 | 284 => 85 | 285 => 86 | 286 => 87 | 129 => 89 | 317 => 88 | 318 => 90 | 319 => 91 | 320 => 92 | 337 => 93 | 338 => 94 | n => n, fun | 9 => 9 | 3 => 3 | 75 => 94 | 76 => 95 | 4 => 4 | 5 => 5 | 167 => 142 | 37 => 87 | 0 => 0 | 85 => 143 | 2 => 2 | 168 => 145 | 53 => 148 | 175 => 149 | 46 => 151 | 210 => 154 | 127 => 158 | 145 => 161 | 143 => 159 | 21 => 21 | 171 => 163 | 173 => 166 | 212 => 169 | 51 => 170 | 20 => 20 | 213 => 171 | 232 => 174 | 233 => 175 | 80 => 72 | n => n, fun | 15 => 0 | 16 => 1 | 17 => 3 | 18 => 4 | 19 => 5 | n => n⟩
theorem Tryz.lays172 : Go.Proofs.Lays.n172 Tryz.prog Tryz.lays172_ren := {
  mixed := by kernel_rfl
  f129 := Tryz.func89.trans (congrArg some (by kernel_rfl))
  f171 := Tryz.func79.trans (congrArg some (by kernel_rfl))
  f172 := Tryz.func43.trans (congrArg some (by kernel_rfl))
  f205 := Tryz.func78.trans (congrArg some (by kernel_rfl))
  f243 := Tryz.func82.trans (congrArg some (by kernel_rfl))
  f244 := Tryz.func59.trans (congrArg some (by kernel_rfl))
  f245 := Tryz.func60.trans (congrArg some (by kernel_rfl))
  f246 := Tryz.func83.trans (congrArg some (by kernel_rfl))
  f247 := Tryz.func69.trans (congrArg some (by kernel_rfl))
  f279 := Tryz.func70.trans (congrArg some (by kernel_rfl))
  f280 := Tryz.func71.trans (congrArg some (by kernel_rfl))
  f281 := Tryz.func72.trans (congrArg some (by kernel_rfl))
  f282 := Tryz.func73.trans (congrArg some (by kernel_rfl))
  f283 := Tryz.func84.trans (congrArg some (by kernel_rfl))
  f284 := Tryz.func85.trans (congrArg some (by kernel_rfl))
  f285 := Tryz.func86.trans (congrArg some (by kernel_rfl))
  f286 := Tryz.func87.trans (congrArg some (by kernel_rfl))
  f287 := Tryz.func76.trans (congrArg some (by kernel_rfl))
  f316 := Tryz.func77.trans (congrArg some (by kernel_rfl))
  f317 := Tryz.func88.trans (congrArg some (by kernel_rfl))
  f318 := Tryz.func90.trans (congrArg some (by kernel_rfl))
  f319 := Tryz.func91.trans (congrArg some (by kernel_rfl))
  f320 := Tryz.func92.trans (congrArg some (by kernel_rfl))
  f321 := Tryz.func80.trans (congrArg some (by kernel_rfl))
  f322 := Tryz.func81.trans (congrArg some (by kernel_rfl))
  f337 := Tryz.func93.trans (congrArg some (by kernel_rfl))
  f338 := Tryz.func94.trans (congrArg some (by kernel_rfl))
  t0 := Tryz.underlying0
  a0 := Tryz.isAgg0
  z0 := Tryz.sizeOf0
  v0 := Tryz.zeroValue0
  t2 := Tryz.underlying2
  a2 := Tryz.isAgg2
  z2 := Tryz.sizeOf2
  v2 := Tryz.zeroValue2
  t3 := Tryz.underlying3
  a3 := Tryz.isAgg3
  z3 := Tryz.sizeOf3
  v3 := Tryz.zeroValue3
  t4 := Tryz.underlying4
  a4 := Tryz.isAgg4
  z4 := Tryz.sizeOf4
  v4 := Tryz.zeroValue4
  t5 := Tryz.underlying5
  a5 := Tryz.isAgg5
  z5 := Tryz.sizeOf5
  v5 := Tryz.zeroValue5
  t9 := Tryz.underlying9
  a9 := Tryz.isAgg9
  z9 := Tryz.sizeOf9
  v9 := Tryz.zeroValue9
  t20 := Tryz.underlying20
  a20 := Tryz.isAgg20
  z20 := Tryz.sizeOf20
  v20 := Tryz.zeroValue20
  t21 := Tryz.underlying21
  a21 := Tryz.isAgg21
  z21 := Tryz.sizeOf21
  v21 := Tryz.zeroValue21
  t37 := Tryz.underlying87
  a37 := Tryz.isAgg87
  z37 := Tryz.sizeOf87
  v37 := Tryz.zeroValue87
  t46 := Tryz.underlying151
  a46 := Tryz.isAgg151
  z46 := Tryz.sizeOf151
  v46 := Tryz.zeroValue151
  t51 := Tryz.underlying170
  a51 := Tryz.isAgg170
  z51 := Tryz.sizeOf170
  v51 := Tryz.zeroValue170
  t53 := Tryz.underlying148
  a53 := Tryz.isAgg148
  z53 := Tryz.sizeOf148
  v53 := Tryz.zeroValue148
  t75 := Tryz.underlying94
  a75 := Tryz.isAgg94
  z75 := Tryz.sizeOf94
  v75 := Tryz.zeroValue94
  t76 := Tryz.underlying95
  a76 := Tryz.isAgg95
  z76 := Tryz.sizeOf95
  v76 := Tryz.zeroValue95
  t85 := Tryz.underlying143
  a85 := Tryz.isAgg143
  z85 := Tryz.sizeOf143
  v85 := Tryz.zeroValue143
  t127 := Tryz.underlying158
  a127 := Tryz.isAgg158
  z127 := Tryz.sizeOf158
  v127 := Tryz.zeroValue158
  t143 := Tryz.underlying159
  a143 := Tryz.isAgg159
  z143 := Tryz.sizeOf159
  v143 := Tryz.zeroValue159
  t145 := Tryz.underlying161
  a145 := Tryz.isAgg161
  z145 := Tryz.sizeOf161
  v145 := Tryz.zeroValue161
  t167 := Tryz.underlying142
  a167 := Tryz.isAgg142
  z167 := Tryz.sizeOf142
  v167 := Tryz.zeroValue142
  t168 := Tryz.underlying145
  a168 := Tryz.isAgg145
  z168 := Tryz.sizeOf145
  v168 := Tryz.zeroValue145
  t171 := Tryz.underlying163
  a171 := Tryz.isAgg163
  z171 := Tryz.sizeOf163
  v171 := Tryz.zeroValue163
  t173 := Tryz.underlying166
  a173 := Tryz.isAgg166
  z173 := Tryz.sizeOf166
  v173 := Tryz.zeroValue166
  t175 := Tryz.underlying149
  a175 := Tryz.isAgg149
  z175 := Tryz.sizeOf149
  v175 := Tryz.zeroValue149
  t210 := Tryz.underlying154
  a210 := Tryz.isAgg154
  z210 := Tryz.sizeOf154
  v210 := Tryz.zeroValue154
  t212 := Tryz.underlying169
  a212 := Tryz.isAgg169
  z212 := Tryz.sizeOf169
  v212 := Tryz.zeroValue169
  t213 := Tryz.underlying171
  a213 := Tryz.isAgg171
  z213 := Tryz.sizeOf171
  t232 := Tryz.underlying174
  a232 := Tryz.isAgg174
  z232 := Tryz.sizeOf174
  v232 := Tryz.zeroValue174
  t233 := Tryz.underlying175
  a233 := Tryz.isAgg175
  z233 := Tryz.sizeOf175
  v233 := Tryz.zeroValue175
  g15 := by kernel_rfl
  g16 := by kernel_rfl
  g17 := by kernel_rfl
  g18 := by kernel_rfl
  g19 := by kernel_rfl }
open Go.RowKit in
/-- strconv.Atoi: "Atoi is equivalent to ParseInt(s, 10, 0), converted to type int.": AT A DECIMAL NUMERAL OF AT MOST 18 BYTES: its value, and a nil error. The world behind the call: the one new row that the library's '[]byte(s)' lays. (LAID: no walk: one application.) -/
theorem Tryz.strconv_Atoi (s : ByteArray) (n : Int) (hl : s.size ≤ 18) (h : Lib.atoi s.data.toList = some n) (w : World) :
    Calls Tryz.prog 43 #[.string s] w fun e w' => e = .returned (.tuple #[.int .i64 n, .nilIface]) ∧ ∃ t, w' = Lib.bytesWorld w 5 t := Any.strconv_Atoi Tryz.lays172 s n hl h w
end Go.Proofs

namespace Go.Proofs.YtgkplonohfnlhaaGreatDoor
open Go Go.Pv
def xAtoi : List V → Option V
  | [.con (.string s)] => (match Lib.atoi s.data.toList with
    | some n => (match Nat.ble s.size 18 with | true => some (.tup [.con (.int .i64 n), .con .nilIface]) | false => none)
    | none => none)
  | _ => none
theorem xAtoi_ok {gl : Gl} {avs : List V} {v : V} (h : xAtoi avs = some v) : PureG gl Tryz.prog 43 avs v := by
  unfold xAtoi at h
  split at h
  · rename_i s
    split at h
    · rename_i n hn
      split at h
      · rename_i hl
        simp only [Option.some.injEq] at h; subst h
        refine pure_below (l := [.string s]) (v := .tuple #[.int .i64 n, .nilIface]) (fun w => (Go.Proofs.Tryz.strconv_Atoi s n (Nat.le_of_ble_eq_true hl) hn w).mono ?_) (fun m => .tup rfl fun i c v a b => ?_)
        · rintro e w' ⟨rfl, t, rfl⟩
          exact ⟨rfl, Go.Joins.below_bytesWorld _ w 5 t (Nat.le_refl _), (show w.drawn ≤ w.drawn + 1 from Nat.le_succ _)⟩
        · match i with
          | 0 => simp at a b; subst a b; exact .con _
          | 1 => simp at a b; subst a b; exact .con _
          | i + 2 => simp at a
      · simp at h
    · simp at h
  · simp at h
def evxt : XT := [(43, xAtoi)]
theorem evxt_ok {gl : Gl} : XTok gl Tryz.prog evxt := by
  intro p hp
  simp only [evxt, List.mem_cons, List.not_mem_nil, or_false] at hp
  subst hp
  exact ⟨by kernel_rfl, fun avs v h => xAtoi_ok h⟩
end Go.Proofs.YtgkplonohfnlhaaGreatDoor

namespace Go.Proofs.YtgkplonohfnlhaaGreatDoor
open Go Go.Pv
theorem kmixed : Tryz.prog.follows .mixedOrders = true := by kernel_rfl
theorem told_run : evF evft evxt evtt evmt 6000 6 [] = some (.con (.bool true)) := by kernel_rfl
theorem told_pure {gl : Gl} : PureG gl Tryz.prog 6 [] (bV true) := evF_ok evft_ok evxt_ok evtt_ok evmt_ok kmixed told_run
end Go.Proofs.YtgkplonohfnlhaaGreatDoor

namespace Go.Proofs.YtgkplonohfnlhaaGreatDoor
open Go Go.Pv
set_option linter.unusedVariables false
set_option maxRecDepth 100000
theorem W4 (F : Nat) (a1 : (List TDecision)) (r : (Int × Int)) (h : M4 F a1 = some r) : Pure Tryz.prog 4 [(V.lst 4 (a1.map encTDecision))] (V.tup [(iV (r.1)), (iV (r.2))]) := by
  refine pin (fun r => (V.tup [(iV (r.1)), (iV (r.2))])) r rfl Tryz.func4 rfl rfl rfl rfl rfl (fun w0 m0 hg => ?_)
  unfold M4 at h
  refine rn 13 rfl ?_
  refine ln rfl rfl ?_
  refine rn 2 rfl ?_
  refine jK h (fun (p : Int) => (⟨[(4, (iV p))], [], 0⟩ : St)) (fun k2 (p : Int) => k2 p = some r) (fun k2 h => ?_) ?_
  · refine rn 1 rfl ?_
    refine wl (A := a1) 0 rfl (fun hA13 => ?_)
    refine lC (fun (p : Int × Int) => (⟨[(4, (iV (p.1))), (7, (V.lst 4 (a1.map encTDecision))), (8, (iV ((a1.length : Nat) : Int))), (9, (iV (p.2)))], [], 0⟩ : St)) (fun n (p : Int × Int) => RG a1 (fun tl nn => M4_L1 F k2 tl p.1 = some r) n p.2) (fun p h => RG.zero h) (a1.length + 1) (1, 0) (RG.start h) (g0 rfl rfl) (fun n p h => ?_)
    obtain ⟨n6, n7⟩ := p
    refine rn 5 rfl ?_
    refine spL rfl (fun hb8 => ?_) (fun hb8 => ?_)
    · obtain ⟨x9, tl, hx10, h, hk1⟩ := RG.t hA13 h hb8
      unfold M4_L1 at h
      refine rn 5 rfl ?_
      refine ixh hx10 rfl rfl ?_
      refine rn 11 rfl ?_
      refine spO 16 h rfl (fun hb11 h => ?_) (fun hb11 h => ?_)
      · refine rn 11 rfl ?_
        exact rt h rfl
      refine rn 5 rfl ?_
      refine spC h rfl (fun hb12 h => ?_) (fun hb12 h => ?_)
      · refine rn 5 rfl ?_
        exact rt h rfl
      refine rn 13 rfl ?_
      exact jX ((if x9.Level > n6 then x9.Level else n6), (w64 (n7 + 1))) (hk1 _ h) (g0 rfl rfl)
    replace h := RG.f h hb8
    unfold M4_L1 at h
    refine rn 1 rfl ?_
    exact jX n6 h (g0 rfl rfl)
  intro n3 h
  refine rn 6 rfl ?_
  exact rt h rfl
theorem W7 (F : Nat) (a1 : Int) (a2 : Int) (a3 : Int) (r : Bool) (h : M7 F a1 a2 a3 = some r) : Pure Tryz.prog 7 [(iV a1), (iV a2), (iV a3)] (bV r) := by
  refine pin (fun r => (bV r)) r rfl Tryz.func7 rfl rfl rfl rfl rfl (fun w0 m0 hg => ?_)
  unfold M7 at h
  refine rn 10 rfl ?_
  refine spO 10 h rfl (fun hb4 h => ?_) (fun hb4 h => ?_)
  · refine rn 6 rfl ?_
    exact rt h rfl
  refine rn 6 rfl ?_
  exact rt h rfl
theorem W5 (F : Nat) (a1 : (List TDecision)) (r : (Int × Int)) (h : M5 F a1 = some r) : Pure Tryz.prog 5 [(V.lst 4 (a1.map encTDecision))] (V.tup [(iV (r.1)), (iV (r.2))]) := by
  refine pin (fun r => (V.tup [(iV (r.1)), (iV (r.2))])) r rfl Tryz.func5 rfl rfl rfl rfl rfl (fun w0 m0 hg => ?_)
  unfold M5 at h
  refine rn 14 rfl ?_
  refine jK h (fun (p : Int) => (⟨[(4, (iV p))], [], 0⟩ : St)) (fun k2 (p : Int) => k2 p = some r) (fun k2 h => ?_) ?_
  · refine rn 1 rfl ?_
    refine wl (A := a1) 0 rfl (fun hA16 => ?_)
    refine lC (fun (p : Int × Int) => (⟨[(0, (V.lst 4 (a1.map encTDecision))), (4, (iV (p.1))), (5, (iV (p.2)))], [], 0⟩ : St)) (fun n (p : Int × Int) => RG a1 (fun tl nn => M5_L1 F a1 k2 tl nn p.1 = some r) n p.2) (fun p h => RG.zero h) (a1.length + 1) (1, 0) (RG.start h) (g0 rfl rfl) (fun n p h => ?_)
    obtain ⟨n6, n7⟩ := p
    refine rn 5 rfl ?_
    refine ln rfl rfl ?_
    refine rn 2 rfl ?_
    refine spL rfl (fun hb8 => ?_) (fun hb8 => ?_)
    · obtain ⟨x9, tl, hx10, h, hk1⟩ := RG.t hA16 h hb8
      unfold M5_L1 at h
      refine rn 8 rfl ?_
      refine ixh hx10 rfl rfl ?_
      refine rn 2 rfl ?_
      refine cl h rfl rfl rfl (W7 _ _ _ _) rfl (fun y11 hx12 h => ?_)
      refine rn 1 rfl ?_
      refine spC h rfl (fun hb13 h => ?_) (fun hb13 h => ?_)
      · refine rn 5 rfl ?_
        exact rt h rfl
      refine rn 5 rfl ?_
      refine ixl h rfl rfl (fun x14 hx15 h => ?_)
      refine rn 11 rfl ?_
      exact jX ((if x14.Level > n6 then x14.Level else n6), (w64 (n7 + 1))) (hk1 _ h) (g0 rfl rfl)
    replace h := RG.f h hb8
    unfold M5_L1 at h
    refine rn 1 rfl ?_
    exact jX n6 h (g0 rfl rfl)
  intro n3 h
  refine rn 6 rfl ?_
  exact rt h rfl
theorem W6 (F : Nat) (r : Bool) (h : M6 F = some r) : Pure Tryz.prog 6 [] (bV r) := by
  unfold M6 at h
  replace h := Option.some.inj h
  subst h
  exact told_pure
theorem W3 (F : Nat) (a1 : (List TDecision)) (r : Bool) (h : M3 F a1 = some r) : Pure Tryz.prog 3 [(V.lst 4 (a1.map encTDecision))] (bV r) := by
  refine pin (fun r => (bV r)) r rfl Tryz.func3 rfl rfl rfl rfl rfl (fun w0 m0 hg => ?_)
  unfold M3 at h
  refine rn 7 rfl ?_
  refine cl h rfl rfl rfl (W4 _ _) rfl (fun y2 hx3 h => ?_)
  refine rn 9 rfl ?_
  refine cl h rfl rfl rfl (W5 _ _) rfl (fun y4 hx5 h => ?_)
  refine rn 12 rfl ?_
  refine spO 20 h rfl (fun hb6 h => ?_) (fun hb6 h => ?_)
  · refine rn 5 rfl ?_
    refine spO 25 h rfl (fun hb7 h => ?_) (fun hb7 h => ?_)
    · refine cl h rfl rfl rfl (W6 _) rfl (fun y8 hx9 h => ?_)
      refine rn 3 rfl ?_
      exact rt h rfl
    refine rn 4 rfl ?_
    exact rt h rfl
  refine rn 9 rfl ?_
  exact rt h rfl
end Go.Proofs.YtgkplonohfnlhaaGreatDoor

namespace Go.Pv
open Go
set_option linter.unusedVariables false
theorem GlOk.cons {m : Mem} {gl : Gl} {g : Nat} {row : List V} (h : GlAt m g row) (hr : GlOk gl m) : GlOk ((g, row) :: gl) m := by
  intro g' row' hg
  rw [glk] at hg
  cases hb : Nat.beq g g' with
  | true =>
    rw [hb] at hg
    have e := Nat.eq_of_beq_eq_true hb
    subst e
    simp only [cond_true, Option.some.injEq] at hg
    subst hg
    exact h
  | false =>
    rw [hb] at hg
    exact hr g' row' hg
end Go.Pv
