/- Part of the proof: EW, L9T, L9X, L9E. -/
import Derived.Test.YtkeeppclihjlhaaGreatDoorNEC
import Derived.Test.YtkeeppclihjlhaaGreatDoorProg
import Derived.KernelRfl
import Derived.Test.YtkeeppclihjlhaaGreatDoorNEV
import Derived.Lib.SmallJoins
namespace Go.Pv
open Go
section
variable {K : Ctx} {Q : Post} {S S' : St} {ops : Array Oper} {rest : List Oper} {t : TT}
theorem aops_idcall {o : Oper} {d : Nat} {f : FuncId} {avs : List V} {k' : Nat} {hp' : Heap} {dv : V} (hw : Wants ops S o true) (hd : o.dst = some d) (hN : Nat.blt d K.N = true)
  (hrun : ∀ m β w a, Rel K m β w a S → ∃ vs : Array Value, (execOp a.eval o).run K.P w = .ok (.enter f vs) w ∧ VRels m β avs vs)
  (hc : MutG K.gl K.P f avs S.nx S.hp dv k' hp') (kk : AOps K ops rest Q ⟨(d, dv) :: S.env, hp', k'⟩) : AOps K ops (o :: rest) Q S := by
 intro m β w a r
 unfold wpList
 rw [if_pos (hw.at r)]
 left
 obtain ⟨vs, h1, h2⟩ := hrun m β w a r
 unfold Oper.wp
 rw [h1]
 refine (hc m β w vs r.imm (K.glok.mono r.ext) h2 r.own (fun id b cap hl hb => (r.priv id b cap hl hb).1) r.inj (fun id x hl hx => let q := r.hid id x hl hx; ⟨q.lt, q.m, q.ne, q.un⟩) r.nx).mono ?_
 rintro e w' ⟨v, m', β', rfl, hv, g⟩
 simp only [hd]
 have hle : S.nx ≤ k' := by
  cases hn : S.nx with
  | zero => exact Nat.zero_le _
  | succ q => have := (g.pin q (by omega)).1; omega
 have hβle : β.le β' := by
  intro id l hl
  by_cases h : id < S.nx
  ·rw [(g.pin id h).2]; exact hl
  ·rw [r.nx id (by omega)] at hl; simp at hl
 have hold : ∀ b, b < K.w0.heap.size → K.old b → b < w.heap.size ∧ Foreign S.hp β b := fun b hb ho =>
  ⟨Nat.lt_of_lt_of_le hb r.size, fun i hl => ⟨fun c hb' => (r.priv _ _ _ hl hb').2 hb ho, fun hx => (r.hid _ _ hl hx).old hb ho⟩⟩
 have r2 : Rel K m' β' w' a ⟨S.env, hp', k'⟩ := by
  constructor
  ·exact g.imm
  ·exact Mem.le_trans r.ext g.le
  ·intro b hb ho
   obtain ⟨q1, q2⟩ := hold b hb ho
   rw [(g.old b q1 q2).1]
   exact r.mold b hb ho
  ·intro b hb ho
   obtain ⟨q1, q2⟩ := hold b hb ho
   rw [(g.old b q1 q2).2]
   exact r.frame b hb ho
  ·exact Nat.le_trans r.size g.size
  ·exact r.same.trans g.same
  ·exact r.tn
  ·exact r.df
  ·exact fun t => (r.env t).mono g.le hβle
  ·exact g.own
  ·intro id b cap hl hb
   obtain ⟨q1, q2⟩ := g.priv id b cap hl hb
   exact ⟨q1, fun hb0 ho => q2 (hold b hb0 ho).1 (hold b hb0 ho).2⟩
  ·exact g.inj
  ·intro id x hl hx
   obtain ⟨q1, q2, q3, q4, q5⟩ := g.hid id x hl hx
   exact ⟨q1, q2, fun hb0 ho => q3 (hold x hb0 ho).1 (hold x hb0 ho).2, q4, q5⟩
  ·exact g.nx
  ·intro q hq
   obtain ⟨p1, p2⟩ := r.pin q hq
   have := g.pin q p1
   exact ⟨this.1, this.2.trans p2⟩
 exact kk m' β' w' _ (r2.put hN hv)
def rsvM (t : TT) (e : Env) (hp : Heap) : ResultVar → Option V
 | .tmp x => gtC e x
 | .cell x T => (match gtC e x with
  | some (.ptr id k i o) => (match hgC hp id with
   | some (.arr _ k2 rows) => (match Nat.beq k k2 with | true => (match lgt rows i with | some row => ldV t T row o | none => none) | false => none)
   | _ => none)
  | _ => none)
theorem rsvM_ok (ht : TTok K.P t) {rv : ResultVar} {v : V} (h : rsvM t S.env S.hp rv = some v) : ResOneM K.P S rv v := by
 cases rv with
 | tmp x => exact .tmp (gtC_ok h)
 | cell x T =>
  simp only [rsvM] at h
  split at h
  ·rename_i id k i o hx
   split at h
   ·rename_i k2 rows ho
    split at h
    ·rename_i hk
     have hk := Nat.eq_of_beq_eq_true hk
     subst hk
     split at h
     ·rename_i row hr
      cases hn : ask t T TF.qA with
      | some n =>
       obtain ⟨cs, rfl, hc, hd⟩ := ldV_agg hn h
       exact .agg (askA ht hn) (gtC_ok hx) (hgC_ok ho) (lgt_ok hr) (cut_ok hc).1 (cut_ok hc).2 hd
      | none =>
       obtain ⟨hq, hc, hd⟩ := ldV_cell hn h
       exact .cell (askC ht hq) (gtC_ok hx) (hgC_ok ho) (lgt_ok hr) (lgt_ok hc) hd
     ·simp at h
    ·simp at h
   ·simp at h
  ·simp at h
def rsL (t : TT) (e : Env) (hp : Heap) : List ResultVar → Option (List V)
 | [] => some []
 | r :: l => (match rsvM t e hp r with | some v => (match rsL t e hp l with | some q => some (v :: q) | none => none) | none => none)
theorem rsL_ok (ht : TTok K.P t) : ∀ {l : List ResultVar} {ds : List V}, rsL t S.env S.hp l = some ds → ResL K.P S l ds
 | [], ds, h => by simp [rsL] at h; subst h; exact .nil
 | r :: l, ds, h => by
  simp only [rsL] at h
  split at h
  ·rename_i v hv
   split at h
   ·rename_i q hq; simp at h; subst h; exact .cons (rsvM_ok ht hv) (rsL_ok ht hq)
   ·simp at h
  ·simp at h
abbrev FT := List (Nat × Func)
def FTok (P : Program) (ft : FT) : Prop := ∀ p, p ∈ ft → P.funcs[p.1]? = some p.2 ∧ fnOk P p.1 = true
abbrev XT := List (Nat × (List V → Option V))
def XTok (gl : Gl) (P : Program) (xt : XT) : Prop := ∀ p, p ∈ xt → fnOk P p.1 = true ∧ ∀ avs v, p.2 avs = some v → PureG gl P p.1 avs v
def opOf (t : TT) (N : Nat) (ops : Array Oper) (e : Env) (o : Oper) : Option (Nat × Nat × List V) :=
 match dsC N ops e o with
 | some d => (match clX t e o.op with | some (f, avs) => some (d, f, avs) | none => none)
 | none => none
def nAl (t : TT) : List Oper → Nat
 | [] => 0
 | o :: l => (match o.op with | .alloc _ => nAl t l + 1 | .box _ _ => nAl t l + 1 | .makeMap _ _ => nAl t l + 1 | .buildSlice _ _ _ => nAl t l + 1 | .makeSlice _ _ _ => nAl t l + 1 | .call c => (match c.callee with | .value x => (match x with | .func f => (match ask t f TF.qR with | some n => nAl t l + n | none => nAl t l + 12) | _ => nAl t l + 12) | .invoke _ _ => nAl t l + 12 | .builtin .append => nAl t l + 2 | _ => nAl t l) | _ => nAl t l)
def evR (ft : FT) (xt : XT) (t : TT) (mt : List MT) : Nat → Nat → List It → St → Option St
 | 0, _, _, _ => none
 | _ + 1, _, [], S => some S
 | n + 1, N, x :: s, ⟨e, hp, nx⟩ =>
  match x with
  | .c .ret => some ⟨e, hp, nx⟩
  | .c (.loop c) => evR ft xt t mt n N (.c c :: .c (.loop c) :: s) ⟨e, hp, nx⟩
  | .c (.region _ ops true) =>
   (match drR (fun f avs => match lk xt f with
     | some g => g avs
     | none => (match lk ft f with
      | some fn => (match fn.body with
       | some c => (match Nat.ble avs.length fn.ntmps, finO 0 fn.results.toList (evR ft xt t mt n fn.ntmps [.c c] ⟨argEnv 0 avs, [], 0⟩) with
        | true, some ⟨e1, hp1, _⟩ => (match rsL t e1 hp1 fn.results.toList with
         | some ds => (match immB (resV ds) with | true => some (resV ds) | false => none)
         | none => none)
        | _, _ => none)
       | none => none)
      | none => none)) (fun f avs hp k => match lk ft f with
      | some fn => (match fn.body with
       | some c => (match Nat.ble avs.length fn.ntmps, finO k fn.results.toList (evR ft xt t mt n fn.ntmps [.c c] ⟨argEnv 0 avs, hp, k⟩) with
        | true, some ⟨e1, hp1, k1⟩ => (match rsL t e1 hp1 fn.results.toList with
         | some ds => some (resV ds, hp1, k1)
         | none => none)
        | _, _ => none)
       | none => none)
      | none => none) t mt N ops ops.toList nx e (resH nx (nAl t ops.toList) hp) (nx + nAl t ops.toList) with
   | some (ds, e', hp') => (match anyOk ops.toList ds with | true => evR ft xt t mt n N s ⟨e', dropR nx (nAl t ops.toList) hp', nx + nAl t ops.toList⟩ | false => none)
   | none => none)
  | .o ops (o :: l) =>
   (match one t N ops o ⟨e, hp, nx⟩ with
   | some ⟨e', hp', nx'⟩ => evR ft xt t mt n N (.o ops l :: s) ⟨tidyE e', tidyH hp', nx'⟩
   | none => (match opOf t N ops e o with
    | some (d, f, avs) => (match lk xt f with
     | some g => (match g avs with | some v => (match allNB immB avs with | true => evR ft xt t mt n N (.o ops l :: s) ⟨putE d v e, hp, nx⟩ | false => none) | none => none)
     | none => (match lk ft f with
      | some fn => (match fn.body with
       | some c => (match Nat.ble avs.length fn.ntmps, finO nx fn.results.toList (evR ft xt t mt n fn.ntmps [.c c] ⟨argEnv 0 avs, hp, nx⟩) with
        | true, some ⟨e1, hp1, nx1⟩ => (match rsL t e1 hp1 fn.results.toList with
         | some ds => evR ft xt t mt n N (.o ops l :: s) ⟨putE d (resV ds) e, hp1, nx1⟩
         | none => none)
        | _, _ => none)
       | none => none)
      | none => none))
    | none => (match dsC N ops e o with
     | some d => (match oneY t mt e hp nx o.op with | some (v, u, q) => evR ft xt t mt n N (.o ops l :: s) ⟨putE d v e, putsH u hp, nx + q⟩ | none => (match o.guard, apN t d e hp nx o.op with | none, some (ue, uh) => evR ft xt t mt n N (.o ops l :: s) ⟨putsE ue e, putsH uh hp, nx + 2⟩ | _, _ => none))
     | none => (match o.dst, wt ops e o.guard with
      | none, some true => (match wrY t mt e hp o.op with | some (id, ob) => evR ft xt t mt n N (.o ops l :: s) ⟨e, putH id ob hp, nx⟩ | none => none)
      | _, _ => none))))
  | x => (match stp t N (x :: s) ⟨e, hp, nx⟩ with | some (s', S') => evR ft xt t mt n N s' S' | none => none)
theorem ghost_putE {d : Nat} {v : V} {e : Env} {hp : Heap} {nx : Nat} : Ghost K ⟨(d, v) :: e, hp, nx⟩ ⟨putE d v e, hp, nx⟩ := fun m β _ _ r => ⟨m, β, r.congr (get_putE d v e) (fun _ => rfl) rfl⟩
theorem ghost_putH {id : Nat} {ob : Ob} {e : Env} {hp : Heap} {nx : Nat} : Ghost K ⟨e, (id, ob) :: hp, nx⟩ ⟨e, putH id ob hp, nx⟩ := fun m β _ _ r => ⟨m, β, r.congr (fun _ => rfl) (hget_putH id ob hp) rfl⟩
theorem ghost_puts {d : Nat} {v : V} {e : Env} {u hp : Heap} {nx : Nat} : Ghost K ⟨(d, v) :: e, u ++ hp, nx⟩ ⟨putE d v e, putsH u hp, nx⟩ := fun m β _ _ r => ⟨m, β, r.congr (get_putE d v e) (hget_putsH u hp) rfl⟩
theorem ghost_puts2 {ue e : Env} {u hp : Heap} {nx : Nat} : Ghost K ⟨ue ++ e, u ++ hp, nx⟩ ⟨putsE ue e, putsH u hp, nx⟩ := fun m β _ _ r => ⟨m, β, r.congr (get_putsE ue e) (hget_putsH u hp) rfl⟩
theorem ghost_trans {S1 S2 S3 : St} (h : Ghost K S1 S2) (h' : Ghost K S2 S3) : Ghost K S1 S3 := Ghost.trans h h'
theorem ghost_refl : Ghost K S S := fun m β _ _ r => ⟨m, β, r⟩
theorem wg_b {i : Nat} {s : List It} (h : WG K Q s S) : WG K Q (.b i :: s) S := h
theorem evR_ok {gl : Gl} {P : Program} {ft : FT} {xt : XT} {mt : List MT} (hft : FTok P ft) (hxt : XTok gl P xt) (ht : TTok P t) (hmt : MTok P mt) (hm : P.follows .mixedOrders = true) :
  ∀ (n : Nat) (K : Ctx), K.P = P → K.gl = gl → ∀ (s : List It) (S S' : St) (Q : Post), evR ft xt t mt n K.N s S = some S' → (∀ S0, Ghost K S0 S' → ∀ e, (e = .ret ∨ e = .normal) → Q e S0) → ∀ S0, Ghost K S0 S → WG K Q s S0 := by
 intro n
 induction n with
 | zero => intro K hP hgl s S S' Q h _; simp [evR] at h
 | succ n ih =>
  -- a call by its text
  have call : ∀ (f : Nat) (fn : Func) (c : Code) (avs : List V) (hp hp1 : Heap) (nx nx1 : Nat) (e1 : Env) (ds : List V), P.funcs[f]? = some fn → fn.body = some c → Nat.ble avs.length fn.ntmps = true →
    finO nx fn.results.toList (evR ft xt t mt n fn.ntmps [.c c] ⟨argEnv 0 avs, hp, nx⟩) = some ⟨e1, hp1, nx1⟩ → rsL t e1 hp1 fn.results.toList = some ds → MutG gl P f avs nx hp (resV ds) nx1 hp1 := by
   intro f fn c avs hp hp1 nx nx1 e1 ds q1 hb hle hrun hds
   refine mut_enter (l := fn.results.toList) q1 hb rfl (by simp) hle _ rfl (fun w0 m0 β0 hg => ?_)
   obtain ⟨S9, hr9, hf9⟩ := finO_some hrun
   refine ih (mctx gl P fn.ntmps nx hp w0 m0 β0 hg) rfl rfl [.c c] _ _ _ hr9 ?_ _ ghost_refl
   exact fun S0 hg e he => ⟨he, e1, Ghost.trans hg (by rw [← hf9]; exact fin_ok rfl), rsL_ok (S := ⟨e1, hp1, nx1⟩) ht hds⟩
  intro K hP hgl s S S' Q h hQ S0 hg0
  cases s with
  | nil => simp only [evR, Option.some.injEq] at h; subst h; exact hQ _ hg0 _ (.inr rfl)
  | cons x s =>
   obtain ⟨e, hp, nx⟩ := S
   have ha : Ag e ⟨e, hp, nx⟩ := agE (S := ⟨e, hp, nx⟩)
   have htK : TTok K.P t := by rw [hP]; exact ht
   have hmK : MTok K.P mt := by rw [hP]; exact hmt
   simp only [evR] at h
   split at h
   ·simp only [Option.some.injEq] at h; subst h; exact awp_ret (post_ret (hQ _ hg0 _ (.inl rfl)))
   ·exact awp_ghost hg0 (awp_loop (ih K hP hgl _ _ _ _ h hQ _ ghost_refl))
   ·split at h
    ·rename_i ds e' hp' hdr
     split at h
     ·rename_i hok
      refine awp_ghost hg0 (awp_dr ?_ ?_ htK hmK (by rw [hP]; exact hm) hdr hok (fun S1 hg1 => ih K hP hgl _ _ _ _ h hQ _ (ghost_trans hg1 (ghost_less (dropR_at _ _ _)))))
      ·intro f avs hp k v hp' k' hv
       split at hv
       ·rename_i fn hfn
        obtain ⟨q1, q2⟩ := hft _ (lk_mem hfn)
        split at hv
        ·rename_i c hb
         split at hv
         ·rename_i e1 hp1 nx1 hle hrun
          split at hv
          ·rename_i ds hds
           simp only [Option.some.injEq, Prod.mk.injEq] at hv; obtain ⟨rfl, rfl, rfl⟩ := hv
           exact ⟨by rw [hP]; exact q2, by rw [hP, hgl]; exact call f fn c avs hp hp1 k nx1 e1 ds q1 hb hle hrun hds⟩
          ·simp at hv
         ·simp at hv
        ·simp at hv
       ·simp at hv
      intro f avs v hv
      split at hv
      ·rename_i g hg
       obtain ⟨q1, q2⟩ := hxt _ (lk_mem hg)
       exact ⟨by rw [hP]; exact q1, by rw [hP, hgl]; exact q2 _ _ hv⟩
      ·split at hv
       ·rename_i fn hfn
        obtain ⟨q1, q2⟩ := hft _ (lk_mem hfn)
        split at hv
        ·rename_i c hb
         split at hv
         ·rename_i e1 hp1 nx1 hle hrun
          split at hv
          ·rename_i ds hds
           split at hv
           ·rename_i him
            simp only [Option.some.injEq] at hv; subst hv
            exact ⟨by rw [hP]; exact q2, by rw [hP, hgl]; exact mut_pure (call f fn c avs [] hp1 0 _ e1 ds q1 hb hle hrun hds) him⟩
           ·simp at hv
          ·simp at hv
         ·simp at hv
        ·simp at hv
       ·simp at hv
     ·simp at h
    ·simp at h
   ·rename_i ops o l
    refine aops_ghost hg0 ?_
    split at h
    ·rename_i e' hp' nx' h1
     exact one_ok htK h1 (ih K hP hgl _ _ _ _ h hQ _ ghost_tidy)
    ·split at h
     ·rename_i d f avs hop
      unfold opOf at hop
      split at hop
      ·rename_i d' hd
       split at hop
       ·rename_i hc
        simp only [Option.some.injEq, Prod.mk.injEq] at hop
        obtain ⟨rfl, rfl, rfl⟩ := hop
        obtain ⟨w1, w2, w3⟩ := dsC_ok ha hd
        split at h
        ·rename_i g hg
         split at h
         ·rename_i v hv
          obtain ⟨q1, q2⟩ := hxt _ (lk_mem hg)
          split at h
          ·rename_i him
           exact aops_calls w1 w2 w3 (fun m β w a r => by
            obtain ⟨vs, e1, e2⟩ := clX_run0 htK ha hc (by rw [hP]; exact q1) m β w a r
            exact ⟨vs, e1, ⟨e2.len, fun i c v a b => immN_ok (allN_ok him c (List.mem_of_getElem? a)) (e2.at' i c v a b)⟩⟩) (by rw [hP, hgl]; exact q2 _ _ hv) (ih K hP hgl _ _ _ _ h hQ _ ghost_putE)
          ·simp at h
         ·simp at h
        ·split at h
         ·rename_i fn hfn
          obtain ⟨q1, q2⟩ := hft _ (lk_mem hfn)
          split at h
          ·rename_i c hb
           split at h
           ·rename_i e1 hp1 nx1 hle hrun
            split at h
            ·rename_i ds hds
             exact aops_idcall w1 w2 w3 (clX_run0 htK ha hc (by rw [hP]; exact q2)) (by rw [hP, hgl]; exact call _ _ _ _ _ _ _ _ _ _ q1 hb hle hrun hds) (ih K hP hgl _ _ _ _ h hQ _ ghost_putE)
            ·simp at h
           ·simp at h
          ·simp at h
         ·simp at h
       ·simp at hop
      ·simp at hop
     ·split at h
      ·rename_i d hd
       obtain ⟨w1, w2, w3⟩ := dsC_ok ha hd
       split at h
       ·rename_i v u q h1
        obtain ⟨dst, op, ty, pos, after, g⟩ := o
        simp only at w2
        subst w2
        exact oneY_ok htK hmK ha (agH (S := ⟨e, hp, nx⟩)) rfl h1 w1 w3 (ih K hP hgl _ _ _ _ h hQ _ ghost_puts)
       ·split at h
        ·rename_i hgd h1
         obtain ⟨dst, op, ty, pos, after, g⟩ := o
         simp only at w2
         subst w2
         exact apN_ok htK h1 hgd w3 (ih K hP hgl _ _ _ _ h hQ _ ghost_puts2)
        ·simp at h
      ·split at h
       ·rename_i hdst hwt
        have hw := wt_ok ha hwt
        split at h
        ·rename_i id ob h1
         obtain ⟨dst, op, ty, pos, after, g⟩ := o
         simp only at hdst
         subst hdst
         exact wrY_ok htK hmK ha (agH (S := ⟨e, hp, nx⟩)) h1 hw (ih K hP hgl _ _ _ _ h hQ _ ghost_putH)
        ·simp at h
       ·simp at h
   ·rename_i x4 n1 n2 n3 n4
    split at h
    ·rename_i s' S2 h1
     have k := stp_ok (Q := Q) htK h1 (ih K hP hgl _ _ _ _ h hQ _ ghost_refl)
     cases x with
     | c x => exact awp_ghost hg0 k
     | o ops l => exact aops_ghost hg0 k
     | b i => simp only [stp, Option.some.injEq, Prod.mk.injEq] at h1; obtain ⟨rfl, rfl⟩ := h1; exact wg_b (ih K hP hgl _ _ _ _ h hQ _ hg0)
     | j J => simp [stp] at h1
    ·simp at h
def evF (ft : FT) (xt : XT) (t : TT) (mt : List MT) (n f : Nat) (avs : List V) : Option V :=
 match lk ft f with
 | some fn => (match fn.body with
  | some c => (match Nat.ble avs.length fn.ntmps, evR ft xt t mt n fn.ntmps [.c c] ⟨argEnv 0 avs, [], 0⟩ with
   | true, some ⟨e1, hp1, _⟩ => (match rsL t e1 hp1 fn.results.toList with
    | some ds => (match immB (resV ds) with | true => some (resV ds) | false => none)
    | none => none)
   | _, _ => none)
  | none => none)
 | none => none
theorem evF_ok {gl : Gl} {P : Program} {ft : FT} {xt : XT} {mt : List MT} (hft : FTok P ft) (hxt : XTok gl P xt) (ht : TTok P t) (hmt : MTok P mt) (hm : P.follows .mixedOrders = true) {n f : Nat} {avs : List V} {v : V}
  (h : evF ft xt t mt n f avs = some v) : PureG gl P f avs v := by
 unfold evF at h
 split at h
 ·rename_i fn hfn
  obtain ⟨q1, q2⟩ := hft _ (lk_mem hfn)
  split at h
  ·rename_i c hb
   split at h
   ·rename_i e1 hp1 nx1 hle hrun
    split at h
    ·rename_i ds hds
     split at h
     ·rename_i him
      simp only [Option.some.injEq] at h; subst h
      refine mut_pure (k' := nx1) (hp' := hp1) ?_ him
      refine mut_enter (l := fn.results.toList) q1 hb rfl (by simp) hle _ rfl (fun w0 m0 β0 hg => ?_)
      refine evR_ok hft hxt ht hmt hm n (mctx gl P fn.ntmps 0 [] w0 m0 β0 hg) rfl rfl [.c c] _ _ _ hrun ?_ _ ghost_refl
      exact fun S0 hg e he => ⟨he, e1, hg, rsL_ok (S := ⟨e1, hp1, nx1⟩) ht hds⟩
     ·simp at h
    ·simp at h
   ·simp at h
  ·simp at h
 ·simp at h
end
end Go.Pv
namespace Go.Proofs.YtkeeppclihjlhaaGreatDoor
open Go Go.Pv
set_option maxRecDepth 100000
noncomputable def evft : FT := [(10, Tryz.f10), (12, Tryz.f12), (14, Tryz.f14), (16, Tryz.f16), (17, Tryz.f17), (31, Tryz.f31), (32, Tryz.f32), (34, Tryz.f34), (35, Tryz.f35), (36, Tryz.f36), (40, Tryz.f40), (41, Tryz.f41), (45, Tryz.f45), (48, Tryz.f48), (49, Tryz.f49), (50, Tryz.f50), (51, Tryz.f51), (52, Tryz.f52), (62, Tryz.f62), (65, Tryz.f65), (66, Tryz.f66), (67, Tryz.f67), (69, Tryz.f69), (70, Tryz.f70), (71, Tryz.f71), (73, Tryz.f73), (74, Tryz.f74), (75, Tryz.f75), (76, Tryz.f76), (77, Tryz.f77), (78, Tryz.f78), (79, Tryz.f79), (80, Tryz.f80), (81, Tryz.f81), (89, Tryz.f89), (90, Tryz.f90), (91, Tryz.f91), (92, Tryz.f92), (93, Tryz.f93), (94, Tryz.f94), (95, Tryz.f95), (96, Tryz.f96), (97, Tryz.f97), (98, Tryz.f98), (99, Tryz.f99), (100, Tryz.f100), (112, Tryz.f112), (114, Tryz.f114), (115, Tryz.f115), (116, Tryz.f116), (117, Tryz.f117), (118, Tryz.f118), (119, Tryz.f119), (120, Tryz.f120), (121, Tryz.f121), (122, Tryz.f122), (123, Tryz.f123), (130, Tryz.f130), (131, Tryz.f131), (132, Tryz.f132), (133, Tryz.f133), (134, Tryz.f134), (136, Tryz.f136), (137, Tryz.f137), (138, Tryz.f138), (139, Tryz.f139), (140, Tryz.f140), (141, Tryz.f141), (142, Tryz.f142), (143, Tryz.f143), (144, Tryz.f144), (145, Tryz.f145), (146, Tryz.f146), (147, Tryz.f147), (148, Tryz.f148), (149, Tryz.f149), (150, Tryz.f150), (151, Tryz.f151), (152, Tryz.f152), (153, Tryz.f153), (154, Tryz.f154), (155, Tryz.f155), (156, Tryz.f156), (157, Tryz.f157), (158, Tryz.f158), (159, Tryz.f159), (160, Tryz.f160), (176, Tryz.f176), (177, Tryz.f177), (178, Tryz.f178), (179, Tryz.f179), (180, Tryz.f180), (181, Tryz.f181), (182, Tryz.f182), (183, Tryz.f183), (184, Tryz.f184), (185, Tryz.f185), (186, Tryz.f186), (187, Tryz.f187), (188, Tryz.f188), (189, Tryz.f189), (190, Tryz.f190), (191, Tryz.f191)]
theorem evft_ok : FTok Tryz.prog evft := by
 intro p hp
 simp only [evft, List.mem_cons, List.not_mem_nil, or_false] at hp
 rcases hp with rfl | rfl | rfl | rfl | rfl | rfl | rfl | rfl | rfl | rfl | rfl | rfl | rfl | rfl | rfl | rfl | rfl | rfl | rfl | rfl | rfl | rfl | rfl | rfl | rfl | rfl | rfl | rfl | rfl | rfl | rfl | rfl | rfl | rfl | rfl | rfl | rfl | rfl | rfl | rfl | rfl | rfl | rfl | rfl | rfl | rfl | rfl | rfl | rfl | rfl | rfl | rfl | rfl | rfl | rfl | rfl | rfl | rfl | rfl | rfl | rfl | rfl | rfl | rfl | rfl | rfl | rfl | rfl | rfl | rfl | rfl | rfl | rfl | rfl | rfl | rfl | rfl | rfl | rfl | rfl | rfl | rfl | rfl | rfl | rfl | rfl | rfl | rfl | rfl | rfl | rfl | rfl | rfl | rfl | rfl | rfl | rfl | rfl | rfl | rfl | rfl | rfl | rfl
 ·exact ⟨Tryz.func10, by kernel_rfl⟩
 ·exact ⟨Tryz.func12, by kernel_rfl⟩
 ·exact ⟨Tryz.func14, by kernel_rfl⟩
 ·exact ⟨Tryz.func16, by kernel_rfl⟩
 ·exact ⟨Tryz.func17, by kernel_rfl⟩
 ·exact ⟨Tryz.func31, by kernel_rfl⟩
 ·exact ⟨Tryz.func32, by kernel_rfl⟩
 ·exact ⟨Tryz.func34, by kernel_rfl⟩
 ·exact ⟨Tryz.func35, by kernel_rfl⟩
 ·exact ⟨Tryz.func36, by kernel_rfl⟩
 ·exact ⟨Tryz.func40, by kernel_rfl⟩
 ·exact ⟨Tryz.func41, by kernel_rfl⟩
 ·exact ⟨Tryz.func45, by kernel_rfl⟩
 ·exact ⟨Tryz.func48, by kernel_rfl⟩
 ·exact ⟨Tryz.func49, by kernel_rfl⟩
 ·exact ⟨Tryz.func50, by kernel_rfl⟩
 ·exact ⟨Tryz.func51, by kernel_rfl⟩
 ·exact ⟨Tryz.func52, by kernel_rfl⟩
 ·exact ⟨Tryz.func62, by kernel_rfl⟩
 ·exact ⟨Tryz.func65, by kernel_rfl⟩
 ·exact ⟨Tryz.func66, by kernel_rfl⟩
 ·exact ⟨Tryz.func67, by kernel_rfl⟩
 ·exact ⟨Tryz.func69, by kernel_rfl⟩
 ·exact ⟨Tryz.func70, by kernel_rfl⟩
 ·exact ⟨Tryz.func71, by kernel_rfl⟩
 ·exact ⟨Tryz.func73, by kernel_rfl⟩
 ·exact ⟨Tryz.func74, by kernel_rfl⟩
 ·exact ⟨Tryz.func75, by kernel_rfl⟩
 ·exact ⟨Tryz.func76, by kernel_rfl⟩
 ·exact ⟨Tryz.func77, by kernel_rfl⟩
 ·exact ⟨Tryz.func78, by kernel_rfl⟩
 ·exact ⟨Tryz.func79, by kernel_rfl⟩
 ·exact ⟨Tryz.func80, by kernel_rfl⟩
 ·exact ⟨Tryz.func81, by kernel_rfl⟩
 ·exact ⟨Tryz.func89, by kernel_rfl⟩
 ·exact ⟨Tryz.func90, by kernel_rfl⟩
 ·exact ⟨Tryz.func91, by kernel_rfl⟩
 ·exact ⟨Tryz.func92, by kernel_rfl⟩
 ·exact ⟨Tryz.func93, by kernel_rfl⟩
 ·exact ⟨Tryz.func94, by kernel_rfl⟩
 ·exact ⟨Tryz.func95, by kernel_rfl⟩
 ·exact ⟨Tryz.func96, by kernel_rfl⟩
 ·exact ⟨Tryz.func97, by kernel_rfl⟩
 ·exact ⟨Tryz.func98, by kernel_rfl⟩
 ·exact ⟨Tryz.func99, by kernel_rfl⟩
 ·exact ⟨Tryz.func100, by kernel_rfl⟩
 ·exact ⟨Tryz.func112, by kernel_rfl⟩
 ·exact ⟨Tryz.func114, by kernel_rfl⟩
 ·exact ⟨Tryz.func115, by kernel_rfl⟩
 ·exact ⟨Tryz.func116, by kernel_rfl⟩
 ·exact ⟨Tryz.func117, by kernel_rfl⟩
 ·exact ⟨Tryz.func118, by kernel_rfl⟩
 ·exact ⟨Tryz.func119, by kernel_rfl⟩
 ·exact ⟨Tryz.func120, by kernel_rfl⟩
 ·exact ⟨Tryz.func121, by kernel_rfl⟩
 ·exact ⟨Tryz.func122, by kernel_rfl⟩
 ·exact ⟨Tryz.func123, by kernel_rfl⟩
 ·exact ⟨Tryz.func130, by kernel_rfl⟩
 ·exact ⟨Tryz.func131, by kernel_rfl⟩
 ·exact ⟨Tryz.func132, by kernel_rfl⟩
 ·exact ⟨Tryz.func133, by kernel_rfl⟩
 ·exact ⟨Tryz.func134, by kernel_rfl⟩
 ·exact ⟨Tryz.func136, by kernel_rfl⟩
 ·exact ⟨Tryz.func137, by kernel_rfl⟩
 ·exact ⟨Tryz.func138, by kernel_rfl⟩
 ·exact ⟨Tryz.func139, by kernel_rfl⟩
 ·exact ⟨Tryz.func140, by kernel_rfl⟩
 ·exact ⟨Tryz.func141, by kernel_rfl⟩
 ·exact ⟨Tryz.func142, by kernel_rfl⟩
 ·exact ⟨Tryz.func143, by kernel_rfl⟩
 ·exact ⟨Tryz.func144, by kernel_rfl⟩
 ·exact ⟨Tryz.func145, by kernel_rfl⟩
 ·exact ⟨Tryz.func146, by kernel_rfl⟩
 ·exact ⟨Tryz.func147, by kernel_rfl⟩
 ·exact ⟨Tryz.func148, by kernel_rfl⟩
 ·exact ⟨Tryz.func149, by kernel_rfl⟩
 ·exact ⟨Tryz.func150, by kernel_rfl⟩
 ·exact ⟨Tryz.func151, by kernel_rfl⟩
 ·exact ⟨Tryz.func152, by kernel_rfl⟩
 ·exact ⟨Tryz.func153, by kernel_rfl⟩
 ·exact ⟨Tryz.func154, by kernel_rfl⟩
 ·exact ⟨Tryz.func155, by kernel_rfl⟩
 ·exact ⟨Tryz.func156, by kernel_rfl⟩
 ·exact ⟨Tryz.func157, by kernel_rfl⟩
 ·exact ⟨Tryz.func158, by kernel_rfl⟩
 ·exact ⟨Tryz.func159, by kernel_rfl⟩
 ·exact ⟨Tryz.func160, by kernel_rfl⟩
 ·exact ⟨Tryz.func176, by kernel_rfl⟩
 ·exact ⟨Tryz.func177, by kernel_rfl⟩
 ·exact ⟨Tryz.func178, by kernel_rfl⟩
 ·exact ⟨Tryz.func179, by kernel_rfl⟩
 ·exact ⟨Tryz.func180, by kernel_rfl⟩
 ·exact ⟨Tryz.func181, by kernel_rfl⟩
 ·exact ⟨Tryz.func182, by kernel_rfl⟩
 ·exact ⟨Tryz.func183, by kernel_rfl⟩
 ·exact ⟨Tryz.func184, by kernel_rfl⟩
 ·exact ⟨Tryz.func185, by kernel_rfl⟩
 ·exact ⟨Tryz.func186, by kernel_rfl⟩
 ·exact ⟨Tryz.func187, by kernel_rfl⟩
 ·exact ⟨Tryz.func188, by kernel_rfl⟩
 ·exact ⟨Tryz.func189, by kernel_rfl⟩
 ·exact ⟨Tryz.func190, by kernel_rfl⟩
 ·exact ⟨Tryz.func191, by kernel_rfl⟩
def evtt : TT := [(2, [.I .i64, .U]), (3, [.C, .S 1, .Z 1 [.int .i64 0], .I .i64, .U]), (4, [.S 1, .C]), (5, [.Z 1 [.int .u8 0], .I .u8, .U, .C, .S 1]), (9, [.C, .S 1, .Str, .Z 1 [.string ⟨#[]⟩], .U, .Cn]), (22, [.C, .Sn, .Sl 2]), (23, [.C, .Sn, .Sl 2, .El 79 2 24]), (25, [.S 4, .F 0 0, .F 1 1, .F 2 2, .F 3 3, .Z 4 [.string ⟨#[]⟩, .string ⟨#[]⟩, .slice none 0 0, .slice none 0 0], .Pl [(0, 1), (1, 1), (2, 1), (3, 1)], .A 4]), (26, [.C, .Sn, .Sl 1, .El 9 1 16, .S 1]), (27, [.C, .Sn, .Sl 6, .El 29 6 88, .S 1]), (29, [.S 6, .A 6, .F 5 5, .Z 6 [.int .i64 0, .string ⟨#[]⟩, .slice none 0 0, .int .i64 0, .int .i64 0, .slice none 0 0], .F 0 0, .F 1 1, .F 2 2, .F 3 3, .F 4 4, .Pl [(0, 1), (1, 1), (2, 1), (3, 1), (4, 1), (5, 1)]]), (30, [.C, .Sn, .Sl 9, .El 87 9 128, .S 1]), (31, [.C, .Sn, .Sl 6, .El 44 6 72, .S 1]), (33, [.S 2, .F 0 0, .F 1 1, .A 2, .Z 2 [.slice none 0 0, .slice none 0 0], .Pl [(0, 1), (1, 1)]]), (34, [.C, .S 1]), (42, [.El 25 4 80, .Sn, .Sl 4]), (44, [.A 6, .Z 6 [.string ⟨#[]⟩, .string ⟨#[]⟩, .int .i64 0, .int .i64 0, .string ⟨#[]⟩, .int .i64 0], .S 6, .F 1 1, .F 2 2, .F 3 3, .F 4 4, .F 5 5, .F 0 0, .Pl [(0, 1), (1, 1), (2, 1), (3, 1), (4, 1), (5, 1)]]), (45, [.Sn, .Sl 4, .El 50 4 32]), (50, [.F 3 3, .Z 4 [.int .i64 0, .int .i64 0, .int .i64 0, .int .i64 0], .Pl [(0, 1), (1, 1), (2, 1), (3, 1)], .S 4, .F 2 2, .A 4]), (57, [.C, .Sn, .Sl 1, .El 3 1 8, .S 1]), (66, [.Z 1 [.nilIface], .C]), (69, [.C]), (70, [.C, .Mn]), (72, [.A 2, .Z 2 [.map none, .map none], .Pl [(0, 1), (1, 1)], .S 2, .F 0 0, .F 1 1]), (77, [.A 2, .Z 2 [.string ⟨#[]⟩, .string ⟨#[]⟩], .S 2, .F 0 0, .F 1 1]), (79, [.A 2, .Z 2 [.string ⟨#[]⟩, .int .i64 0], .S 2, .F 0 0, .F 1 1, .Pl [(0, 1), (1, 1)]]), (87, [.A 9, .Z 9 [.string ⟨#[]⟩, .string ⟨#[]⟩, .int .i64 0, .string ⟨#[]⟩, .slice none 0 0, .int .i64 0, .int .i64 0, .slice none 0 0, .int .i64 0], .S 9, .F 0 0, .F 1 1, .F 2 2, .F 3 8, .Pl [(0, 1), (1, 1), (2, 6), (8, 1)]]), (94, [.Sn, .Sl 3, .El 146 3 40]), (103, [.El 66 1 16, .Sn, .Sl 1, .C]), (105, [.Z 2 [.string ⟨#[]⟩, .slice none 0 0], .Pl [(0, 1), (1, 1)], .Cn, .S 2, .F 0 0, .F 1 1, .M "provender/policy.holds" 178]), (106, [.Z 2 [.string ⟨#[]⟩, .slice none 0 0], .Pl [(0, 1), (1, 1)], .Cn, .S 2, .F 0 0, .F 1 1, .M "provender/policy.holds" 181]), (108, [.Z 1 [.string ⟨#[]⟩], .Pl [(0, 1)], .Cn, .S 1, .F 0 0, .M "provender/policy.holds" 185]), (110, [.Z 3 [.string ⟨#[]⟩, .int .i64 0, .int .i64 0], .Pl [(0, 1), (1, 1), (2, 1)], .Cn, .S 3, .F 0 0, .F 1 1, .F 2 2, .M "provender/policy.holds" 186]), (112, [.Z 1 [.nilIface], .Pl [(0, 1)], .Cn, .S 1, .F 0 0, .M "provender/policy.holds" 188]), (114, [.Z 1 [.slice none 0 0], .Pl [(0, 1)], .Cn, .S 1, .F 0 0, .M "provender/policy.holds" 189]), (115, [.Z 1 [.slice none 0 0], .Pl [(0, 1)], .Cn, .S 1, .F 0 0, .M "provender/policy.holds" 190]), (117, [.Z 0 [], .Pl [], .Cn, .S 0, .M "provender/policy.holds" 191]), (119, [.Z 4 [.bool false, .bool false, .string ⟨#[]⟩, .int .i64 0], .S 4, .F 0 0, .F 2 2, .A 4, .F 1 1, .F 3 3]), (126, [.Z 4 [.bool false, .bool false, .bool false, .int .i64 0], .S 4, .F 0 0, .F 1 1, .F 2 2, .Pl [(0, 1), (1, 1), (2, 1), (3, 1)], .F 3 3]), (127, [.AA 9 4 126, .A 36, .Z 36 [.bool false, .bool false, .bool false, .int .i64 0, .bool false, .bool false, .bool false, .int .i64 0, .bool false, .bool false, .bool false, .int .i64 0, .bool false, .bool false, .bool false, .int .i64 0, .bool false, .bool false, .bool false, .int .i64 0, .bool false, .bool false, .bool false, .int .i64 0, .bool false, .bool false, .bool false, .int .i64 0, .bool false, .bool false, .bool false, .int .i64 0, .bool false, .bool false, .bool false, .int .i64 0], .Arr 9 4, .S 36]), (135, [.S 1, .C]), (137, [.F 0 0, .F 2 2, .Z 3 [.int .i64 0, .string ⟨#[]⟩, .int .i64 0], .Pl [(0, 1), (1, 1), (2, 1)], .S 3, .F 1 1, .A 3]), (139, [.Z 7 [.string ⟨#[]⟩, .int .i64 0, .int .i64 0, .string ⟨#[]⟩, .int .i64 0, .int .i64 0, .int .i64 0], .Pl [(0, 1), (1, 1), (2, 3), (5, 1), (6, 1)], .S 7, .F 2 2, .F 4 6, .F 3 5, .F 1 1, .F 0 0]), (146, [.A 3, .Z 3 [.int .i64 0, .int .i64 0, .slice none 0 0], .S 3, .F 0 0, .F 1 1, .F 2 2, .Pl [(0, 1), (1, 1), (2, 1)]]), (152, [.I .u64, .U]), (173, [.I .u32, .U]), (175, [.U, .I .u64, .C]), (176, [.U, .El 5 1 1, .Sn, .Sl 1]), (182, [.C]), (194, [.AC 6 9, .A 6, .Z 6 [.string ⟨#[]⟩, .string ⟨#[]⟩, .string ⟨#[]⟩, .string ⟨#[]⟩, .string ⟨#[]⟩, .string ⟨#[]⟩], .Arr 6 1, .S 6]), (196, [.Cn]), (199, [.Cn]), (206, [.Z 3 [.string ⟨#[]⟩, .string ⟨#[]⟩, .nilIface], .Pl [(0, 1), (1, 1), (2, 1)], .S 3]), (211, [.Cn]), (213, [.Z 1 [.string ⟨#[]⟩], .Pl [(0, 1)], .S 1]), (215, [.Z 24 [.int .u8 0, .int .u8 0, .int .u8 0, .int .u8 0, .int .u8 0, .int .u8 0, .int .u8 0, .int .u8 0, .int .u8 0, .int .u8 0, .int .u8 0, .int .u8 0, .int .u8 0, .int .u8 0, .int .u8 0, .int .u8 0, .int .u8 0, .int .u8 0, .int .u8 0, .int .u8 0, .int .u8 0, .int .u8 0, .int .u8 0, .int .u8 0], .Arr 24 1]), (220, [.Arr 20 1]), (221, [.Z 65 [.int .u8 0, .int .u8 0, .int .u8 0, .int .u8 0, .int .u8 0, .int .u8 0, .int .u8 0, .int .u8 0, .int .u8 0, .int .u8 0, .int .u8 0, .int .u8 0, .int .u8 0, .int .u8 0, .int .u8 0, .int .u8 0, .int .u8 0, .int .u8 0, .int .u8 0, .int .u8 0, .int .u8 0, .int .u8 0, .int .u8 0, .int .u8 0, .int .u8 0, .int .u8 0, .int .u8 0, .int .u8 0, .int .u8 0, .int .u8 0, .int .u8 0, .int .u8 0, .int .u8 0, .int .u8 0, .int .u8 0, .int .u8 0, .int .u8 0, .int .u8 0, .int .u8 0, .int .u8 0, .int .u8 0, .int .u8 0, .int .u8 0, .int .u8 0, .int .u8 0, .int .u8 0, .int .u8 0, .int .u8 0, .int .u8 0, .int .u8 0, .int .u8 0, .int .u8 0, .int .u8 0, .int .u8 0, .int .u8 0, .int .u8 0, .int .u8 0, .int .u8 0, .int .u8 0, .int .u8 0, .int .u8 0, .int .u8 0, .int .u8 0, .int .u8 0, .int .u8 0], .Arr 65 1]), (222, [.Arr 32 1]), (223, [.Arr 64 1])]
theorem evtt_ok : TTok Tryz.prog evtt := tt_all ⟨⟨(by kernel_rfl : tyI Tryz.prog 2 .i64 = true), (by kernel_rfl : tyU Tryz.prog 2 = true), trivial⟩, ⟨(by kernel_rfl : tyC Tryz.prog 3 = true), (by kernel_rfl : tyS Tryz.prog 3 1 = true), ⟨(by kernel_rfl : zeroCells Tryz.prog 3 = some [.int .i64 0]), rfl⟩, (by kernel_rfl : tyI Tryz.prog 3 .i64 = true), (by kernel_rfl : tyU Tryz.prog 3 = true), trivial⟩, ⟨(by kernel_rfl : tyS Tryz.prog 4 1 = true), (by kernel_rfl : tyC Tryz.prog 4 = true), trivial⟩, ⟨⟨(by kernel_rfl : zeroCells Tryz.prog 5 = some [.int .u8 0]), rfl⟩, (by kernel_rfl : tyI Tryz.prog 5 .u8 = true), (by kernel_rfl : tyU Tryz.prog 5 = true), (by kernel_rfl : tyC Tryz.prog 5 = true), (by kernel_rfl : tyS Tryz.prog 5 1 = true), trivial⟩, ⟨(by kernel_rfl : tyC Tryz.prog 9 = true), (by kernel_rfl : tyS Tryz.prog 9 1 = true), (by kernel_rfl : tyStr Tryz.prog 9 = true), ⟨(by kernel_rfl : zeroCells Tryz.prog 9 = some [.string ⟨#[]⟩]), rfl⟩, (by kernel_rfl : tyU Tryz.prog 9 = true), (by kernel_rfl : Program.concrete Tryz.prog 9 = true), trivial⟩, ⟨(by kernel_rfl : tyC Tryz.prog 22 = true), (by kernel_rfl : tySlice Tryz.prog 22 = true), (by kernel_rfl : tySl Tryz.prog 22 2 = true), trivial⟩, ⟨(by kernel_rfl : tyC Tryz.prog 23 = true), (by kernel_rfl : tySlice Tryz.prog 23 = true), (by kernel_rfl : tySl Tryz.prog 23 2 = true), (by kernel_rfl : tyEl Tryz.prog 23 79 2 24 = true), trivial⟩, ⟨(by kernel_rfl : tyS Tryz.prog 25 4 = true), (by kernel_rfl : tyF Tryz.prog 25 0 0 = true), (by kernel_rfl : tyF Tryz.prog 25 1 1 = true), (by kernel_rfl : tyF Tryz.prog 25 2 2 = true), (by kernel_rfl : tyF Tryz.prog 25 3 3 = true), ⟨(by kernel_rfl : zeroCells Tryz.prog 25 = some [.string ⟨#[]⟩, .string ⟨#[]⟩, .slice none 0 0, .slice none 0 0]), rfl⟩, (by kernel_rfl : tyPlaces Tryz.prog 25 = some [(0, 1), (1, 1), (2, 1), (3, 1)]), (by kernel_rfl : tyA Tryz.prog 25 4 = true), trivial⟩, ⟨(by kernel_rfl : tyC Tryz.prog 26 = true), (by kernel_rfl : tySlice Tryz.prog 26 = true), (by kernel_rfl : tySl Tryz.prog 26 1 = true), (by kernel_rfl : tyEl Tryz.prog 26 9 1 16 = true), (by kernel_rfl : tyS Tryz.prog 26 1 = true), trivial⟩, ⟨(by kernel_rfl : tyC Tryz.prog 27 = true), (by kernel_rfl : tySlice Tryz.prog 27 = true), (by kernel_rfl : tySl Tryz.prog 27 6 = true), (by kernel_rfl : tyEl Tryz.prog 27 29 6 88 = true), (by kernel_rfl : tyS Tryz.prog 27 1 = true), trivial⟩, ⟨(by kernel_rfl : tyS Tryz.prog 29 6 = true), (by kernel_rfl : tyA Tryz.prog 29 6 = true), (by kernel_rfl : tyF Tryz.prog 29 5 5 = true), ⟨(by kernel_rfl : zeroCells Tryz.prog 29 = some [.int .i64 0, .string ⟨#[]⟩, .slice none 0 0, .int .i64 0, .int .i64 0, .slice none 0 0]), rfl⟩, (by kernel_rfl : tyF Tryz.prog 29 0 0 = true), (by kernel_rfl : tyF Tryz.prog 29 1 1 = true), (by kernel_rfl : tyF Tryz.prog 29 2 2 = true), (by kernel_rfl : tyF Tryz.prog 29 3 3 = true), (by kernel_rfl : tyF Tryz.prog 29 4 4 = true), (by kernel_rfl : tyPlaces Tryz.prog 29 = some [(0, 1), (1, 1), (2, 1), (3, 1), (4, 1), (5, 1)]), trivial⟩, ⟨(by kernel_rfl : tyC Tryz.prog 30 = true), (by kernel_rfl : tySlice Tryz.prog 30 = true), (by kernel_rfl : tySl Tryz.prog 30 9 = true), (by kernel_rfl : tyEl Tryz.prog 30 87 9 128 = true), (by kernel_rfl : tyS Tryz.prog 30 1 = true), trivial⟩, ⟨(by kernel_rfl : tyC Tryz.prog 31 = true), (by kernel_rfl : tySlice Tryz.prog 31 = true), (by kernel_rfl : tySl Tryz.prog 31 6 = true), (by kernel_rfl : tyEl Tryz.prog 31 44 6 72 = true), (by kernel_rfl : tyS Tryz.prog 31 1 = true), trivial⟩, ⟨(by kernel_rfl : tyS Tryz.prog 33 2 = true), (by kernel_rfl : tyF Tryz.prog 33 0 0 = true), (by kernel_rfl : tyF Tryz.prog 33 1 1 = true), (by kernel_rfl : tyA Tryz.prog 33 2 = true), ⟨(by kernel_rfl : zeroCells Tryz.prog 33 = some [.slice none 0 0, .slice none 0 0]), rfl⟩, (by kernel_rfl : tyPlaces Tryz.prog 33 = some [(0, 1), (1, 1)]), trivial⟩, ⟨(by kernel_rfl : tyC Tryz.prog 34 = true), (by kernel_rfl : tyS Tryz.prog 34 1 = true), trivial⟩, ⟨(by kernel_rfl : tyEl Tryz.prog 42 25 4 80 = true), (by kernel_rfl : tySlice Tryz.prog 42 = true), (by kernel_rfl : tySl Tryz.prog 42 4 = true), trivial⟩, ⟨(by kernel_rfl : tyA Tryz.prog 44 6 = true), ⟨(by kernel_rfl : zeroCells Tryz.prog 44 = some [.string ⟨#[]⟩, .string ⟨#[]⟩, .int .i64 0, .int .i64 0, .string ⟨#[]⟩, .int .i64 0]), rfl⟩, (by kernel_rfl : tyS Tryz.prog 44 6 = true), (by kernel_rfl : tyF Tryz.prog 44 1 1 = true), (by kernel_rfl : tyF Tryz.prog 44 2 2 = true), (by kernel_rfl : tyF Tryz.prog 44 3 3 = true), (by kernel_rfl : tyF Tryz.prog 44 4 4 = true), (by kernel_rfl : tyF Tryz.prog 44 5 5 = true), (by kernel_rfl : tyF Tryz.prog 44 0 0 = true), (by kernel_rfl : tyPlaces Tryz.prog 44 = some [(0, 1), (1, 1), (2, 1), (3, 1), (4, 1), (5, 1)]), trivial⟩, ⟨(by kernel_rfl : tySlice Tryz.prog 45 = true), (by kernel_rfl : tySl Tryz.prog 45 4 = true), (by kernel_rfl : tyEl Tryz.prog 45 50 4 32 = true), trivial⟩, ⟨(by kernel_rfl : tyF Tryz.prog 50 3 3 = true), ⟨(by kernel_rfl : zeroCells Tryz.prog 50 = some [.int .i64 0, .int .i64 0, .int .i64 0, .int .i64 0]), rfl⟩, (by kernel_rfl : tyPlaces Tryz.prog 50 = some [(0, 1), (1, 1), (2, 1), (3, 1)]), (by kernel_rfl : tyS Tryz.prog 50 4 = true), (by kernel_rfl : tyF Tryz.prog 50 2 2 = true), (by kernel_rfl : tyA Tryz.prog 50 4 = true), trivial⟩, ⟨(by kernel_rfl : tyC Tryz.prog 57 = true), (by kernel_rfl : tySlice Tryz.prog 57 = true), (by kernel_rfl : tySl Tryz.prog 57 1 = true), (by kernel_rfl : tyEl Tryz.prog 57 3 1 8 = true), (by kernel_rfl : tyS Tryz.prog 57 1 = true), trivial⟩, ⟨⟨(by kernel_rfl : zeroCells Tryz.prog 66 = some [.nilIface]), rfl⟩, (by kernel_rfl : tyC Tryz.prog 66 = true), trivial⟩, ⟨(by kernel_rfl : tyC Tryz.prog 69 = true), trivial⟩, ⟨(by kernel_rfl : tyC Tryz.prog 70 = true), (by kernel_rfl : tyMp Tryz.prog 70 = true), trivial⟩, ⟨(by kernel_rfl : tyA Tryz.prog 72 2 = true), ⟨(by kernel_rfl : zeroCells Tryz.prog 72 = some [.map none, .map none]), rfl⟩, (by kernel_rfl : tyPlaces Tryz.prog 72 = some [(0, 1), (1, 1)]), (by kernel_rfl : tyS Tryz.prog 72 2 = true), (by kernel_rfl : tyF Tryz.prog 72 0 0 = true), (by kernel_rfl : tyF Tryz.prog 72 1 1 = true), trivial⟩, ⟨(by kernel_rfl : tyA Tryz.prog 77 2 = true), ⟨(by kernel_rfl : zeroCells Tryz.prog 77 = some [.string ⟨#[]⟩, .string ⟨#[]⟩]), rfl⟩, (by kernel_rfl : tyS Tryz.prog 77 2 = true), (by kernel_rfl : tyF Tryz.prog 77 0 0 = true), (by kernel_rfl : tyF Tryz.prog 77 1 1 = true), trivial⟩, ⟨(by kernel_rfl : tyA Tryz.prog 79 2 = true), ⟨(by kernel_rfl : zeroCells Tryz.prog 79 = some [.string ⟨#[]⟩, .int .i64 0]), rfl⟩, (by kernel_rfl : tyS Tryz.prog 79 2 = true), (by kernel_rfl : tyF Tryz.prog 79 0 0 = true), (by kernel_rfl : tyF Tryz.prog 79 1 1 = true), (by kernel_rfl : tyPlaces Tryz.prog 79 = some [(0, 1), (1, 1)]), trivial⟩, ⟨(by kernel_rfl : tyA Tryz.prog 87 9 = true), ⟨(by kernel_rfl : zeroCells Tryz.prog 87 = some [.string ⟨#[]⟩, .string ⟨#[]⟩, .int .i64 0, .string ⟨#[]⟩, .slice none 0 0, .int .i64 0, .int .i64 0, .slice none 0 0, .int .i64 0]), rfl⟩, (by kernel_rfl : tyS Tryz.prog 87 9 = true), (by kernel_rfl : tyF Tryz.prog 87 0 0 = true), (by kernel_rfl : tyF Tryz.prog 87 1 1 = true), (by kernel_rfl : tyF Tryz.prog 87 2 2 = true), (by kernel_rfl : tyF Tryz.prog 87 3 8 = true), (by kernel_rfl : tyPlaces Tryz.prog 87 = some [(0, 1), (1, 1), (2, 6), (8, 1)]), trivial⟩, ⟨(by kernel_rfl : tySlice Tryz.prog 94 = true), (by kernel_rfl : tySl Tryz.prog 94 3 = true), (by kernel_rfl : tyEl Tryz.prog 94 146 3 40 = true), trivial⟩, ⟨(by kernel_rfl : tyEl Tryz.prog 103 66 1 16 = true), (by kernel_rfl : tySlice Tryz.prog 103 = true), (by kernel_rfl : tySl Tryz.prog 103 1 = true), (by kernel_rfl : tyC Tryz.prog 103 = true), trivial⟩, ⟨⟨(by kernel_rfl : zeroCells Tryz.prog 105 = some [.string ⟨#[]⟩, .slice none 0 0]), rfl⟩, (by kernel_rfl : tyPlaces Tryz.prog 105 = some [(0, 1), (1, 1)]), (by kernel_rfl : Program.concrete Tryz.prog 105 = true), (by kernel_rfl : tyS Tryz.prog 105 2 = true), (by kernel_rfl : tyF Tryz.prog 105 0 0 = true), (by kernel_rfl : tyF Tryz.prog 105 1 1 = true), ⟨fun v args w => by kernel_rfl, fun v w => by kernel_rfl⟩, trivial⟩, ⟨⟨(by kernel_rfl : zeroCells Tryz.prog 106 = some [.string ⟨#[]⟩, .slice none 0 0]), rfl⟩, (by kernel_rfl : tyPlaces Tryz.prog 106 = some [(0, 1), (1, 1)]), (by kernel_rfl : Program.concrete Tryz.prog 106 = true), (by kernel_rfl : tyS Tryz.prog 106 2 = true), (by kernel_rfl : tyF Tryz.prog 106 0 0 = true), (by kernel_rfl : tyF Tryz.prog 106 1 1 = true), ⟨fun v args w => by kernel_rfl, fun v w => by kernel_rfl⟩, trivial⟩, ⟨⟨(by kernel_rfl : zeroCells Tryz.prog 108 = some [.string ⟨#[]⟩]), rfl⟩, (by kernel_rfl : tyPlaces Tryz.prog 108 = some [(0, 1)]), (by kernel_rfl : Program.concrete Tryz.prog 108 = true), (by kernel_rfl : tyS Tryz.prog 108 1 = true), (by kernel_rfl : tyF Tryz.prog 108 0 0 = true), ⟨fun v args w => by kernel_rfl, fun v w => by kernel_rfl⟩, trivial⟩, ⟨⟨(by kernel_rfl : zeroCells Tryz.prog 110 = some [.string ⟨#[]⟩, .int .i64 0, .int .i64 0]), rfl⟩, (by kernel_rfl : tyPlaces Tryz.prog 110 = some [(0, 1), (1, 1), (2, 1)]), (by kernel_rfl : Program.concrete Tryz.prog 110 = true), (by kernel_rfl : tyS Tryz.prog 110 3 = true), (by kernel_rfl : tyF Tryz.prog 110 0 0 = true), (by kernel_rfl : tyF Tryz.prog 110 1 1 = true), (by kernel_rfl : tyF Tryz.prog 110 2 2 = true), ⟨fun v args w => by kernel_rfl, fun v w => by kernel_rfl⟩, trivial⟩, ⟨⟨(by kernel_rfl : zeroCells Tryz.prog 112 = some [.nilIface]), rfl⟩, (by kernel_rfl : tyPlaces Tryz.prog 112 = some [(0, 1)]), (by kernel_rfl : Program.concrete Tryz.prog 112 = true), (by kernel_rfl : tyS Tryz.prog 112 1 = true), (by kernel_rfl : tyF Tryz.prog 112 0 0 = true), ⟨fun v args w => by kernel_rfl, fun v w => by kernel_rfl⟩, trivial⟩, ⟨⟨(by kernel_rfl : zeroCells Tryz.prog 114 = some [.slice none 0 0]), rfl⟩, (by kernel_rfl : tyPlaces Tryz.prog 114 = some [(0, 1)]), (by kernel_rfl : Program.concrete Tryz.prog 114 = true), (by kernel_rfl : tyS Tryz.prog 114 1 = true), (by kernel_rfl : tyF Tryz.prog 114 0 0 = true), ⟨fun v args w => by kernel_rfl, fun v w => by kernel_rfl⟩, trivial⟩, ⟨⟨(by kernel_rfl : zeroCells Tryz.prog 115 = some [.slice none 0 0]), rfl⟩, (by kernel_rfl : tyPlaces Tryz.prog 115 = some [(0, 1)]), (by kernel_rfl : Program.concrete Tryz.prog 115 = true), (by kernel_rfl : tyS Tryz.prog 115 1 = true), (by kernel_rfl : tyF Tryz.prog 115 0 0 = true), ⟨fun v args w => by kernel_rfl, fun v w => by kernel_rfl⟩, trivial⟩, ⟨⟨(by kernel_rfl : zeroCells Tryz.prog 117 = some []), rfl⟩, (by kernel_rfl : tyPlaces Tryz.prog 117 = some []), (by kernel_rfl : Program.concrete Tryz.prog 117 = true), (by kernel_rfl : tyS Tryz.prog 117 0 = true), ⟨fun v args w => by kernel_rfl, fun v w => by kernel_rfl⟩, trivial⟩, ⟨⟨(by kernel_rfl : zeroCells Tryz.prog 119 = some [.bool false, .bool false, .string ⟨#[]⟩, .int .i64 0]), rfl⟩, (by kernel_rfl : tyS Tryz.prog 119 4 = true), (by kernel_rfl : tyF Tryz.prog 119 0 0 = true), (by kernel_rfl : tyF Tryz.prog 119 2 2 = true), (by kernel_rfl : tyA Tryz.prog 119 4 = true), (by kernel_rfl : tyF Tryz.prog 119 1 1 = true), (by kernel_rfl : tyF Tryz.prog 119 3 3 = true), trivial⟩, ⟨⟨(by kernel_rfl : zeroCells Tryz.prog 126 = some [.bool false, .bool false, .bool false, .int .i64 0]), rfl⟩, (by kernel_rfl : tyS Tryz.prog 126 4 = true), (by kernel_rfl : tyF Tryz.prog 126 0 0 = true), (by kernel_rfl : tyF Tryz.prog 126 1 1 = true), (by kernel_rfl : tyF Tryz.prog 126 2 2 = true), (by kernel_rfl : tyPlaces Tryz.prog 126 = some [(0, 1), (1, 1), (2, 1), (3, 1)]), (by kernel_rfl : tyF Tryz.prog 126 3 3 = true), trivial⟩, ⟨(by kernel_rfl : tyArrA Tryz.prog 127 9 4 126 = true), (by kernel_rfl : tyA Tryz.prog 127 36 = true), ⟨(by kernel_rfl : zeroCells Tryz.prog 127 = some [.bool false, .bool false, .bool false, .int .i64 0, .bool false, .bool false, .bool false, .int .i64 0, .bool false, .bool false, .bool false, .int .i64 0, .bool false, .bool false, .bool false, .int .i64 0, .bool false, .bool false, .bool false, .int .i64 0, .bool false, .bool false, .bool false, .int .i64 0, .bool false, .bool false, .bool false, .int .i64 0, .bool false, .bool false, .bool false, .int .i64 0, .bool false, .bool false, .bool false, .int .i64 0]), rfl⟩, (by kernel_rfl : tyArr Tryz.prog 127 9 4 = true), (by kernel_rfl : tyS Tryz.prog 127 36 = true), trivial⟩, ⟨(by kernel_rfl : tyS Tryz.prog 135 1 = true), (by kernel_rfl : tyC Tryz.prog 135 = true), trivial⟩, ⟨(by kernel_rfl : tyF Tryz.prog 137 0 0 = true), (by kernel_rfl : tyF Tryz.prog 137 2 2 = true), ⟨(by kernel_rfl : zeroCells Tryz.prog 137 = some [.int .i64 0, .string ⟨#[]⟩, .int .i64 0]), rfl⟩, (by kernel_rfl : tyPlaces Tryz.prog 137 = some [(0, 1), (1, 1), (2, 1)]), (by kernel_rfl : tyS Tryz.prog 137 3 = true), (by kernel_rfl : tyF Tryz.prog 137 1 1 = true), (by kernel_rfl : tyA Tryz.prog 137 3 = true), trivial⟩, ⟨⟨(by kernel_rfl : zeroCells Tryz.prog 139 = some [.string ⟨#[]⟩, .int .i64 0, .int .i64 0, .string ⟨#[]⟩, .int .i64 0, .int .i64 0, .int .i64 0]), rfl⟩, (by kernel_rfl : tyPlaces Tryz.prog 139 = some [(0, 1), (1, 1), (2, 3), (5, 1), (6, 1)]), (by kernel_rfl : tyS Tryz.prog 139 7 = true), (by kernel_rfl : tyF Tryz.prog 139 2 2 = true), (by kernel_rfl : tyF Tryz.prog 139 4 6 = true), (by kernel_rfl : tyF Tryz.prog 139 3 5 = true), (by kernel_rfl : tyF Tryz.prog 139 1 1 = true), (by kernel_rfl : tyF Tryz.prog 139 0 0 = true), trivial⟩, ⟨(by kernel_rfl : tyA Tryz.prog 146 3 = true), ⟨(by kernel_rfl : zeroCells Tryz.prog 146 = some [.int .i64 0, .int .i64 0, .slice none 0 0]), rfl⟩, (by kernel_rfl : tyS Tryz.prog 146 3 = true), (by kernel_rfl : tyF Tryz.prog 146 0 0 = true), (by kernel_rfl : tyF Tryz.prog 146 1 1 = true), (by kernel_rfl : tyF Tryz.prog 146 2 2 = true), (by kernel_rfl : tyPlaces Tryz.prog 146 = some [(0, 1), (1, 1), (2, 1)]), trivial⟩, ⟨(by kernel_rfl : tyI Tryz.prog 152 .u64 = true), (by kernel_rfl : tyU Tryz.prog 152 = true), trivial⟩, ⟨(by kernel_rfl : tyI Tryz.prog 173 .u32 = true), (by kernel_rfl : tyU Tryz.prog 173 = true), trivial⟩, ⟨(by kernel_rfl : tyU Tryz.prog 175 = true), (by kernel_rfl : tyI Tryz.prog 175 .u64 = true), (by kernel_rfl : tyC Tryz.prog 175 = true), trivial⟩, ⟨(by kernel_rfl : tyU Tryz.prog 176 = true), (by kernel_rfl : tyEl Tryz.prog 176 5 1 1 = true), (by kernel_rfl : tySlice Tryz.prog 176 = true), (by kernel_rfl : tySl Tryz.prog 176 1 = true), trivial⟩, ⟨(by kernel_rfl : tyC Tryz.prog 182 = true), trivial⟩, ⟨(by kernel_rfl : tyArrC Tryz.prog 194 6 9 = true), (by kernel_rfl : tyA Tryz.prog 194 6 = true), ⟨(by kernel_rfl : zeroCells Tryz.prog 194 = some [.string ⟨#[]⟩, .string ⟨#[]⟩, .string ⟨#[]⟩, .string ⟨#[]⟩, .string ⟨#[]⟩, .string ⟨#[]⟩]), rfl⟩, (by kernel_rfl : tyArr Tryz.prog 194 6 1 = true), (by kernel_rfl : tyS Tryz.prog 194 6 = true), trivial⟩, ⟨(by kernel_rfl : Program.concrete Tryz.prog 196 = true), trivial⟩, ⟨(by kernel_rfl : Program.concrete Tryz.prog 199 = true), trivial⟩, ⟨⟨(by kernel_rfl : zeroCells Tryz.prog 206 = some [.string ⟨#[]⟩, .string ⟨#[]⟩, .nilIface]), rfl⟩, (by kernel_rfl : tyPlaces Tryz.prog 206 = some [(0, 1), (1, 1), (2, 1)]), (by kernel_rfl : tyS Tryz.prog 206 3 = true), trivial⟩, ⟨(by kernel_rfl : Program.concrete Tryz.prog 211 = true), trivial⟩, ⟨⟨(by kernel_rfl : zeroCells Tryz.prog 213 = some [.string ⟨#[]⟩]), rfl⟩, (by kernel_rfl : tyPlaces Tryz.prog 213 = some [(0, 1)]), (by kernel_rfl : tyS Tryz.prog 213 1 = true), trivial⟩, ⟨⟨(by kernel_rfl : zeroCells Tryz.prog 215 = some [.int .u8 0, .int .u8 0, .int .u8 0, .int .u8 0, .int .u8 0, .int .u8 0, .int .u8 0, .int .u8 0, .int .u8 0, .int .u8 0, .int .u8 0, .int .u8 0, .int .u8 0, .int .u8 0, .int .u8 0, .int .u8 0, .int .u8 0, .int .u8 0, .int .u8 0, .int .u8 0, .int .u8 0, .int .u8 0, .int .u8 0, .int .u8 0]), rfl⟩, (by kernel_rfl : tyArr Tryz.prog 215 24 1 = true), trivial⟩, ⟨(by kernel_rfl : tyArr Tryz.prog 220 20 1 = true), trivial⟩, ⟨⟨(by kernel_rfl : zeroCells Tryz.prog 221 = some [.int .u8 0, .int .u8 0, .int .u8 0, .int .u8 0, .int .u8 0, .int .u8 0, .int .u8 0, .int .u8 0, .int .u8 0, .int .u8 0, .int .u8 0, .int .u8 0, .int .u8 0, .int .u8 0, .int .u8 0, .int .u8 0, .int .u8 0, .int .u8 0, .int .u8 0, .int .u8 0, .int .u8 0, .int .u8 0, .int .u8 0, .int .u8 0, .int .u8 0, .int .u8 0, .int .u8 0, .int .u8 0, .int .u8 0, .int .u8 0, .int .u8 0, .int .u8 0, .int .u8 0, .int .u8 0, .int .u8 0, .int .u8 0, .int .u8 0, .int .u8 0, .int .u8 0, .int .u8 0, .int .u8 0, .int .u8 0, .int .u8 0, .int .u8 0, .int .u8 0, .int .u8 0, .int .u8 0, .int .u8 0, .int .u8 0, .int .u8 0, .int .u8 0, .int .u8 0, .int .u8 0, .int .u8 0, .int .u8 0, .int .u8 0, .int .u8 0, .int .u8 0, .int .u8 0, .int .u8 0, .int .u8 0, .int .u8 0, .int .u8 0, .int .u8 0, .int .u8 0]), rfl⟩, (by kernel_rfl : tyArr Tryz.prog 221 65 1 = true), trivial⟩, ⟨(by kernel_rfl : tyArr Tryz.prog 222 32 1 = true), trivial⟩, ⟨(by kernel_rfl : tyArr Tryz.prog 223 64 1 = true), trivial⟩, trivial⟩
def evmt : List MT := [⟨69, 9, 119, true, .i64, .agg [.con (.bool false), .con (.bool false), .con (.string ⟨#[]⟩), .con (.int .i64 0)]⟩, ⟨70, 9, 4, true, .i64, .con (.bool false)⟩]
theorem evmt_ok : MTok Tryz.prog evmt := by
 intro p hp
 simp only [evmt, List.mem_cons, List.not_mem_nil, or_false] at hp
 rcases hp with rfl | rfl
 ·exact ⟨by kernel_rfl, keyT_str (by kernel_rfl), _, by kernel_rfl, fun _ => (irel_agg [Value.bool false, Value.bool false, Value.string ⟨#[]⟩, Value.int .i64 0])⟩
 ·exact ⟨by kernel_rfl, keyT_str (by kernel_rfl), _, by kernel_rfl, fun _ => (.con _)⟩
def xAtoi : List V → Option V
 | [.con (.string s)] => (match Lib.atoi s.data.toList with
  | some n => (match Nat.ble s.size 18 with | true => some (.tup [.con (.int .i64 n), .con .nilIface]) | false => none)
  | none => none)
 | _ => none
theorem xAtoi_ok {gl : Gl} {avs : List V} {v : V} (h : xAtoi avs = some v) : PureG gl Tryz.prog 122 avs v := by
 unfold xAtoi at h
 split at h
 ·rename_i s
  split at h
  ·rename_i n hn
   split at h
   ·rename_i hl
    simp only [Option.some.injEq] at h; subst h
    refine pure_below (l := [.string s]) (v := .tuple #[.int .i64 n, .nilIface]) (fun w => (Go.Proofs.Tryz.strconv_Atoi s n (Nat.le_of_ble_eq_true hl) hn w).mono ?_) (fun m => .tup rfl fun i c v a b => ?_)
    ·rintro e w' ⟨rfl, t, rfl⟩
     exact ⟨rfl, Go.Joins.below_bytesWorld _ w 5 t (Nat.le_refl _), (show w.drawn ≤ w.drawn + 1 from Nat.le_succ _)⟩
    ·match i with
     | 0 => simp at a b; subst a b; exact .con _
     | 1 => simp at a b; subst a b; exact .con _
     | i + 2 => simp at a
   ·simp at h
  ·simp at h
 ·simp at h
def evxt : XT := [(122, xAtoi)]
theorem evxt_ok {gl : Gl} : XTok gl Tryz.prog evxt := by
 intro p hp
 simp only [evxt, List.mem_cons, List.not_mem_nil, or_false] at hp
 subst hp
 exact ⟨by kernel_rfl, fun avs v h => xAtoi_ok h⟩
theorem kmixed : Tryz.prog.follows .mixedOrders = true := by kernel_rfl
theorem told_run : evF evft evxt evtt evmt 6000 16 [] = some (.con (.bool true)) := by kernel_rfl
theorem told_pure {gl : Gl} : PureG gl Tryz.prog 16 [] (bV true) := evF_ok evft_ok evxt_ok evtt_ok evmt_ok kmixed told_run
end Go.Proofs.YtkeeppclihjlhaaGreatDoor
