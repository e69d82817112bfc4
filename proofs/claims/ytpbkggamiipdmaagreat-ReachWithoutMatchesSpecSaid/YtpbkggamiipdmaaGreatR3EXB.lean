/- Part of the proof: EXB. -/
import Derived.Test.YtpbkggamiipdmaaGreatR3EX
namespace Go.Pv
open Go
section
variable {K : Ctx} {Q : Post} {S S' : St} {ops : Array Oper} {rest : List Oper} {t : TT}
def mpL (f : V → Option V) : List V → Option (List V)
  | [] => some []
  | x :: l => (match f x with | some y => (match mpL f l with | some r => some (y :: r) | none => none) | none => none)
def mpV (f : Nat → Option Nat) : Nat → V → Option V
  | 0, _ => none
  | n + 1, v => (match v with
    | .con v => some (.con v)
    | .agg cs => (match mpL (mpV f n) cs with | some r => some (.agg r) | none => none)
    | .tup cs => (match mpL (mpV f n) cs with | some r => some (.tup r) | none => none)
    | .fn g a b => (match mpL (mpV f n) a, mpL (mpV f n) b with | some r, some q => some (.fn g r q) | _, _ => none)
    | .ptr id k i o => (match f id with | some j => some (.ptr j k i o) | none => none)
    | .own id l => (match f id with | some j => some (.own j l) | none => none)
    | .map id => (match f id with | some j => some (.map j) | none => none)
    | _ => none)
theorem mpL_at {f : V → Option V} : ∀ {l r : List V}, mpL f l = some r → r.length = l.length ∧ ∀ (i : Nat) c c', l[i]? = some c → r[i]? = some c' → f c = some c'
  | [], r, h => by simp [mpL] at h; subst h; simp
  | x :: l, r, h => by
    simp only [mpL] at h
    split at h
    · rename_i y hy
      split at h
      · rename_i q hq
        simp at h; subst h
        obtain ⟨h1, h2⟩ := mpL_at hq
        refine ⟨by simp [h1], fun i c c' a b => ?_⟩
        cases i with
        | zero => simp at a b; subst a; subst b; exact hy
        | succ i => exact h2 i c c' (by simpa using a) (by simpa using b)
      · simp at h
    · simp at h
theorem mpV_ok {f : Nat → Option Nat} {m : Mem} {β β' : Locs} (hf : ∀ i j, f i = some j → β' j = β i) : ∀ {n : Nat} {v v' : V} {x : Value}, mpV f n v = some v' → VRel m β v x → VRel m β' v' x
  | 0, v, v', x, h => by simp [mpV] at h
  | n + 1, v, v', x, h => by
    intro hv
    have lst : ∀ {cs r : List V} {vs : Array Value}, mpL (mpV f n) cs = some r → cs.length = vs.size → (∀ (i : Nat) c v, cs[i]? = some c → vs[i]? = some v → VRel m β c v) → r.length = vs.size ∧ ∀ (i : Nat) c v, r[i]? = some c → vs[i]? = some v → VRel m β' c v := by
      intro cs r vs hr hl hh
      obtain ⟨a1, a2⟩ := mpL_at hr
      refine ⟨a1.trans hl, fun i c v hc hx => ?_⟩
      have hi : i < cs.length := by rw [← a1]; exact (List.getElem?_eq_some_iff.1 hc).1
      exact mpV_ok hf (a2 i _ _ (List.getElem?_eq_getElem hi) hc) (hh i _ v (List.getElem?_eq_getElem hi) hx)
    cases v with
    | con c => simp [mpV] at h; subst h; rw [hv.of_con]; exact .imm (.con _)
    | agg cs =>
      simp only [mpV] at h
      split at h
      · rename_i r hr
        simp at h; subst h
        obtain ⟨vs, rfl, h2, h3⟩ := agg_inv hv
        obtain ⟨b1, b2⟩ := lst hr h2 h3
        exact .agg b1 b2
      · simp at h
    | tup cs =>
      simp only [mpV] at h
      split at h
      · rename_i r hr
        simp at h; subst h
        cases hv with
        | imm hv => cases hv with | tup hl hh => obtain ⟨b1, b2⟩ := lst hr hl (fun i c v a b => .imm (hh i c v a b)); exact .tup b1 b2
        | tup hl hh => obtain ⟨b1, b2⟩ := lst hr hl hh; exact .tup b1 b2
      · simp at h
    | fn g a b =>
      simp only [mpV] at h
      split at h
      · rename_i r q hr hq
        simp at h; subst h
        cases hv with
        | imm hv => cases hv with | fn hl hl' h1 h2 => obtain ⟨b1, b2⟩ := lst hr hl (fun i c v a b => .imm (h1 i c v a b)); obtain ⟨c1, c2⟩ := lst hq hl' (fun i c v a b => .imm (h2 i c v a b)); exact .fn b1 c1 b2 c2
        | fn hl hl' h1 h2 => obtain ⟨b1, b2⟩ := lst hr hl h1; obtain ⟨c1, c2⟩ := lst hq hl' h2; exact .fn b1 c1 b2 c2
      · simp at h
    | ptr id k i o =>
      simp only [mpV] at h
      split at h
      · rename_i j hj
        simp at h; subst h
        cases hv with
        | imm hv => cases hv
        | ptr hb => exact .ptr (by rw [hf _ _ hj]; exact hb)
      · simp at h
    | own id l =>
      simp only [mpV] at h
      split at h
      · rename_i j hj
        simp at h; subst h
        cases hv with
        | imm hv => cases hv
        | ownNil hb => exact .ownNil (by rw [hf _ _ hj]; exact hb)
        | own hb => exact .own (by rw [hf _ _ hj]; exact hb)
      · simp at h
    | map id =>
      simp only [mpV] at h
      split at h
      · rename_i j hj
        simp at h; subst h
        cases hv with
        | imm hv => cases hv
        | map hb => exact .map (by rw [hf _ _ hj]; exact hb)
      · simp at h
    | _ => simp [mpV] at h
theorem mpV_deep {f : Nat → Option Nat} {n : Nat} {v v' : V} (h : mpV f n v = some v') : v.deep = false := by
  cases n with
  | zero => simp [mpV] at h
  | succ n => cases v <;> first | rfl | simp [mpV] at h
def mpR (f : Nat → Option Nat) : List (List V) → Option (List (List V))
  | [] => some []
  | x :: l => (match mpL (mpV f 12) x with | some y => (match mpR f l with | some r => some (y :: r) | none => none) | none => none)
def mpM (f : Nat → Option Nat) : List (Value × V) → Option (List (Value × V))
  | [] => some []
  | (k, x) :: l => (match mpV f 12 x with | some y => (match mpM f l with | some r => some ((k, y) :: r) | none => none) | none => none)
def mpO (f : Nat → Option Nat) : Ob → Option Ob
  | .dead => some .dead
  | .arr e k rows => (match mpR f rows with | some r => some (.arr e k r) | none => none)
  | .map es => (match mpM f es with | some r => some (.map r) | none => none)
  | .res => none
/-- The places by other numbers are the same. -/
def ViaY (Y : Hy) (f : Nat → Option Nat) : Prop := ∀ m β m' β', Y m β m' β' → m' = m ∧ ∀ i j, f i = some j → β' j = β i
theorem mpV_sub {Y : Hy} {f : Nat → Option Nat} (hY : ViaY Y f) {n : Nat} {v v' : V} (h : mpV f n v = some v') : Sub Y v' v := fun m β m' β' x hy hx => by
  obtain ⟨rfl, hf⟩ := hY _ _ _ _ hy
  exact mpV_ok hf h hx
theorem mpV_csub {Y : Hy} {f : Nat → Option Nat} (hY : ViaY Y f) {n : Nat} {v v' : V} (h : mpV f n v = some v') : CSub Y v' v := .sub (mpV_sub hY h) (mpV_deep h)
theorem mpR_at {f : Nat → Option Nat} : ∀ {l r : List (List V)}, mpR f l = some r → r.length = l.length ∧ ∀ (i : Nat) c c', l[i]? = some c → r[i]? = some c' → mpL (mpV f 12) c = some c'
  | [], r, h => by simp [mpR] at h; subst h; simp
  | x :: l, r, h => by
    simp only [mpR] at h
    split at h
    · rename_i y hy
      split at h
      · rename_i q hq
        simp at h; subst h
        obtain ⟨h1, h2⟩ := mpR_at hq
        refine ⟨by simp [h1], fun i c c' a b => ?_⟩
        cases i with
        | zero => simp at a b; subst a; subst b; exact hy
        | succ i => exact h2 i c c' (by simpa using a) (by simpa using b)
      · simp at h
    · simp at h
theorem mpM_at {f : Nat → Option Nat} : ∀ {l r : List (Value × V)}, mpM f l = some r → r.length = l.length ∧ ∀ (i : Nat) c c', l[i]? = some c → r[i]? = some c' → c'.1 = c.1 ∧ mpV f 12 c.2 = some c'.2
  | [], r, h => by simp [mpM] at h; subst h; simp
  | (k, x) :: l, r, h => by
    simp only [mpM] at h
    split at h
    · rename_i y hy
      split at h
      · rename_i q hq
        simp at h; subst h
        obtain ⟨h1, h2⟩ := mpM_at hq
        refine ⟨by simp [h1], fun i c c' a b => ?_⟩
        cases i with
        | zero => simp at a b; subst a; subst b; exact ⟨rfl, hy⟩
        | succ i => exact h2 i c c' (by simpa using a) (by simpa using b)
      · simp at h
    · simp at h
theorem mpO_sub {Y : Hy} {f : Nat → Option Nat} (hY : ViaY Y f) {ob ob' : Ob} (h : mpO f ob = some ob') : ObSub Y ob' ob := by
  cases ob with
  | dead => simp [mpO] at h; subst h; trivial
  | res => simp [mpO] at h
  | arr e k rows =>
    simp only [mpO] at h
    split at h
    · rename_i r hr
      simp at h; subst h
      obtain ⟨h1, h2⟩ := mpR_at hr
      refine ⟨rfl, rfl, h1, fun i r' r0 a b => ?_⟩
      obtain ⟨q1, q2⟩ := mpL_at (h2 i _ _ b a)
      exact ⟨q1, fun j c c' x y => mpV_csub hY (q2 j _ _ y x)⟩
    · simp at h
  | map es =>
    simp only [mpO] at h
    split at h
    · rename_i r hr
      simp at h; subst h
      obtain ⟨h1, h2⟩ := mpM_at hr
      refine ⟨h1, fun i p p' a b => ?_⟩
      obtain ⟨q1, q2⟩ := h2 i _ _ b a
      exact ⟨q1, mpV_csub hY q2⟩
    · simp at h
theorem mpL_subs {Y : Hy} {f : Nat → Option Nat} (hY : ViaY Y f) {n : Nat} : ∀ {l r : List V}, mpL (mpV f n) l = some r → Subs Y r l
  | [], r, h => by simp [mpL] at h; subst h; exact .nil
  | x :: l, r, h => by
    simp only [mpL] at h
    split at h
    · rename_i y hy
      split at h
      · rename_i q hq
        simp at h; subst h; exact .cons (mpV_sub hY hy) (mpL_subs hY hq)
      · simp at h
    · simp at h
def idsL (f : V → List Nat) : List V → List Nat
  | [] => []
  | x :: l => f x ++ idsL f l
def idsV : Nat → V → List Nat
  | 0, _ => []
  | n + 1, v => (match v with
    | .agg cs => idsL (idsV n) cs
    | .tup cs => idsL (idsV n) cs
    | .fn _ a b => idsL (idsV n) a ++ idsL (idsV n) b
    | .ptr id _ _ _ => [id]
    | .own id _ => [id]
    | .map id => [id]
    | _ => [])
def idsR : List (List V) → List Nat
  | [] => []
  | r :: l => idsL (idsV 12) r ++ idsR l
def idsM : List (Value × V) → List Nat
  | [] => []
  | p :: l => idsV 12 p.2 ++ idsM l
def idsO : Ob → List Nat
  | .arr _ _ rows => idsR rows
  | .map es => idsM es
  | _ => []
def reachC (hp : Heap) : Nat → List Nat → List Nat → Option (List Nat)
  | 0, _, _ => none
  | n + 1, l, acc => (match l with
    | [] => some acc
    | i :: l => (match notin i acc with
      | false => reachC hp n l acc
      | true => reachC hp n (idsO (hget hp i) ++ l) (acc ++ [i])))
def idxJ : List Nat → Nat → Nat → Option Nat
  | [], _, _ => none
  | x :: l, j, i => bif Nat.beq x i then some j else idxJ l (j + 1) i
theorem idxJ_ok : ∀ {l : List Nat} {j i r : Nat}, idxJ l j i = some r → ∃ q, r = j + q ∧ lgt l q = some i
  | x :: l, j, i, r, h => by
    simp only [idxJ] at h
    cases hb : Nat.beq x i with
    | true => rw [hb] at h; simp at h; exact ⟨0, h.symm, by rw [Nat.eq_of_beq_eq_true hb]; rfl⟩
    | false =>
      rw [hb] at h; simp at h
      obtain ⟨q, h1, h2⟩ := idxJ_ok h
      exact ⟨q + 1, by omega, h2⟩
  | [], j, i, r, h => by simp [idxJ] at h
/-- The objects R as the callee has them, from the number j on. -/
def inH (f : Nat → Option Nat) (hp : Heap) : Nat → List Nat → Option (Heap × Heap)
  | _, [] => some ([], [])
  | j, i :: l => (match mpO f (hget hp i) with
    | some ob => (match inH f hp (j + 1) l with | some (h, r) => some ((j, ob) :: h, (i, hget hp i) :: r) | none => none)
    | none => none)
theorem inH_ok {Y : Hy} {f : Nat → Option Nat} (hY : ViaY Y f) {hp hpS : Heap} {R0 : List Nat} : ∀ {l : List Nat} {j : Nat} {h r : Heap}, (∀ q i, lgt l q = some i → lgt R0 (j + q) = some i) → inH f hp j l = some (h, r) → RdH hpS r →
    HpSub Y R0.length (sg R0) hpS h
  | [], j, h, r, hR, hh, hr => by simp [inH] at hh; obtain ⟨rfl, rfl⟩ := hh; exact .nil
  | i :: l, j, h, r, hR, hh, hr => by
    simp only [inH] at hh
    split at hh
    · rename_i ob ho
      split at hh
      · rename_i h' r' hq
        simp at hh; obtain ⟨rfl, rfl⟩ := hh
        have h0 := hR 0 i rfl
        obtain ⟨a1, a2⟩ := sg_lgt h0
        simp only [Nat.add_zero] at a1 a2
        refine .cons a1 ?_ (inH_ok hY (fun q i' hq' => by have := hR (q + 1) i' hq'; rwa [show j + (q + 1) = j + 1 + q by omega] at this) hq hr.2)
        rw [a2, hr.1]
        exact mpO_sub hY ho
      · simp at hh
    · simp at hh
theorem inH_rd {f : Nat → Option Nat} {hp : Heap} : ∀ {l : List Nat} {j : Nat} {h r : Heap}, inH f hp j l = some (h, r) → RdH hp r
  | [], j, h, r, hh => by simp [inH] at hh; obtain ⟨rfl, rfl⟩ := hh; trivial
  | i :: l, j, h, r, hh => by
    simp only [inH] at hh
    split at hh
    · split at hh
      · rename_i h' r' hq
        simp at hh; obtain ⟨rfl, rfl⟩ := hh
        exact ⟨rfl, inH_rd hq⟩
      · simp at hh
    · simp at hh
/-- What the callee leaves, by the caller's numbers. -/
def outH (f : Nat → Option Nat) (hp' : Heap) : Nat → List Nat → Option Heap
  | _, [] => some []
  | j, i :: l => (match mpO f (hget hp' j) with
    | some ob => (match outH f hp' (j + 1) l with | some u => some ((i, ob) :: u) | none => none)
    | none => none)
theorem outH_ok {Y : Hy} {f : Nat → Option Nat} (hY : ViaY Y f) {hp' : Heap} {R0 : List Nat} : ∀ {l : List Nat} {j : Nat} {u : Heap}, (∀ q i, lgt l q = some i → lgt R0 (j + q) = some i) → j + l.length = R0.length → outH f hp' j l = some u → HpTo Y (sg R0) hp' R0.length j u
  | [], j, u, hR, hl, h => by simp [outH] at h; subst h; simp at hl; subst hl; exact .nil
  | i :: l, j, u, hR, hl, h => by
    simp only [outH] at h
    split at h
    · rename_i ob ho
      split at h
      · rename_i u' hu
        simp at h; subst h
        have h0 := hR 0 i rfl
        obtain ⟨a1, a2⟩ := sg_lgt h0
        simp only [Nat.add_zero] at a1 a2
        exact .cons a2 (mpO_sub hY ho) (outH_ok hY (fun q i' hq' => by have := hR (q + 1) i' hq'; rwa [show j + (q + 1) = j + 1 + q by omega] at this) (by simp at hl; omega) hu)
      · simp at h
    · simp at h
def seqF (fr : Nat) : Nat → List Nat
  | 0 => []
  | n + 1 => fr :: seqF (fr + 1) n
def resL : List Nat → Heap → Bool
  | [], _ => true
  | i :: l, hp => (match hgC hp i with | some .res => resL l hp | _ => false)
def resD (l : List Nat) : Heap := l.map fun i => (i, .res)
theorem resL_rd : ∀ {l : List Nat} {hp : Heap}, resL l hp = true → RdH hp (resD l)
  | [], hp, _ => trivial
  | i :: l, hp, h => by
    simp only [resL] at h
    split at h
    · rename_i ho; exact ⟨hgC_ok ho, resL_rd h⟩
    · simp at h
theorem rdH_app {hp : Heap} : ∀ {a b : Heap}, RdH hp (a ++ b) ↔ RdH hp a ∧ RdH hp b
  | [], b => by simp [RdH]
  | (i, o) :: a, b => by
    have := rdH_app (hp := hp) (a := a) (b := b)
    simp only [List.cons_append, RdH, this, and_assoc]
theorem resD_at : ∀ {l : List Nat} {hp : Heap}, RdH hp (resD l) → ∀ i, i ∈ l → hget hp i = .res
  | [], _, _, i, hi => by simp at hi
  | j :: l, hp, h, i, hi => by
    rcases List.mem_cons.1 hi with rfl | hi
    · exact h.1
    · exact resD_at (l := l) h.2 i hi
theorem seqF_mem : ∀ {n fr i : Nat}, i ∈ seqF fr n ↔ fr ≤ i ∧ i < fr + n
  | 0, fr, i => by simp [seqF]
  | n + 1, fr, i => by simp only [seqF, List.mem_cons, seqF_mem (n := n)]; omega
theorem lgt_sg {R : List Nat} {j i : Nat} (h : lgt R j = some i) : sg R j = i ∧ j < R.length := by
  obtain ⟨a, b⟩ := sg_lgt h; exact ⟨b, Nat.le_of_ble_eq_true a⟩
/-- A call in a region that draws: it is handed what its arguments lead to. -/
def clB (cb : Nat → List V → Heap → Nat → Option (V × Heap × Nat)) (f : Nat) (avs : List V) (hp : Heap) (fr nx : Nat) : Option (V × Heap × Heap × Nat) :=
  match reachC hp 2000 (idsL (idsV 12) avs) [] with
  | some R => (match mpL (mpV (idxJ R 0) 12) avs with
    | some avs' => (match inH (idxJ R 0) hp 0 R with
      | some (hpc, rh) => (match cb f avs' hpc R.length with
        | some (dc, hp', k') =>
          let nw := seqF fr (k' - R.length)
          let ρ := R ++ nw
          (match Nat.ble R.length k' && resL nw hp && toB R.length k' nx nx (sg R) (sg ρ) (fun i => Nat.ble fr i && Nat.blt i (fr + (k' - R.length))) && injB k' (sg ρ) with
          | true => (match mpV (lgt ρ) 12 dc with
            | some dv => (match outH (lgt ρ) hp' 0 ρ with
              | some u => some (dv, rh ++ resD nw, u, fr + (k' - R.length))
              | none => none)
            | none => none)
          | false => none)
        | none => none)
      | none => none)
    | none => none)
  | none => none
theorem clB_ok {cb : Nat → List V → Heap → Nat → Option (V × Heap × Nat)} (hcb : ∀ f avs hp k v hp' k', cb f avs hp k = some (v, hp', k') → fnOk K.P f = true ∧ MutG K.gl K.P f avs k hp v k' hp') {f : Nat} {avs : List V} {hp rh u : Heap} {fr fr' nx d : Nat} {dv : V}
    (h : clB cb f avs hp fr nx = some (dv, rh, u, fr')) (hpin : K.pins ≤ fr) {o : Oper} {e : Env} (hc : clD e o.op = some (f, avs)) (hdst : o.dst = some d) (hN : Nat.blt d K.N = true) :
    RdH hp rh ∧ fr ≤ fr' ∧ ∀ S, S.nx = nx → Ag e S → RdH S.hp rh → Wants ops S o true → AOps K ops rest Q ⟨(d, dv) :: S.env, u ++ S.hp, S.nx⟩ → AOps K ops (o :: rest) Q S := by
  unfold clB at h
  split at h
  · rename_i R hR
    split at h
    · rename_i avs' ha
      split at h
      · rename_i hpc rh0 hin
        split at h
        · rename_i dc hp' k' hcall
          obtain ⟨q1, q2⟩ := hcb _ _ _ _ _ _ _ hcall
          simp only at h
          split at h
          · rename_i hb
            simp only [Bool.and_eq_true] at hb
            obtain ⟨⟨⟨b1, b2⟩, b3⟩, b4⟩ := hb
            have b1' := Nat.le_of_ble_eq_true b1
            split at h
            · rename_i dv' hdv
              split at h
              · rename_i u' hu
                simp only [Option.some.injEq, Prod.mk.injEq] at h
                obtain ⟨rfl, rfl, rfl, rfl⟩ := h
                have hl : (R ++ seqF fr (k' - R.length)).length = k' := by
                  have : ∀ n fr, (seqF fr n).length = n := by intro n; induction n with | zero => intro _; rfl | succ n ih => intro fr; simp [seqF, ih]
                  simp [this]; omega
                have hYR : ViaY (Ren R.length (sg R)) (idxJ R 0) := by
                  rintro m β m' β' ⟨rfl, hy⟩
                  refine ⟨rfl, fun i j hij => ?_⟩
                  obtain ⟨q, e1, e2⟩ := idxJ_ok hij
                  obtain ⟨s1, s2⟩ := lgt_sg e2
                  rw [show j = q by omega, hy q s2, s1]
                have hYT : ViaY (To k' (sg (R ++ seqF fr (k' - R.length)))) (lgt (R ++ seqF fr (k' - R.length))) := by
                  rintro m β m' β' ⟨rfl, hy⟩
                  refine ⟨rfl, fun i j hij => ?_⟩
                  obtain ⟨s1, s2⟩ := lgt_sg hij
                  rw [← s1, hy i (by rw [← hl]; exact s2)]
                refine ⟨rdH_app.2 ⟨inH_rd hin, resL_rd b2⟩, Nat.le_add_right _ _, fun S hn hag hrd hw kk => ?_⟩
                obtain ⟨r1, r2⟩ := rdH_app.1 hrd
                have hun : HpTo (To k' (sg (R ++ seqF fr (k' - R.length)))) (sg (R ++ seqF fr (k' - R.length))) hp' k' 0 u' := by
                  have := outH_ok (R0 := R ++ seqF fr (k' - R.length)) hYT (j := 0) (fun q i h => by rw [Nat.zero_add]; exact h) (by simp) hu
                  rw [hl] at this; exact this
                refine aops_mcalls (sg R) (sg (R ++ seqF fr (k' - R.length))) S.nx u' _ hw hdst hN (clD_run0 hag hc q1) (mpL_subs hYR ha) (HpSub.get (inH_ok hYR (fun q i h => by rw [Nat.zero_add]; exact h) hin r1)) q2 (fun i hi => ?_) (by rw [hn]; exact b3) b4
                  (Nat.ble_eq_true_of_le (Nat.le_refl _)) b1 (fun i hi => ?_) (mpV_sub hYT hdv) hun kk
                · simp only [Bool.and_eq_true] at hi
                  exact resD_at r2 i (seqF_mem.2 ⟨Nat.le_of_ble_eq_true hi.1, Nat.le_of_ble_eq_true hi.2⟩)
                · simp only [Bool.and_eq_true] at hi
                  exact Nat.le_trans hpin (Nat.le_of_ble_eq_true hi.1)
              · simp at h
            · simp at h
          · simp at h
        · simp at h
      · simp at h
    · simp at h
  · simp at h
def ltH (nx : Nat) : Heap → Heap
  | [] => []
  | (i, o) :: l => bif Nat.blt i nx then (i, o) :: ltH nx l else ltH nx l
def preH (hp : Heap) : Nat → Nat → Heap → Heap
  | _, 0, r => r
  | i, n + 1, r => (match hget hp i with | .res => preH hp (i + 1) n r | .dead => preH hp (i + 1) n r | o => (i, o) :: preH hp (i + 1) n r)
/-- Without the numbers that were kept free, and are so still. -/
def dropR (nx n : Nat) (hp : Heap) : Heap := preH hp nx n (ltH nx hp)
theorem blt_ite (i n : Nat) {α : Type} (a b : α) : (bif Nat.blt i n then a else b) = if i < n then a else b := by
  by_cases h : i < n
  · have : Nat.blt i n = true := Nat.ble_eq_true_of_le h
    simp [this, h]
  · have : Nat.blt i n = false := by cases hb : Nat.blt i n; rfl; exact absurd (Nat.le_of_ble_eq_true hb) h
    simp [this, h]
theorem ltH_at (nx : Nat) : ∀ (l : Heap) (t : Nat), hget (ltH nx l) t = if t < nx then hget l t else .dead
  | [], t => by simp [ltH, hget]
  | (i, o) :: l, t => by
    have ih := ltH_at nx l t
    simp only [ltH, blt_ite]
    split
    · rename_i h
      rw [hget_put, hget_put, ih]
      split
      · rename_i e; subst e; rw [if_pos h]
      · rfl
    · rename_i h
      rw [ih, hget_put]
      split
      · rename_i h2; rw [if_neg]; intro e; subst e; exact h h2
      · rfl
theorem preH_at (hp : Heap) : ∀ (n i : Nat) (r : Heap) (t : Nat), hget (preH hp i n r) t = hget r t ∨ (i ≤ t ∧ hget (preH hp i n r) t = hget hp t)
  | 0, i, r, t => .inl rfl
  | n + 1, i, r, t => by
    have ih := preH_at hp n (i + 1) r t
    simp only [preH]
    split
    · rcases ih with h | ⟨h1, h2⟩
      · exact .inl h
      · exact .inr ⟨by omega, h2⟩
    · rcases ih with h | ⟨h1, h2⟩
      · exact .inl h
      · exact .inr ⟨by omega, h2⟩
    · rw [hget_put]
      split
      · rename_i e; subst e; exact .inr ⟨Nat.le_refl _, rfl⟩
      · rcases ih with h | ⟨h1, h2⟩
        · exact .inl h
        · exact .inr ⟨by omega, h2⟩
theorem dropR_at (nx n : Nat) (hp : Heap) (t : Nat) : hget (dropR nx n hp) t = hget hp t ∨ hget (dropR nx n hp) t = .dead := by
  unfold dropR
  rcases preH_at hp n nx (ltH nx hp) t with h | ⟨_, h⟩
  · rw [h, ltH_at]
    split
    · exact .inl rfl
    · exact .inr rfl
  · exact .inl h
theorem Rel.less {m : Mem} {β : Locs} {w : World} {a : Act} (r : Rel K m β w a S) {hp : Heap} (h : ∀ t, hget hp t = hget S.hp t ∨ hget hp t = .dead) : Rel K m β w a ⟨S.env, hp, S.nx⟩ := by
  have hl : ∀ i, hget hp i ≠ .dead → hget S.hp i ≠ .dead := fun i hi => by rcases h i with e | e; rw [← e]; exact hi; exact absurd e hi
  constructor
  · exact r.imm
  · exact r.ext
  · exact r.mold
  · exact r.frame
  · exact r.size
  · exact r.same
  · exact r.tn
  · exact r.df
  · exact r.env
  · intro id
    show ObOk m β w _ _ (hget hp id)
    rcases h id with e | e
    · rw [e]; exact r.own id
    · rw [e]; exact ObOk.dead' _
  · exact fun id b cap hi => r.priv id b cap (hl id hi)
  · exact fun id id' b cap cap' hi hi' => r.inj id id' b cap cap' (hl id hi) (hl id' hi')
  · exact fun id x hi hx => (r.hid id x (hl id hi) hx).weak hl
  · exact r.nx
  · exact r.pin
theorem ghost_less {e : Env} {hp hp' : Heap} {nx : Nat} (h : ∀ t, hget hp' t = hget hp t ∨ hget hp' t = .dead) : Ghost K ⟨e, hp, nx⟩ ⟨e, hp', nx⟩ := fun m β _ _ r => ⟨m, β, r.less h⟩
end
end Go.Pv
