/- The framework of walks over abstract values (own text), part G. -/
import Derived.Test.YtpbkggamiipdmaaGreatR3PvF
namespace Go.Pv
open Go
section
variable {K : Ctx} {Q : Post} {S : St}
variable {m : Mem} {β : Locs} {w : World} {a : Act}
@[reducible] def ctx (gl : Gl) (P : Program) (N : Nat) (w0 : World) (m0 : Mem) (hg : GlOk gl m0) : Ctx := ⟨P, N, w0, m0, fun _ => True, 0, fun _ => none, gl, hg⟩
/-- What is told by v may be told by d, of memory that nobody writes. -/
def NSub (d v : V) : Prop := ∀ m β x, VRel m β v x → IRel m d x
inductive ResOne (P : Program) (S : St) : ResultVar → V → Prop
  | tmp {t : Tmp} {d v : V} (h : get S.env t = v) (hi : NSub d v) : ResOne P S (.tmp t) d
  | agg {x : Tmp} {T n id k i o : Nat} {e : TypeId} {rows : List (List V)} {row cs : List V} {d : V} (hT : tyA P T n = true) (hx : get S.env x = .ptr id k i o) (ho : hget S.hp id = .arr e k rows)
      (hr : rows[i]? = some row) (hc : (row.drop o).take n = cs) (hn : cs.length = n) (hnd : ndB cs = true) (hi : NSub d (.agg cs)) : ResOne P S (.cell x T) d
  | cell {x : Tmp} {T id k i o : Nat} {e : TypeId} {rows : List (List V)} {row : List V} {c d : V} (hT : tyC P T = true) (hx : get S.env x = .ptr id k i o) (ho : hget S.hp id = .arr e k rows)
      (hr : rows[i]? = some row) (hc : row[o]? = some c) (hd : c.deep = false) (hi : NSub d c) : ResOne P S (.cell x T) d
def resSem (tmps : Array Value) : ResultVar → Sem Value
  | .tmp t => pure (tmps.getD t undef)
  | .cell a t => do loadVar t (← asAddr (tmps.getD a undef))
theorem results_eq (fn : Func) (tmps : Array Value) : results fn tmps = (do
    let vs ← fn.results.mapM (resSem tmps)
    pure (if h : vs.size = 1 then vs[0] else .tuple vs)) := rfl
theorem asAddr_load {P : Program} {w : World} {T : TypeId} {ad : Addr} {v x : Value} (hx : x = .pointer (some ad)) (h : (Instr.loadAt T (.pointer (some ad))).run P w = .ok v w) :
    (do loadVar T (← asAddr x) : Sem Value).run P w = .ok v w := by
  subst hx
  simp only [Instr.loadAt, Instr.sureAddr, asAddr] at h ⊢
  exact h
theorem ResOne.run {rv : ResultVar} {d : V} (h : ResOne K.P S rv d) (r : Rel K m β w a S) : ∃ v, (resSem a.tmps rv).run K.P w = .ok v w ∧ IRel m d v := by
  cases h with
  | @tmp t _ _ h hi => exact ⟨_, rfl, hi m β _ (by rw [← h]; exact r.env t)⟩
  | @agg x T n id k i o e rows row cs d hT hx ho hr hc hn hnd hi =>
    have h := r.env x
    rw [hx] at h
    obtain ⟨b, cap, hb, hv⟩ := h.ptr_inv
    obtain ⟨arr, bl, h1, h2, h3, h4, h5, _, h6⟩ := r.obj hb ho
    have hcell : ∀ j c, cs[j]? = some c → ∃ v, arr[cap.off + (i * k + o) + j]? = some v ∧ VRel m β c v := by
      intro j c hj
      have hd := ndB_at hnd hj
      rw [← hc, List.getElem?_take] at hj
      split at hj
      · rw [List.getElem?_drop] at hj
        obtain ⟨v, a1, a2, _⟩ := h6 i (o + j) row c hr hj
        exact ⟨v, by rw [Nat.add_assoc, Nat.add_assoc]; exact a1, a2.v hd⟩
      · simp at hj
    have hrun := run_load_agg (P := K.P) (w := w) (b := b) (o := cap.off + (i * k + o)) (fun j => arr.getD (cap.off + (i * k + o) + j) undef) hT (fun j hj => by
      rw [cell_of_heap h1]
      obtain ⟨v, a1, _⟩ := hcell j cs[j] (by simp [hn, hj])
      rw [a1]; simp [Array.getD_eq_getD_getElem?, a1])
    refine ⟨_, asAddr_load hv hrun, hi m β _ ?_⟩
    refine .agg (by simp [hn]) (fun j c v hj hv => ?_)
    obtain ⟨v', a1, a2⟩ := hcell j c hj
    simp only [List.getElem?_toArray, List.getElem?_map] at hv
    have hj' : j < n := by rw [← hn]; exact (List.getElem?_eq_some_iff.1 hj).1
    rw [List.getElem?_range hj'] at hv
    simp only [Option.map_some, Option.some.injEq] at hv
    rw [← hv]
    simp [Array.getD_eq_getD_getElem?, a1]; exact a2
  | @cell x T id k i o e rows row c d hT hx ho hr hc hd hi =>
    have h := r.env x
    rw [hx] at h
    obtain ⟨b, cap, hb, hv⟩ := h.ptr_inv
    obtain ⟨arr, bl, h1, h2, h3, h4, h5, _, h6⟩ := r.obj hb ho
    obtain ⟨v, a1, a2, _⟩ := h6 i o row _ hr hc
    exact ⟨v, asAddr_load hv (run_load_cell hT (by rw [cell_of_heap h1]; exact a1)), hi m β v (a2.v hd)⟩
inductive ResV (P : Program) (S : St) : List ResultVar → V → Prop
  | none : ResV P S [] (.tup [])
  | one {r : ResultVar} {d : V} (h : ResOne P S r d) : ResV P S [r] d
  | two {r1 r2 : ResultVar} {d1 d2 : V} (h1 : ResOne P S r1 d1) (h2 : ResOne P S r2 d2) : ResV P S [r1, r2] (.tup [d1, d2])
  | three {r1 r2 r3 : ResultVar} {d1 d2 d3 : V} (h1 : ResOne P S r1 d1) (h2 : ResOne P S r2 d2) (h3 : ResOne P S r3 d3) : ResV P S [r1, r2, r3] (.tup [d1, d2, d3])
  | four {r1 r2 r3 r4 : ResultVar} {d1 d2 d3 d4 : V} (h1 : ResOne P S r1 d1) (h2 : ResOne P S r2 d2) (h3 : ResOne P S r3 d3) (h4 : ResOne P S r4 d4) :
      ResV P S [r1, r2, r3, r4] (.tup [d1, d2, d3, d4])
theorem irel_tup2 {d1 d2 : V} {v1 v2 : Value} (h1 : IRel m d1 v1) (h2 : IRel m d2 v2) : IRel m (.tup [d1, d2]) (.tuple #[v1, v2]) := by
  refine .tup rfl fun i c v hi hv => ?_
  match i with
  | 0 => simp at hi hv; subst hi; subst hv; exact h1
  | 1 => simp at hi hv; subst hi; subst hv; exact h2
  | i + 2 => simp at hi
theorem irel_tup3 {d1 d2 d3 : V} {v1 v2 v3 : Value} (h1 : IRel m d1 v1) (h2 : IRel m d2 v2) (h3 : IRel m d3 v3) : IRel m (.tup [d1, d2, d3]) (.tuple #[v1, v2, v3]) := by
  refine .tup rfl fun i c v hi hv => ?_
  match i with
  | 0 => simp at hi hv; subst hi; subst hv; exact h1
  | 1 => simp at hi hv; subst hi; subst hv; exact h2
  | 2 => simp at hi hv; subst hi; subst hv; exact h3
  | i + 3 => simp at hi
theorem irel_tup4 {d1 d2 d3 d4 : V} {v1 v2 v3 v4 : Value} (h1 : IRel m d1 v1) (h2 : IRel m d2 v2) (h3 : IRel m d3 v3) (h4 : IRel m d4 v4) : IRel m (.tup [d1, d2, d3, d4]) (.tuple #[v1, v2, v3, v4]) := by
  refine .tup rfl fun i c v hi hv => ?_
  match i with
  | 0 => simp at hi hv; subst hi; subst hv; exact h1
  | 1 => simp at hi hv; subst hi; subst hv; exact h2
  | 2 => simp at hi hv; subst hi; subst hv; exact h3
  | 3 => simp at hi hv; subst hi; subst hv; exact h4
  | i + 4 => simp at hi
theorem ResV.run {fn : Func} {l : List ResultVar} {d : V} (hl : fn.results = l.toArray) (h : ResV K.P S l d) (r : Rel K m β w a S) : ∃ v, (results fn a.tmps).run K.P w = .ok v w ∧ IRel m d v := by
  cases h with
  | none => exact ⟨.tuple #[], by rw [results_eq, hl]; simp, .tup rfl (by simp)⟩
  | one h =>
    obtain ⟨v, h1, h2⟩ := h.run r
    exact ⟨v, by rw [results_eq, hl]; simp [h1], h2⟩
  | two h g =>
    obtain ⟨v1, h1, h2⟩ := h.run r
    obtain ⟨v2, g1, g2⟩ := g.run r
    exact ⟨_, by rw [results_eq, hl]; simp [h1, g1], irel_tup2 h2 g2⟩
  | three h g i =>
    obtain ⟨v1, h1, h2⟩ := h.run r
    obtain ⟨v2, g1, g2⟩ := g.run r
    obtain ⟨v3, i1, i2⟩ := i.run r
    exact ⟨_, by rw [results_eq, hl]; simp [h1, g1, i1], irel_tup3 h2 g2 i2⟩
  | four h g i j =>
    obtain ⟨v1, h1, h2⟩ := h.run r
    obtain ⟨v2, g1, g2⟩ := g.run r
    obtain ⟨v3, i1, i2⟩ := i.run r
    obtain ⟨v4, j1, j2⟩ := j.run r
    exact ⟨_, by rw [results_eq, hl]; simp [h1, g1, i1, j1], irel_tup4 h2 g2 i2 j2⟩
def retQ (P : Program) (l : List ResultVar) (d : V) : Post := fun e S => (e = .ret ∨ e = .normal) ∧ ResV P S l d
def argEnv : Nat → List V → Env
  | _, [] => []
  | i, v :: vs => (i, v) :: argEnv (i + 1) vs
theorem get_argEnv : ∀ (vs : List V) (i t : Nat), get (argEnv i vs) t = if i ≤ t then vs.getD (t - i) .any else .any
  | [], i, t => by simp [argEnv, get]
  | v :: vs, i, t => by
    rw [argEnv, get_put, get_argEnv vs (i + 1) t]
    by_cases h : i = t
    · subst h; simp
    · rw [if_neg h]
      by_cases h2 : i ≤ t
      · rw [if_pos h2, if_pos (by omega)]
        have : t - i = (t - (i + 1)) + 1 := by omega
        rw [this]; simp
      · rw [if_neg h2, if_neg (by omega)]
/-- The contract of a function, by a walk through its text. -/
theorem pure_enter {gl : Gl} {P : Program} {f : FuncId} {fn : Func} {c : Code} {N : Nat} {args : List V} {l : List ResultVar} {d : V} (hf : P.funcs[f]? = some fn) (hb : fn.body = some c) (hN : fn.ntmps = N)
    (hl : fn.results = l.toArray) (ha : Nat.ble args.length N = true) (env : Env) (henv : argEnv 0 args = env)
    (h : ∀ (w0 : World) (m0 : Mem) (hg : GlOk gl m0), AWP (ctx gl P N w0 m0 hg) c (retQ P l d) ⟨env, [], 0⟩) : PureG gl P f args d := by
  intro m w vs himm hgl hargs
  have ha := Nat.le_of_ble_eq_true ha
  refine calls_of_wp hf hb ?_
  have hsz : (vs ++ Array.replicate (fn.ntmps - vs.size) undef).size = N := by
    have := hargs.len
    simp only [Array.size_append, Array.size_replicate, hN]; omega
  have r : Rel (ctx gl P N w m hgl) m ⟨fun _ => none, fun _ _ => False⟩ w ⟨vs ++ Array.replicate (fn.ntmps - vs.size) undef, []⟩ ⟨env, [], 0⟩ := by
    constructor
    · exact himm
    · exact Mem.le_refl _
    · exact fun _ _ _ => rfl
    · exact fun _ _ _ => rfl
    · exact Nat.le_refl _
    · exact ⟨rfl, rfl, rfl⟩
    · exact hsz
    · rfl
    · intro t
      show VRel _ _ (get env t) _
      rw [← henv, get_argEnv]
      simp only [Nat.zero_le, if_true, Nat.sub_zero]
      by_cases ht : t < args.length
      · have ht' : t < vs.size := by rw [← hargs.len]; exact ht
        simp only [List.getD_eq_getElem?_getD, List.getElem?_eq_getElem ht, Option.getD_some, Array.getD_eq_getD_getElem?, Array.getElem?_append, if_pos ht', Array.getElem?_eq_getElem ht']
        exact .imm (hargs.at' t _ _ (List.getElem?_eq_getElem ht) (Array.getElem?_eq_getElem ht'))
      · simp only [List.getD_eq_getElem?_getD, List.getElem?_eq_none (Nat.le_of_not_lt ht), Option.getD_none]
        exact .imm (.any _)
    · exact fun _ => ObOk.dead' _
    · intro id b cap _ h; simp at h
    · intro id id' b cap cap' _ _ h; simp at h
    · exact fun id x _ h => h.elim
    · exact fun _ _ => rfl
    · exact fun q hq => absurd hq (Nat.not_lt_zero q)
  refine wp_mono (h w m hgl m _ w _ r) ?_
  rintro e a' w' ⟨_, S', m', β', ⟨he, hres⟩, r'⟩
  obtain ⟨v, h1, h2⟩ := hres.run hl r'
  have hg : Grew m m' w w' := ⟨r'.ext, r'.imm, fun b hb => r'.mold b hb trivial, fun b hb => r'.frame b hb trivial, r'.size, r'.same⟩
  rcases he with rfl | rfl
  · exact ⟨r'.df, v, h1, v, m', rfl, h2, hg⟩
  · exact ⟨r'.df, v, h1, v, m', rfl, h2, hg⟩
end
end Go.Pv
