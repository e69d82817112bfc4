/- Part of the proof: EX, EXB, EXC, EW. -/
import Derived.Test.YtpbkggamiipdmaaGreatC6EV
namespace Go.Pv
open Go
section
variable {K : Ctx} {Q : Post} {S S' : St} {ops : Array Oper} {rest : List Oper} {t : TT}
def putsE : Env → Env → Env
 | [], e => e
 | (i, o) :: u, e => putE i o (putsE u e)
theorem get_putsE : ∀ (u e : Env) (t : Nat), get (putsE u e) t = get (u ++ e) t
 | [], e, t => rfl
 | (i, o) :: u, e, t => by
  show get (putE i o (putsE u e)) t = get ((i, o) :: (u ++ e)) t
  rw [get_putE, q6k, q6k, get_putsE u e]
def putsH : Heap → Heap → Heap
 | [], hp => hp
 | (i, o) :: u, hp => putH i o (putsH u hp)
theorem hget_putsH : ∀ (u hp : Heap) (t : Nat), hget (putsH u hp) t = hget (u ++ hp) t
 | [], hp, t => rfl
 | (i, o) :: u, hp, t => by
  show hget (putH i o (putsH u hp)) t = hget ((i, o) :: (u ++ hp)) t
  rw [hget_putH, q7b, q7b, hget_putsH u hp]
def allNB (f : V → Bool) : List V → Bool
 | [] => true
 | x :: l => bif f x then allNB f l else false
def immN : Nat → V → Bool
 | 0, _ => false
 | n + 1, v => (match v with
  | .con _ => true
  | .agg cs => allNB (immN n) cs
  | .tup cs => allNB (immN n) cs
  | .fn _ a b => allNB (immN n) a && allNB (immN n) b
  | _ => false)
theorem allN_ok {f : V → Bool} : ∀ {l : List V}, allNB f l = true → ∀ x, x ∈ l → f x = true
 | [], _, x, hx => by simp at hx
 | y :: l, h, x, hx => by
  simp only [allNB] at h
  cases hb : f y with
  | true =>
   rw [hb] at h; simp at h
   rcases List.mem_cons.1 hx with rfl | hx
   ·exact hb
   ·exact allN_ok h x hx
  | false => rw [hb] at h; simp at h
theorem immN_ok : ∀ {n : Nat} {v : V}, immN n v = true → ∀ {m : Mem} {β : Locs} {x : Value}, VRel m β v x → IRel m v x
 | 0, v, h => by simp [immN] at h
 | n + 1, v, h => by
  intro hv
  cases hv with
  | imm h => exact h
  | agg hl hh =>
   simp only [immN] at h
   exact .agg hl fun i c v a b => immN_ok (allN_ok h c (List.mem_of_getElem? a)) (hh i c v a b)
  | tup hl hh =>
   simp only [immN] at h
   exact .tup hl fun i c v a b => immN_ok (allN_ok h c (List.mem_of_getElem? a)) (hh i c v a b)
  | fn hl hl' h1 h2 =>
   simp only [immN, Bool.and_eq_true] at h
   exact .fn hl hl' (fun i c v a b => immN_ok (allN_ok h.1 c (List.mem_of_getElem? a)) (h1 i c v a b)) (fun i c v a b => immN_ok (allN_ok h.2 c (List.mem_of_getElem? a)) (h2 i c v a b))
  | _ => simp [immN] at h
def immB (v : V) : Bool := immN 12 v
theorem mut_pure {gl : Gl} {P : Program} {f : FuncId} {avs : List V} {v : V} {k' : Nat} {hp' : Heap} (h : MutG gl P f avs 0 [] v k' hp') (hv : immB v = true) : PureG gl P f avs v := by
 intro m w vs himm hgl hargs
 let β : Locs := ⟨fun _ => none, fun _ _ => False⟩
 refine (h m β w vs himm hgl ⟨hargs.len, fun i c v a b => .imm (hargs.at' i c v a b)⟩ (fun id => trivial) (fun id b cap hl => absurd rfl hl) (fun id id' b cap cap' hl => absurd rfl hl) (fun id x hl => absurd rfl hl) (fun _ _ => rfl)).mono ?_
 rintro e w' ⟨x, m', β', rfl, hx, g⟩
 have hF : ∀ b, Foreign [] β b := fun b id hl => absurd rfl hl
 exact ⟨x, m', rfl, immN_ok hv hx, g.le, g.imm, fun b hb => (g.old b hb (hF b)).1, fun b hb => (g.old b hb (hF b)).2, g.size, g.same⟩
def opX2 : Op → List Operand
 | .slice _ x lo hi _ => x :: (lo.toList ++ hi.toList)
 | .lookup _ x y _ => [x, y]
 | .mapUpdate _ x y z => [x, y, z]
 | .insert _ x y z => [x, y, z]
 | .buildSlice _ _ ps => ps.toList.map (·.2)
 | .makeSlice _ x _ => [x]
 | .box _ x => [x]
 | op => opX op
def rdO2 (ops : Array Oper) (o : Oper) (e : Env) : Option Env := match grd ops o (tps (opX2 o.op)) with | some l => rdC e l | none => none
theorem rdO2_ok {o : Oper} {e re : Env} (h : rdO2 ops o e = some re) : RdE e re := by
 unfold rdO2 at h
 split at h
 ·exact rdC_ok h
 ·simp at h
def hrY (e : Env) (hp : Heap) (x : Operand) (l : Heap) : Option Heap :=
 match evC e x with
 | some (.ptr id _ _ _) => (match hgC hp id with | some ob => some ((id, ob) :: l) | none => none)
 | some (.own id _) => (match hgC hp id with | some ob => some ((id, ob) :: l) | none => none)
 | some (.map id) => (match hgC hp id with | some ob => some ((id, ob) :: l) | none => none)
 | some _ => some l
 | none => none
theorem hrY_ok {e : Env} {hp l rh : Heap} {x : Operand} (hl : RdH hp l) (h : hrY e hp x l = some rh) : RdH hp rh := by
 unfold hrY at h
 split at h
 ·split at h
  ·rename_i ho; simp at h; subst h; exact ⟨hgC_ok ho, hl⟩
  ·simp at h
 ·split at h
  ·rename_i ho; simp at h; subst h; exact ⟨hgC_ok ho, hl⟩
  ·simp at h
 ·split at h
  ·rename_i ho; simp at h; subst h; exact ⟨hgC_ok ho, hl⟩
  ·simp at h
 ·simp at h; subst h; exact hl
 ·simp at h
def hrL (e : Env) (hp : Heap) : List Operand → Heap → Option Heap
 | [], l => some l
 | x :: xs, l => match hrY e hp x l with | some l => hrL e hp xs l | none => none
theorem hrL_ok {e : Env} {hp rh : Heap} : ∀ {xs : List Operand} {l : Heap}, RdH hp l → hrL e hp xs l = some rh → RdH hp rh
 | [], l, hl, h => by simp [hrL] at h; subst h; exact hl
 | x :: xs, l, hl, h => by
  simp only [hrL] at h
  split at h
  ·rename_i q hq; exact hrL_ok (hrY_ok hl hq) h
  ·simp at h
def hrO : Op → List Operand
 | .load _ x => [x]
 | .store _ x _ => [x]
 | .lookup _ x _ _ => [x]
 | .slice _ x _ _ _ => [x]
 | .mapUpdate _ x _ _ => [x]
 | .insert _ x _ _ => [x]
 | _ => []
def alY (t : TT) (e : Env) (id : Nat) : Op → Option (V × Ob)
 | .alloc T => (match ask t T TF.qZ with
  | some (n, zs) => some (.ptr id n 0 0, .arr T n [zs.map .con])
  | none => none)
 | .box T x => (match ask t T TF.qS with
  | some n => (match evC e x with
   | some v => (match vcC v with
    | some cs => (match lenIs n cs && allB cs with | true => some (.ptr id n 0 0, .arr T n [cs]) | false => none)
    | none => none)
   | none => none)
  | none => none)
 | .makeMap _ r => (match r with | none => some (.map id, .map []) | some _ => none)
 | .buildSlice T n parts => (match ask t T TF.qEl with
  | some (ety, k, _) => (match n with
   | 0 => (match parts.toList with | [] => some (.own id 0, .arr ety k []) | _ => none)
   | n' + 1 => (match ask t ety TF.qZ with
    | some (_, zs) => (match evP e parts.toList with
     | some ps => (match fillV (fun i => some (i * k, k)) (((List.range ((n' + 1) * k)).map fun i => zs.getD (i % k) undef).map .con) ps with
      | some cs => (match Nat.beq cs.length ((n' + 1) * k) && rowsK k (chop k (n' + 1) cs) && Nat.blt 0 k && Nat.ble ((n' + 1) * k) 16777216 with
       | true => some (.own id (n' + 1), .arr ety k (chop k (n' + 1) cs))
       | false => none)
      | none => none)
     | none => none)
    | none => none))
  | none => none)
 | .makeSlice T x y => (match ask t T TF.qEl with
  | some (ety, k, bytes) => (match ask t ety TF.qZ with
   | some (_, zs) => (match x, y with
    | .tmp a, .tmp b => (match Nat.beq a b, evC e x with
     | true, some (.con (.int .i64 n)) => (match n with
      | .ofNat j => (match Nat.ble (bytes * j) 140737488355328 && Nat.ble j 140737488355328 && Nat.blt 0 k with
       | true => some (.own id j, .arr ety k (List.replicate j (zs.map .con)))
       | false => none)
      | _ => none)
     | _, _ => none)
    | _, _ => none)
   | none => none)
  | none => none)
 | _ => none
theorem alY_ok {op : Op} {ty : TypeId} {pos : String} {after : Array Edge} {g : Option (Nat × Bool)} (ht : TTok K.P t) {d id nx : Nat} {e : Env} {v : V} {ob : Ob} (ha : Ag e S) (h : alY t e id op = some (v, ob)) (hid : (Nat.blt id nx && Nat.ble K.pins id) = true) (hnx : S.nx = nx) (hres : hget S.hp id = .res)
  (hw : Wants ops S ⟨some d, op, ty, pos, after, g⟩ true) (hN : Nat.blt d K.N = true) (k : AOps K ops rest Q ⟨(d, v) :: S.env, (id, ob) :: S.hp, S.nx⟩) : AOps K ops (⟨some d, op, ty, pos, after, g⟩ :: rest) Q S := by
 cases op with
 | alloc T =>
  simp only [alY] at h
  split at h
  ·rename_i n zs hz
   obtain ⟨z1, z2, z3⟩ := askZ ht hz
   simp only [Option.some.injEq, Prod.mk.injEq] at h; obtain ⟨rfl, rfl⟩ := h
   exact aops_alloc_at id hid hnx hres z1 z2 z3 hw hN k
  ·simp at h
 | box T x =>
  simp only [alY] at h
  split at h
  ·split at h
   ·rename_i hv
    split at h
    ·rename_i cs hc
     split at h
     ·rename_i hb
      simp only [Bool.and_eq_true] at hb
      have hl := q4n hb.1
      subst hl
      simp only [Option.some.injEq, Prod.mk.injEq] at h; obtain ⟨rfl, rfl⟩ := h
      exact aops_box_at id hid hnx hres cs hw (q4e ha hv) (vcC_ok hc) (allB_ok hb.2) hN k
     ·simp at h
    ·simp at h
   ·simp at h
  ·simp at h
 | makeMap T r =>
  simp only [alY] at h
  split at h
  ·simp only [Option.some.injEq, Prod.mk.injEq] at h; obtain ⟨rfl, rfl⟩ := h
   exact aops_makeMap_at id hid hnx hres hw hN k
  ·simp at h
 | buildSlice T n parts =>
  simp only [alY] at h
  split at h
  ·rename_i ety kk bytes hT
   split at h
   ·split at h
    ·rename_i hp0
     have := toArray_eq hp0
     subst this
     simp only [Option.some.injEq, Prod.mk.injEq] at h; obtain ⟨rfl, rfl⟩ := h
     exact aops_emptySlice_at id hid hnx hres (askEl ht hT) hw hN k
    ·simp at h
   ·rename_i n'
    split at h
    ·rename_i zs hz
     split at h
     ·rename_i ps hps
      split at h
      ·rename_i cs hcs
       split at h
       ·rename_i hb
        simp only [Bool.and_eq_true] at hb
        have e1 := Nat.eq_of_beq_eq_true hb.1.1.1
        obtain ⟨z1, z2, z3⟩ := askZ ht hz
        simp only [Option.some.injEq, Prod.mk.injEq] at h; obtain ⟨rfl, rfl⟩ := h
        exact aops_buildSlice_at id hid hnx hres ps _ (askEl ht hT) z1 hw z3 hb.1.2 rfl hb.2 (evP_ok ha hps) (by rw [flat_chop _ _ e1]; exact hcs) (chop_len _ _) (rowsK_ok hb.1.1.2) hN k
       ·simp at h
      ·simp at h
     ·simp at h
    ·simp at h
  ·simp at h
 | makeSlice T x y =>
  simp only [alY] at h
  split at h
  ·rename_i ety kk bytes hT
   split at h
   ·rename_i zs hz
    split at h
    ·rename_i a b
     split at h
     ·rename_i n hab hx
      have hab := Nat.eq_of_beq_eq_true hab
      subst hab
      split at h
      ·rename_i j
       split at h
       ·rename_i hb
        simp only [Bool.and_eq_true] at hb
        obtain ⟨z1, z2, z3⟩ := askZ ht hz
        simp only [Option.some.injEq, Prod.mk.injEq] at h; obtain ⟨rfl, rfl⟩ := h
        have b1 := Nat.le_of_ble_eq_true hb.1.1
        have b2 := Nat.le_of_ble_eq_true hb.1.2
        have c1 : ((bytes * j : Nat) : Int) ≤ ((140737488355328 : Nat) : Int) := Int.ofNat_le.2 b1
        have c2 : ((j : Nat) : Int) ≤ ((140737488355328 : Nat) : Int) := Int.ofNat_le.2 b2
        rw [Int.natCast_mul] at c1
        exact aops_makeSlice_at id hid hnx hres _ (askEl ht hT) z1 z3 hb.2 ⟨Int.natCast_nonneg j, c1, c2⟩ rfl rfl hw (q4e ha hx) hN k
       ·simp at h
      ·simp at h
     ·simp at h
    ·simp at h
   ·simp at h
  ·simp at h
 | _ => simp [alY] at h
def wrM (mt : List MT) (e : Env) (hp : Heap) (T : TypeId) (x y z : Operand) : Option (Nat × Ob) :=
 match mtf mt T with
 | some p => (match evC e x with
  | some (.map id) => (match hgC hp id with
   | some (.map es) => (match evC e y with
    | some (.con kv) => (match isKey p.txt p.ik kv && allK p.txt p.ik es with
     | true => (match evC e z with
      | some v => (match putsC kv v es with | some es' => some (id, .map es') | none => none)
      | none => none)
     | false => none)
    | _ => none)
   | _ => none)
  | _ => none)
 | none => none
theorem wrM_ok {op : Op} {T : TypeId} {x y z : Operand} (hop : op = .mapUpdate T x y z ∨ op = .insert T x y z) {ty : TypeId} {pos : String} {after : Array Edge} {g : Option (Nat × Bool)} {mt : List MT} (hmt : MTok K.P mt) {e : Env} {hp : Heap} {id : Nat} {ob : Ob} (ha : Ag e S) (hh : AgH hp S) (h : wrM mt e hp T x y z = some (id, ob)) (hw : Wants ops S ⟨none, op, ty, pos, after, g⟩ true)
  (k : AOps K ops rest Q ⟨S.env, (id, ob) :: S.hp, S.nx⟩) : AOps K ops (⟨none, op, ty, pos, after, g⟩ :: rest) Q S := by
 unfold wrM at h
 split at h
 ·rename_i p hp0
  obtain ⟨hm, hTe⟩ := mtf_ok hmt hp0
  subst hTe
  split at h
  ·rename_i id hx
   split at h
   ·rename_i es ho
    split at h
    ·rename_i kv hy
     split at h
     ·rename_i hb
      simp only [Bool.and_eq_true] at hb
      split at h
      ·rename_i v hz
       split at h
       ·rename_i es' hp'
        simp only [Option.some.injEq, Prod.mk.injEq] at h; obtain ⟨rfl, rfl⟩ := h
        exact aops_mapPut hop es' hm.h1 hm.h2 hw (q4e ha hx) (hh _ _ ho) (.con (q4e ha hy)) (isKey_ok hb.1) (allK_ok hb.2) (q4e ha hz) (putsC_ok hp') k
       ·simp at h
      ·simp at h
     ·simp at h
    ·simp at h
   ·simp at h
  ·simp at h
 ·simp at h
def wrY (t : TT) (mt : List MT) (e : Env) (hp : Heap) (op : Op) : Option (Nat × Ob) :=
 match op with
 | .mapUpdate T x y z => wrM mt e hp T x y z
 | .insert T x y z => wrM mt e hp T x y z
 | op => stoR t e hp op
theorem wrY_ok {op : Op} {ty : TypeId} {pos : String} {after : Array Edge} {g : Option (Nat × Bool)} (ht : TTok K.P t) {mt : List MT} (hmt : MTok K.P mt) {e : Env} {hp : Heap} {id : Nat} {ob : Ob} (ha : Ag e S) (hh : AgH hp S) (h : wrY t mt e hp op = some (id, ob)) (hw : Wants ops S ⟨none, op, ty, pos, after, g⟩ true)
  (k : AOps K ops rest Q ⟨S.env, (id, ob) :: S.hp, S.nx⟩) : AOps K ops (⟨none, op, ty, pos, after, g⟩ :: rest) Q S := by
 unfold wrY at h
 split at h
 ·exact wrM_ok (.inl rfl) hmt ha hh h hw k
 ·exact wrM_ok (.inr rfl) hmt ha hh h hw k
 ·exact stoR_ok ht ha hh h hw k
theorem clD_run0 {e : Env} (ha : Ag e S) {o : Oper} {f : Nat} {avs : List V} (h : clD e o.op = some (f, avs)) (hf : fnOk K.P f = true) :
  ∀ m β w a, Rel K m β w a S → ∃ vs : Array Value, (execOp a.eval o).run K.P w = .ok (.enter f vs) w ∧ VRels m β avs vs := by
 obtain ⟨dst, op, ty', pos, after, g⟩ := o
 cases op <;> simp only [clD, reduceCtorEq] at h
 rename_i c
 obtain ⟨callee, args, at'⟩ := c
 simp only at h
 split at h
 ·rename_i x
  split at h
  ·rename_i first caps hx
   split at h
   ·split at h
    ·rename_i vs hv
     split at h
     ·rename_i q hq
      simp only [Option.some.injEq, Prod.mk.injEq] at h
      obtain ⟨rfl, rfl⟩ := h
      have hq := frc_ok hq
      have hv := evL_ok (K := K) ha hv
      exact mcallv_run hf (q4e ha hx) (by rw [hv]; exact hq)
     ·simp at h
    ·simp at h
   ·simp at h
  ·simp at h
 ·simp at h
end
section
variable {K : Ctx} {Q : Post} {S S' : St} {ops : Array Oper} {rest : List Oper} {t : TT}
def mpL (f : V → Option V) : List V → Option (List V)
 | [] => some []
 | x :: l => (match f x with | some y => (match mpL f l with | some r => some (y :: r) | none => none) | none => none)
def mpV (f : Nat → Option Nat) : Nat → V → Option V
 | 0, _ => none
 | n + 1, v => (match v with
  | .con v => some (.con v)
  | .agg cs => (match mpL (mpV f n) cs with | some r => some (.agg r) | none => none)
  | .tup cs => (match mpL (mpV f n) cs with | some r => some (.tup r) | none => none)
  | .fn g a b => (match mpL (mpV f n) a, mpL (mpV f n) b with | some r, some q => some (.fn g r q) | _, _ => none)
  | .ptr id k i o => (match f id with | some j => some (.ptr j k i o) | none => none)
  | .own id l => (match f id with | some j => some (.own j l) | none => none)
  | .map id => (match f id with | some j => some (.map j) | none => none)
  | _ => none)
theorem mpL_at {f : V → Option V} : ∀ {l r : List V}, mpL f l = some r → r.length = l.length ∧ ∀ (i : Nat) c c', l[i]? = some c → r[i]? = some c' → f c = some c'
 | [], r, h => by simp [mpL] at h; subst h; simp
 | x :: l, r, h => by
  simp only [mpL] at h
  split at h
  ·rename_i y hy
   split at h
   ·rename_i q hq
    simp at h; subst h
    obtain ⟨h1, h2⟩ := mpL_at hq
    refine ⟨by simp [h1], fun i c c' a b => ?_⟩
    cases i with
    | zero => simp at a b; subst a; subst b; exact hy
    | succ i => exact h2 i c c' (by simpa using a) (by simpa using b)
   ·simp at h
  ·simp at h
theorem mpV_ok {f : Nat → Option Nat} {m : Mem} {β β' : Locs} (hf : ∀ i j, f i = some j → β' j = β i) : ∀ {n : Nat} {v v' : V} {x : Value}, mpV f n v = some v' → VRel m β v x → VRel m β' v' x
 | 0, v, v', x, h => by simp [mpV] at h
 | n + 1, v, v', x, h => by
  intro hv
  have lst : ∀ {cs r : List V} {vs : Array Value}, mpL (mpV f n) cs = some r → cs.length = vs.size → (∀ (i : Nat) c v, cs[i]? = some c → vs[i]? = some v → VRel m β c v) → r.length = vs.size ∧ ∀ (i : Nat) c v, r[i]? = some c → vs[i]? = some v → VRel m β' c v := by
   intro cs r vs hr hl hh
   obtain ⟨a1, a2⟩ := mpL_at hr
   refine ⟨a1.trans hl, fun i c v hc hx => ?_⟩
   have hi : i < cs.length := by rw [← a1]; exact (List.getElem?_eq_some_iff.1 hc).1
   exact mpV_ok hf (a2 i _ _ (List.getElem?_eq_getElem hi) hc) (hh i _ v (List.getElem?_eq_getElem hi) hx)
  cases v with
  | con c => simp [mpV] at h; subst h; rw [hv.of_con]; exact .imm (.con _)
  | agg cs =>
   simp only [mpV] at h
   split at h
   ·rename_i r hr
    simp at h; subst h
    obtain ⟨vs, rfl, h2, h3⟩ := agg_inv hv
    obtain ⟨b1, b2⟩ := lst hr h2 h3
    exact .agg b1 b2
   ·simp at h
  | tup cs =>
   simp only [mpV] at h
   split at h
   ·rename_i r hr
    simp at h; subst h
    cases hv with
    | imm hv => cases hv with | tup hl hh => obtain ⟨b1, b2⟩ := lst hr hl (fun i c v a b => .imm (hh i c v a b)); exact .tup b1 b2
    | tup hl hh => obtain ⟨b1, b2⟩ := lst hr hl hh; exact .tup b1 b2
   ·simp at h
  | fn g a b =>
   simp only [mpV] at h
   split at h
   ·rename_i r q hr hq
    simp at h; subst h
    cases hv with
    | imm hv => cases hv with | fn hl hl' h1 h2 => obtain ⟨b1, b2⟩ := lst hr hl (fun i c v a b => .imm (h1 i c v a b)); obtain ⟨c1, c2⟩ := lst hq hl' (fun i c v a b => .imm (h2 i c v a b)); exact .fn b1 c1 b2 c2
    | fn hl hl' h1 h2 => obtain ⟨b1, b2⟩ := lst hr hl h1; obtain ⟨c1, c2⟩ := lst hq hl' h2; exact .fn b1 c1 b2 c2
   ·simp at h
  | ptr id k i o =>
   simp only [mpV] at h
   split at h
   ·rename_i j hj
    simp at h; subst h
    cases hv with
    | imm hv => cases hv
    | ptr hb => exact .ptr (by rw [hf _ _ hj]; exact hb)
   ·simp at h
  | own id l =>
   simp only [mpV] at h
   split at h
   ·rename_i j hj
    simp at h; subst h
    cases hv with
    | imm hv => cases hv
    | ownNil hb => exact .ownNil (by rw [hf _ _ hj]; exact hb)
    | own hb => exact .own (by rw [hf _ _ hj]; exact hb)
   ·simp at h
  | map id =>
   simp only [mpV] at h
   split at h
   ·rename_i j hj
    simp at h; subst h
    cases hv with
    | imm hv => cases hv
    | map hb => exact .map (by rw [hf _ _ hj]; exact hb)
   ·simp at h
  | _ => simp [mpV] at h
theorem mpV_deep {f : Nat → Option Nat} {n : Nat} {v v' : V} (h : mpV f n v = some v') : v.deep = false := by
 cases n with
 | zero => simp [mpV] at h
 | succ n => cases v <;> first | rfl | simp [mpV] at h
def mpR (f : Nat → Option Nat) : List (List V) → Option (List (List V))
 | [] => some []
 | x :: l => (match mpL (mpV f 12) x with | some y => (match mpR f l with | some r => some (y :: r) | none => none) | none => none)
def mpM (f : Nat → Option Nat) : List (Value × V) → Option (List (Value × V))
 | [] => some []
 | (k, x) :: l => (match mpV f 12 x with | some y => (match mpM f l with | some r => some ((k, y) :: r) | none => none) | none => none)
def mpO (f : Nat → Option Nat) : Ob → Option Ob
 | .dead => some .dead
 | .arr e k rows => (match mpR f rows with | some r => some (.arr e k r) | none => none)
 | .map es => (match mpM f es with | some r => some (.map r) | none => none)
 | .res => none
 | .iter _ _ => none
def ViaY (Y : Hy) (f : Nat → Option Nat) : Prop := ∀ m β m' β', Y m β m' β' → m' = m ∧ ∀ i j, f i = some j → β' j = β i
theorem mpV_sub {Y : Hy} {f : Nat → Option Nat} (hY : ViaY Y f) {n : Nat} {v v' : V} (h : mpV f n v = some v') : Sub Y v' v := fun m β m' β' x hy hx => by
 obtain ⟨rfl, hf⟩ := hY _ _ _ _ hy
 exact mpV_ok hf h hx
theorem mpV_csub {Y : Hy} {f : Nat → Option Nat} (hY : ViaY Y f) {n : Nat} {v v' : V} (h : mpV f n v = some v') : CSub Y v' v := .sub (mpV_sub hY h) (mpV_deep h)
theorem mpR_at {f : Nat → Option Nat} : ∀ {l r : List (List V)}, mpR f l = some r → r.length = l.length ∧ ∀ (i : Nat) c c', l[i]? = some c → r[i]? = some c' → mpL (mpV f 12) c = some c'
 | [], r, h => by simp [mpR] at h; subst h; simp
 | x :: l, r, h => by
  simp only [mpR] at h
  split at h
  ·rename_i y hy
   split at h
   ·rename_i q hq
    simp at h; subst h
    obtain ⟨h1, h2⟩ := mpR_at hq
    refine ⟨by simp [h1], fun i c c' a b => ?_⟩
    cases i with
    | zero => simp at a b; subst a; subst b; exact hy
    | succ i => exact h2 i c c' (by simpa using a) (by simpa using b)
   ·simp at h
  ·simp at h
theorem mpM_at {f : Nat → Option Nat} : ∀ {l r : List (Value × V)}, mpM f l = some r → r.length = l.length ∧ ∀ (i : Nat) c c', l[i]? = some c → r[i]? = some c' → c'.1 = c.1 ∧ mpV f 12 c.2 = some c'.2
 | [], r, h => by simp [mpM] at h; subst h; simp
 | (k, x) :: l, r, h => by
  simp only [mpM] at h
  split at h
  ·rename_i y hy
   split at h
   ·rename_i q hq
    simp at h; subst h
    obtain ⟨h1, h2⟩ := mpM_at hq
    refine ⟨by simp [h1], fun i c c' a b => ?_⟩
    cases i with
    | zero => simp at a b; subst a; subst b; exact ⟨rfl, hy⟩
    | succ i => exact h2 i c c' (by simpa using a) (by simpa using b)
   ·simp at h
  ·simp at h
theorem mpO_sub {Y : Hy} {f : Nat → Option Nat} (hY : ViaY Y f) {ob ob' : Ob} (h : mpO f ob = some ob') : ObSub Y ob' ob := by
 cases ob with
 | dead => simp [mpO] at h; subst h; trivial
 | res => simp [mpO] at h
 | iter c l => simp [mpO] at h
 | arr e k rows =>
  simp only [mpO] at h
  split at h
  ·rename_i r hr
   simp at h; subst h
   obtain ⟨h1, h2⟩ := mpR_at hr
   refine ⟨rfl, rfl, h1, fun i r' r0 a b => ?_⟩
   obtain ⟨q1, q2⟩ := mpL_at (h2 i _ _ b a)
   exact ⟨q1, fun j c c' x y => mpV_csub hY (q2 j _ _ y x)⟩
  ·simp at h
 | map es =>
  simp only [mpO] at h
  split at h
  ·rename_i r hr
   simp at h; subst h
   obtain ⟨h1, h2⟩ := mpM_at hr
   refine ⟨h1, fun i p p' a b => ?_⟩
   obtain ⟨q1, q2⟩ := h2 i _ _ b a
   exact ⟨q1, mpV_csub hY q2⟩
  ·simp at h
theorem mpL_subs {Y : Hy} {f : Nat → Option Nat} (hY : ViaY Y f) {n : Nat} : ∀ {l r : List V}, mpL (mpV f n) l = some r → Subs Y r l
 | [], r, h => by simp [mpL] at h; subst h; exact .nil
 | x :: l, r, h => by
  simp only [mpL] at h
  split at h
  ·rename_i y hy
   split at h
   ·rename_i q hq
    simp at h; subst h; exact .cons (mpV_sub hY hy) (mpL_subs hY hq)
   ·simp at h
  ·simp at h
def idsL (f : V → List Nat) : List V → List Nat
 | [] => []
 | x :: l => f x ++ idsL f l
def idsV : Nat → V → List Nat
 | 0, _ => []
 | n + 1, v => (match v with
  | .agg cs => idsL (idsV n) cs
  | .tup cs => idsL (idsV n) cs
  | .fn _ a b => idsL (idsV n) a ++ idsL (idsV n) b
  | .ptr id _ _ _ => [id]
  | .own id _ => [id]
  | .map id => [id]
  | _ => [])
def idsR : List (List V) → List Nat
 | [] => []
 | r :: l => idsL (idsV 12) r ++ idsR l
def idsM : List (Value × V) → List Nat
 | [] => []
 | p :: l => idsV 12 p.2 ++ idsM l
def idsO : Ob → List Nat
 | .arr _ _ rows => idsR rows
 | .map es => idsM es
 | _ => []
def reachC (hp : Heap) : Nat → List Nat → List Nat → Option (List Nat)
 | 0, _, _ => none
 | n + 1, l, acc => (match l with
  | [] => some acc
  | i :: l => (match notin i acc with
   | false => reachC hp n l acc
   | true => reachC hp n (idsO (hget hp i) ++ l) (acc ++ [i])))
def idxJ : List Nat → Nat → Nat → Option Nat
 | [], _, _ => none
 | x :: l, j, i => bif Nat.beq x i then some j else idxJ l (j + 1) i
theorem idxJ_ok : ∀ {l : List Nat} {j i r : Nat}, idxJ l j i = some r → ∃ q, r = j + q ∧ lgt l q = some i
 | x :: l, j, i, r, h => by
  simp only [idxJ] at h
  cases hb : Nat.beq x i with
  | true => rw [hb] at h; simp at h; exact ⟨0, h.symm, by rw [Nat.eq_of_beq_eq_true hb]; rfl⟩
  | false =>
   rw [hb] at h; simp at h
   obtain ⟨q, h1, h2⟩ := idxJ_ok h
   exact ⟨q + 1, by omega, h2⟩
 | [], j, i, r, h => by simp [idxJ] at h
def inH (f : Nat → Option Nat) (hp : Heap) : Nat → List Nat → Option (Heap × Heap)
 | _, [] => some ([], [])
 | j, i :: l => (match mpO f (hget hp i) with
  | some ob => (match inH f hp (j + 1) l with | some (h, r) => some ((j, ob) :: h, (i, hget hp i) :: r) | none => none)
  | none => none)
theorem inH_ok {Y : Hy} {f : Nat → Option Nat} (hY : ViaY Y f) {hp hpS : Heap} {R0 : List Nat} : ∀ {l : List Nat} {j : Nat} {h r : Heap}, (∀ q i, lgt l q = some i → lgt R0 (j + q) = some i) → inH f hp j l = some (h, r) → RdH hpS r →
  HpSub Y R0.length (sg R0) hpS h
 | [], j, h, r, hR, hh, hr => by simp [inH] at hh; obtain ⟨rfl, rfl⟩ := hh; exact .nil
 | i :: l, j, h, r, hR, hh, hr => by
  simp only [inH] at hh
  split at hh
  ·rename_i ob ho
   split at hh
   ·rename_i h' r' hq
    simp at hh; obtain ⟨rfl, rfl⟩ := hh
    have h0 := hR 0 i rfl
    obtain ⟨a1, a2⟩ := sg_lgt h0
    simp only [Nat.add_zero] at a1 a2
    refine .cons a1 ?_ (inH_ok hY (fun q i' hq' => by have := hR (q + 1) i' hq'; rwa [show j + (q + 1) = j + 1 + q by omega] at this) hq hr.2)
    rw [a2, hr.1]
    exact mpO_sub hY ho
   ·simp at hh
  ·simp at hh
theorem inH_rd {f : Nat → Option Nat} {hp : Heap} : ∀ {l : List Nat} {j : Nat} {h r : Heap}, inH f hp j l = some (h, r) → RdH hp r
 | [], j, h, r, hh => by simp [inH] at hh; obtain ⟨rfl, rfl⟩ := hh; trivial
 | i :: l, j, h, r, hh => by
  simp only [inH] at hh
  split at hh
  ·split at hh
   ·rename_i h' r' hq
    simp at hh; obtain ⟨rfl, rfl⟩ := hh
    exact ⟨rfl, inH_rd hq⟩
   ·simp at hh
  ·simp at hh
def outH (f : Nat → Option Nat) (hp' : Heap) : Nat → List Nat → Option Heap
 | _, [] => some []
 | j, i :: l => (match mpO f (hget hp' j) with
  | some ob => (match outH f hp' (j + 1) l with | some u => some ((i, ob) :: u) | none => none)
  | none => none)
theorem outH_ok {Y : Hy} {f : Nat → Option Nat} (hY : ViaY Y f) {hp' : Heap} {R0 : List Nat} : ∀ {l : List Nat} {j : Nat} {u : Heap}, (∀ q i, lgt l q = some i → lgt R0 (j + q) = some i) → j + l.length = R0.length → outH f hp' j l = some u → HpTo Y (sg R0) hp' R0.length j u
 | [], j, u, hR, hl, h => by simp [outH] at h; subst h; simp at hl; subst hl; exact .nil
 | i :: l, j, u, hR, hl, h => by
  simp only [outH] at h
  split at h
  ·rename_i ob ho
   split at h
   ·rename_i u' hu
    simp at h; subst h
    have h0 := hR 0 i rfl
    obtain ⟨a1, a2⟩ := sg_lgt h0
    simp only [Nat.add_zero] at a1 a2
    exact .cons a2 (mpO_sub hY ho) (outH_ok hY (fun q i' hq' => by have := hR (q + 1) i' hq'; rwa [show j + (q + 1) = j + 1 + q by omega] at this) (by simp at hl; omega) hu)
   ·simp at h
  ·simp at h
def seqF (fr : Nat) : Nat → List Nat
 | 0 => []
 | n + 1 => fr :: seqF (fr + 1) n
def resL : List Nat → Heap → Bool
 | [], _ => true
 | i :: l, hp => (match hgC hp i with | some .res => resL l hp | _ => false)
def resD (l : List Nat) : Heap := l.map fun i => (i, .res)
theorem resL_rd : ∀ {l : List Nat} {hp : Heap}, resL l hp = true → RdH hp (resD l)
 | [], hp, _ => trivial
 | i :: l, hp, h => by
  simp only [resL] at h
  split at h
  ·rename_i ho; exact ⟨hgC_ok ho, resL_rd h⟩
  ·simp at h
theorem rdH_app {hp : Heap} : ∀ {a b : Heap}, RdH hp (a ++ b) ↔ RdH hp a ∧ RdH hp b
 | [], b => by simp [RdH]
 | (i, o) :: a, b => by
  have := rdH_app (hp := hp) (a := a) (b := b)
  simp only [List.cons_append, RdH, this, and_assoc]
theorem resD_at : ∀ {l : List Nat} {hp : Heap}, RdH hp (resD l) → ∀ i, i ∈ l → hget hp i = .res
 | [], _, _, i, hi => by simp at hi
 | j :: l, hp, h, i, hi => by
  rcases List.mem_cons.1 hi with rfl | hi
  ·exact h.1
  ·exact resD_at (l := l) h.2 i hi
theorem seqF_mem : ∀ {n fr i : Nat}, i ∈ seqF fr n ↔ fr ≤ i ∧ i < fr + n
 | 0, fr, i => by simp [seqF]
 | n + 1, fr, i => by simp only [seqF, List.mem_cons, seqF_mem (n := n)]; omega
theorem lgt_sg {R : List Nat} {j i : Nat} (h : lgt R j = some i) : sg R j = i ∧ j < R.length := by
 obtain ⟨a, b⟩ := sg_lgt h; exact ⟨b, Nat.le_of_ble_eq_true a⟩
def clB (cb : Nat → List V → Heap → Nat → Option (V × Heap × Nat)) (f : Nat) (avs : List V) (hp : Heap) (fr nx : Nat) : Option (V × Heap × Heap × Nat) :=
 match reachC hp 2000 (idsL (idsV 12) avs) [] with
 | some R => (match mpL (mpV (idxJ R 0) 12) avs with
  | some avs' => (match inH (idxJ R 0) hp 0 R with
   | some (hpc, rh) => (match cb f avs' hpc R.length with
    | some (dc, hp', k') =>
     let nw := seqF fr (k' - R.length)
     let ρ := R ++ nw
     (match Nat.ble R.length k' && resL nw hp && toB R.length k' nx nx (sg R) (sg ρ) (fun i => Nat.ble fr i && Nat.blt i (fr + (k' - R.length))) && injB k' (sg ρ) with
     | true => (match mpV (lgt ρ) 12 dc with
      | some dv => (match outH (lgt ρ) hp' 0 ρ with
       | some u => some (dv, rh ++ resD nw, u, fr + (k' - R.length))
       | none => none)
      | none => none)
     | false => none)
    | none => none)
   | none => none)
  | none => none)
 | none => none
theorem clB_ok {cb : Nat → List V → Heap → Nat → Option (V × Heap × Nat)} (hcb : ∀ f avs hp k v hp' k', cb f avs hp k = some (v, hp', k') → fnOk K.P f = true ∧ MutG K.gl K.P f avs k hp v k' hp') {f : Nat} {avs : List V} {hp rh u : Heap} {fr fr' nx d : Nat} {dv : V}
  (h : clB cb f avs hp fr nx = some (dv, rh, u, fr')) (hpin : K.pins ≤ fr) {o : Oper} {e : Env} (hc : clD e o.op = some (f, avs)) (hdst : o.dst = some d) (hN : Nat.blt d K.N = true) :
  RdH hp rh ∧ fr ≤ fr' ∧ ∀ S, S.nx = nx → Ag e S → RdH S.hp rh → Wants ops S o true → AOps K ops rest Q ⟨(d, dv) :: S.env, u ++ S.hp, S.nx⟩ → AOps K ops (o :: rest) Q S := by
 unfold clB at h
 split at h
 ·rename_i R hR
  split at h
  ·rename_i avs' ha
   split at h
   ·rename_i hpc rh0 hin
    split at h
    ·rename_i dc hp' k' hcall
     obtain ⟨q1, q2⟩ := hcb _ _ _ _ _ _ _ hcall
     simp only at h
     split at h
     ·rename_i hb
      simp only [Bool.and_eq_true] at hb
      obtain ⟨⟨⟨b1, b2⟩, b3⟩, b4⟩ := hb
      have b1' := Nat.le_of_ble_eq_true b1
      split at h
      ·rename_i dv' hdv
       split at h
       ·rename_i u' hu
        simp only [Option.some.injEq, Prod.mk.injEq] at h
        obtain ⟨rfl, rfl, rfl, rfl⟩ := h
        have hl : (R ++ seqF fr (k' - R.length)).length = k' := by
         have : ∀ n fr, (seqF fr n).length = n := by intro n; induction n with | zero => intro _; rfl | succ n ih => intro fr; simp [seqF, ih]
         simp [this]; omega
        have hYR : ViaY (Ren R.length (sg R)) (idxJ R 0) := by
         rintro m β m' β' ⟨rfl, hy⟩
         refine ⟨rfl, fun i j hij => ?_⟩
         obtain ⟨q, e1, e2⟩ := idxJ_ok hij
         obtain ⟨s1, s2⟩ := lgt_sg e2
         rw [show j = q by omega, hy q s2, s1]
        have hYT : ViaY (To k' (sg (R ++ seqF fr (k' - R.length)))) (lgt (R ++ seqF fr (k' - R.length))) := by
         rintro m β m' β' ⟨rfl, hy⟩
         refine ⟨rfl, fun i j hij => ?_⟩
         obtain ⟨s1, s2⟩ := lgt_sg hij
         rw [← s1, hy i (by rw [← hl]; exact s2)]
        refine ⟨rdH_app.2 ⟨inH_rd hin, resL_rd b2⟩, Nat.le_add_right _ _, fun S hn hag hrd hw kk => ?_⟩
        obtain ⟨r1, r2⟩ := rdH_app.1 hrd
        have hun : HpTo (To k' (sg (R ++ seqF fr (k' - R.length)))) (sg (R ++ seqF fr (k' - R.length))) hp' k' 0 u' := by
         have := outH_ok (R0 := R ++ seqF fr (k' - R.length)) hYT (j := 0) (fun q i h => by rw [Nat.zero_add]; exact h) (by simp) hu
         rw [hl] at this; exact this
        refine aops_mcalls (sg R) (sg (R ++ seqF fr (k' - R.length))) S.nx u' _ hw hdst hN (clD_run0 hag hc q1) (mpL_subs hYR ha) (HpSub.get (inH_ok hYR (fun q i h => by rw [Nat.zero_add]; exact h) hin r1)) q2 (fun i hi => ?_) (by rw [hn]; exact b3) b4
         (Nat.ble_eq_true_of_le (Nat.le_refl _)) b1 (fun i hi => ?_) (mpV_sub hYT hdv) hun kk
        ·simp only [Bool.and_eq_true] at hi
         exact resD_at r2 i (seqF_mem.2 ⟨Nat.le_of_ble_eq_true hi.1, Nat.le_of_ble_eq_true hi.2⟩)
        ·simp only [Bool.and_eq_true] at hi
         exact Nat.le_trans hpin (Nat.le_of_ble_eq_true hi.1)
       ·simp at h
      ·simp at h
     ·simp at h
    ·simp at h
   ·simp at h
  ·simp at h
 ·simp at h
def ltH (nx : Nat) : Heap → Heap
 | [] => []
 | (i, o) :: l => bif Nat.blt i nx then (i, o) :: ltH nx l else ltH nx l
def preH (hp : Heap) : Nat → Nat → Heap → Heap
 | _, 0, r => r
 | i, n + 1, r => (match hget hp i with | .res => preH hp (i + 1) n r | .dead => preH hp (i + 1) n r | o => (i, o) :: preH hp (i + 1) n r)
def dropR (nx n : Nat) (hp : Heap) : Heap := preH hp nx n (ltH nx hp)
theorem blt_ite (i n : Nat) {α : Type} (a b : α) : (bif Nat.blt i n then a else b) = if i < n then a else b := by
 by_cases h : i < n
 ·have : Nat.blt i n = true := Nat.ble_eq_true_of_le h
  simp [this, h]
 ·have : Nat.blt i n = false := by cases hb : Nat.blt i n; rfl; exact absurd (Nat.le_of_ble_eq_true hb) h
  simp [this, h]
theorem ltH_at (nx : Nat) : ∀ (l : Heap) (t : Nat), hget (ltH nx l) t = if t < nx then hget l t else .dead
 | [], t => by simp [ltH, hget]
 | (i, o) :: l, t => by
  have ih := ltH_at nx l t
  simp only [ltH, blt_ite]
  split
  ·rename_i h
   rw [q7b, q7b, ih]
   split
   ·rename_i e; subst e; rw [if_pos h]
   ·rfl
  ·rename_i h
   rw [ih, q7b]
   split
   ·rename_i h2; rw [if_neg]; intro e; subst e; exact h h2
   ·rfl
theorem preH_at (hp : Heap) : ∀ (n i : Nat) (r : Heap) (t : Nat), hget (preH hp i n r) t = hget r t ∨ (i ≤ t ∧ hget (preH hp i n r) t = hget hp t)
 | 0, i, r, t => .inl rfl
 | n + 1, i, r, t => by
  have ih := preH_at hp n (i + 1) r t
  simp only [preH]
  split
  ·rcases ih with h | ⟨h1, h2⟩
   ·exact .inl h
   ·exact .inr ⟨by omega, h2⟩
  ·rcases ih with h | ⟨h1, h2⟩
   ·exact .inl h
   ·exact .inr ⟨by omega, h2⟩
  ·rw [q7b]
   split
   ·rename_i e; subst e; exact .inr ⟨Nat.le_refl _, rfl⟩
   ·rcases ih with h | ⟨h1, h2⟩
    ·exact .inl h
    ·exact .inr ⟨by omega, h2⟩
theorem dropR_at (nx n : Nat) (hp : Heap) (t : Nat) : hget (dropR nx n hp) t = hget hp t ∨ hget (dropR nx n hp) t = .dead := by
 unfold dropR
 rcases preH_at hp n nx (ltH nx hp) t with h | ⟨_, h⟩
 ·rw [h, ltH_at]
  split
  ·exact .inl rfl
  ·exact .inr rfl
 ·exact .inl h
theorem Rel.less {m : Mem} {β : Locs} {w : World} {a : Act} (r : Rel K m β w a S) {hp : Heap} (h : ∀ t, hget hp t = hget S.hp t ∨ hget hp t = .dead) : Rel K m β w a ⟨S.env, hp, S.nx⟩ := by
 have hl : ∀ i, hget hp i ≠ .dead → hget S.hp i ≠ .dead := fun i hi => by rcases h i with e | e; rw [← e]; exact hi; exact absurd e hi
 constructor
 ·exact r.imm
 ·exact r.ext
 ·exact r.mold
 ·exact r.frame
 ·exact r.size
 ·exact r.same
 ·exact r.tn
 ·exact r.df
 ·exact r.env
 ·intro id
  show ObOk m β w _ _ (hget hp id)
  rcases h id with e | e
  ·rw [e]; exact r.own id
  ·rw [e]; exact ObOk.dead' _
 ·exact fun id b cap hi => r.priv id b cap (hl id hi)
 ·exact fun id id' b cap cap' hi hi' => r.inj id id' b cap cap' (hl id hi) (hl id' hi')
 ·exact fun id x hi hx => (r.hid id x (hl id hi) hx).weak hl
 ·exact r.nx
 ·exact r.pin
theorem ghost_less {e : Env} {hp hp' : Heap} {nx : Nat} (h : ∀ t, hget hp' t = hget hp t ∨ hget hp' t = .dead) : Ghost K ⟨e, hp, nx⟩ ⟨e, hp', nx⟩ := fun m β _ _ r => ⟨m, β, r.less h⟩
end
section
variable {K : Ctx} {Q : Post} {S S' : St} {ops : Array Oper} {rest : List Oper} {t : TT}
def od2 (cb : Nat → List V → Option V) (cb2 : Nat → List V → Heap → Nat → Option (V × Heap × Nat)) (t : TT) (mt : List MT) (N fr : Nat) (ops : Array Oper) (o : Oper) (e : Env) (hp : Heap) (nx : Nat) : Option (OD × Nat) :=
 match rdO2 ops o e with
 | none => none
 | some re => (match wt ops re o.guard with
  | none => none
  | some b => (match b with
   | false => (match o.dst with | some d => (match Nat.blt d N with | true => some (⟨re, [], [(d, .con undef)], []⟩, fr) | false => none) | none => none)
   | true => (match hrL re hp (hrO o.op) [] with
    | none => none
    | some rh => (match o.dst with
     | some d => (match Nat.blt d N with
      | false => none
      | true => (match val t re rh o.op with
       | some v => some (⟨re, rh, [(d, v)], []⟩, fr)
       | none => (match alY t re fr o.op with
        | some (v, ob) => (match Nat.blt fr nx, hgC hp fr with
         | true, some .res => some (⟨re, (fr, .res) :: rh, [(d, v)], [(fr, ob)]⟩, fr + 1)
         | _, _ => none)
        | none => (match clD re o.op with
         | some (f, avs) => (match allNB immB avs, cb f avs with
          | true, some v => some (⟨re, rh, [(d, v)], []⟩, fr)
          | _, _ => (match clB cb2 f avs hp fr nx with
           | some (dv, rh2, u, fr') => some (⟨re, rh2, [(d, dv)], u⟩, fr')
           | none => none))
         | none => (match oneY t mt re rh nx o.op with
          | some (v, [], 0) => some (⟨re, rh, [(d, v)], []⟩, fr)
          | _ => none)))))
     | none => (match wrY t mt re rh o.op with | some (id, ob) => some (⟨re, rh, [], [(id, ob)]⟩, fr) | none => none)))))
theorem od2_ok {cb : Nat → List V → Option V} {cb2 : Nat → List V → Heap → Nat → Option (V × Heap × Nat)} (hcb2 : ∀ f avs hp k v hp' k', cb2 f avs hp k = some (v, hp', k') → fnOk K.P f = true ∧ MutG K.gl K.P f avs k hp v k' hp') (hcb : ∀ f avs v, cb f avs = some v → fnOk K.P f = true ∧ PureG K.gl K.P f avs v) (ht : TTok K.P t) {mt : List MT} (hmt : MTok K.P mt) {o : Oper} {D : OD} {e : Env} {hp : Heap} {fr fr' nx : Nat} (hpin : K.pins ≤ fr)
  (h : od2 cb cb2 t mt K.N fr ops o e hp nx = some (D, fr')) : OStep K nx ops o D ∧ RdE e D.re ∧ RdH hp D.rh ∧ fr ≤ fr' := by
 unfold od2 at h
 split at h
 ·simp at h
 ·rename_i re hre
  have hre' := rdO2_ok hre
  split at h
  ·simp at h
  ·rename_i b hw
   split at h
   ·split at h
    ·rename_i d hd
     split at h
     ·rename_i hN
      simp at h; obtain ⟨rfl, rfl⟩ := h
      exact ⟨fun S2 hn h1 h2 => aops_skip (wt_ok (q0l h1) hw) hd hN (q5c ⟨rfl, rfl⟩), hre', trivial, Nat.le_refl _⟩
     ·simp at h
    ·simp at h
   ·split at h
    ·simp at h
    ·rename_i rh hrh
     have hrh' := hrL_ok (l := []) trivial hrh
     obtain ⟨dst, op, ty, pos, after, g⟩ := o
     cases dst with
     | some d =>
      simp only at h
      split at h
      ·simp at h
      ·rename_i hN
       split at h
       ·rename_i v hv
        simp at h; obtain ⟨rfl, rfl⟩ := h
        exact ⟨fun S2 hn h1 h2 => val_ok ht (q0l h1) (ag_rdH h2) hv (wt_ok (q0l h1) hw) hN (q5c ⟨rfl, rfl⟩), hre', hrh', Nat.le_refl _⟩
       ·split at h
        ·rename_i v ob hv
         split at h
         ·rename_i hb hres
          simp at h; obtain ⟨rfl, rfl⟩ := h
          exact ⟨fun S2 hn h1 h2 => alY_ok ht (q0l h1) hv (by rw [hb, Bool.true_and]; exact Nat.ble_eq_true_of_le hpin) hn h2.1 (wt_ok (q0l h1) hw) hN (q5c ⟨rfl, rfl⟩), hre', ⟨hgC_ok hres, hrh'⟩, Nat.le_succ _⟩
         ·simp at h
        ·split at h
         ·rename_i f avs hc
          split at h
          ·rename_i v hai hcv
           simp at h; obtain ⟨rfl, rfl⟩ := h
           obtain ⟨q1, q2⟩ := hcb _ _ _ hcv
           refine ⟨fun S2 hn h1 h2 => ?_, hre', hrh', Nat.le_refl _⟩
           refine aops_calls (o := ⟨some d, op, ty, pos, after, g⟩) (wt_ok (q0l h1) hw) rfl hN (fun m β w a r => ?_) q2 (q5c ⟨rfl, rfl⟩)
           obtain ⟨vs, e1, e2⟩ := clD_run0 (o := ⟨some d, op, ty, pos, after, g⟩) (q0l h1) hc q1 m β w a r
           exact ⟨vs, e1, ⟨e2.len, fun i c v a b => immN_ok (allN_ok hai c (List.mem_of_getElem? a)) (e2.at' i c v a b)⟩⟩
          ·split at h
           ·rename_i dv rh2 u fr2 hB
            simp only [Option.some.injEq, Prod.mk.injEq] at h; obtain ⟨rfl, rfl⟩ := h
            have p := fun (Q : Post) => clB_ok (Q := Q) (ops := ops) (rest := []) hcb2 hB hpin (o := ⟨some d, op, ty, pos, after, g⟩) hc rfl hN
            exact ⟨fun S2 hn h1 h2 => (p _).2.2 S2 hn (q0l h1) h2 (wt_ok (q0l h1) hw) (q5c ⟨rfl, rfl⟩), hre', (p (fun _ _ => True)).1, (p (fun _ _ => True)).2.1⟩
           ·simp at h
         ·split at h
          ·rename_i v hv
           simp at h; obtain ⟨rfl, rfl⟩ := h
           exact ⟨fun S2 hn h1 h2 => oneY_ok ht hmt (q0l h1) (ag_rdH h2) hn hv (wt_ok (q0l h1) hw) hN (q5c ⟨rfl, rfl⟩), hre', hrh', Nat.le_refl _⟩
          ·simp at h
     | none =>
      simp only at h
      split at h
      ·rename_i id ob hv
       simp at h; obtain ⟨rfl, rfl⟩ := h
       exact ⟨fun S2 hn h1 h2 => wrY_ok ht hmt (q0l h1) (ag_rdH h2) hv (wt_ok (q0l h1) hw) (q5c ⟨rfl, rfl⟩), hre', hrh', Nat.le_refl _⟩
      ·simp at h
theorem get_appc {e e' : Env} (h : ∀ t, get e t = get e' t) : ∀ (u : Env) (t : Nat), get (u ++ e) t = get (u ++ e') t
 | [], t => h t
 | (i, o) :: u, t => by
  show get ((i, o) :: (u ++ e)) t = get ((i, o) :: (u ++ e')) t
  rw [q6k, q6k, get_appc h u]
theorem hget_appc {e e' : Heap} (h : ∀ t, hget e t = hget e' t) : ∀ (u : Heap) (t : Nat), hget (u ++ e) t = hget (u ++ e') t
 | [], t => h t
 | (i, o) :: u, t => by
  show hget ((i, o) :: (u ++ e)) t = hget ((i, o) :: (u ++ e')) t
  rw [q7b, q7b, hget_appc h u]
def drR (cb : Nat → List V → Option V) (cb2 : Nat → List V → Heap → Nat → Option (V × Heap × Nat)) (t : TT) (mt : List MT) (N : Nat) (ops : Array Oper) : List Oper → Nat → Env → Heap → Nat → Option (List OD × Env × Heap)
 | [], _, e, hp, _ => some ([], e, hp)
 | o :: l, fr, e, hp, nx => (match od2 cb cb2 t mt N fr ops o e hp nx with
  | some (D, fr') => (match drR cb cb2 t mt N ops l fr' (putsE D.ue e) (putsH D.uh hp) nx with | some (ds, e', hp') => some (D :: ds, e', hp') | none => none)
  | none => none)
theorem drR_ok {cb : Nat → List V → Option V} {cb2 : Nat → List V → Heap → Nat → Option (V × Heap × Nat)} (hcb2 : ∀ f avs hp k v hp' k', cb2 f avs hp k = some (v, hp', k') → fnOk K.P f = true ∧ MutG K.gl K.P f avs k hp v k' hp') (hcb : ∀ f avs v, cb f avs = some v → fnOk K.P f = true ∧ PureG K.gl K.P f avs v) (ht : TTok K.P t) {mt : List MT} (hmt : MTok K.P mt) {nx : Nat} :
  ∀ {l : List Oper} {fr : Nat} {e e' : Env} {hp hp' : Heap} {ds : List OD} {S : St}, K.pins ≤ fr → drR cb cb2 t mt K.N ops l fr e hp nx = some (ds, e', hp') → S.nx = nx → (∀ t, get S.env t = get e t) → (∀ t, hget S.hp t = hget hp t) →
  LexOk S ds ∧ OSteps K nx ops l ds ∧ (∀ t, get (lexEnd S ds).env t = get e' t) ∧ (∀ t, hget (lexEnd S ds).hp t = hget hp' t) ∧ (lexEnd S ds).nx = nx
 | [], fr, e, e', hp, hp', ds, S, hpin, h, hn, h1, h2 => by
  simp [drR] at h; obtain ⟨rfl, rfl, rfl⟩ := h
  exact ⟨trivial, .nil, h1, h2, hn⟩
 | o :: l, fr, e, e', hp, hp', ds, S, hpin, h, hn, h1, h2 => by
  simp only [drR] at h
  split at h
  ·rename_i D fr' hD
   obtain ⟨a1, a2, a3, a4⟩ := od2_ok hcb2 hcb ht hmt hpin hD
   split at h
   ·rename_i ds' e2 hp2 hR
    simp at h; obtain ⟨rfl, rfl, rfl⟩ := h
    have := drR_ok hcb2 hcb ht hmt (S := S.upd D) (Nat.le_trans hpin a4) hR hn (fun t => (get_appc h1 _ t).trans (get_putsE _ _ t).symm) (fun t => (hget_appc h2 _ t).trans (hget_putsH _ _ t).symm)
    exact ⟨⟨RdE.congr (fun t _ => (h1 t).symm) a2, RdH.congr (fun t _ => (h2 t).symm) a3, this.1⟩, .cons a1 this.2.1, this.2.2⟩
   ·simp at h
  ·simp at h
def resH (nx : Nat) : Nat → Heap → Heap
 | 0, hp => hp
 | n + 1, hp => (nx + n, .res) :: resH nx n hp
theorem awp_res {c : Code} {e : Env} {hp : Heap} {nx : Nat} : ∀ (n : Nat), AWP K c Q ⟨e, resH nx n hp, nx + n⟩ → AWP K c Q ⟨e, hp, nx⟩
 | 0, h => h
 | n + 1, h => awp_res n (q7c q5f h)
theorem awp_pins {c : Code} (h : K.pins ≤ S.nx → AWP K c Q S) : AWP K c Q S := by
 intro m β w a r
 refine h ?_ m β w a r
 cases hp : K.pins with
 | zero => exact Nat.zero_le _
 | succ q => have := (r.pin q (by omega)).1; omega
theorem awp_dr {cb : Nat → List V → Option V} {cb2 : Nat → List V → Heap → Nat → Option (V × Heap × Nat)} (hcb2 : ∀ f avs hp k v hp' k', cb2 f avs hp k = some (v, hp', k') → fnOk K.P f = true ∧ MutG K.gl K.P f avs k hp v k' hp') (hcb : ∀ f avs v, cb f avs = some v → fnOk K.P f = true ∧ PureG K.gl K.P f avs v) (ht : TTok K.P t) {mt : List MT} (hmt : MTok K.P mt) (hm : K.P.follows .mixedOrders = true) {rid n nx : Nat} {e e' : Env} {hp hp' : Heap} {ds : List OD}
  (h : drR cb cb2 t mt K.N ops ops.toList nx e (resH nx n hp) (nx + n) = some (ds, e', hp')) (hok : anyOk ops.toList ds = true) (k : ∀ S1, Ghost K S1 ⟨e', hp', nx + n⟩ → Q .normal S1) : AWP K (.region rid ops true) Q ⟨e, hp, nx⟩ := by
 refine awp_pins (fun hpin => awp_res n ?_)
 obtain ⟨l⟩ := ops
 obtain ⟨a1, a2, a3, a4, a5⟩ := drR_ok hcb2 hcb ht hmt (S := ⟨e, resH nx n hp, nx + n⟩) hpin h rfl (fun _ => rfl) (fun _ => rfl)
 exact awp_any ds hm a1 hok a2 (k _ (fun m β _ _ r => ⟨m, β, r.congr (fun t => (a3 t).symm) (fun t => (a4 t).symm) a5.symm⟩))
end
section
variable {K : Ctx} {Q : Post} {S S' : St} {ops : Array Oper} {rest : List Oper} {t : TT}
theorem aops_idcall {o : Oper} {d : Nat} {f : FuncId} {avs : List V} {k' : Nat} {hp' : Heap} {dv : V} (hw : Wants ops S o true) (hd : o.dst = some d) (hN : Nat.blt d K.N = true)
  (hrun : ∀ m β w a, Rel K m β w a S → ∃ vs : Array Value, (execOp a.eval o).run K.P w = .ok (.enter f vs) w ∧ VRels m β avs vs)
  (hc : MutG K.gl K.P f avs S.nx S.hp dv k' hp') (kk : AOps K ops rest Q ⟨(d, dv) :: S.env, hp', k'⟩) : AOps K ops (o :: rest) Q S := by
 intro m β w a r
 unfold wpList
 rw [if_pos (hw.at r)]
 left
 obtain ⟨vs, h1, h2⟩ := hrun m β w a r
 unfold Oper.wp
 rw [h1]
 refine (hc m β w vs r.imm (K.glok.mono r.ext) h2 r.own (fun id b cap hl hb => (r.priv id b cap hl hb).1) r.inj (fun id x hl hx => let q := r.hid id x hl hx; ⟨q.lt, q.m, q.ne, q.un⟩) r.nx).mono ?_
 rintro e w' ⟨v, m', β', rfl, hv, g⟩
 simp only [hd]
 have hle : S.nx ≤ k' := by
  cases hn : S.nx with
  | zero => exact Nat.zero_le _
  | succ q => have := (g.pin q (by omega)).1; omega
 have hβle : β.le β' := by
  intro id l hl
  by_cases h : id < S.nx
  ·rw [(g.pin id h).2]; exact hl
  ·rw [r.nx id (by omega)] at hl; simp at hl
 have hold : ∀ b, b < K.w0.heap.size → K.old b → b < w.heap.size ∧ Foreign S.hp β b := fun b hb ho =>
  ⟨Nat.lt_of_lt_of_le hb r.size, fun i hl => ⟨fun c hb' => (r.priv _ _ _ hl hb').2 hb ho, fun hx => (r.hid _ _ hl hx).old hb ho⟩⟩
 have r2 : Rel K m' β' w' a ⟨S.env, hp', k'⟩ := by
  constructor
  ·exact g.imm
  ·exact Mem.le_trans r.ext g.le
  ·intro b hb ho
   obtain ⟨q1, q2⟩ := hold b hb ho
   rw [(g.old b q1 q2).1]
   exact r.mold b hb ho
  ·intro b hb ho
   obtain ⟨q1, q2⟩ := hold b hb ho
   rw [(g.old b q1 q2).2]
   exact r.frame b hb ho
  ·exact Nat.le_trans r.size g.size
  ·exact r.same.trans g.same
  ·exact r.tn
  ·exact r.df
  ·exact fun t => (r.env t).mono g.le hβle
  ·exact g.own
  ·intro id b cap hl hb
   obtain ⟨q1, q2⟩ := g.priv id b cap hl hb
   exact ⟨q1, fun hb0 ho => q2 (hold b hb0 ho).1 (hold b hb0 ho).2⟩
  ·exact g.inj
  ·intro id x hl hx
   obtain ⟨q1, q2, q3, q4, q5⟩ := g.hid id x hl hx
   exact ⟨q1, q2, fun hb0 ho => q3 (hold x hb0 ho).1 (hold x hb0 ho).2, q4, q5⟩
  ·exact g.nx
  ·intro q hq
   obtain ⟨p1, p2⟩ := r.pin q hq
   have := g.pin q p1
   exact ⟨this.1, this.2.trans p2⟩
 exact kk m' β' w' _ (r2.put hN hv)
def rsvM (t : TT) (e : Env) (hp : Heap) : ResultVar → Option V
 | .tmp x => gtC e x
 | .cell x T => (match gtC e x with
  | some (.ptr id k i o) => (match hgC hp id with
   | some (.arr _ k2 rows) => (match Nat.beq k k2 with | true => (match lgt rows i with | some row => ldV t T row o | none => none) | false => none)
   | _ => none)
  | _ => none)
theorem rsvM_ok (ht : TTok K.P t) {rv : ResultVar} {v : V} (h : rsvM t S.env S.hp rv = some v) : ResOneM K.P S rv v := by
 cases rv with
 | tmp x => exact .tmp (gtC_ok h)
 | cell x T =>
  simp only [rsvM] at h
  split at h
  ·rename_i id k i o hx
   split at h
   ·rename_i k2 rows ho
    split at h
    ·rename_i hk
     have hk := Nat.eq_of_beq_eq_true hk
     subst hk
     split at h
     ·rename_i row hr
      cases hn : ask t T TF.qA with
      | some n =>
       obtain ⟨cs, rfl, hc, hd⟩ := ldV_agg hn h
       exact .agg (askA ht hn) (gtC_ok hx) (hgC_ok ho) (lgt_ok hr) (cut_ok hc).1 (cut_ok hc).2 hd
      | none =>
       obtain ⟨hq, hc, hd⟩ := ldV_cell hn h
       exact .cell (askC ht hq) (gtC_ok hx) (hgC_ok ho) (lgt_ok hr) (lgt_ok hc) hd
     ·simp at h
    ·simp at h
   ·simp at h
  ·simp at h
def rsL (t : TT) (e : Env) (hp : Heap) : List ResultVar → Option (List V)
 | [] => some []
 | r :: l => (match rsvM t e hp r with | some v => (match rsL t e hp l with | some q => some (v :: q) | none => none) | none => none)
theorem rsL_ok (ht : TTok K.P t) : ∀ {l : List ResultVar} {ds : List V}, rsL t S.env S.hp l = some ds → ResL K.P S l ds
 | [], ds, h => by simp [rsL] at h; subst h; exact .nil
 | r :: l, ds, h => by
  simp only [rsL] at h
  split at h
  ·rename_i v hv
   split at h
   ·rename_i q hq; simp at h; subst h; exact .cons (rsvM_ok ht hv) (rsL_ok ht hq)
   ·simp at h
  ·simp at h
abbrev FT := List (Nat × Func)
def FTok (P : Program) (ft : FT) : Prop := ∀ p, p ∈ ft → P.funcs[p.1]? = some p.2 ∧ fnOk P p.1 = true
abbrev XT := List (Nat × (List V → Option V))
def XTok (gl : Gl) (P : Program) (xt : XT) : Prop := ∀ p, p ∈ xt → fnOk P p.1 = true ∧ ∀ avs v, p.2 avs = some v → PureG gl P p.1 avs v
def opOf (N : Nat) (ops : Array Oper) (e : Env) (o : Oper) : Option (Nat × Nat × List V) :=
 match dsC N ops e o with
 | some d => (match clD e o.op with | some (f, avs) => some (d, f, avs) | none => none)
 | none => none
def nAl : List Oper → Nat
 | [] => 0
 | o :: l => (match o.op with | .alloc _ => nAl l + 1 | .box _ _ => nAl l + 1 | .makeMap _ _ => nAl l + 1 | .buildSlice _ _ _ => nAl l + 1 | .makeSlice _ _ _ => nAl l + 1 | .call c => (match c.callee with | .value _ => nAl l + 12 | _ => nAl l) | _ => nAl l)
def evR (ft : FT) (xt : XT) (t : TT) (mt : List MT) : Nat → Nat → List It → St → Option St
 | 0, _, _, _ => none
 | _ + 1, _, [], S => some S
 | n + 1, N, x :: s, ⟨e, hp, nx⟩ =>
  match x with
  | .c .ret => some ⟨e, hp, nx⟩
  | .c (.loop c) => evR ft xt t mt n N (.c c :: .c (.loop c) :: s) ⟨e, hp, nx⟩
  | .c (.region _ ops true) =>
   (match drR (fun f avs => match lk xt f with
     | some g => g avs
     | none => (match lk ft f with
      | some fn => (match fn.body with
       | some c => (match Nat.ble avs.length fn.ntmps, evR ft xt t mt n fn.ntmps [.c c] ⟨argEnv 0 avs, [], 0⟩ with
        | true, some ⟨e1, hp1, _⟩ => (match rsL t e1 hp1 fn.results.toList with
         | some ds => (match immB (resV ds) with | true => some (resV ds) | false => none)
         | none => none)
        | _, _ => none)
       | none => none)
      | none => none)) (fun f avs hp k => match lk ft f with
      | some fn => (match fn.body with
       | some c => (match Nat.ble avs.length fn.ntmps, evR ft xt t mt n fn.ntmps [.c c] ⟨argEnv 0 avs, hp, k⟩ with
        | true, some ⟨e1, hp1, k1⟩ => (match rsL t e1 hp1 fn.results.toList with
         | some ds => some (resV ds, hp1, k1)
         | none => none)
        | _, _ => none)
       | none => none)
      | none => none) t mt N ops ops.toList nx e (resH nx (nAl ops.toList) hp) (nx + nAl ops.toList) with
   | some (ds, e', hp') => (match anyOk ops.toList ds with | true => evR ft xt t mt n N s ⟨e', dropR nx (nAl ops.toList) hp', nx + nAl ops.toList⟩ | false => none)
   | none => none)
  | .o ops (o :: l) =>
   (match one t N ops o ⟨e, hp, nx⟩ with
   | some ⟨e', hp', nx'⟩ => evR ft xt t mt n N (.o ops l :: s) ⟨tidyE e', tidyH hp', nx'⟩
   | none => (match opOf N ops e o with
    | some (d, f, avs) => (match lk xt f with
     | some g => (match g avs with | some v => (match allNB immB avs with | true => evR ft xt t mt n N (.o ops l :: s) ⟨putE d v e, hp, nx⟩ | false => none) | none => none)
     | none => (match lk ft f with
      | some fn => (match fn.body with
       | some c => (match Nat.ble avs.length fn.ntmps, evR ft xt t mt n fn.ntmps [.c c] ⟨argEnv 0 avs, hp, nx⟩ with
        | true, some ⟨e1, hp1, nx1⟩ => (match rsL t e1 hp1 fn.results.toList with
         | some ds => evR ft xt t mt n N (.o ops l :: s) ⟨putE d (resV ds) e, hp1, nx1⟩
         | none => none)
        | _, _ => none)
       | none => none)
      | none => none))
    | none => (match dsC N ops e o with
     | some d => (match oneY t mt e hp nx o.op with | some (v, u, q) => evR ft xt t mt n N (.o ops l :: s) ⟨putE d v e, putsH u hp, nx + q⟩ | none => (match o.guard, apN t d e hp nx o.op with | none, some (ue, uh) => evR ft xt t mt n N (.o ops l :: s) ⟨putsE ue e, putsH uh hp, nx + 2⟩ | _, _ => none))
     | none => (match o.dst, wt ops e o.guard with
      | none, some true => (match wrY t mt e hp o.op with | some (id, ob) => evR ft xt t mt n N (.o ops l :: s) ⟨e, putH id ob hp, nx⟩ | none => none)
      | _, _ => none))))
  | x => (match stp t N (x :: s) ⟨e, hp, nx⟩ with | some (s', S') => evR ft xt t mt n N s' S' | none => none)
theorem ghost_putE {d : Nat} {v : V} {e : Env} {hp : Heap} {nx : Nat} : Ghost K ⟨(d, v) :: e, hp, nx⟩ ⟨putE d v e, hp, nx⟩ := fun m β _ _ r => ⟨m, β, r.congr (get_putE d v e) (fun _ => rfl) rfl⟩
theorem ghost_putH {id : Nat} {ob : Ob} {e : Env} {hp : Heap} {nx : Nat} : Ghost K ⟨e, (id, ob) :: hp, nx⟩ ⟨e, putH id ob hp, nx⟩ := fun m β _ _ r => ⟨m, β, r.congr (fun _ => rfl) (hget_putH id ob hp) rfl⟩
theorem ghost_puts {d : Nat} {v : V} {e : Env} {u hp : Heap} {nx : Nat} : Ghost K ⟨(d, v) :: e, u ++ hp, nx⟩ ⟨putE d v e, putsH u hp, nx⟩ := fun m β _ _ r => ⟨m, β, r.congr (get_putE d v e) (hget_putsH u hp) rfl⟩
theorem ghost_puts2 {ue e : Env} {u hp : Heap} {nx : Nat} : Ghost K ⟨ue ++ e, u ++ hp, nx⟩ ⟨putsE ue e, putsH u hp, nx⟩ := fun m β _ _ r => ⟨m, β, r.congr (get_putsE ue e) (hget_putsH u hp) rfl⟩
theorem ghost_trans {S1 S2 S3 : St} (h : Ghost K S1 S2) (h' : Ghost K S2 S3) : Ghost K S1 S3 := Ghost.trans h h'
theorem ghost_refl : Ghost K S S := fun m β _ _ r => ⟨m, β, r⟩
theorem wg_b {i : Nat} {s : List It} (h : WG K Q s S) : WG K Q (.b i :: s) S := h
theorem evR_ok {gl : Gl} {P : Program} {ft : FT} {xt : XT} {mt : List MT} (hft : FTok P ft) (hxt : XTok gl P xt) (ht : TTok P t) (hmt : MTok P mt) (hm : P.follows .mixedOrders = true) :
  ∀ (n : Nat) (K : Ctx), K.P = P → K.gl = gl → ∀ (s : List It) (S S' : St) (Q : Post), evR ft xt t mt n K.N s S = some S' → (∀ S0, Ghost K S0 S' → ∀ e, (e = .ret ∨ e = .normal) → Q e S0) → ∀ S0, Ghost K S0 S → WG K Q s S0 := by
 intro n
 induction n with
 | zero => intro K hP hgl s S S' Q h _; simp [evR] at h
 | succ n ih =>
  -- a call by its text
  have call : ∀ (f : Nat) (fn : Func) (c : Code) (avs : List V) (hp hp1 : Heap) (nx nx1 : Nat) (e1 : Env) (ds : List V), P.funcs[f]? = some fn → fn.body = some c → Nat.ble avs.length fn.ntmps = true →
    evR ft xt t mt n fn.ntmps [.c c] ⟨argEnv 0 avs, hp, nx⟩ = some ⟨e1, hp1, nx1⟩ → rsL t e1 hp1 fn.results.toList = some ds → MutG gl P f avs nx hp (resV ds) nx1 hp1 := by
   intro f fn c avs hp hp1 nx nx1 e1 ds q1 hb hle hrun hds
   refine mut_enter (l := fn.results.toList) q1 hb rfl (by simp) hle _ rfl (fun w0 m0 β0 hg => ?_)
   refine ih (mctx gl P fn.ntmps nx hp w0 m0 β0 hg) rfl rfl [.c c] _ _ _ hrun ?_ _ ghost_refl
   exact fun S0 hg e he => ⟨he, e1, hg, rsL_ok (S := ⟨e1, hp1, nx1⟩) ht hds⟩
  intro K hP hgl s S S' Q h hQ S0 hg0
  cases s with
  | nil => simp only [evR, Option.some.injEq] at h; subst h; exact hQ _ hg0 _ (.inr rfl)
  | cons x s =>
   obtain ⟨e, hp, nx⟩ := S
   have ha : Ag e ⟨e, hp, nx⟩ := agE (S := ⟨e, hp, nx⟩)
   have htK : TTok K.P t := by rw [hP]; exact ht
   have hmK : MTok K.P mt := by rw [hP]; exact hmt
   simp only [evR] at h
   split at h
   ·simp only [Option.some.injEq] at h; subst h; exact awp_ret (post_ret (hQ _ hg0 _ (.inl rfl)))
   ·exact q7c hg0 (awp_loop (ih K hP hgl _ _ _ _ h hQ _ ghost_refl))
   ·split at h
    ·rename_i ds e' hp' hdr
     split at h
     ·rename_i hok
      refine q7c hg0 (awp_dr ?_ ?_ htK hmK (by rw [hP]; exact hm) hdr hok (fun S1 hg1 => ih K hP hgl _ _ _ _ h hQ _ (ghost_trans hg1 (ghost_less (dropR_at _ _ _)))))
      ·intro f avs hp k v hp' k' hv
       split at hv
       ·rename_i fn hfn
        obtain ⟨q1, q2⟩ := hft _ (lk_mem hfn)
        split at hv
        ·rename_i c hb
         split at hv
         ·rename_i e1 hp1 nx1 hle hrun
          split at hv
          ·rename_i ds hds
           simp only [Option.some.injEq, Prod.mk.injEq] at hv; obtain ⟨rfl, rfl, rfl⟩ := hv
           exact ⟨by rw [hP]; exact q2, by rw [hP, hgl]; exact call f fn c avs hp hp1 k nx1 e1 ds q1 hb hle hrun hds⟩
          ·simp at hv
         ·simp at hv
        ·simp at hv
       ·simp at hv
      intro f avs v hv
      split at hv
      ·rename_i g hg
       obtain ⟨q1, q2⟩ := hxt _ (lk_mem hg)
       exact ⟨by rw [hP]; exact q1, by rw [hP, hgl]; exact q2 _ _ hv⟩
      ·split at hv
       ·rename_i fn hfn
        obtain ⟨q1, q2⟩ := hft _ (lk_mem hfn)
        split at hv
        ·rename_i c hb
         split at hv
         ·rename_i e1 hp1 nx1 hle hrun
          split at hv
          ·rename_i ds hds
           split at hv
           ·rename_i him
            simp only [Option.some.injEq] at hv; subst hv
            exact ⟨by rw [hP]; exact q2, by rw [hP, hgl]; exact mut_pure (call f fn c avs [] hp1 0 _ e1 ds q1 hb hle hrun hds) him⟩
           ·simp at hv
          ·simp at hv
         ·simp at hv
        ·simp at hv
       ·simp at hv
     ·simp at h
    ·simp at h
   ·rename_i ops o l
    refine q3f hg0 ?_
    split at h
    ·rename_i e' hp' nx' h1
     exact one_ok htK h1 (ih K hP hgl _ _ _ _ h hQ _ ghost_tidy)
    ·split at h
     ·rename_i d f avs hop
      unfold opOf at hop
      split at hop
      ·rename_i d' hd
       split at hop
       ·rename_i hc
        simp only [Option.some.injEq, Prod.mk.injEq] at hop
        obtain ⟨rfl, rfl, rfl⟩ := hop
        obtain ⟨w1, w2, w3⟩ := dsC_ok ha hd
        split at h
        ·rename_i g hg
         split at h
         ·rename_i v hv
          obtain ⟨q1, q2⟩ := hxt _ (lk_mem hg)
          split at h
          ·rename_i him
           exact aops_calls w1 w2 w3 (fun m β w a r => by
            obtain ⟨vs, e1, e2⟩ := clD_run0 ha hc (by rw [hP]; exact q1) m β w a r
            exact ⟨vs, e1, ⟨e2.len, fun i c v a b => immN_ok (allN_ok him c (List.mem_of_getElem? a)) (e2.at' i c v a b)⟩⟩) (by rw [hP, hgl]; exact q2 _ _ hv) (ih K hP hgl _ _ _ _ h hQ _ ghost_putE)
          ·simp at h
         ·simp at h
        ·split at h
         ·rename_i fn hfn
          obtain ⟨q1, q2⟩ := hft _ (lk_mem hfn)
          split at h
          ·rename_i c hb
           split at h
           ·rename_i e1 hp1 nx1 hle hrun
            split at h
            ·rename_i ds hds
             exact aops_idcall w1 w2 w3 (clD_run0 ha hc (by rw [hP]; exact q2)) (by rw [hP, hgl]; exact call _ _ _ _ _ _ _ _ _ _ q1 hb hle hrun hds) (ih K hP hgl _ _ _ _ h hQ _ ghost_putE)
            ·simp at h
           ·simp at h
          ·simp at h
         ·simp at h
       ·simp at hop
      ·simp at hop
     ·split at h
      ·rename_i d hd
       obtain ⟨w1, w2, w3⟩ := dsC_ok ha hd
       split at h
       ·rename_i v u q h1
        obtain ⟨dst, op, ty, pos, after, g⟩ := o
        simp only at w2
        subst w2
        exact oneY_ok htK hmK ha (agH (S := ⟨e, hp, nx⟩)) rfl h1 w1 w3 (ih K hP hgl _ _ _ _ h hQ _ ghost_puts)
       ·split at h
        ·rename_i hgd h1
         obtain ⟨dst, op, ty, pos, after, g⟩ := o
         simp only at w2
         subst w2
         exact apN_ok htK h1 hgd w3 (ih K hP hgl _ _ _ _ h hQ _ ghost_puts2)
        ·simp at h
      ·split at h
       ·rename_i hdst hwt
        have hw := wt_ok ha hwt
        split at h
        ·rename_i id ob h1
         obtain ⟨dst, op, ty, pos, after, g⟩ := o
         simp only at hdst
         subst hdst
         exact wrY_ok htK hmK ha (agH (S := ⟨e, hp, nx⟩)) h1 hw (ih K hP hgl _ _ _ _ h hQ _ ghost_putH)
        ·simp at h
       ·simp at h
   ·rename_i x4 n1 n2 n3 n4
    split at h
    ·rename_i s' S2 h1
     have k := stp_ok (Q := Q) htK h1 (ih K hP hgl _ _ _ _ h hQ _ ghost_refl)
     cases x with
     | c x => exact q7c hg0 k
     | o ops l => exact q3f hg0 k
     | b i => simp only [stp, Option.some.injEq, Prod.mk.injEq] at h1; obtain ⟨rfl, rfl⟩ := h1; exact wg_b (ih K hP hgl _ _ _ _ h hQ _ hg0)
     | j J => simp [stp] at h1
    ·simp at h
def evF (ft : FT) (xt : XT) (t : TT) (mt : List MT) (n f : Nat) (avs : List V) : Option V :=
 match lk ft f with
 | some fn => (match fn.body with
  | some c => (match Nat.ble avs.length fn.ntmps, evR ft xt t mt n fn.ntmps [.c c] ⟨argEnv 0 avs, [], 0⟩ with
   | true, some ⟨e1, hp1, _⟩ => (match rsL t e1 hp1 fn.results.toList with
    | some ds => (match immB (resV ds) with | true => some (resV ds) | false => none)
    | none => none)
   | _, _ => none)
  | none => none)
 | none => none
theorem evF_ok {gl : Gl} {P : Program} {ft : FT} {xt : XT} {mt : List MT} (hft : FTok P ft) (hxt : XTok gl P xt) (ht : TTok P t) (hmt : MTok P mt) (hm : P.follows .mixedOrders = true) {n f : Nat} {avs : List V} {v : V}
  (h : evF ft xt t mt n f avs = some v) : PureG gl P f avs v := by
 unfold evF at h
 split at h
 ·rename_i fn hfn
  obtain ⟨q1, q2⟩ := hft _ (lk_mem hfn)
  split at h
  ·rename_i c hb
   split at h
   ·rename_i e1 hp1 nx1 hle hrun
    split at h
    ·rename_i ds hds
     split at h
     ·rename_i him
      simp only [Option.some.injEq] at h; subst h
      refine mut_pure (k' := nx1) (hp' := hp1) ?_ him
      refine mut_enter (l := fn.results.toList) q1 hb rfl (by simp) hle _ rfl (fun w0 m0 β0 hg => ?_)
      refine evR_ok hft hxt ht hmt hm n (mctx gl P fn.ntmps 0 [] w0 m0 β0 hg) rfl rfl [.c c] _ _ _ hrun ?_ _ ghost_refl
      exact fun S0 hg e he => ⟨he, e1, hg, rsL_ok (S := ⟨e1, hp1, nx1⟩) ht hds⟩
     ·simp at h
    ·simp at h
   ·simp at h
  ·simp at h
 ·simp at h
end
end Go.Pv
