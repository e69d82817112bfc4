/- Part of the proof: EX. -/
import Derived.Test.YtpbkggamiipdmaaGreatR3EV
namespace Go.Pv
open Go
section
variable {K : Ctx} {Q : Post} {S S' : St} {ops : Array Oper} {rest : List Oper} {t : TT}
def putsE : Env → Env → Env
  | [], e => e
  | (i, o) :: u, e => putE i o (putsE u e)
theorem get_putsE : ∀ (u e : Env) (t : Nat), get (putsE u e) t = get (u ++ e) t
  | [], e, t => rfl
  | (i, o) :: u, e, t => by
    show get (putE i o (putsE u e)) t = get ((i, o) :: (u ++ e)) t
    rw [get_putE, get_put, get_put, get_putsE u e]
def putsH : Heap → Heap → Heap
  | [], hp => hp
  | (i, o) :: u, hp => putH i o (putsH u hp)
theorem hget_putsH : ∀ (u hp : Heap) (t : Nat), hget (putsH u hp) t = hget (u ++ hp) t
  | [], hp, t => rfl
  | (i, o) :: u, hp, t => by
    show hget (putH i o (putsH u hp)) t = hget ((i, o) :: (u ++ hp)) t
    rw [hget_putH, hget_put, hget_put, hget_putsH u hp]
def allNB (f : V → Bool) : List V → Bool
  | [] => true
  | x :: l => bif f x then allNB f l else false
def immN : Nat → V → Bool
  | 0, _ => false
  | n + 1, v => (match v with
    | .con _ => true
    | .agg cs => allNB (immN n) cs
    | .tup cs => allNB (immN n) cs
    | .fn _ a b => allNB (immN n) a && allNB (immN n) b
    | _ => false)
theorem allN_ok {f : V → Bool} : ∀ {l : List V}, allNB f l = true → ∀ x, x ∈ l → f x = true
  | [], _, x, hx => by simp at hx
  | y :: l, h, x, hx => by
    simp only [allNB] at h
    cases hb : f y with
    | true =>
      rw [hb] at h; simp at h
      rcases List.mem_cons.1 hx with rfl | hx
      · exact hb
      · exact allN_ok h x hx
    | false => rw [hb] at h; simp at h
theorem immN_ok : ∀ {n : Nat} {v : V}, immN n v = true → ∀ {m : Mem} {β : Locs} {x : Value}, VRel m β v x → IRel m v x
  | 0, v, h => by simp [immN] at h
  | n + 1, v, h => by
    intro hv
    cases hv with
    | imm h => exact h
    | agg hl hh =>
      simp only [immN] at h
      exact .agg hl fun i c v a b => immN_ok (allN_ok h c (List.mem_of_getElem? a)) (hh i c v a b)
    | tup hl hh =>
      simp only [immN] at h
      exact .tup hl fun i c v a b => immN_ok (allN_ok h c (List.mem_of_getElem? a)) (hh i c v a b)
    | fn hl hl' h1 h2 =>
      simp only [immN, Bool.and_eq_true] at h
      exact .fn hl hl' (fun i c v a b => immN_ok (allN_ok h.1 c (List.mem_of_getElem? a)) (h1 i c v a b)) (fun i c v a b => immN_ok (allN_ok h.2 c (List.mem_of_getElem? a)) (h2 i c v a b))
    | _ => simp [immN] at h
def immB (v : V) : Bool := immN 12 v
theorem mut_pure {gl : Gl} {P : Program} {f : FuncId} {avs : List V} {v : V} {k' : Nat} {hp' : Heap} (h : MutG gl P f avs 0 [] v k' hp') (hv : immB v = true) : PureG gl P f avs v := by
  intro m w vs himm hgl hargs
  let β : Locs := ⟨fun _ => none, fun _ _ => False⟩
  refine (h m β w vs himm hgl ⟨hargs.len, fun i c v a b => .imm (hargs.at' i c v a b)⟩ (fun id => trivial) (fun id b cap hl => absurd rfl hl) (fun id id' b cap cap' hl => absurd rfl hl) (fun id x hl => absurd rfl hl) (fun _ _ => rfl)).mono ?_
  rintro e w' ⟨x, m', β', rfl, hx, g⟩
  have hF : ∀ b, Foreign [] β b := fun b id hl => absurd rfl hl
  exact ⟨x, m', rfl, immN_ok hv hx, g.le, g.imm, fun b hb => (g.old b hb (hF b)).1, fun b hb => (g.old b hb (hF b)).2, g.size, g.same⟩
def opX2 : Op → List Operand
  | .slice _ x lo hi _ => x :: (lo.toList ++ hi.toList)
  | .lookup _ x y _ => [x, y]
  | .mapUpdate _ x y z => [x, y, z]
  | .insert _ x y z => [x, y, z]
  | .buildSlice _ _ ps => ps.toList.map (·.2)
  | .makeSlice _ x _ => [x]
  | .box _ x => [x]
  | op => opX op
def rdO2 (ops : Array Oper) (o : Oper) (e : Env) : Option Env := match grd ops o (tps (opX2 o.op)) with | some l => rdC e l | none => none
theorem rdO2_ok {o : Oper} {e re : Env} (h : rdO2 ops o e = some re) : RdE e re := by
  unfold rdO2 at h
  split at h
  · exact rdC_ok h
  · simp at h
def hrY (e : Env) (hp : Heap) (x : Operand) (l : Heap) : Option Heap :=
  match evC e x with
  | some (.ptr id _ _ _) => (match hgC hp id with | some ob => some ((id, ob) :: l) | none => none)
  | some (.own id _) => (match hgC hp id with | some ob => some ((id, ob) :: l) | none => none)
  | some (.map id) => (match hgC hp id with | some ob => some ((id, ob) :: l) | none => none)
  | some _ => some l
  | none => none
theorem hrY_ok {e : Env} {hp l rh : Heap} {x : Operand} (hl : RdH hp l) (h : hrY e hp x l = some rh) : RdH hp rh := by
  unfold hrY at h
  split at h
  · split at h
    · rename_i ho; simp at h; subst h; exact ⟨hgC_ok ho, hl⟩
    · simp at h
  · split at h
    · rename_i ho; simp at h; subst h; exact ⟨hgC_ok ho, hl⟩
    · simp at h
  · split at h
    · rename_i ho; simp at h; subst h; exact ⟨hgC_ok ho, hl⟩
    · simp at h
  · simp at h; subst h; exact hl
  · simp at h
def hrL (e : Env) (hp : Heap) : List Operand → Heap → Option Heap
  | [], l => some l
  | x :: xs, l => match hrY e hp x l with | some l => hrL e hp xs l | none => none
theorem hrL_ok {e : Env} {hp rh : Heap} : ∀ {xs : List Operand} {l : Heap}, RdH hp l → hrL e hp xs l = some rh → RdH hp rh
  | [], l, hl, h => by simp [hrL] at h; subst h; exact hl
  | x :: xs, l, hl, h => by
    simp only [hrL] at h
    split at h
    · rename_i q hq; exact hrL_ok (hrY_ok hl hq) h
    · simp at h
def hrO : Op → List Operand
  | .load _ x => [x]
  | .store _ x _ => [x]
  | .lookup _ x _ _ => [x]
  | .slice _ x _ _ _ => [x]
  | .mapUpdate _ x _ _ => [x]
  | .insert _ x _ _ => [x]
  | _ => []
/-- Objects that an operation of a region that draws makes, at a number that is kept free. -/
def alY (t : TT) (e : Env) (id : Nat) : Op → Option (V × Ob)
  | .alloc T => (match ask t T TF.qZ with
    | some (n, zs) => some (.ptr id n 0 0, .arr T n [zs.map .con])
    | none => none)
  | .box T x => (match ask t T TF.qS with
    | some n => (match evC e x with
      | some v => (match vcC v with
        | some cs => (match lenIs n cs && allB cs with | true => some (.ptr id n 0 0, .arr T n [cs]) | false => none)
        | none => none)
      | none => none)
    | none => none)
  | .makeMap _ r => (match r with | none => some (.map id, .map []) | some _ => none)
  | .buildSlice T n parts => (match ask t T TF.qEl with
    | some (ety, k, _) => (match n with
      | 0 => (match parts.toList with | [] => some (.own id 0, .arr ety k []) | _ => none)
      | n' + 1 => (match ask t ety TF.qZ with
        | some (_, zs) => (match evP e parts.toList with
          | some ps => (match fillV (fun i => some (i * k, k)) (((List.range ((n' + 1) * k)).map fun i => zs.getD (i % k) undef).map .con) ps with
            | some cs => (match Nat.beq cs.length ((n' + 1) * k) && rowsK k (chop k (n' + 1) cs) && Nat.blt 0 k && Nat.ble ((n' + 1) * k) 16777216 with
              | true => some (.own id (n' + 1), .arr ety k (chop k (n' + 1) cs))
              | false => none)
            | none => none)
          | none => none)
        | none => none))
    | none => none)
  | .makeSlice T x y => (match ask t T TF.qEl with
    | some (ety, k, bytes) => (match ask t ety TF.qZ with
      | some (_, zs) => (match x, y with
        | .tmp a, .tmp b => (match Nat.beq a b, evC e x with
          | true, some (.con (.int .i64 n)) => (match n with
            | .ofNat j => (match Nat.ble (bytes * j) 140737488355328 && Nat.ble j 140737488355328 && Nat.blt 0 k with
              | true => some (.own id j, .arr ety k (List.replicate j (zs.map .con)))
              | false => none)
            | _ => none)
          | _, _ => none)
        | _, _ => none)
      | none => none)
    | none => none)
  | _ => none
theorem alY_ok {op : Op} {ty : TypeId} {pos : String} {after : Array Edge} {g : Option (Nat × Bool)} (ht : TTok K.P t) {d id nx : Nat} {e : Env} {v : V} {ob : Ob} (ha : Ag e S) (h : alY t e id op = some (v, ob)) (hid : (Nat.blt id nx && Nat.ble K.pins id) = true) (hnx : S.nx = nx) (hres : hget S.hp id = .res)
    (hw : Wants ops S ⟨some d, op, ty, pos, after, g⟩ true) (hN : Nat.blt d K.N = true) (k : AOps K ops rest Q ⟨(d, v) :: S.env, (id, ob) :: S.hp, S.nx⟩) : AOps K ops (⟨some d, op, ty, pos, after, g⟩ :: rest) Q S := by
  cases op with
  | alloc T =>
    simp only [alY] at h
    split at h
    · rename_i n zs hz
      obtain ⟨z1, z2, z3⟩ := askZ ht hz
      simp only [Option.some.injEq, Prod.mk.injEq] at h; obtain ⟨rfl, rfl⟩ := h
      exact aops_alloc_at id hid hnx hres z1 z2 z3 hw hN k
    · simp at h
  | box T x =>
    simp only [alY] at h
    split at h
    · split at h
      · rename_i hv
        split at h
        · rename_i cs hc
          split at h
          · rename_i hb
            simp only [Bool.and_eq_true] at hb
            have hl := lenIs_ok hb.1
            subst hl
            simp only [Option.some.injEq, Prod.mk.injEq] at h; obtain ⟨rfl, rfl⟩ := h
            exact aops_box_at id hid hnx hres cs hw (evC_ok ha hv) (vcC_ok hc) (allB_ok hb.2) hN k
          · simp at h
        · simp at h
      · simp at h
    · simp at h
  | makeMap T r =>
    simp only [alY] at h
    split at h
    · simp only [Option.some.injEq, Prod.mk.injEq] at h; obtain ⟨rfl, rfl⟩ := h
      exact aops_makeMap_at id hid hnx hres hw hN k
    · simp at h
  | buildSlice T n parts =>
    simp only [alY] at h
    split at h
    · rename_i ety kk bytes hT
      split at h
      · split at h
        · rename_i hp0
          have := toArray_eq hp0
          subst this
          simp only [Option.some.injEq, Prod.mk.injEq] at h; obtain ⟨rfl, rfl⟩ := h
          exact aops_emptySlice_at id hid hnx hres (askEl ht hT) hw hN k
        · simp at h
      · rename_i n'
        split at h
        · rename_i zs hz
          split at h
          · rename_i ps hps
            split at h
            · rename_i cs hcs
              split at h
              · rename_i hb
                simp only [Bool.and_eq_true] at hb
                have e1 := Nat.eq_of_beq_eq_true hb.1.1.1
                obtain ⟨z1, z2, z3⟩ := askZ ht hz
                simp only [Option.some.injEq, Prod.mk.injEq] at h; obtain ⟨rfl, rfl⟩ := h
                exact aops_buildSlice_at id hid hnx hres ps _ (askEl ht hT) z1 hw z3 hb.1.2 rfl hb.2 (evP_ok ha hps) (by rw [flat_chop _ _ e1]; exact hcs) (chop_len _ _) (rowsK_ok hb.1.1.2) hN k
              · simp at h
            · simp at h
          · simp at h
        · simp at h
    · simp at h
  | makeSlice T x y =>
    simp only [alY] at h
    split at h
    · rename_i ety kk bytes hT
      split at h
      · rename_i zs hz
        split at h
        · rename_i a b
          split at h
          · rename_i n hab hx
            have hab := Nat.eq_of_beq_eq_true hab
            subst hab
            split at h
            · rename_i j
              split at h
              · rename_i hb
                simp only [Bool.and_eq_true] at hb
                obtain ⟨z1, z2, z3⟩ := askZ ht hz
                simp only [Option.some.injEq, Prod.mk.injEq] at h; obtain ⟨rfl, rfl⟩ := h
                have b1 := Nat.le_of_ble_eq_true hb.1.1
                have b2 := Nat.le_of_ble_eq_true hb.1.2
                have c1 : ((bytes * j : Nat) : Int) ≤ ((140737488355328 : Nat) : Int) := Int.ofNat_le.2 b1
                have c2 : ((j : Nat) : Int) ≤ ((140737488355328 : Nat) : Int) := Int.ofNat_le.2 b2
                rw [Int.natCast_mul] at c1
                exact aops_makeSlice_at id hid hnx hres _ (askEl ht hT) z1 z3 hb.2 ⟨Int.natCast_nonneg j, c1, c2⟩ rfl rfl hw (evC_ok ha hx) hN k
              · simp at h
            · simp at h
          · simp at h
        · simp at h
      · simp at h
    · simp at h
  | _ => simp [alY] at h
def wrM (mt : List MT) (e : Env) (hp : Heap) (T : TypeId) (x y z : Operand) : Option (Nat × Ob) :=
  match mtf mt T with
  | some p => (match evC e x with
    | some (.map id) => (match hgC hp id with
      | some (.map es) => (match evC e y with
        | some (.con kv) => (match isKey p.txt p.ik kv && allK p.txt p.ik es with
          | true => (match evC e z with
            | some v => (match putsC kv v es with | some es' => some (id, .map es') | none => none)
            | none => none)
          | false => none)
        | _ => none)
      | _ => none)
    | _ => none)
  | none => none
theorem wrM_ok {op : Op} {T : TypeId} {x y z : Operand} (hop : op = .mapUpdate T x y z ∨ op = .insert T x y z) {ty : TypeId} {pos : String} {after : Array Edge} {g : Option (Nat × Bool)} {mt : List MT} (hmt : MTok K.P mt) {e : Env} {hp : Heap} {id : Nat} {ob : Ob} (ha : Ag e S) (hh : AgH hp S) (h : wrM mt e hp T x y z = some (id, ob)) (hw : Wants ops S ⟨none, op, ty, pos, after, g⟩ true)
    (k : AOps K ops rest Q ⟨S.env, (id, ob) :: S.hp, S.nx⟩) : AOps K ops (⟨none, op, ty, pos, after, g⟩ :: rest) Q S := by
  unfold wrM at h
  split at h
  · rename_i p hp0
    obtain ⟨hm, hTe⟩ := mtf_ok hmt hp0
    subst hTe
    split at h
    · rename_i id hx
      split at h
      · rename_i es ho
        split at h
        · rename_i kv hy
          split at h
          · rename_i hb
            simp only [Bool.and_eq_true] at hb
            split at h
            · rename_i v hz
              split at h
              · rename_i es' hp'
                simp only [Option.some.injEq, Prod.mk.injEq] at h; obtain ⟨rfl, rfl⟩ := h
                exact aops_mapPut hop es' hm.h1 hm.h2 hw (evC_ok ha hx) (hh _ _ ho) (.con (evC_ok ha hy)) (isKey_ok hb.1) (allK_ok hb.2) (evC_ok ha hz) (putsC_ok hp') k
              · simp at h
            · simp at h
          · simp at h
        · simp at h
      · simp at h
    · simp at h
  · simp at h
/-- The writes of an operation without a destination. -/
def wrY (t : TT) (mt : List MT) (e : Env) (hp : Heap) (op : Op) : Option (Nat × Ob) :=
  match op with
  | .mapUpdate T x y z => wrM mt e hp T x y z
  | .insert T x y z => wrM mt e hp T x y z
  | op => stoR t e hp op
theorem wrY_ok {op : Op} {ty : TypeId} {pos : String} {after : Array Edge} {g : Option (Nat × Bool)} (ht : TTok K.P t) {mt : List MT} (hmt : MTok K.P mt) {e : Env} {hp : Heap} {id : Nat} {ob : Ob} (ha : Ag e S) (hh : AgH hp S) (h : wrY t mt e hp op = some (id, ob)) (hw : Wants ops S ⟨none, op, ty, pos, after, g⟩ true)
    (k : AOps K ops rest Q ⟨S.env, (id, ob) :: S.hp, S.nx⟩) : AOps K ops (⟨none, op, ty, pos, after, g⟩ :: rest) Q S := by
  unfold wrY at h
  split at h
  · exact wrM_ok (.inl rfl) hmt ha hh h hw k
  · exact wrM_ok (.inr rfl) hmt ha hh h hw k
  · exact stoR_ok ht ha hh h hw k
theorem clD_run0 {e : Env} (ha : Ag e S) {o : Oper} {f : Nat} {avs : List V} (h : clD e o.op = some (f, avs)) (hf : fnOk K.P f = true) :
    ∀ m β w a, Rel K m β w a S → ∃ vs : Array Value, (execOp a.eval o).run K.P w = .ok (.enter f vs) w ∧ VRels m β avs vs := by
  obtain ⟨dst, op, ty', pos, after, g⟩ := o
  cases op <;> simp only [clD, reduceCtorEq] at h
  rename_i c
  obtain ⟨callee, args, at'⟩ := c
  simp only at h
  split at h
  · rename_i x
    split at h
    · rename_i first caps hx
      split at h
      · split at h
        · rename_i vs hv
          split at h
          · rename_i q hq
            simp only [Option.some.injEq, Prod.mk.injEq] at h
            obtain ⟨rfl, rfl⟩ := h
            have hq := frc_ok hq
            have hv := evL_ok (K := K) ha hv
            exact mcallv_run hf (evC_ok ha hx) (by rw [hv]; exact hq)
          · simp at h
        · simp at h
      · simp at h
    · simp at h
  · simp at h
end
end Go.Pv
