/- Part of the proof: W. -/
import Derived.Test.YtcoppoeibjkinaaDoorMPvT
namespace Go.Pv
open Go
set_option linter.unusedVariables false
section
variable {K : Ctx} {Q : Post} {S S' : St} {s s' : List It} {ops : Array Oper} {rest : List Oper} {op : Op} {ty : TypeId} {pos : String} {after : Array Edge} {g : Option (Nat × Bool)} {t : TT}
theorem bin_ok (ht : TTok K.P t) {bop : BinOp} {T T' : TypeId} {x y : Operand} {a b v : V} {d : Nat} (h : bin t bop T a b = some v) (hx : evl K S x = a) (hy : evl K S y = b)
  (hw : Wants ops S ⟨some d, .binOp bop T x y T', ty, pos, after, g⟩ true) (hN : Nat.blt d K.N = true) (k : AOps K ops rest Q (S.put d v)) : AOps K ops (⟨some d, .binOp bop T x y T', ty, pos, after, g⟩ :: rest) Q S := by
 unfold bin at h
 split at h
 ·split at h
  ·split at h
   ·rename_i hv; simp at h; subst h; exact aops_bin _ hw hx hy hv hN k
   ·simp at h
  ·rename_i p q
   split at h
   ·simp at h
   ·split at h
    ·rename_i v' hv
     simp at h; subst h
     exact aops_binT v' hw (by rw [hx, str_strL]) (by rw [hy, str_strL]) hv hN k
    ·simp at h
  ·split at h
   ·rename_i hB
    split at h
    ·simp at h; subst h; exact aops_beq false hw (askB ht hB) hx hy hN k
    ·simp at h; subst h; exact aops_beq true hw (askB ht hB) hx hy hN k
    ·simp at h
   ·simp at h
  ·split at h
   ·rename_i hB
    split at h
    ·simp at h; subst h; exact aops_nilNil false (askSn ht hB) hw hx hy hN k
    ·simp at h; subst h; exact aops_nilNil true (askSn ht hB) hw hx hy hN k
    ·simp at h
   ·simp at h
  ·simp at h
 ·simp at h
theorem ldV_agg {t : TT} {T o : Nat} {row : List V} {v : V} {n : Nat} (hn : ask t T TF.qA = some n) (h : ldV t T row o = some v) : ∃ cs, v = .agg cs ∧ cut row o n = some cs ∧ ndB cs = true := by
 unfold ldV at h
 rw [hn] at h
 simp only at h
 split at h
 ·rename_i cs hc
  split at h
  ·rename_i hb; simp at h; exact ⟨cs, h.symm, hc, hb⟩
  ·simp at h
 ·simp at h
theorem ldV_cell {t : TT} {T o : Nat} {row : List V} {v : V} (hn : ask t T TF.qA = none) (h : ldV t T row o = some v) : ask t T TF.qC = some () ∧ lgt row o = some v ∧ v.deep = false := by
 unfold ldV at h
 rw [hn] at h
 simp only at h
 split at h
 ·rename_i hq
  split at h
  ·rename_i c hc
   split at h
   ·rename_i hb; simp at h; subst h; exact ⟨hq, hc, hb⟩
   ·simp at h
  ·simp at h
 ·simp at h
theorem ldV_i (ht : TTok K.P t) {T : TypeId} {x : Operand} {row : List V} {o : Nat} {v : V} {d : Nat} (h : ldV t T row o = some v) (hx : evl K S x = .iptr row o)
  (hw : Wants ops S ⟨some d, .load T x, ty, pos, after, g⟩ true) (hN : Nat.blt d K.N = true) (k : AOps K ops rest Q (S.put d v)) : AOps K ops (⟨some d, .load T x, ty, pos, after, g⟩ :: rest) Q S := by
 cases hn : ask t T TF.qA with
 | some n =>
  obtain ⟨cs, rfl, hc, _⟩ := ldV_agg hn h
  exact aops_iload_agg (askA ht hn) hw hx (cut_ok hc).1 (cut_ok hc).2 hN k
 | none =>
  obtain ⟨hq, hc, _⟩ := ldV_cell hn h
  exact aops_iload_cell v (askC ht hq) hw hx (lgt_ok hc) hN k
theorem ldV_p (ht : TTok K.P t) {T e : TypeId} {x : Operand} {id k i : Nat} {rows : List (List V)} {row : List V} {o : Nat} {v : V} {d : Nat} (h : ldV t T row o = some v) (hx : evl K S x = .ptr id k i o)
  (ho : hget S.hp id = .arr e k rows) (hr : rows[i]? = some row)
  (hw : Wants ops S ⟨some d, .load T x, ty, pos, after, g⟩ true) (hN : Nat.blt d K.N = true) (kk : AOps K ops rest Q (S.put d v)) : AOps K ops (⟨some d, .load T x, ty, pos, after, g⟩ :: rest) Q S := by
 cases hn : ask t T TF.qA with
 | some n =>
  obtain ⟨cs, rfl, hc, hd⟩ := ldV_agg hn h
  exact aops_load_agg (askA ht hn) hw hx ho hr (cut_ok hc).1 (cut_ok hc).2 hd hN kk
 | none =>
  obtain ⟨hq, hc, hd⟩ := ldV_cell hn h
  exact aops_load_cell v (askC ht hq) hw hx ho hr (lgt_ok hc) hd hN kk
theorem tyFC_ok {P : Program} {T f : Nat} (h : tyFC P T f = true) : ∃ fs fl, P.underlying T = some (.struct fs) ∧ fs[f]? = some fl ∧ tyC P fl.type = true := by
 unfold tyFC at h
 split at h
 ·rename_i fs hu
  split at h
  ·rename_i fl hf; exact ⟨fs, fl, hu, hf, h⟩
  ·simp at h
 ·simp at h
theorem toList_one {α : Type} {a : Array α} {x : α} (h : a.toList = [x]) : a = #[x] := by cases a; simp at h; subst h; rfl
theorem toList_two {α : Type} {a : Array α} {x y : α} (h : a.toList = [x, y]) : a = #[x, y] := by cases a; simp at h; subst h; rfl
theorem toList_nil {α : Type} {a : Array α} (h : a.toList = []) : a = #[] := by cases a; simp at h; subst h; rfl
theorem val_ok (ht : TTok K.P t) {e : Env} {hp : Heap} (ha : Ag e S) (hh : AgH hp S) {v : V} {d : Nat} (h : val t e hp op = some v) (hw : Wants ops S ⟨some d, op, ty, pos, after, g⟩ true) (hN : Nat.blt d K.N = true)
  (k : AOps K ops rest Q (S.put d v)) : AOps K ops (⟨some d, op, ty, pos, after, g⟩ :: rest) Q S := by
 cases op with
 | move x => exact aops_move v hw (evC_ok ha h) hN k
 | assign x => exact aops_assign v hw (evC_ok ha h) hN k
 | pick c x y =>
  simp only [val] at h
  split at h
  ·rename_i b hc
   cases b with
   | true => exact aops_pick true v hw (evC_ok ha hc) rfl (evC_ok ha h) hN k
   | false => exact aops_pick false v hw (evC_ok ha hc) rfl (evC_ok ha h) hN k
  ·simp at h
 | binOp bop T x y T' =>
  simp only [val] at h
  split at h
  ·rename_i a ha'
   split at h
   ·rename_i b hb
    exact bin_ok ht h (evC_ok ha ha') (evC_ok ha hb) hw hN k
   ·simp at h
  ·simp at h
 | unOp uop T x =>
  simp only [val] at h
  split at h
  ·rename_i hx
   split at h
   ·simp at h; subst h; exact aops_not hw (evC_ok ha hx) hN k
   ·simp at h
  ·rename_i hx
   split at h
   ·simp only [Option.some.injEq] at h; subst h; exact aops_neg hw (evC_ok ha hx) hN k
   ·simp at h
  ·simp at h
 | extract x i =>
  simp only [val] at h
  split at h
  ·rename_i vs hx; exact aops_extract v hw (evC_ok ha hx) (lgt_ok h) hN k
  ·simp at h
 | load T x =>
  simp only [val] at h
  split at h
  ·rename_i hx; exact ldV_i ht h (evC_ok ha hx) hw hN k
  ·rename_i id kk i o hx
   split at h
   ·rename_i e k2 rows ho
    split at h
    ·rename_i hk
     have hk := Nat.eq_of_beq_eq_true hk
     subst hk
     split at h
     ·rename_i row hr
      exact ldV_p ht h (evC_ok ha hx) (hh _ _ ho) (lgt_ok hr) hw hN k
     ·simp at h
    ·simp at h
   ·simp at h
  ·simp at h
 | fieldAddr T x f =>
  simp only [val] at h
  split at h
  ·rename_i off hF
   split at h
   ·rename_i hx; simp at h; subst h; exact aops_fieldAddr (askF ht hF) hw (evC_ok ha hx) hN k
   ·rename_i hx; simp at h; subst h; exact aops_ifieldAddr (askF ht hF) hw (evC_ok ha hx) hN k
   ·simp at h
  ·simp at h
 | field T x f =>
  simp only [val] at h
  split at h
  ·rename_i off hF
   split at h
   ·rename_i hFC
    split at h
    ·rename_i cs hx; exact aops_fieldC v (askF ht hF) (tyFC_ok (askFC ht hFC)) hw (evC_ok ha hx) (lgt_ok h) hN k
    ·simp at h
   ·simp at h
  ·simp at h
 | build T parts =>
  simp only [val] at h
  split at h
  ·rename_i n zs hz
   split at h
   ·rename_i pls hp
    split at h
    ·rename_i ps hps
     split at h
     ·rename_i cs hf
      split at h
      ·rename_i cs' hc
       simp at h; subst h
       have hc := frc_ok hc
       subst hc
       exact aops_build ps cs (askZ ht hz).1 (askPl ht hp) (askZ ht hz).2.2 hw (evP_ok ha hps) hf hN k
      ·simp at h
     ·simp at h
    ·simp at h
   ·simp at h
  ·simp at h
 | makeFunc fn first caps =>
  simp only [val] at h
  split at h
  ·split at h
   ·rename_i hf
    have hf := toList_nil hf
    subst hf
    split at h
    ·rename_i cs hc; simp at h; subst h; exact aops_makeFunc cs hw (evL_ok ha hc) hN k
    ·simp at h
   ·simp at h
  ·simp at h
 | convert src dst x =>
  simp only [val] at h
  split at h
  ·rename_i kk hI
   split at h
   ·rename_i hU
    split at h
    ·rename_i hx; simp at h; subst h; exact aops_convInt (askI ht hI) (askU ht hU) hw (evC_ok ha hx) hN k
    ·simp at h
   ·simp at h
  ·simp at h
 | nilCheck x =>
  simp only [val] at h
  split at h
  ·rename_i hx; simp at h; subst h; exact aops_nilCheck_ptr hw (evC_ok ha hx) hN k
  ·rename_i hx; simp at h; subst h; exact aops_nilCheck_iptr hw (evC_ok ha hx) hN k
  ·simp at h
 | indexAddr T x y =>
  simp only [val] at h
  split at h
  ·rename_i len kk hA
   split at h
   ·rename_i hx
    split at h
    ·rename_i hy
     split at h
     ·split at h
      ·rename_i j hb
       simp at h; subst h
       have := Nat.le_of_ble_eq_true hb
       exact aops_index_arr (askArr ht hA) hw (evC_ok ha hx) (evC_ok ha hy) (by simp) (Nat.lt_of_succ_le this) hN k
      ·simp at h
     ·simp at h
    ·simp at h
   ·simp at h
  ·simp at h
 | call c =>
  obtain ⟨callee, args, at'⟩ := c
  simp only [val] at h
  split at h
  ·rename_i b
   split at h
   ·rename_i x T h1 h2
    have h1 := toList_one h1
    have h2 := toList_one h2
    subst h1; subst h2
    split at h
    ·rename_i a ha'
     have ha' := evC_ok (K := K) ha ha'
     unfold ap1 at h
     split at h
     ·split at h
      ·split at h
       ·split at h
        ·rename_i hS; simp at h; subst h
         exact aops_lenT (askStr ht hS) hw (by rw [ha', str_strL]) hN k
        ·simp at h
       ·simp at h
      ·split at h
       ·split at h
        ·rename_i hS; simp at h; subst h
         exact aops_len (askSn ht hS) hw ha' rfl hN k
        ·simp at h
       ·simp at h
      ·simp at h
     ·split at h
      ·split at h
       ·rename_i hS; simp at h; subst h
        exact aops_len (askSn ht hS) hw ha' rfl hN k
       ·simp at h
      ·simp at h
     ·simp at h
    ·simp at h
   ·rename_i x y T T' h1 h2
    have h1 := toList_two h1
    have h2 := toList_two h2
    subst h1; subst h2
    split at h
    ·rename_i a ha'
     split at h
     ·rename_i b' hb
      have ha' := evC_ok (K := K) ha ha'
      have hb := evC_ok (K := K) ha hb
      unfold ap2 at h
      split at h
      ·split at h
       ·split at h
        ·rename_i hk
         have hk := of_decide_eq_true hk
         subst hk
         split at h
         ·simp at h; subst h; exact aops_min hw ha' hb hN k
         ·simp at h; subst h; exact aops_max hw ha' hb hN k
         ·simp at h
        ·simp at h
       ·simp at h
      ·simp at h
     ·simp at h
    ·simp at h
   ·simp at h
  ·simp at h
 | _ => simp [val] at h
def wt (ops : Array Oper) (e : Env) : Option (Nat × Bool) → Option Bool
 | none => some true
 | some (j, want) =>
  match ops[j]? with
  | some o => (match o.dst with
   | some t => (match gtC e t with
    | some (.con v) => (match v with
     | .bool c => (match c with | true => some want | false => (match want with | true => some false | false => some true))
     | .tuple a => (match a.toList with | [] => some false | _ => none)
     | _ => none)
    | _ => none)
   | none => none)
  | none => none
theorem wt_ok {e : Env} (ha : Ag e S) {o : Oper} {b : Bool} (h : wt ops e o.guard = some b) : Wants ops S o b := by
 unfold Wants
 generalize o.guard = gd at h
 cases gd with
 | none => simp [wt] at h; simp [← h]
 | some p =>
  obtain ⟨j, want⟩ := p
  simp only [wt] at h
  split at h
  ·rename_i o' ho
   split at h
   ·rename_i t htt
    refine ⟨t, by rw [ho]; exact htt, ?_⟩
    split at h
    ·rename_i v hv
     have hv := ha _ _ hv
     cases v with
     | bool c =>
      left
      cases c <;> cases want <;> simp at h <;> subst h <;> exact ⟨_, hv, rfl⟩
     | tuple a =>
      simp only at h
      split at h
      ·rename_i hl
       have hl := toList_nil hl
       subst hl
       simp at h
       right; exact ⟨hv, h⟩
      ·simp at h
     | _ => simp at h
    ·simp at h
   ·simp at h
  ·simp at h
def sto (t : TT) (e : Env) (hp : Heap) : Op → Option (Nat × Ob)
 | .store T x y => (match ask t T TF.qS with
  | some n => (match evC e x with
   | some (.ptr id k i off) => (match hgC hp id with
    | some (.arr ty k2 rows) => (match Nat.beq k k2, i, rows with
     | true, 0, [row] => (match evC e y with
      | some v => (match vcC v with
       | some cs => (match lenIs n cs && allB cs && Nat.ble (off + n) row.length with
        | true => (match frc (row.take off ++ cs ++ row.drop (off + n)) with | some row' => some (id, .arr ty k [row']) | none => none)
        | false => none)
       | none => none)
      | none => none)
     | _, _, _ => none)
    | _ => none)
   | _ => none)
  | none => none)
 | _ => none
theorem sto_ok (ht : TTok K.P t) {e : Env} {hp : Heap} (ha : Ag e S) (hh : AgH hp S) {id : Nat} {ob : Ob} (h : sto t e hp op = some (id, ob)) (hw : Wants ops S ⟨none, op, ty, pos, after, g⟩ true)
  (k : AOps K ops rest Q ⟨S.env, (id, ob) :: S.hp, S.nx⟩) : AOps K ops (⟨none, op, ty, pos, after, g⟩ :: rest) Q S := by
 unfold sto at h
 split at h
 ·split at h
  ·rename_i n hn
   split at h
   ·rename_i hx
    split at h
    ·rename_i ho
     split at h
     ·rename_i hk
      have hk := Nat.eq_of_beq_eq_true hk
      subst hk
      split at h
      ·rename_i v hy
       split at h
       ·rename_i cs hc
        split at h
        ·rename_i hb
         simp only [Bool.and_eq_true] at hb
         have hl := lenIs_ok hb.1.1
         subst hl
         split at h
         ·rename_i row' hr
          have hr := frc_ok hr
          simp at h; obtain ⟨rfl, rfl⟩ := h
          exact aops_store cs _ (askS ht hn) hw (evC_ok ha hx) (evC_ok ha hy) (vcC_ok hc) (allB_ok hb.1.2) (hh _ _ ho) rfl hb.2 (by rw [← hr]; rfl) k
         ·simp at h
        ·simp at h
       ·simp at h
      ·simp at h
     ·simp at h
    ·simp at h
   ·simp at h
  ·simp at h
 ·simp at h
def one (t : TT) (N : Nat) (ops : Array Oper) (o : Oper) : St → Option St
 | ⟨e, hp, nx⟩ =>
  match wt ops e o.guard with
  | none => none
  | some b => (match b with
   | false => (match o.dst with | some d => (match Nat.blt d N with | true => some ⟨(d, .con undef) :: e, hp, nx⟩ | false => none) | none => none)
   | true => (match o.dst with
    | some d => (match Nat.blt d N with
     | false => none
     | true => (match o.op with
      | .alloc T => (match ask t T TF.qZ with
       | some (n, zs) => (match frc (zs.map V.con) with | some cs => some ⟨(d, .ptr nx n 0 0) :: e, (nx, .arr T n [cs]) :: hp, nx + 1⟩ | none => none)
       | none => none)
      | .box T x => (match ask t T TF.qS with
       | some n => (match evC e x with
        | some v => (match vcC v with
         | some cs => (match lenIs n cs && allB cs with | true => some ⟨(d, .ptr nx n 0 0) :: e, (nx, .arr T n [cs]) :: hp, nx + 1⟩ | false => none)
         | none => none)
        | none => none)
       | none => none)
      | .makeMap _ r => (match r with | none => some ⟨(d, .map nx) :: e, (nx, .map []) :: hp, nx + 1⟩ | some _ => none)
      | op => (match val t e hp op with | some v => some ⟨(d, v) :: e, hp, nx⟩ | none => none)))
    | none => (match sto t e hp o.op with | some (id, ob) => some ⟨e, (id, ob) :: hp, nx⟩ | none => none)))
theorem one_ok (ht : TTok K.P t) {o : Oper} (h : one t K.N ops o S = some S') (k : AOps K ops rest Q S') : AOps K ops (o :: rest) Q S := by
 have ha : Ag S.env S := agE
 have hh : AgH S.hp S := agH
 obtain ⟨e, hp, nx⟩ := S
 simp only at ha hh
 simp only [one] at h
 split at h
 ·simp at h
 ·rename_i hw
  have hw := wt_ok ha hw
  split at h
  ·split at h
   ·rename_i d hd
    split at h
    ·rename_i hN; simp at h; subst h; exact aops_skip hw hd hN k
    ·simp at h
   ·simp at h
  ·obtain ⟨dst, op, ty, pos, after, g⟩ := o
   cases dst with
   | some d =>
    simp only at h
    split at h
    ·simp at h
    ·rename_i hN
     split at h
     ·split at h
      ·rename_i n zs hz
       obtain ⟨z1, z2, z3⟩ := askZ ht hz
       split at h
       ·rename_i cs hc
        have hc := frc_ok hc
        subst hc
        simp at h; subst h
        exact aops_alloc z1 z2 z3 hw hN k
       ·simp at h
      ·simp at h
     ·split at h
      ·split at h
       ·rename_i hv
        split at h
        ·rename_i cs hc
         split at h
         ·rename_i hb
          simp only [Bool.and_eq_true] at hb
          simp at h; subst h
          have hl := lenIs_ok hb.1
          subst hl
          exact aops_box cs hw (evC_ok ha hv) (vcC_ok hc) (allB_ok hb.2) hN k
         ·simp at h
        ·simp at h
       ·simp at h
      ·simp at h
     ·split at h
      ·simp at h; subst h; exact aops_makeMap hw hN k
      ·simp at h
     ·split at h
      ·rename_i v hv; simp at h; subst h
       exact val_ok ht ha hh hv hw hN k
      ·simp at h
   | none =>
    simp only at h
    split at h
    ·rename_i hv; simp at h; subst h
     exact sto_ok ht ha hh hv hw k
    ·simp at h
def stp (t : TT) (N : Nat) : List It → St → Option (List It × St)
 | .c x :: s, S =>
  (match x with
  | .seq x y => some (.c x :: .c y :: s, S)
  | .skip => some (s, S)
  | .scope x => some (.c x :: s, S)
  | .label _ => some (s, S)
  | .block id x => some (.c x :: .b id :: s, S)
  | .region _ ops draw => (match draw with | false => some (.o ops ops.toList :: s, S) | true => none)
  | .exit i => (match unw i s with | some s' => some (s', S) | none => none)
  | .cond c x y => (match S with
   | ⟨e, hp, nx⟩ => (match evC e c with
    | some (.con v) => (match v with | .bool b => (match b with | true => some (.c x :: s, ⟨e, hp, nx⟩) | false => some (.c y :: s, ⟨e, hp, nx⟩)) | _ => none)
    | _ => none))
  | _ => none)
 | .b _ :: s, S => some (s, S)
 | .o ops l :: s, S => (match l with | [] => some (s, S) | o :: l => (match one t N ops o S with | some S' => some (.o ops l :: s, S') | none => none))
 | _, _ => none
theorem stp_ok (ht : TTok K.P t) (h : stp t K.N s S = some (s', S')) (k : WG K Q s' S') : WG K Q s S := by
 match s, h with
 | [], h => simp [stp] at h
 | .j _ :: s, h => simp [stp] at h
 | .b id :: s, h => simp [stp] at h; obtain ⟨rfl, rfl⟩ := h; exact k
 | .o ops [] :: s, h => simp [stp] at h; obtain ⟨rfl, rfl⟩ := h; exact aops_nil k
 | .o ops (o :: l) :: s, h =>
  simp only [stp] at h
  split at h
  ·rename_i S2 h2; simp at h; obtain ⟨rfl, rfl⟩ := h
   exact one_ok ht h2 k
  ·simp at h
 | .c x :: s, h =>
  simp only [stp] at h
  split at h
  ·simp at h; obtain ⟨rfl, rfl⟩ := h; exact awp_seq k
  ·simp at h; obtain ⟨rfl, rfl⟩ := h; exact awp_skip k
  ·simp at h; obtain ⟨rfl, rfl⟩ := h; exact awp_scope k
  ·simp at h; obtain ⟨rfl, rfl⟩ := h; exact awp_label k
  ·simp at h; obtain ⟨rfl, rfl⟩ := h; exact awp_block k
  ·split at h
   ·rename_i ops _
    simp at h; obtain ⟨rfl, rfl⟩ := h
    exact awp_region (l := ops.toList) k
   ·simp at h
  ·split at h
   ·rename_i s2 h2; simp at h; obtain ⟨rfl, rfl⟩ := h; exact awp_exit (unw_ok h2 k)
   ·simp at h
  ·obtain ⟨e, hp, nx⟩ := S
   simp only at h
   split at h
   ·rename_i hv
    split at h
    ·split at h
     ·simp at h; obtain ⟨rfl, rfl⟩ := h; exact awp_cond_t (evC_ok (agE (S := ⟨e, hp, nx⟩)) hv) rfl k
     ·simp at h; obtain ⟨rfl, rfl⟩ := h; exact awp_cond_f (evC_ok (agE (S := ⟨e, hp, nx⟩)) hv) rfl k
    ·simp at h
   ·simp at h
  ·simp at h
def run (t : TT) (N : Nat) : Nat → List It → St → Option (List It × St)
 | 0, s, S => some (s, S)
 | n + 1, s, S => match stp t N s S with | some (s', S') => run t N n s' S' | none => none
theorem rn [ht : TC K t] : ∀ (n : Nat) {s : List It} {S : St}, run t K.N n s S = some (s', S') → WG K Q s' S' → WG K Q s S
 | 0, s, S, h, k => by simp [run] at h; obtain ⟨rfl, rfl⟩ := h; exact k
 | n + 1, s, S, h, k => by
  simp only [run] at h
  split at h
  ·rename_i s2 S2 h2; exact stp_ok ht.h h2 (rn n h k)
  ·simp at h
theorem en {c : Code} (h : WG K Q [.c c] S) : AWP K c Q S := h
theorem fo {l : List Oper} (h : WG K Q (.o ops l :: s) S) : AOps K ops l (post K Q s) S := h
theorem fa {c : Code} (h : WG K Q (.c c :: s) S) : AWP K c (post K Q s) S := h
theorem Ghost.env {e : Env} (h : ∀ t, get e t = get S.env t) : Ghost K S ⟨e, S.hp, S.nx⟩ := fun m β _ _ r => ⟨m, β, r.congr h (fun _ => rfl) rfl⟩
theorem wg_cl {x : It} (hx : (∃ c, x = .c c) ∨ ∃ ops l, x = .o ops l) (hg : Ghost K S S') (k : WG K Q (x :: s) S') : WG K Q (x :: s) S := by
 rcases hx with ⟨c, rfl⟩ | ⟨ops, l, rfl⟩
 ·exact awp_ghost hg k
 ·exact aops_ghost hg k
theorem fix_env {e : Env} {hp : Heap} {nx n : Nat} {c b : Bool} (hc : gtC e n = some (.con (.bool c))) (hb : c = b) : Ghost K ⟨e, hp, nx⟩ ⟨(n, .con (.bool b)) :: e, hp, nx⟩ := by
 refine Ghost.env (S := ⟨e, hp, nx⟩) (fun t => ?_)
 rw [get_put]
 split
 ·rename_i h; subst h; rw [gtC_ok hc, hb]
 ·rfl
variable {R : Type} {r : R}
theorem spO {A B : Option R} {c : Bool} {e : Env} {hp : Heap} {nx : Nat} {l : List Oper} (n : Nat) (h : (if c = true then A else B) = some r) (hc : gtC e n = some (.con (.bool c)))
  (kt : c = true → A = some r → WG K Q (.o ops l :: s) ⟨(n, .con (.bool true)) :: e, hp, nx⟩) (kf : c = false → B = some r → WG K Q (.o ops l :: s) ⟨(n, .con (.bool false)) :: e, hp, nx⟩) :
  WG K Q (.o ops l :: s) ⟨e, hp, nx⟩ := by
 cases c with
 | true => exact wg_cl (.inr ⟨_, _, rfl⟩) (fix_env hc rfl) (kt rfl (by simpa using h))
 | false => exact wg_cl (.inr ⟨_, _, rfl⟩) (fix_env hc rfl) (kf rfl (by simpa using h))
theorem spC {A B : Option R} {c : Bool} {e : Env} {hp : Heap} {nx : Nat} {x y : Code} {n : Nat} (h : (if c = true then A else B) = some r) (hc : gtC e n = some (.con (.bool c)))
  (kt : c = true → A = some r → WG K Q (.c x :: s) ⟨e, hp, nx⟩) (kf : c = false → B = some r → WG K Q (.c y :: s) ⟨e, hp, nx⟩) :
  WG K Q (.c (.cond (.tmp n) x y) :: s) ⟨e, hp, nx⟩ :=
 awp_cond c (gtC_ok hc) (fun hb => kt hb (by subst hb; simpa using h)) (fun hb => kf hb (by subst hb; simpa using h))
theorem spL {c : Bool} {e : Env} {hp : Heap} {nx : Nat} {x y : Code} {n : Nat} (hc : gtC e n = some (.con (.bool c)))
  (kt : c = true → WG K Q (.c x :: s) ⟨e, hp, nx⟩) (kf : c = false → WG K Q (.c y :: s) ⟨e, hp, nx⟩) : WG K Q (.c (.cond (.tmp n) x y) :: s) ⟨e, hp, nx⟩ :=
 awp_cond c (gtC_ok hc) kt kf
theorem fxO {c b : Bool} {e : Env} {hp : Heap} {nx : Nat} {l : List Oper} (n : Nat) (hb : c = b) (hc : gtC e n = some (.con (.bool c))) (k : WG K Q (.o ops l :: s) ⟨(n, .con (.bool b)) :: e, hp, nx⟩) :
  WG K Q (.o ops l :: s) ⟨e, hp, nx⟩ := wg_cl (.inr ⟨_, _, rfl⟩) (fix_env hc hb) k
def Jn {α : Type} (K : Ctx) (T : α → St) (G : α → Prop) (S : St) : Prop := ∃ p, G p ∧ Ghost K S (T p)
theorem jC {α : Type} {x : Code} (T : α → St) (G : α → Prop) (h : WG K Q (.c x :: .j (Jn K T G) :: s) S) (k : ∀ p, G p → WG K Q s (T p)) : WG K Q (.c x :: s) S := by
 intro m β w a r
 refine wp_mono (h m β w a r) ?_
 rintro e _ _ ⟨hp, S', m', β', q, r'⟩
 cases e with
 | normal =>
  obtain ⟨p, hg, hgh⟩ := q
  obtain ⟨m2, β2, r2⟩ := hgh _ _ _ _ r'
  exact ⟨rfl, T p, m2, β2, k p hg, r2⟩
 | _ => exact ⟨hp, S', m', β', q, r'⟩
theorem lC {α : Type} {x : Code} (T : α → St) (G : Nat → α → Prop) (h0 : ∀ p, ¬ G 0 p) (n : Nat) (p : α) (h : G n p) (hg : Ghost K S (T p))
  (round : ∀ n p, G (n + 1) p → WG K Q (.c x :: .j (Jn K T (G n)) :: s) (T p)) : WG K Q (.c (.loop x) :: s) S := by
 refine awp_ghost hg ?_
 clear hg
 induction n generalizing p with
 | zero => exact absurd h (h0 p)
 | succ n ih =>
  refine awp_loop ?_
  intro m β w a r
  refine wp_mono (round n p h m β w a r) ?_
  rintro e a' w' ⟨hp, S', m', β', q, r'⟩
  cases e with
  | normal =>
   obtain ⟨p', hg, hgh⟩ := q
   obtain ⟨m2, β2, r2⟩ := hgh _ _ _ _ r'
   exact ⟨rfl, T p', m2, β2, ih p' hg, r2⟩
  | _ => exact ⟨hp, S', m', β', q, r'⟩
end
end Go.Pv
