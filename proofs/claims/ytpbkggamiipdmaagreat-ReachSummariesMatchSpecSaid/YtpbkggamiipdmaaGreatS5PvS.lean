/- Part of the proof: P, R, S. -/
import Derived.Test.YtpbkggamiipdmaaGreatS5PvO
import Derived.Laws.StructEq
import Derived.Laws.Strings
import Derived.Lib.Strings
namespace Go.Pv
open Go
section
variable {K : Ctx} {Q : Post} {S S' : St} {ops : Array Oper} {rest : List Oper} {op : Op} {ty : TypeId} {pos : String} {after : Array Edge} {g : Option (Nat × Bool)}
variable {m : Mem} {β : Locs} {w : World} {a : Act}
abbrev str (l : List UInt8) : Value := .string ⟨l.toArray⟩
def binT (op : BinOp) (a b : List UInt8) : Option Value :=
 match op with
 | .add => if a.length + b.length ≤ 9223372036854775807 then some (str (a ++ b)) else none
 | .eql => some (.bool (a == b))
 | .neq => some (.bool (!(a == b)))
 | .lss => some (.bool (Op.bytesLess a b))
 | .leq => some (.bool (Op.bytesLess a b || a == b))
 | .gtr => some (.bool (!(Op.bytesLess a b || a == b)))
 | .geq => some (.bool (!Op.bytesLess a b))
 | _ => none
theorem run_binT {P : Program} {w : World} {op : BinOp} {T : TypeId} {x y : Operand} {a b : List UInt8} {v : Value} (h : binT op a b = some v) :
  (do eqGuard op T x y (str a) (str b); binOp op T (str a) (str b) : Sem Value).run P w = .ok v w := by
 have hg : (eqGuard op T x y (str a) (str b)).run P w = .ok () w := by
  unfold eqGuard; cases op <;> simp [pure]
 rw [Sem.run_bind, hg, Result.andThen_ok]
 cases op <;> simp only [binT, reduceCtorEq, Option.some.injEq] at h
 all_goals simp only [binOp, Op.stringOp, ByteArray.toList_mk]
 case add =>
  split at h
  ·rename_i hl
   simp only [Option.some.injEq] at h
   subst h
   rw [if_neg]
   ·have : (⟨a.toArray⟩ : ByteArray) ++ ⟨b.toArray⟩ = ⟨(a ++ b).toArray⟩ := by
     apply ByteArray.ext; simp
    rw [this]; rfl
   ·have e1 : (⟨a.toArray⟩ : ByteArray).size = a.length := by simp [ByteArray.size]
    have e2 : (⟨b.toArray⟩ : ByteArray).size = b.length := by simp [ByteArray.size]
    rw [e1, e2]
    simp only [IntKind.max, IntKind.signed, IntKind.bits]
    simp; omega
  ·simp at h
 all_goals (subst h; rfl)
theorem aops_binT {d : Nat} {bop : BinOp} {x y : Operand} {T T' : TypeId} {la lb : List UInt8} (v : Value) (hw : Wants ops S ⟨some d, .binOp bop T x y T', ty, pos, after, g⟩ true)
  (hx : evl K S x = .con (str la)) (hy : evl K S y = .con (str lb)) (hv : binT bop la lb = some v) (hN : Nat.blt d K.N = true)
  (k : AOps K ops rest Q (S.put d (.con v))) : AOps K ops (⟨some d, .binOp bop T x y T', ty, pos, after, g⟩ :: rest) Q S :=
 aops_val (.con v) hw hN (fun m β w a r => ⟨v, by
  simp only [execOp, r.con hx, r.con hy]
  exact run_value (run_binT hv), .imm (.con v)⟩) k
theorem aops_lenT {d : Nat} {x : Operand} {T : TypeId} {l : List UInt8} (hT : tyStr K.P T = true)
    (hw : Wants ops S ⟨some d, .call ⟨.builtin .len, #[x], #[T]⟩, ty, pos, after, g⟩ true) (hx : evl K S x = .con (str l)) (hN : Nat.blt d K.N = true)
    (kk : AOps K ops rest Q (S.put d (.con (.int .i64 l.length)))) :
    AOps K ops (⟨some d, .call ⟨.builtin .len, #[x], #[T]⟩, ty, pos, after, g⟩ :: rest) Q S :=
  aops_len_str hT hw hx hN (by have : (⟨l.toArray⟩ : ByteArray).size = l.length := by simp [ByteArray.size]
                               rw [this]; exact kk)
theorem aops_indexT {d : Nat} {x y : Operand} {T : TypeId} {l : List UInt8} {ik : IntKind} {n : Int} (b : UInt8) (hT : tyStr K.P T = true)
  (hw : Wants ops S ⟨some d, .index T x y, ty, pos, after, g⟩ true) (hx : evl K S x = .con (str l)) (hy : evl K S y = .con (.int ik n)) (h0 : 0 ≤ n) (hb : l[n.toNat]? = some b)
  (hN : Nat.blt d K.N = true) (kk : AOps K ops rest Q (S.put d (.con (.int .u8 b.toNat)))) :
  AOps K ops (⟨some d, .index T x y, ty, pos, after, g⟩ :: rest) Q S :=
 aops_val _ hw hN (fun m β w a r => ⟨.int .u8 b.toNat, by
  simp only [execOp, r.con hx, r.con hy]
  refine run_value ?_
  simp only [Instr.index, asIntOf, Sem.run_bind, pure, Sem.run, Result.andThen_ok, run_underlying (tyStr_inv hT)]
  rw [if_pos h0]
  have : (⟨l.toArray⟩ : ByteArray)[n.toNat]? = some b := by
   have hl : n.toNat < (⟨l.toArray⟩ : ByteArray).size := by
    have := (List.getElem?_eq_some_iff.1 hb).1; simpa [ByteArray.size] using this
   rw [getElem?_pos (⟨l.toArray⟩ : ByteArray) n.toNat hl]
   obtain ⟨h1, h2⟩ := List.getElem?_eq_some_iff.1 hb
   rw [← h2]; rfl
  rw [this]
  rfl, .imm (.con _)⟩) kk
theorem aops_sliceT {d : Nat} {x : Operand} {lo hi : Option Operand} {T : TypeId} {l : List UInt8} (a0 b0 : Nat) (l' : List UInt8) (hT : tyStr K.P T = true)
  (hw : Wants ops S ⟨some d, .slice T x lo hi none, ty, pos, after, g⟩ true) (hx : evl K S x = .con (str l))
  (hlo : match lo with | none => a0 = 0 | some y => ∃ ik, evl K S y = .con (.int ik a0)) (hhi : match hi with | none => b0 = l.length | some y => ∃ ik, evl K S y = .con (.int ik b0))
  (h1 : a0 ≤ b0) (h2 : b0 ≤ l.length) (hl : (l.drop a0).take (b0 - a0) = l') (hN : Nat.blt d K.N = true) (kk : AOps K ops rest Q (S.put d (.con (str l')))) :
  AOps K ops (⟨some d, .slice T x lo hi none, ty, pos, after, g⟩ :: rest) Q S :=
 aops_val _ hw hN (fun m β w a r => ⟨str l', by
  have hsz : (⟨l.toArray⟩ : ByteArray).size = l.length := by simp [ByteArray.size]
  have hu := tyStr_inv hT
  have hext : (⟨l.toArray⟩ : ByteArray).extract a0 b0 = ⟨l'.toArray⟩ := by
   apply ByteArray.ext
   have := Lib.extract_toList (⟨l.toArray⟩ : ByteArray) a0 b0
   rw [ByteArray.toList_eq] at this
   apply Array.ext'
   rw [this, ← hl]
  have bnd : ∀ (n y : Nat) (c : BoundsCode) (ik : IntKind), n ≤ y → (Instr.sliceBound (.int ik n) y c).run K.P w = .ok n w := by
   intro n y c ik h
   simp only [Instr.sliceBound, asIntOf, Sem.run_bind, pure, Sem.run, Result.andThen_ok]
   rw [if_pos ⟨by omega, by omega⟩]
   simp
  simp only [execOp, r.con hx]
  refine run_value ?_
  have hs : (Instr.slice T (str l) (lo.map a.eval) (hi.map a.eval) none).run K.P w = .ok (str l') w := by
   simp only [Instr.slice, Sem.run_bind, run_underlying hu, Result.andThen_ok, Option.isSome_none, Bool.false_eq_true, if_false, hsz]
   have hb : (Instr.sliceBounds false l.length l.length (lo.map a.eval) (hi.map a.eval) none).run K.P w = .ok (a0, b0, l.length) w := by
    cases lo with
    | none =>
     simp only at hlo; subst hlo
     cases hi with
     | none => simp only at hhi; subst hhi; simp [Instr.sliceBounds, pure]
     | some y =>
      obtain ⟨ik, hy⟩ := hhi
      simp only [Instr.sliceBounds, Option.map_none, Option.map_some, r.con hy, Sem.run_bind, pure, Sem.run, Result.andThen_ok, bnd b0 _ _ ik h2, Bool.false_eq_true, if_false]
    | some z =>
     obtain ⟨ik, hz⟩ := hlo
     cases hi with
     | none => simp only at hhi; subst hhi; simp [Instr.sliceBounds, pure, r.con hz, bnd a0 _ _ ik h1]
     | some y =>
      obtain ⟨ik', hy⟩ := hhi
      simp [Instr.sliceBounds, pure, r.con hz, r.con hy, bnd a0 _ _ ik h1, bnd b0 _ _ ik' h2]
   rw [hb]
   simp only [Result.andThen_ok, hext]; rfl
  simp only [Instr.sliceAt, Sem.run_bind, run_underlying hu, Result.andThen_ok, Option.map_none]
  exact hs, .imm (.con _)⟩) kk
theorem aops_slice_lst {d k : Nat} {x : Operand} {lo hi : Option Operand} {T : TypeId} {rows : List (List V)} (a0 b0 : Nat) (rows' : List (List V)) (hT : tySl K.P T k = true)
  (hw : Wants ops S ⟨some d, .slice T x lo hi none, ty, pos, after, g⟩ true) (hx : evl K S x = .lst k rows)
  (hlo : match lo with | none => a0 = 0 | some y => ∃ ik, evl K S y = .con (.int ik a0)) (hhi : match hi with | none => b0 = rows.length | some y => ∃ ik, evl K S y = .con (.int ik b0))
  (h1 : a0 ≤ b0) (h2 : b0 ≤ rows.length) (hl : (rows.drop a0).take (b0 - a0) = rows') (hN : Nat.blt d K.N = true) (kk : AOps K ops rest Q (S.put d (.lst k rows'))) :
  AOps K ops (⟨some d, .slice T x lo hi none, ty, pos, after, g⟩ :: rest) Q S :=
 aops_val _ hw hN (fun m β w a r => by
  obtain ⟨e, i, hu, hi', hs⟩ := tySl_inv hT
  have hk : K.P.cellsOf e = k := by simp [Program.cellsOf, hi', hs]
  have h := r.reads x
  rw [hx] at h
  have bnd : ∀ (n y : Nat) (c : BoundsCode) (ik : IntKind), n ≤ y → (Instr.sliceBound (.int ik n) y c).run K.P w = .ok n w := by
   intro n y c ik h
   simp only [Instr.sliceBound, asIntOf, Sem.run_bind, pure, Sem.run, Result.andThen_ok]
   rw [if_pos ⟨by omega, by omega⟩]
   simp
  have hb : ∀ cap, rows.length ≤ cap → (Instr.sliceBounds true rows.length cap (lo.map a.eval) (hi.map a.eval) none).run K.P w = .ok (a0, b0, cap) w := by
   intro cap hcap
   cases lo with
   | none =>
    simp only at hlo; subst hlo
    cases hi with
    | none => simp only at hhi; subst hhi; simp [Instr.sliceBounds, pure]
    | some y =>
     obtain ⟨ik, hy⟩ := hhi
     simp [Instr.sliceBounds, pure, r.con hy, bnd b0 cap _ ik (by omega)]
   | some z =>
    obtain ⟨ik, hz⟩ := hlo
    cases hi with
    | none => simp only at hhi; subst hhi; simp [Instr.sliceBounds, pure, r.con hz, bnd a0 _ _ ik h1]
    | some y =>
     obtain ⟨ik', hy⟩ := hhi
     simp [Instr.sliceBounds, pure, r.con hz, r.con hy, bnd a0 _ _ ik h1, bnd b0 cap _ ik' (by omega)]
  have hrun : ∀ ad n cap, a.eval x = .slice ad n cap → n = rows.length → rows.length ≤ cap →
    (execOp a.eval ⟨some d, .slice T x lo hi none, ty, pos, after, g⟩).run K.P w = .ok (.value (.slice (if cap = a0 then ad else ad.map (·.add (a0 * k))) (b0 - a0) (cap - a0))) w := by
   intro ad n cap hv hn hcap
   subst hn
   simp only [execOp, hv]
   refine run_value ?_
   simp only [Instr.sliceAt, Sem.run_bind, run_underlying hu, Result.andThen_ok, Option.map_none, Instr.slice, hb cap hcap, run_sizeOf w hi', hk]
   rfl
  generalize hv : a.eval x = v at h
  cases h with
  | imm h =>
   cases h with
   | nil _ ad cap =>
    have : rows' = [] := by rw [← hl]; simp
    subst this
    simp only [List.length_nil] at h2
    have : b0 - a0 = 0 := by omega
    exact ⟨_, hrun ad 0 cap hv rfl (by simp), by rw [this]; exact .imm (.nil k _ _)⟩
   | @lst _ _ ad n cap arr T' fr f hm hsp hn hcap hbd hkk hf h =>
    subst hn
    refine ⟨_, hrun (some ad) _ cap hv rfl hcap, ?_⟩
    by_cases hc : cap = a0
    ·have h3 : b0 - a0 = 0 := by omega
     have : rows' = [] := by rw [← hl, h3]; simp
     subst this
     rw [h3]
     exact .imm (.nil k _ _)
    ·rw [if_neg hc]
     have had : (some ad).map (·.add (a0 * k)) = some ⟨ad.block, ad.off + a0 * k, none⟩ := by
      simp only [Option.map_some]; rw [addr_eta hsp, add_spot]
     rw [had]
     have hlen : rows'.length = b0 - a0 := by rw [← hl]; simp; omega
     refine .imm (.lst (fun p => f (a0 * k + p)) hm rfl hlen (by omega) (by omega) (fun row hr => hkk row (by rw [← hl] at hr; exact List.mem_of_mem_drop (List.mem_of_mem_take hr))) ?_ ?_)
     ·intro p hp
      simp only
      rw [Nat.add_assoc]
      refine hf _ ?_
      calc a0 * k + p < a0 * k + rows'.length * k := by omega
       _ = (a0 + rows'.length) * k := by rw [Nat.add_mul]
       _ ≤ rows.length * k := Nat.mul_le_mul_right _ (by omega)
     ·intro i' j row c hi2 hj
      rw [← hl, List.getElem?_take] at hi2
      split at hi2
      ·rw [List.getElem?_drop] at hi2
       have := h (a0 + i') j row c hi2 hj
       rw [Nat.add_mul, Nat.add_assoc] at this
       exact this
      ·simp at hi2) kk
theorem aops_convInt {d : Nat} {x : Operand} {src dst : TypeId} {k k' : IntKind} {n : Int} (hd : K.P.underlying dst = some (.int k)) (hs : ∃ t, K.P.underlying src = some t)
  (hw : Wants ops S ⟨some d, .convert src dst x, ty, pos, after, g⟩ true) (hx : evl K S x = .con (.int k' n)) (hN : Nat.blt d K.N = true)
  (kk : AOps K ops rest Q (S.put d (.con (.int k (k.wrap n))))) : AOps K ops (⟨some d, .convert src dst x, ty, pos, after, g⟩ :: rest) Q S :=
 aops_val _ hw hN (fun m β w a r => ⟨.int k (k.wrap n), by
  obtain ⟨t, ht⟩ := hs
  simp only [execOp, r.con hx]
  refine run_value ?_
  simp only [convert, Sem.run_bind, run_underlying ht, run_underlying hd, Result.andThen_ok, Conv.intToInt]; rfl, .imm (.con _)⟩) kk
theorem aops_min {d : Nat} {x y : Operand} {T T' : TypeId} {k : IntKind} {n n' : Int} (hw : Wants ops S ⟨some d, .call ⟨.builtin .min, #[x, y], #[T, T']⟩, ty, pos, after, g⟩ true)
  (hx : evl K S x = .con (.int k n)) (hy : evl K S y = .con (.int k n')) (hN : Nat.blt d K.N = true) (kk : AOps K ops rest Q (S.put d (.con (.int k (if n' < n then n' else n))))) :
  AOps K ops (⟨some d, .call ⟨.builtin .min, #[x, y], #[T, T']⟩, ty, pos, after, g⟩ :: rest) Q S :=
 aops_val _ hw hN (fun m β w a r => ⟨_, run_builtin rfl (by
  simp only [builtin, List.map_toArray, List.map_cons, List.map_nil, r.con hx, r.con hy]
  refine run_value (v := .int k (if n' < n then n' else n)) ?_
  simp [Builtin.min_, Builtin.min2, pure]), .imm (.con _)⟩) kk
theorem aops_max {d : Nat} {x y : Operand} {T T' : TypeId} {k : IntKind} {n n' : Int} (hw : Wants ops S ⟨some d, .call ⟨.builtin .max, #[x, y], #[T, T']⟩, ty, pos, after, g⟩ true)
  (hx : evl K S x = .con (.int k n)) (hy : evl K S y = .con (.int k n')) (hN : Nat.blt d K.N = true) (kk : AOps K ops rest Q (S.put d (.con (.int k (if n' > n then n' else n))))) :
  AOps K ops (⟨some d, .call ⟨.builtin .max, #[x, y], #[T, T']⟩, ty, pos, after, g⟩ :: rest) Q S :=
 aops_val _ hw hN (fun m β w a r => ⟨_, run_builtin rfl (by
  simp only [builtin, List.map_toArray, List.map_cons, List.map_nil, r.con hx, r.con hy]
  refine run_value (v := .int k (if n' > n then n' else n)) ?_
  simp [Builtin.max_, Builtin.max2, pure]), .imm (.con _)⟩) kk
theorem aops_eqA {d : Nat} {x y : Operand} {T T' : TypeId} {xs ys : List Value} {cx cy : List V} {b : Bool} (neg : Bool) (hm : K.P.eqGuardType K.P.depth T = false)
  (heq : ∀ w, (Op.equalIn 10000 T (.agg xs.toArray) (.agg ys.toArray)).run K.P w = .ok b w)
  (hw : Wants ops S ⟨some d, .binOp (if neg then .neq else .eql) T x y T', ty, pos, after, g⟩ true)
  (hx : evl K S x = .agg cx) (hy : evl K S y = .agg cy) (hcx : xs.map .con = cx) (hcy : ys.map .con = cy) (hN : Nat.blt d K.N = true)
  (k : AOps K ops rest Q (S.put d (.con (.bool (if neg then !b else b))))) : AOps K ops (⟨some d, .binOp (if neg then .neq else .eql) T x y T', ty, pos, after, g⟩ :: rest) Q S :=
 aops_val _ hw hN (fun m β w a' r => ⟨.bool (if neg then !b else b), by
  have h1 := r.reads x
  rw [hx, ← hcx] at h1
  have h2 := r.reads y
  rw [hy, ← hcy] at h2
  simp only [execOp, h1.conAgg, h2.conAgg]
  refine run_value ?_
  rw [Sem.run_bind, run_eqGuard_agg _ _ _ _ _ _ _ hm, Result.andThen_ok]
  cases neg
  ·simp only [Bool.false_eq_true, if_false, run_eql_struct, heq, Result.andThen_ok]
  ·simp only [if_true, run_neq_struct, heq, Result.andThen_ok], .imm (.con _)⟩) k
theorem aops_fieldC {d f off : Nat} {x : Operand} {T : TypeId} {cs : List V} (c : V) (hF : tyF K.P T f off = true) (hC : ∃ fs fl, K.P.underlying T = some (.struct fs) ∧ fs[f]? = some fl ∧ tyC K.P fl.type = true)
  (hw : Wants ops S ⟨some d, .field T x f, ty, pos, after, g⟩ true) (hx : evl K S x = .agg cs) (hc : cs[off]? = some c) (hN : Nat.blt d K.N = true)
  (kk : AOps K ops rest Q (S.put d c)) : AOps K ops (⟨some d, .field T x f, ty, pos, after, g⟩ :: rest) Q S :=
 aops_val _ hw hN (fun m β w a r => by
  have h := r.reads x
  rw [hx] at h
  obtain ⟨fs, fl, hu, hf, hcell⟩ := hC
  have hoff : fl.offset = off := by
   unfold tyF at hF
   rw [hu] at hF
   simp only [hf, Bool.and_eq_true, beq_iff_eq] at hF
   exact hF.1
  have key : ∃ vs : Array Value, a.eval x = .agg vs ∧ ∃ v, vs[off]? = some v ∧ VRel m β c v := by
   generalize a.eval x = u at h
   have get : ∀ vs : Array Value, cs.length = vs.size → ∃ v, vs[off]? = some v := by
    intro vs hl
    have : off < vs.size := by rw [← hl]; exact (List.getElem?_eq_some_iff.1 hc).1
    exact ⟨vs[off], by simp [this]⟩
   cases h with
   | imm h => cases h with
    | agg hl hh => obtain ⟨v, hv⟩ := get _ hl; exact ⟨_, rfl, v, hv, .imm (hh _ _ _ hc hv)⟩
   | agg hl hh => obtain ⟨v, hv⟩ := get _ hl; exact ⟨_, rfl, v, hv, hh _ _ _ hc hv⟩
  obtain ⟨vs, e1, v, e2, e3⟩ := key
  refine ⟨v, ?_, e3⟩
  simp only [execOp, e1]
  refine run_value ?_
  simp only [Instr.field, Sem.run_bind, run_underlying hu, Result.andThen_ok, hf, asAgg, pure, Sem.run, part, (tyC_run hcell w).1, Bool.false_eq_true, if_false, hoff, e2]) kk
end
section
variable {K : Ctx} {Q : Post} {S S' : St} {ops : Array Oper} {rest : List Oper} {op : Op} {ty : TypeId} {pos : String} {after : Array Edge} {g : Option (Nat × Bool)}
variable {m : Mem} {β : Locs} {w : World} {a : Act}
abbrev iV (n : Int) : V := .con (.int .i64 n)
abbrev bV (b : Bool) : V := .con (.bool b)
abbrev sV (l : List UInt8) : V := .con (str l)
abbrev nV : V := .con (.slice none 0 0)
abbrev w64 (n : Int) : Int := IntKind.wrap .i64 n
theorem awp_cond_t {c : Operand} {x y : Code} {b : Bool} (hc : evl K S c = .con (.bool b)) (hb : b = true) (h : AWP K x Q S) : AWP K (.cond c x y) Q S :=
 awp_cond b hc (fun _ => h) (fun hf => by rw [hb] at hf; simp at hf)
theorem awp_cond_f {c : Operand} {x y : Code} {b : Bool} (hc : evl K S c = .con (.bool b)) (hb : b = false) (h : AWP K y Q S) : AWP K (.cond c x y) Q S :=
 awp_cond b hc (fun hf => by rw [hb] at hf; simp at hf) (fun _ => h)
def jn {α β : Type} (k : α) (b : α → β) : β := b k
theorem chk_some {α : Type} {p : Prop} [Decidable p] {x : Option α} {r : α} (h : (if p then x else none) = some r) : p ∧ x = some r := by
 split at h
 ·exact ⟨‹_›, h⟩
 ·simp at h
theorem bind_some {α β : Type} {o : Option α} {f : α → Option β} {r : β} (h : o.bind f = some r) : ∃ x, o = some x ∧ f x = some r := Option.bind_eq_some_iff.1 h
def idx {α : Type} (xs : List α) (n : Int) : Option α := if 0 ≤ n then xs[n.toNat]? else none
theorem idx_some {α : Type} {xs : List α} {n : Int} {x : α} (h : idx xs n = some x) : 0 ≤ n ∧ xs[n.toNat]? = some x := by
 unfold idx at h
 split at h
 ·exact ⟨‹_›, h⟩
 ·simp at h
theorem idx_map {α β : Type} {xs : List α} {n : Int} {x : α} (f : α → β) (h : idx xs n = some x) : (xs.map f)[n.toNat]? = some (f x) := by
 rw [List.getElem?_map, (idx_some h).2]; rfl
theorem idx_lt {α : Type} {xs : List α} {n : Int} {x : α} (h : idx xs n = some x) : n.toNat < xs.length := (List.getElem?_eq_some_iff.1 (idx_some h).2).1
theorem rows_imm {α : Type} {enc : α → List V} (h : ∀ x, Imms (enc x)) {xs : List α} : ∀ row, row ∈ xs.map enc → Imms row := by
 intro row hr
 obtain ⟨x, _, rfl⟩ := List.mem_map.1 hr
 exact h x
theorem rows_one {α : Type} {enc : α → List V} (h : ∀ x, (enc x).all oneV = true) {xs : List α} : ∀ row, row ∈ xs.map enc → row.all oneV = true := by
 intro row hr
 obtain ⟨x, _, rfl⟩ := List.mem_map.1 hr
 exact h x
theorem map_snoc {α β : Type} (f : α → β) (xs ys : List α) : xs.map f ++ ys.map f = (xs ++ ys).map f := List.map_append.symm
theorem ObSub.boxC {Y : Hy} {e k : Nat} {r r' : List V} (hl : r.length = r'.length) (h : ∀ (j : Nat) c c', r[j]? = some c → r'[j]? = some c' → CSub Y c c') : ObSub Y (.arr e k [r]) (.arr e k [r']) := by
 refine ⟨rfl, rfl, rfl, fun i a b h1 h2 => ?_⟩
 cases i with
 | succ i => simp at h1
 | zero =>
  simp at h1 h2
  subst h1; subst h2
  exact ⟨hl, h⟩
theorem ObSub.box {Y : Hy} {e k : Nat} {r r' : List V} (h : Subs Y r r') (hd : ndB r' = true := by rfl) : ObSub Y (.arr e k [r]) (.arr e k [r']) :=
 .boxC h.len (fun j c c' h1 h2 => .sub (h.get j c c' h1 h2) (ndB_at hd h2))
theorem ObSub.rowsK {n : Nat} {σ : Nat → Nat} {e k : Nat} {rows : List (List V)} (h : ∀ row, row ∈ rows → Keeps row) : ObSub (Ren n σ) (.arr e k rows) (.arr e k rows) := by
 refine ⟨rfl, rfl, rfl, fun i a b h1 h2 => ?_⟩
 rw [h1] at h2
 simp only [Option.some.injEq] at h2; subst h2
 refine ⟨rfl, fun j c c' h3 h4 => ?_⟩
 rw [h3] at h4
 simp only [Option.some.injEq] at h4; subst h4
 exact .same HyMC.h (Sub.kp (h a (List.mem_of_getElem? h1) c (List.mem_of_getElem? h3)))
theorem ObSub.rows {n : Nat} {σ : Nat → Nat} {e k : Nat} {rows : List (List V)} (h : ∀ row, row ∈ rows → Imms row) : ObSub (Ren n σ) (.arr e k rows) (.arr e k rows) := .rowsK fun row hr => (h row hr).keep
theorem ObSub.mapsK {n : Nat} {σ : Nat → Nat} {es : List (Value × V)} (h : ∀ p, p ∈ es → Keep p.2) : ObSub (Ren n σ) (.map es) (.map es) := by
 refine ⟨rfl, fun i a b h1 h2 => ?_⟩
 rw [h1] at h2
 simp only [Option.some.injEq] at h2; subst h2
 exact ⟨rfl, .same HyMC.h (Sub.kp (h a (List.mem_of_getElem? h1)))⟩
theorem ObSub.maps {n : Nat} {σ : Nat → Nat} {es : List (Value × V)} (h : ∀ p, p ∈ es → Imm p.2) : ObSub (Ren n σ) (.map es) (.map es) := .mapsK fun p hp => (h p hp).2
theorem ObSub.keep {Y : Hy} [HyMC Y] (hk : ∀ v, Sub Y v v) (ob : Ob) : ObSub Y ob ob := .keep' HyMC.h (fun c => .same HyMC.h (hk c)) ob
inductive OSteps (K : Ctx) (nx : Nat) (ops : Array Oper) : List Oper → List OD → Prop
 | nil : OSteps K nx ops [] []
 | cons {o : Oper} {D : OD} {os : List Oper} {ds : List OD} (h : OStep K nx ops o D) (t : OSteps K nx ops os ds) : OSteps K nx ops (o :: os) (D :: ds)
theorem OSteps.get {nx : Nat} {ops : Array Oper} {os : List Oper} {ds : List OD} (h : OSteps K nx ops os ds) : ∀ (i : Nat) (o : Oper) (D : OD), os[i]? = some o → ds[i]? = some D → OStep K nx ops o D := by
 induction h with
 | nil => intro i o D h; simp at h
 | cons h _ ih =>
  intro i o D h1 h2
  cases i with
  | zero => simp at h1 h2; subst h1; subst h2; exact h
  | succ i => simp at h1 h2; exact ih i o D h1 h2
theorem awp_any {rid : Nat} {l : List Oper} (ds : List OD) (hm : K.P.follows .mixedOrders = true) (hlex : LexOk S ds) (hok : anyOk l ds = true)
  (hst : OSteps K S.nx l.toArray l ds) (hend : Q .normal (lexEnd S ds)) : AWP K (.region rid l.toArray true) Q S := awp_region_any ds hm hlex hok hst.get hend
theorem hpFrz {id k : Nat} {rows : List (List V)} {hp : Heap} (ob : Ob) (id2 : Nat) (ho : ObSub (Frz id k rows) ob (hget hp id2)) :
  ∀ i, ObSub (Frz id k rows) (hget ((id, .dead) :: (id2, ob) :: hp) i) (hget hp i) := by
 intro i
 rw [hget_put]
 split
 ·simp [ObSub]
 ·rw [hget_put]
  split
  ·rename_i h; subst h; exact ho
  ·exact ObSub.keep (fun _ => Sub.keep) _
theorem hpFrz0 {id k : Nat} {rows : List (List V)} {hp : Heap} : ∀ i, ObSub (Frz id k rows) (hget ((id, .dead) :: hp) i) (hget hp i) := by
 intro i
 rw [hget_put]
 split
 ·simp [ObSub]
 ·exact ObSub.keep (fun _ => Sub.keep) _
theorem Sub.frzAll {id k n : Nat} {rows : List (List V)} (hn : n = rows.length) : Sub (Frz id k rows) (.lst k rows) (.own id n) := Sub.frz (Nat.le_of_eq hn) (by rw [hn]; simp)
theorem ghost_frzC (id id2 : Nat) {e k : Nat} {rows : List (List V)} (ob : Ob) (ho : hget S.hp id = .arr e k rows) (hi : ∀ row, row ∈ rows → Imms row)
  (hob : ObSub (Frz id k rows) ob (hget S.hp id2)) : Ghost K S ⟨S.env, (id, .dead) :: (id2, ob) :: S.hp, S.nx⟩ :=
 ghost_freeze id _ _ ho hi (fun _ => Sub.keep) (hpFrz ob id2 hob) (by simp [hget_put])
theorem ghost_frzP (id t : Nat) {e k i o : Nat} {rows : List (List V)} {row : List V} (ho : hget S.hp id = .arr e k rows) (hi : ∀ row, row ∈ rows → Imms row)
  (ht : get S.env t = .ptr id k i o) (hr : rows[i]? = some row) : Ghost K S ⟨(t, .iptr row o) :: S.env, (id, .dead) :: S.hp, S.nx⟩ :=
 ghost_freeze id _ _ ho hi (envPut (fun _ => Sub.keep) (by rw [ht]; exact Sub.frzptr hr)) hpFrz0 (by simp [hget_put])
theorem ghost_nilE (t e k : Nat) (ht : get S.env t = nV) : Ghost K S ⟨(t, .own S.nx 0) :: S.env, (S.nx, .arr e k []) :: S.hp, S.nx + 1⟩ :=
 ghost_nil e k _ _ (envPut (fun _ => Sub.keepNil) (by rw [ht]; exact Sub.mkNil)) (fun _ => ObSub.keep (fun _ => Sub.keepNil) _)
theorem ghost_nilC (id2 e k : Nat) (ob : Ob) (hob : ObSub (Nil S.nx) ob (hget S.hp id2)) : Ghost K S ⟨S.env, (S.nx, .arr e k []) :: (id2, ob) :: S.hp, S.nx + 1⟩ :=
 ghost_nil e k _ _ (fun _ => Sub.keepNil) (fun i => by
  rw [hget_put]
  split
  ·rename_i h; subst h; exact hob
  ·exact ObSub.keep (fun _ => Sub.keepNil) _)
end
section
variable {K : Ctx} {Q : Post} {S S' : St} {ops : Array Oper} {rest : List Oper} {op : Op} {ty : TypeId} {pos : String} {after : Array Edge} {g : Option (Nat × Bool)}
variable {m : Mem} {β : Locs} {w : World} {a : Act}
theorem evm_nil : ([] : List Operand).map (evl K S) = [] := rfl
theorem evm_cons {x : Operand} {v : V} {xs : List Operand} {vs : List V} (h : evl K S x = v) (t : xs.map (evl K S) = vs) : (x :: xs).map (evl K S) = v :: vs := by rw [List.map_cons, h, t]
theorem evp_nil : ([] : List (Nat × Operand)).map (fun p => (p.1, evl K S p.2)) = [] := rfl
theorem evp_cons {i : Nat} {x : Operand} {v : V} {xs : List (Nat × Operand)} {vs : List (Nat × V)} (h : evl K S x = v) (t : xs.map (fun p => (p.1, evl K S p.2)) = vs) :
  ((i, x) :: xs).map (fun p => (p.1, evl K S p.2)) = (i, v) :: vs := by rw [List.map_cons, h, t]
inductive ImmRows : List (List V) → Prop
 | nil : ImmRows []
 | cons {r : List V} {rs : List (List V)} (h : Imms r) (t : ImmRows rs) : ImmRows (r :: rs)
theorem imms_rows {rows : List (List V)} (h : ImmRows rows) : ∀ row, row ∈ rows → Imms row := by
 induction h with
 | nil => intro row h; simp at h
 | cons h _ ih =>
  intro row hr
  rcases List.mem_cons.1 hr with rfl | hr
  ·exact h
  ·exact ih row hr
def mput {α β : Type} [DecidableEq α] : List (α × β) → α → β → List (α × β)
 | [], k, v => [(k, v)]
 | p :: r, k, v => if p.1 = k then (k, v) :: r else p :: mput r k v
def mget {α β : Type} [DecidableEq α] : List (α × β) → α → Option β
 | [], _ => none
 | p :: r, k => if p.1 = k then some p.2 else mget r k
theorem puts_map {α β : Type} [DecidableEq α] {kv : α → Value} {ev : β → V} (hinj : ∀ a b, kv a = kv b → a = b) (xs : List (α × β)) (k : α) (v : β) :
  Puts (kv k) (ev v) (xs.map fun p => (kv p.1, ev p.2)) ((mput xs k v).map fun p => (kv p.1, ev p.2)) := by
 induction xs with
 | nil => exact .nil
 | cons p r ih =>
  simp only [List.map_cons, mput]
  split
  ·rename_i h; subst h; exact .here
  ·rename_i h; exact .there (fun e => h (hinj _ _ e)) ih
theorem look_map {α β : Type} [DecidableEq α] {kv : α → Value} {ev : β → V} (hinj : ∀ a b, kv a = kv b → a = b) (xs : List (α × β)) (k : α) :
  Look (kv k) (xs.map fun p => (kv p.1, ev p.2)) ((mget xs k).map ev) := by
 induction xs with
 | nil => exact .nil
 | cons p r ih =>
  simp only [List.map_cons, mget]
  split
  ·rename_i h; subst h; exact .here
  ·rename_i h; exact .there (fun e => h (hinj _ _ e)) ih
theorem getD_map {β : Type} (ev : β → V) (o : Option β) (z : β) : (o.map ev).getD (ev z) = ev (o.getD z) := by cases o <;> rfl
theorem isSome_map {β : Type} (ev : β → V) (o : Option β) : (o.map ev).isSome = o.isSome := by cases o <;> rfl
theorem inj_int {k : IntKind} : ∀ a b : Int, (Value.int k a) = .int k b → a = b := by intro a b h; cases h; rfl
theorem inj_str : ∀ a b : List UInt8, str a = str b → a = b := by
 intro a b h
 simp only [str, Value.string.injEq, ByteArray.mk.injEq] at h
 simpa using congrArg Array.toList h
theorem rel_frzM (r : Rel K m β w a S) (id : Nat) {es : List (Value × V)} (ho : hget S.hp id = .map es) (hi : ∀ p, p ∈ es → Imm p.2) :
  ∃ m', (∀ (b : Nat) o, m' b = some o → w.heap[b]? = some o) ∧ m.le m' ∧ (∀ x, VRel m β (.map id) x → IRel m' (.imap es) x) ∧ (∀ b, b < K.w0.heap.size → K.old b → m' b = K.m0 b) ∧
   ∀ b, m' b = m b ∨ ∃ cap, β id = some (some (b, cap)) := by
 have hown := r.own id
 rw [ho] at hown
 cases hb : β id with
 | none => rw [hb] at hown; simp [ObOk] at hown
 | some l =>
 cases l with
 | none => rw [hb] at hown; simp [ObOk] at hown
 | some p =>
 obtain ⟨b, cap⟩ := p
 rw [hb] at hown
 obtain ⟨ents, clock, bl, h1, h2, hBl, h3⟩ := hown
 have hp' := r.priv id b cap (by rw [ho]; simp) hb
 obtain ⟨E, hE, hvE, hwf⟩ := h1
 let m' : Mem := fun b' => if b' = b then some (.map E clock) else m b'
 have hle : m.le m' := by
  intro b' o h
  have : b' ≠ b := by intro e'; subst e'; rw [hp'.1] at h; simp at h
  simp [m', this, h]
 refine ⟨m', ?_, hle, ?_, ?_, ?_⟩
 ·intro b' o h
  by_cases hbb : b' = b
  ·subst hbb; simp [m'] at h; rw [hE, h]
  ·simp [m', hbb] at h; exact r.imm _ _ h
 ·intro x hx
  cases hx with
  | imm h => cases h
  | @map _ b2 cap2 h =>
   rw [hb] at h
   simp only [Option.some.injEq, Prod.mk.injEq] at h
   obtain ⟨rfl, rfl⟩ := h
   refine .imap (ents := ents) (clock := clock) ⟨E, by simp [m'], hvE, hwf⟩ h2 (fun i p e a1 a2 => (h3 i p e a1 a2).1) fun i p e a1 a2 => ?_
   have hii := hi p (List.mem_of_getElem? a1)
   exact (hii.2 m β e.val ((h3 i p e a1 a2).2.v hii.1)).mono hle
 ·intro b' hb' hold
  by_cases hbb : b' = b
  ·subst hbb; exact absurd hold (hp'.2 hb')
  ·simp [m', hbb]; exact r.mold b' hb' hold
 ·intro b'
  by_cases hbb : b' = b
  ·exact .inr ⟨cap, by rw [hbb]⟩
  ·exact .inl (by simp [m', hbb])
def FrzM (id : Nat) (es : List (Value × V)) : Hy := fun m β m' β' => m.le m' ∧ β' = β ∧ ∀ x, VRel m β (.map id) x → IRel m' (.imap es) x
instance {id : Nat} {es : List (Value × V)} : HyMC (FrzM id es) := ⟨fun _ _ _ _ hy => hy.1⟩
theorem Sub.keepM {id : Nat} {es : List (Value × V)} {v : V} : Sub (FrzM id es) v v := fun _ _ _ _ _ hy hx => by
 obtain ⟨h1, rfl, _⟩ := hy
 exact hx.mono h1 (Locs.le_refl _)
theorem Sub.frzM {id : Nat} {es : List (Value × V)} : Sub (FrzM id es) (.imap es) (.map id) := fun _ _ _ _ _ hy hx => .imm (hy.2.2 _ hx)
theorem ghost_freezeM (id : Nat) {es : List (Value × V)} (env : Env) (hp : Heap) (ho : hget S.hp id = .map es) (hi : ∀ p, p ∈ es → Imm p.2)
  (henv : ∀ t, Sub (FrzM id es) (get env t) (get S.env t)) (hhp : ∀ i, ObSub (FrzM id es) (hget hp i) (hget S.hp i)) (hd : hget hp id = .dead) : Ghost K S ⟨env, hp, S.nx⟩ := by
 intro m β w a r
 obtain ⟨m', k1, hle, hfr, hmold, k2⟩ := rel_frzM r id ho hi
 have hy : FrzM id es m β m' β := ⟨hle, rfl, hfr⟩
 have hlive : ∀ i, hget hp i ≠ .dead → hget S.hp i ≠ .dead ∧ i ≠ id := by
  intro i h
  have h2 := hhp i
  refine ⟨fun hdd => ?_, fun he => h (by rw [he]; exact hd)⟩
  rw [hdd] at h2
  cases ho' : hget hp i with
  | dead => exact h ho'
  | arr => rw [ho'] at h2; simp [ObSub] at h2
  | res => rw [ho'] at h2; simp [ObSub] at h2
  | map => rw [ho'] at h2; simp [ObSub] at h2
  | iter => rw [ho'] at h2; simp [ObSub] at h2
 refine ⟨m', β, k1, Mem.le_trans r.ext hle, hmold, r.frame, r.size, r.same, r.tn, r.df, fun t => henv t _ _ _ _ _ hy (r.env t), fun i => (hhp i).ok hy (r.own i), fun i b cap hl hb' => ?_,
  fun i i' b cap cap' hl hl' => r.inj i i' b cap cap' (hlive i hl).1 (hlive i' hl').1, fun i x hl hx => ?_, r.nx, r.pin⟩
 rotate_left
 ·have q := (r.hid i x (hlive i hl).1 hx).weak (fun i h => (hlive i h).1)
  refine ⟨q.lt, ?_, q.old, q.ne, q.un⟩
  rcases k2 x with h | ⟨cap', h⟩
  ·rw [h]; exact q.m
  ·exact absurd rfl ((r.hid i x (hlive i hl).1 hx).ne id x cap' (by rw [ho]; simp) h)
 obtain ⟨h1, h2⟩ := hlive i hl
 have hp' := r.priv i b cap h1 hb'
 refine ⟨?_, hp'.2⟩
 rcases k2 b with h | ⟨cap', h⟩
 ·rw [h]; exact hp'.1
 ·exact absurd (r.inj i id b cap cap' h1 (by rw [ho]; simp) hb' h) h2
theorem ghost_frzMC (id id2 : Nat) {es : List (Value × V)} (ob : Ob) (ho : hget S.hp id = .map es) (hi : ∀ p, p ∈ es → Imm p.2) (hob : ObSub (FrzM id es) ob (hget S.hp id2)) :
  Ghost K S ⟨S.env, (id, .dead) :: (id2, ob) :: S.hp, S.nx⟩ :=
 ghost_freezeM id _ _ ho hi (fun _ => Sub.keepM) (fun i => by
  rw [hget_put]
  split
  ·trivial
  ·rw [hget_put]
   split
   ·rename_i h; subst h; exact hob
   ·exact ObSub.keep (fun _ => Sub.keepM) _) (by simp [hget_put])
def Idn : Hy := fun m β m' β' => m' = m ∧ β' = β
instance : HyMC Idn := ⟨fun m β m' β' hy => by rw [hy.1]; exact Mem.le_refl _⟩
theorem Sub.keepI {v : V} : Sub Idn v v := fun _ _ _ _ _ hy hx => by obtain ⟨rfl, rfl⟩ := hy; exact hx
theorem ghost_idn (env : Env) (hp : Heap) (henv : ∀ t, Sub Idn (get env t) (get S.env t)) (hhp : ∀ i, ObSub Idn (hget hp i) (hget S.hp i)) : Ghost K S ⟨env, hp, S.nx⟩ := by
 intro m β w a r
 have hy : Idn m β m β := ⟨rfl, rfl⟩
 have hlive : ∀ i, hget hp i ≠ .dead → hget S.hp i ≠ .dead := by
  intro i h hdd
  have h2 := hhp i
  rw [hdd] at h2
  cases ho' : hget hp i with
  | dead => exact h ho'
  | arr => rw [ho'] at h2; simp [ObSub] at h2
  | res => rw [ho'] at h2; simp [ObSub] at h2
  | map => rw [ho'] at h2; simp [ObSub] at h2
  | iter => rw [ho'] at h2; simp [ObSub] at h2
 exact ⟨m, β, r.imm, r.ext, r.mold, r.frame, r.size, r.same, r.tn, r.df, fun t => henv t _ _ _ _ _ hy (r.env t), fun i => (hhp i).ok hy (r.own i), fun i b c h => r.priv i b c (hlive i h),
  fun i i' b c c' h h' => r.inj i i' b c c' (hlive i h) (hlive i' h'), fun i x h hx => (r.hid i x (hlive i h) hx).weak hlive, r.nx, r.pin⟩
theorem ghost_tell (t : Nat) (v : V) {v0 : V} (ht : get S.env t = v0) (hv : Sub Idn v v0) : Ghost K S ⟨(t, v) :: S.env, S.hp, S.nx⟩ :=
 ghost_idn _ _ (envPut (fun _ => Sub.keepI) (by rw [ht]; exact hv)) fun _ => ObSub.keep (fun _ => Sub.keepI) _
theorem ghost_tellC (id : Nat) (ob : Ob) {ob0 : Ob} (ho : hget S.hp id = ob0) (hv : ObSub Idn ob ob0) : Ghost K S ⟨S.env, (id, ob) :: S.hp, S.nx⟩ :=
 ghost_idn _ _ (fun _ => Sub.keepI) fun i => by
  rw [hget_put]
  split
  ·rename_i h; subst h; rw [ho]; exact hv
  ·exact ObSub.keep (fun _ => Sub.keepI) _
def upd {α : Type} (f : Nat → α) (j : Nat) (x : α) : Nat → α := fun i => if i = j then x else f i
theorem aops_nilCheck_ptr {d id k i o : Nat} {x : Operand} (hw : Wants ops S ⟨some d, .nilCheck x, ty, pos, after, g⟩ true) (hx : evl K S x = .ptr id k i o) (hN : Nat.blt d K.N = true)
  (kk : AOps K ops rest Q (S.put d (.ptr id k i o))) : AOps K ops (⟨some d, .nilCheck x, ty, pos, after, g⟩ :: rest) Q S :=
 aops_val _ hw hN (fun m β w a r => by
  have h := r.reads x
  rw [hx] at h
  obtain ⟨b, cap, hb, hv⟩ := h.ptr_inv
  exact ⟨a.eval x, by simp only [execOp, hv]; rfl, h⟩) kk
theorem aops_nilCheck_iptr {d o : Nat} {row : List V} {x : Operand} (hw : Wants ops S ⟨some d, .nilCheck x, ty, pos, after, g⟩ true) (hx : evl K S x = .iptr row o) (hN : Nat.blt d K.N = true)
  (kk : AOps K ops rest Q (S.put d (.iptr row o))) : AOps K ops (⟨some d, .nilCheck x, ty, pos, after, g⟩ :: rest) Q S :=
 aops_val _ hw hN (fun m β w a r => by
  have h := r.reads x
  rw [hx] at h
  obtain ⟨ad, arr, T', fr, f, base, hv, _⟩ := h.iptr_inv
  exact ⟨a.eval x, by simp only [execOp, hv]; rfl, h⟩) kk
end
end Go.Pv
