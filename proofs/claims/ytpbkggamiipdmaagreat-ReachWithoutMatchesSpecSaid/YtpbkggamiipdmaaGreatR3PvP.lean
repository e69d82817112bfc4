/- The framework of walks over abstract values (own text), part P. -/
import Derived.Test.YtpbkggamiipdmaaGreatR3PvO
import Derived.Laws.StructEq
import Derived.Laws.Strings
import Derived.Lib.Strings
namespace Go.Pv
open Go
section
variable {K : Ctx} {Q : Post} {S S' : St} {ops : Array Oper} {rest : List Oper} {op : Op} {ty : TypeId} {pos : String} {after : Array Edge} {g : Option (Nat × Bool)}
variable {m : Mem} {β : Locs} {w : World} {a : Act}
/-- A text. -/
abbrev str (l : List UInt8) : Value := .string ⟨l.toArray⟩
def binT (op : BinOp) (a b : List UInt8) : Option Value :=
  match op with
  | .add => if a.length + b.length ≤ 9223372036854775807 then some (str (a ++ b)) else none
  | .eql => some (.bool (a == b))
  | .neq => some (.bool (!(a == b)))
  | .lss => some (.bool (Op.bytesLess a b))
  | .leq => some (.bool (Op.bytesLess a b || a == b))
  | .gtr => some (.bool (!(Op.bytesLess a b || a == b)))
  | .geq => some (.bool (!Op.bytesLess a b))
  | _ => none
theorem run_binT {P : Program} {w : World} {op : BinOp} {T : TypeId} {x y : Operand} {a b : List UInt8} {v : Value} (h : binT op a b = some v) :
    (do eqGuard op T x y (str a) (str b); binOp op T (str a) (str b) : Sem Value).run P w = .ok v w := by
  have hg : (eqGuard op T x y (str a) (str b)).run P w = .ok () w := by
    unfold eqGuard; cases op <;> simp [pure]
  rw [Sem.run_bind, hg, Result.andThen_ok]
  cases op <;> simp only [binT, reduceCtorEq, Option.some.injEq] at h
  all_goals simp only [binOp, Op.stringOp, ByteArray.toList_mk]
  case add =>
    split at h
    · rename_i hl
      simp only [Option.some.injEq] at h
      subst h
      rw [if_neg]
      · have : (⟨a.toArray⟩ : ByteArray) ++ ⟨b.toArray⟩ = ⟨(a ++ b).toArray⟩ := by
          apply ByteArray.ext; simp
        rw [this]; rfl
      · have e1 : (⟨a.toArray⟩ : ByteArray).size = a.length := by simp [ByteArray.size]
        have e2 : (⟨b.toArray⟩ : ByteArray).size = b.length := by simp [ByteArray.size]
        rw [e1, e2]
        simp only [IntKind.max, IntKind.signed, IntKind.bits]
        simp; omega
    · simp at h
  all_goals (subst h; rfl)
theorem aops_binT {d : Nat} {bop : BinOp} {x y : Operand} {T T' : TypeId} {la lb : List UInt8} (v : Value) (hw : Wants ops S ⟨some d, .binOp bop T x y T', ty, pos, after, g⟩ true)
    (hx : evl K S x = .con (str la)) (hy : evl K S y = .con (str lb)) (hv : binT bop la lb = some v) (hN : Nat.blt d K.N = true)
    (k : AOps K ops rest Q (S.put d (.con v))) : AOps K ops (⟨some d, .binOp bop T x y T', ty, pos, after, g⟩ :: rest) Q S :=
  aops_val (.con v) hw hN (fun m β w a r => ⟨v, by
    simp only [execOp, r.con hx, r.con hy]
    exact run_value (run_binT hv), .imm (.con v)⟩) k
theorem aops_lenT {d : Nat} {x : Operand} {T : TypeId} {l : List UInt8} (hT : tyStr K.P T = true)
    (hw : Wants ops S ⟨some d, .call ⟨.builtin .len, #[x], #[T]⟩, ty, pos, after, g⟩ true) (hx : evl K S x = .con (str l)) (hN : Nat.blt d K.N = true)
    (kk : AOps K ops rest Q (S.put d (.con (.int .i64 l.length)))) :
    AOps K ops (⟨some d, .call ⟨.builtin .len, #[x], #[T]⟩, ty, pos, after, g⟩ :: rest) Q S :=
  aops_len_str hT hw hx hN (by have : (⟨l.toArray⟩ : ByteArray).size = l.length := by simp [ByteArray.size]
                               rw [this]; exact kk)
/-- A byte of a text. -/
theorem aops_indexT {d : Nat} {x y : Operand} {T : TypeId} {l : List UInt8} {ik : IntKind} {n : Int} (b : UInt8) (hT : tyStr K.P T = true)
    (hw : Wants ops S ⟨some d, .index T x y, ty, pos, after, g⟩ true) (hx : evl K S x = .con (str l)) (hy : evl K S y = .con (.int ik n)) (h0 : 0 ≤ n) (hb : l[n.toNat]? = some b)
    (hN : Nat.blt d K.N = true) (kk : AOps K ops rest Q (S.put d (.con (.int .u8 b.toNat)))) :
    AOps K ops (⟨some d, .index T x y, ty, pos, after, g⟩ :: rest) Q S :=
  aops_val _ hw hN (fun m β w a r => ⟨.int .u8 b.toNat, by
    simp only [execOp, r.con hx, r.con hy]
    refine run_value ?_
    simp only [Instr.index, asIntOf, Sem.run_bind, pure, Sem.run, Result.andThen_ok, run_underlying (tyStr_inv hT)]
    rw [if_pos h0]
    have : (⟨l.toArray⟩ : ByteArray)[n.toNat]? = some b := by
      have hl : n.toNat < (⟨l.toArray⟩ : ByteArray).size := by
        have := (List.getElem?_eq_some_iff.1 hb).1; simpa [ByteArray.size] using this
      rw [getElem?_pos (⟨l.toArray⟩ : ByteArray) n.toNat hl]
      obtain ⟨h1, h2⟩ := List.getElem?_eq_some_iff.1 hb
      rw [← h2]; rfl
    rw [this]
    rfl, .imm (.con _)⟩) kk
/-- A part of a text. -/
theorem aops_sliceT {d : Nat} {x : Operand} {lo hi : Option Operand} {T : TypeId} {l : List UInt8} (a0 b0 : Nat) (l' : List UInt8) (hT : tyStr K.P T = true)
    (hw : Wants ops S ⟨some d, .slice T x lo hi none, ty, pos, after, g⟩ true) (hx : evl K S x = .con (str l))
    (hlo : match lo with | none => a0 = 0 | some y => ∃ ik, evl K S y = .con (.int ik a0)) (hhi : match hi with | none => b0 = l.length | some y => ∃ ik, evl K S y = .con (.int ik b0))
    (h1 : a0 ≤ b0) (h2 : b0 ≤ l.length) (hl : (l.drop a0).take (b0 - a0) = l') (hN : Nat.blt d K.N = true) (kk : AOps K ops rest Q (S.put d (.con (str l')))) :
    AOps K ops (⟨some d, .slice T x lo hi none, ty, pos, after, g⟩ :: rest) Q S :=
  aops_val _ hw hN (fun m β w a r => ⟨str l', by
    have hsz : (⟨l.toArray⟩ : ByteArray).size = l.length := by simp [ByteArray.size]
    have hu := tyStr_inv hT
    have hext : (⟨l.toArray⟩ : ByteArray).extract a0 b0 = ⟨l'.toArray⟩ := by
      apply ByteArray.ext
      have := Lib.extract_toList (⟨l.toArray⟩ : ByteArray) a0 b0
      rw [ByteArray.toList_eq] at this
      apply Array.ext'
      rw [this, ← hl]
    have bnd : ∀ (n y : Nat) (c : BoundsCode) (ik : IntKind), n ≤ y → (Instr.sliceBound (.int ik n) y c).run K.P w = .ok n w := by
      intro n y c ik h
      simp only [Instr.sliceBound, asIntOf, Sem.run_bind, pure, Sem.run, Result.andThen_ok]
      rw [if_pos ⟨by omega, by omega⟩]
      simp
    simp only [execOp, r.con hx]
    refine run_value ?_
    have hs : (Instr.slice T (str l) (lo.map a.eval) (hi.map a.eval) none).run K.P w = .ok (str l') w := by
      simp only [Instr.slice, Sem.run_bind, run_underlying hu, Result.andThen_ok, Option.isSome_none, Bool.false_eq_true, if_false, hsz]
      have hb : (Instr.sliceBounds false l.length l.length (lo.map a.eval) (hi.map a.eval) none).run K.P w = .ok (a0, b0, l.length) w := by
        cases lo with
        | none =>
          simp only at hlo; subst hlo
          cases hi with
          | none => simp only at hhi; subst hhi; simp [Instr.sliceBounds, pure]
          | some y =>
            obtain ⟨ik, hy⟩ := hhi
            simp only [Instr.sliceBounds, Option.map_none, Option.map_some, r.con hy, Sem.run_bind, pure, Sem.run, Result.andThen_ok, bnd b0 _ _ ik h2, Bool.false_eq_true, if_false]
        | some z =>
          obtain ⟨ik, hz⟩ := hlo
          cases hi with
          | none => simp only at hhi; subst hhi; simp [Instr.sliceBounds, pure, r.con hz, bnd a0 _ _ ik h1]
          | some y =>
            obtain ⟨ik', hy⟩ := hhi
            simp [Instr.sliceBounds, pure, r.con hz, r.con hy, bnd a0 _ _ ik h1, bnd b0 _ _ ik' h2]
      rw [hb]
      simp only [Result.andThen_ok, hext]; rfl
    simp only [Instr.sliceAt, Sem.run_bind, run_underlying hu, Result.andThen_ok, Option.map_none]
    exact hs, .imm (.con _)⟩) kk
theorem aops_convInt {d : Nat} {x : Operand} {src dst : TypeId} {k k' : IntKind} {n : Int} (hd : K.P.underlying dst = some (.int k)) (hs : ∃ t, K.P.underlying src = some t)
    (hw : Wants ops S ⟨some d, .convert src dst x, ty, pos, after, g⟩ true) (hx : evl K S x = .con (.int k' n)) (hN : Nat.blt d K.N = true)
    (kk : AOps K ops rest Q (S.put d (.con (.int k (k.wrap n))))) : AOps K ops (⟨some d, .convert src dst x, ty, pos, after, g⟩ :: rest) Q S :=
  aops_val _ hw hN (fun m β w a r => ⟨.int k (k.wrap n), by
    obtain ⟨t, ht⟩ := hs
    simp only [execOp, r.con hx]
    refine run_value ?_
    simp only [convert, Sem.run_bind, run_underlying ht, run_underlying hd, Result.andThen_ok, Conv.intToInt]; rfl, .imm (.con _)⟩) kk
theorem aops_min {d : Nat} {x y : Operand} {T T' : TypeId} {k : IntKind} {n n' : Int} (hw : Wants ops S ⟨some d, .call ⟨.builtin .min, #[x, y], #[T, T']⟩, ty, pos, after, g⟩ true)
    (hx : evl K S x = .con (.int k n)) (hy : evl K S y = .con (.int k n')) (hN : Nat.blt d K.N = true) (kk : AOps K ops rest Q (S.put d (.con (.int k (if n' < n then n' else n))))) :
    AOps K ops (⟨some d, .call ⟨.builtin .min, #[x, y], #[T, T']⟩, ty, pos, after, g⟩ :: rest) Q S :=
  aops_val _ hw hN (fun m β w a r => ⟨_, run_builtin rfl (by
    simp only [builtin, List.map_toArray, List.map_cons, List.map_nil, r.con hx, r.con hy]
    refine run_value (v := .int k (if n' < n then n' else n)) ?_
    simp [Builtin.min_, Builtin.min2, pure]), .imm (.con _)⟩) kk
theorem aops_max {d : Nat} {x y : Operand} {T T' : TypeId} {k : IntKind} {n n' : Int} (hw : Wants ops S ⟨some d, .call ⟨.builtin .max, #[x, y], #[T, T']⟩, ty, pos, after, g⟩ true)
    (hx : evl K S x = .con (.int k n)) (hy : evl K S y = .con (.int k n')) (hN : Nat.blt d K.N = true) (kk : AOps K ops rest Q (S.put d (.con (.int k (if n' > n then n' else n))))) :
    AOps K ops (⟨some d, .call ⟨.builtin .max, #[x, y], #[T, T']⟩, ty, pos, after, g⟩ :: rest) Q S :=
  aops_val _ hw hN (fun m β w a r => ⟨_, run_builtin rfl (by
    simp only [builtin, List.map_toArray, List.map_cons, List.map_nil, r.con hx, r.con hy]
    refine run_value (v := .int k (if n' > n then n' else n)) ?_
    simp [Builtin.max_, Builtin.max2, pure]), .imm (.con _)⟩) kk
/-- '==' | '!=' on structs of plain cells. -/
theorem aops_eqA {d : Nat} {x y : Operand} {T T' : TypeId} {xs ys : List Value} {cx cy : List V} {b : Bool} (neg : Bool) (hm : K.P.eqGuardType K.P.depth T = false)
    (heq : ∀ w, (Op.equalIn 10000 T (.agg xs.toArray) (.agg ys.toArray)).run K.P w = .ok b w)
    (hw : Wants ops S ⟨some d, .binOp (if neg then .neq else .eql) T x y T', ty, pos, after, g⟩ true)
    (hx : evl K S x = .agg cx) (hy : evl K S y = .agg cy) (hcx : xs.map .con = cx) (hcy : ys.map .con = cy) (hN : Nat.blt d K.N = true)
    (k : AOps K ops rest Q (S.put d (.con (.bool (if neg then !b else b))))) : AOps K ops (⟨some d, .binOp (if neg then .neq else .eql) T x y T', ty, pos, after, g⟩ :: rest) Q S :=
  aops_val _ hw hN (fun m β w a' r => ⟨.bool (if neg then !b else b), by
    have h1 := r.reads x
    rw [hx, ← hcx] at h1
    have h2 := r.reads y
    rw [hy, ← hcy] at h2
    simp only [execOp, h1.conAgg, h2.conAgg]
    refine run_value ?_
    rw [Sem.run_bind, run_eqGuard_agg _ _ _ _ _ _ _ hm, Result.andThen_ok]
    cases neg
    · simp only [Bool.false_eq_true, if_false, run_eql_struct, heq, Result.andThen_ok]
    · simp only [if_true, run_neq_struct, heq, Result.andThen_ok], .imm (.con _)⟩) k
/-- A field of a struct's value. -/
theorem aops_fieldC {d f off : Nat} {x : Operand} {T : TypeId} {cs : List V} (c : V) (hF : tyF K.P T f off = true) (hC : ∃ fs fl, K.P.underlying T = some (.struct fs) ∧ fs[f]? = some fl ∧ tyC K.P fl.type = true)
    (hw : Wants ops S ⟨some d, .field T x f, ty, pos, after, g⟩ true) (hx : evl K S x = .agg cs) (hc : cs[off]? = some c) (hN : Nat.blt d K.N = true)
    (kk : AOps K ops rest Q (S.put d c)) : AOps K ops (⟨some d, .field T x f, ty, pos, after, g⟩ :: rest) Q S :=
  aops_val _ hw hN (fun m β w a r => by
    have h := r.reads x
    rw [hx] at h
    obtain ⟨fs, fl, hu, hf, hcell⟩ := hC
    have hoff : fl.offset = off := by
      unfold tyF at hF
      rw [hu] at hF
      simp only [hf, Bool.and_eq_true, beq_iff_eq] at hF
      exact hF.1
    have key : ∃ vs : Array Value, a.eval x = .agg vs ∧ ∃ v, vs[off]? = some v ∧ VRel m β c v := by
      generalize a.eval x = u at h
      have get : ∀ vs : Array Value, cs.length = vs.size → ∃ v, vs[off]? = some v := by
        intro vs hl
        have : off < vs.size := by rw [← hl]; exact (List.getElem?_eq_some_iff.1 hc).1
        exact ⟨vs[off], by simp [this]⟩
      cases h with
      | imm h => cases h with
        | agg hl hh => obtain ⟨v, hv⟩ := get _ hl; exact ⟨_, rfl, v, hv, .imm (hh _ _ _ hc hv)⟩
      | agg hl hh => obtain ⟨v, hv⟩ := get _ hl; exact ⟨_, rfl, v, hv, hh _ _ _ hc hv⟩
    obtain ⟨vs, e1, v, e2, e3⟩ := key
    refine ⟨v, ?_, e3⟩
    simp only [execOp, e1]
    refine run_value ?_
    simp only [Instr.field, Sem.run_bind, run_underlying hu, Result.andThen_ok, hf, asAgg, pure, Sem.run, part, (tyC_run hcell w).1, Bool.false_eq_true, if_false, hoff, e2]) kk
end
end Go.Pv
