/- Part of the proof: ZA. -/
import Derived.Test.YtiphmdpaajjdeaaGreatDoorGPvZ
import Derived.Laws.BytesArg
import Derived.Stop.BytesEq
import Derived.Lib.Repeat
import Derived.Lib.LaidTab
import Derived.Lib.ItoaNum
import Derived.Shelf.Strconv.Itoa3
namespace Go.Pv
open Go
section
variable {K : Ctx} {Q : Post} {S : St} {ops : Array Oper} {rest : List Oper} {ty : TypeId} {pos : String} {after : Array Edge} {g : Option (Nat × Bool)}
/-- An element of an array that nobody writes. -/
theorem aops_index_iarr {d o len s : Nat} {x y : Operand} {T : TypeId} {row : List V} {ik : IntKind} {n : Int} (hT : tyArr K.P T len s = true)
    (hw : Wants ops S ⟨some d, .indexAddr T x y, ty, pos, after, g⟩ true) (hx : evl K S x = .iptr row o) (hy : evl K S y = .con (.int ik n))
    (h0 : 0 ≤ n) (hr : n.toNat < len) (hN : Nat.blt d K.N = true)
    (kk : AOps K ops rest Q (S.put d (.iptr row (o + n.toNat * s)))) :
    AOps K ops (⟨some d, .indexAddr T x y, ty, pos, after, g⟩ :: rest) Q S :=
  aops_val _ hw hN (fun m β w a r => by
    have h := r.reads x
    rw [hx] at h
    obtain ⟨ad, arr, T', fr, f, base, hv, h1, h2, h3, h4, h5⟩ := h.iptr_inv
    refine ⟨.pointer (some ⟨ad.block, ad.off + n.toNat * s, none⟩), ?_, .imm (.iptr (a := ⟨ad.block, ad.off + n.toNat * s, none⟩) f base h1 rfl (by simp [h3, Nat.add_assoc]) h4 h5)⟩
    simp only [execOp, hv, r.con hy]
    rw [addr_eta h2]
    exact run_value (run_index_arr hT h0 hr)) kk
/-- The end of an array of one-cell elements that nobody writes. -/
theorem aops_slice_iarr {d o len a0 : Nat} {x z : Operand} {T : TypeId} {row : List V} (rows' : List (List V)) (hT : tyArr K.P T len 1 = true) (hm : Nat.ble len 1000000 = true)
    (hw : Wants ops S ⟨some d, .slice T x (some z) none none, ty, pos, after, g⟩ true) (hx : evl K S x = .iptr row o) (hz : ∃ ik, evl K S z = .con (.int ik a0)) (h1 : a0 ≤ len)
    (hl : o + len ≤ row.length) (hr : (((row.drop (o + a0)).take (len - a0)).map fun c => [c]) = rows') (hN : Nat.blt d K.N = true) (kk : AOps K ops rest Q (S.put d (.lst 1 rows'))) :
    AOps K ops (⟨some d, .slice T x (some z) none none, ty, pos, after, g⟩ :: rest) Q S :=
  aops_val _ hw hN (fun m β w a r => by
    obtain ⟨e, i, hu, hi, hs⟩ := tyArr_inv hT
    have hk : K.P.cellsOf e = 1 := by simp [Program.cellsOf, hi, hs]
    have h := r.reads x
    rw [hx] at h
    obtain ⟨ad, arr, T', fr, f, base, hv, c1, c2, c3, c4, c5⟩ := h.iptr_inv
    obtain ⟨ik, hz⟩ := hz
    have hm' := Nat.le_of_ble_eq_true hm
    have bnd : (Instr.sliceBound (.int ik a0) len .sliceB).run K.P w = .ok a0 w := by
      simp only [Instr.sliceBound, asIntOf, Sem.run_bind, pure, Sem.run, Result.andThen_ok]
      rw [if_pos ⟨by omega, by omega⟩]
      simp
    have hrun : (execOp a.eval ⟨some d, .slice T x (some z) none none, ty, pos, after, g⟩).run K.P w = .ok (.value (.slice (some (if len = a0 then ad else ad.add (a0 * 1))) (len - a0) (len - a0))) w := by
      simp only [execOp, hv]
      refine run_value ?_
      have hsb : (Instr.sliceBounds false len len (some (.int ik a0)) none none).run K.P w = .ok (a0, len, len) w := by
        simp [Instr.sliceBounds, pure, bnd]
      simp only [Instr.sliceAt, Sem.run_bind, run_underlying hu, Result.andThen_ok, Option.map_none, Option.map_some, r.con hz, Instr.sureAddr, pure, Sem.run, hsb, run_sizeOf w hi, hk]
    refine ⟨_, hrun, ?_⟩
    by_cases hc : len = a0
    · have e0 : len - a0 = 0 := by omega
      have : rows' = [] := by rw [← hr, e0]; simp
      subst this
      rw [e0]
      exact .imm (.nil 1 _ _)
    · rw [if_neg hc]
      have hlr : rows'.length = len - a0 := by rw [← hr]; simp; omega
      have had : ad.add (a0 * 1) = ⟨ad.block, ad.off + a0 * 1, none⟩ := by rw [addr_eta c2]; exact add_spot
      rw [had]
      have hget : ∀ (i : Nat) (rw' : List V), rows'[i]? = some rw' → ∃ c, rw' = [c] ∧ row[o + a0 + i]? = some c ∧ i < len - a0 := by
        intro i rw' h
        rw [← hr, List.getElem?_map, Option.map_eq_some_iff] at h
        obtain ⟨c, h2, h3⟩ := h
        rw [List.getElem?_take] at h2
        split at h2
        · rename_i hi2
          rw [List.getElem?_drop] at h2
          exact ⟨c, h3.symm, h2, hi2⟩
        · simp at h2
      refine .imm (.lst (a := ⟨ad.block, ad.off + a0 * 1, none⟩) (fun i => f (o + a0 + i)) c1 rfl hlr (Nat.le_refl _) (by unfold maxLen; omega) ?_ ?_ ?_)
      · intro row' hrow
        obtain ⟨i, hi2, hi3⟩ := List.getElem_of_mem hrow
        obtain ⟨c, h2, _⟩ := hget i row' (by rw [List.getElem?_eq_getElem hi2, hi3])
        rw [h2]; rfl
      · intro i hi2
        have := c4 (o + a0 + i) (by omega)
        simp only
        rw [show ad.off + a0 * 1 + i = base + (o + a0 + i) by omega]
        exact this
      · intro i j row' c h2 h3
        obtain ⟨c', h4, h5, _⟩ := hget i row' h2
        subst h4
        have hj : j = 0 := by
          have := (List.getElem?_eq_some_iff.1 h3).1
          simpa using this
        subst hj
        simp at h3
        subst h3
        have := c5 (o + a0 + i) c' h5
        simpa using this) kk
def eU8 (n : Int) : List V := [V.con (.int .u8 n)]
def tyBytes (P : Program) (T : TypeId) : Bool :=
  match P.underlying T with | some (.slice e) => (match P.underlying e with | some (.int .u8) => true | _ => false) | _ => false
theorem tyBytes_inv {P : Program} {T : TypeId} (h : tyBytes P T = true) : ∃ e, P.underlying T = some (.slice e) ∧ P.underlying e = some (.int .u8) := by
  unfold tyBytes at h
  split at h
  · rename_i e hu
    split at h
    · rename_i he; exact ⟨e, hu, he⟩
    · simp at h
  · simp at h
/-- 'string(b)'. -/
theorem aops_bytesStr {d : Nat} {x : Operand} {src dst : TypeId} (xs : List Int) (hs : tyBytes K.P src = true) (hd : tyStr K.P dst = true)
    (hw : Wants ops S ⟨some d, .convert src dst x, ty, pos, after, g⟩ true) (hx : evl K S x = .lst 1 (xs.map eU8)) (hN : Nat.blt d K.N = true)
    (kk : AOps K ops rest Q (S.put d (.con (str (xs.map fun n => UInt8.ofNat n.toNat))))) : AOps K ops (⟨some d, .convert src dst x, ty, pos, after, g⟩ :: rest) Q S :=
  aops_val _ hw hN (fun m β w a r => by
    obtain ⟨e, h1, h2⟩ := tyBytes_inv hs
    have h := r.reads x
    rw [hx] at h
    refine ⟨.string ⟨(xs.map fun n => UInt8.ofNat n.toNat).toArray⟩, ?_, .imm (.con _)⟩
    generalize hxs : xs.map eU8 = rows at h
    generalize hv : a.eval x = v at h
    simp only [execOp, hv]
    refine run_value ?_
    cases h with
    | imm h =>
      cases h with
      | nil _ ad cap =>
        have : xs = [] := by simpa using hxs
        subst this
        rw [run_convert_bytes_string w src dst e ad 0 cap h1 h2 (tyStr_inv hd)]
        cases ad with
        | none => simp [Conv.bytesToString]; rfl
        | some ad =>
          rw [run_bytesToString w ad 0 cap [] (by simpa using run_loadCells_list (P := K.P) w ad [] (by simp))]
          rfl
      | @lst _ _ ad n cap arr T' fr f hm hsp hn hcap hbd hk hf hc =>
        have hlen : xs.length = n := by rw [← hn, ← hxs]; simp
        rw [addr_eta hsp]
        have := run_convert_bytes_arg (P := K.P) w src e h1 h2 ad.block ad.off n cap xs hlen (fun i hi => by
          have hi' : i < xs.length := by omega
          have h3 := hf i (by omega)
          have h4 := hc i 0 (eU8 xs[i]) (V.con (.int .u8 xs[i])) (by rw [← hxs]; simp [List.getElem?_eq_getElem hi']) rfl
          have h5 : f i = .int .u8 xs[i] := by
            have : i * 1 + 0 = i := by omega
            rw [this] at h4
            exact (VRel.imm (β := β) h4).of_con
          have h6 := r.imm _ _ hm
          rw [cell_of_heap h6, h3, h5]
          simp [List.getD_eq_getElem?_getD, List.getElem?_eq_getElem hi']) dst (tyStr_inv hd)
        rw [this]
        rfl) kk
theorem binS_shr {k k' : IntKind} {a b : Int} (h : 0 ≤ b) : binS .shr (.int k a) (.int k' b) = some (.int k (a.fdiv (2 ^ (min b.toNat k.bits)))) := by
  unfold binS
  simp only
  rw [if_neg (by omega)]
/-- The rows of an array's end. -/
theorem arr_end {α : Type} (f : Nat → α) (h : α → V) (len a0 : Nat) (_ : a0 ≤ len) : ((((List.range len).map fun i => h (f i)).drop (0 + a0)).take (len - a0)).map (fun c => [c]) = (((List.range len).map f).drop a0).map fun x => [h x] := by
  rw [Nat.zero_add, List.take_of_length_le (by simp)]
  simp [List.map_drop]
  rfl
end
def byteI (n : Int) : Bool := decide (0 ≤ n) && decide (n < 256)
def tyAB (P : Program) (T : TypeId) (n : Nat) : Bool :=
  match P.underlying T with | some (.array l e) => l == n && (match P.underlying e with | some (.int .u8) => (match P.info? e with | some i => i.size == 1 | none => false) | _ => false) && !P.eqGuardType P.depth T | _ => false
theorem bytes_of {l : List Int} (h : l.all byteI = true) : l.map (Value.int .u8) = (l.map fun n => UInt8.ofNat n.toNat).map fun b => Value.int .u8 (b.toNat : Int) := by
  induction l with
  | nil => rfl
  | cons x l ih =>
    simp only [List.all_cons, Bool.and_eq_true, byteI, decide_eq_true_eq] at h
    simp only [List.map_cons]
    rw [ih (by simpa [byteI] using h.2)]
    congr 2
    simp [UInt8.toNat_ofNat']
    omega
theorem bytes_eq {l l' : List Int} (h : l.all byteI = true) (h' : l'.all byteI = true) : ((l.map fun n => UInt8.ofNat n.toNat) == (l'.map fun n => UInt8.ofNat n.toNat)) = (l == l') := by
  rw [Bool.eq_iff_iff, beq_iff_eq, beq_iff_eq]
  refine ⟨fun e => ?_, fun e => by rw [e]⟩
  have e2 : l.map (Value.int .u8) = l'.map (Value.int .u8) := by rw [bytes_of h, bytes_of h', e]
  have e3 := congrArg (List.map fun v : Value => match v with | .int _ n => n | _ => 0) e2
  simpa [List.map_map, Function.comp_def] using e3
section
variable {K : Ctx} {Q : Post} {S : St} {ops : Array Oper} {rest : List Oper} {ty : TypeId} {pos : String} {after : Array Edge} {g : Option (Nat × Bool)}
theorem aops_eqBytes {d n : Nat} {x y : Operand} {T T' : TypeId} {cx cy : List V} (neg : Bool) (f f' : Nat → Int) (hT : tyAB K.P T n = true) (h1 : ((List.range n).map f).all byteI = true) (h2 : ((List.range n).map f').all byteI = true)
    (hw : Wants ops S ⟨some d, .binOp (if neg then .neq else .eql) T x y T', ty, pos, after, g⟩ true)
    (hx : evl K S x = .agg cx) (hy : evl K S y = .agg cy) (hcx : (((List.range n).map f).map (Value.int .u8)).map .con = cx) (hcy : (((List.range n).map f').map (Value.int .u8)).map .con = cy) (hN : Nat.blt d K.N = true)
    (k : AOps K ops rest Q (S.put d (.con (.bool (if neg then !(((List.range n).map f) == ((List.range n).map f')) else (((List.range n).map f) == ((List.range n).map f'))))))) :
    AOps K ops (⟨some d, .binOp (if neg then .neq else .eql) T x y T', ty, pos, after, g⟩ :: rest) Q S := by
  unfold tyAB at hT
  split at hT
  · rename_i l e hu
    simp only [Bool.and_eq_true, beq_iff_eq, Bool.not_eq_true'] at hT
    obtain ⟨⟨hl, he⟩, hg⟩ := hT
    subst hl
    split at he
    · rename_i he2
      split at he
      · rename_i i hi
        simp only [beq_iff_eq] at he
        refine aops_eqA neg hg (fun w => ?_) hw hx hy hcx hcy hN k
        rw [← bytes_eq h1 h2, bytes_of h1, bytes_of h2]
        exact run_equalIn_bytes w 9998 T e l hu he2 (fun w => by rw [run_sizeOf w hi, Program.cellsOf, hi]; simp [he]) _ _ (by simp) (by simp)
      · simp at he
    · simp at he
  · simp at hT
end
open Go.RowKit in
theorem pure_repeat {gl : Gl} {P : Program} {f : FuncId} {s : List UInt8} {c : Int} (hc : 0 ≤ c ∧ c ≤ 9223372036854775807 ∧ s.length * c.toNat ≤ 140737488355328)
    (h : ∀ (w : World) (n : Nat), n ≤ 9223372036854775807 → (⟨s.toArray⟩ : ByteArray).size * n ≤ 140737488355328 → Calls P f #[.string ⟨s.toArray⟩, .int .i64 n] w fun e w' =>
      e = .returned (.string ⟨(Lib.repeatL (⟨s.toArray⟩ : ByteArray).data.toList n).toArray⟩) ∧ Below w.heap.size w w') : PureG gl P f [sV s, iV c] (sV (Lib.repeatL s c.toNat)) := by
  obtain ⟨n, rfl⟩ := Int.eq_ofNat_of_zero_le hc.1
  have e1 : (⟨s.toArray⟩ : ByteArray).size = s.length := by simp [ByteArray.size]
  refine pure_below (l := [str s, .int .i64 n]) (v := str (Lib.repeatL s n)) (fun w => ?_) (fun m => .con _)
  have := h w n (by omega) (by rw [e1]; simpa using hc.2.2)
  simpa using this
end Go.Pv
