/- The framework of walks over abstract values (own text), part F. -/
import Derived.Test.YtpbkggamiipdmaaGreatR3PvE
namespace Go.Pv
open Go
section
variable {K : Ctx} {Q : Post} {S : St} {ops : Array Oper} {rest : List Oper} {op : Op} {ty : TypeId} {pos : String} {after : Array Edge} {g : Option (Nat × Bool)}
variable {m : Mem} {β : Locs} {w : World} {a : Act}
/-- A slice type whose elements have k cells. -/
def tySl (P : Program) (T : TypeId) (k : Nat) : Bool :=
  match P.underlying T with | some (.slice e) => (match P.info? e with | some i => i.size == k | none => false) | _ => false
def tyArr (P : Program) (T : TypeId) (n k : Nat) : Bool :=
  match P.underlying T with | some (.array l e) => l == n && (match P.info? e with | some i => i.size == k | none => false) | _ => false
theorem tySl_inv {P : Program} {T : TypeId} {k : Nat} (h : tySl P T k = true) : ∃ e i, P.underlying T = some (.slice e) ∧ P.info? e = some i ∧ i.size = k := by
  unfold tySl at h
  cases hu : P.underlying T with
  | none => simp [hu] at h
  | some d =>
    rw [hu] at h
    cases d <;> simp only [Bool.false_eq_true] at h
    rename_i e
    cases hi : P.info? e with
    | none => simp [hi] at h
    | some i => rw [hi] at h; exact ⟨e, i, rfl, hi, by simpa using h⟩
theorem tyArr_inv {P : Program} {T : TypeId} {n k : Nat} (h : tyArr P T n k = true) : ∃ e i, P.underlying T = some (.array n e) ∧ P.info? e = some i ∧ i.size = k := by
  unfold tyArr at h
  cases hu : P.underlying T with
  | none => simp [hu] at h
  | some d =>
    rw [hu] at h
    cases d <;> simp only [Bool.false_eq_true] at h
    rename_i l e
    cases hi : P.info? e with
    | none => simp [hi] at h
    | some i =>
      rw [hi] at h
      simp only [Bool.and_eq_true, beq_iff_eq] at h
      obtain ⟨rfl, h2⟩ := h
      exact ⟨e, i, rfl, hi, h2⟩
theorem run_index_slice {P : Program} {w : World} {T : TypeId} {k len cap : Nat} {ad : Addr} {ik : IntKind} {n : Int} (hT : tySl P T k = true) (h0 : 0 ≤ n) (h1 : n.toNat < len) :
    (Instr.indexAt T (.slice (some ad) len cap) (.int ik n)).run P w = .ok (.pointer (some (ad.add (n.toNat * k)))) w := by
  obtain ⟨e, i, hu, hi, hk⟩ := tySl_inv hT
  simp only [Instr.indexAt, asIntOf, Sem.run_bind, pure, Sem.run, Result.andThen_ok, run_underlying hu]
  rw [if_pos ⟨h0, by omega⟩]
  simp only [Sem.run_bind, run_sizeOf w hi, Result.andThen_ok, Program.cellsOf, hi, Option.map_some, Option.getD_some, hk, Sem.run]
theorem aops_index_lst {d k : Nat} {x y : Operand} {T : TypeId} {rows : List (List V)} {ik : IntKind} {n : Int} (row : List V) (hT : tySl K.P T k = true)
    (hw : Wants ops S ⟨some d, .indexAddr T x y, ty, pos, after, g⟩ true) (hx : evl K S x = .lst k rows) (hy : evl K S y = .con (.int ik n)) (h0 : 0 ≤ n) (hr : rows[n.toNat]? = some row)
    (hN : Nat.blt d K.N = true) (kk : AOps K ops rest Q (S.put d (.iptr row 0))) :
    AOps K ops (⟨some d, .indexAddr T x y, ty, pos, after, g⟩ :: rest) Q S :=
  aops_val _ hw hN (fun m β w a r => by
    have h := r.reads x
    rw [hx] at h
    have hlt : n.toNat < rows.length := (List.getElem?_eq_some_iff.1 hr).1
    generalize hev : a.eval x = v at h
    cases h with
    | imm h =>
      cases h with
      | nil => simp at hr
      | @lst _ _ ad n' cap arr T' fr f hm hs hn hcap hbd hk hf h =>
        have hrk : row.length = k := hk row (List.mem_of_getElem? hr)
        refine ⟨.pointer (some ⟨ad.block, ad.off + n.toNat * k, none⟩), ?_, .imm (.iptr (fun j => f (n.toNat * k + j)) (ad.off + n.toNat * k) hm rfl rfl ?_ ?_)⟩
        · simp only [execOp, hev, r.con hy]
          refine run_value ?_
          rw [run_index_slice hT h0 (by omega), addr_eta hs, add_spot]
        · intro j hj
          rw [Nat.add_assoc]
          refine hf _ ?_
          calc n.toNat * k + j < n.toNat * k + k := by omega
            _ = (n.toNat + 1) * k := by rw [Nat.add_mul, Nat.one_mul]
            _ ≤ rows.length * k := Nat.mul_le_mul_right _ (by omega)
        · exact fun j c hj => h _ _ row c hr hj) kk
theorem aops_index_own {d k id len : Nat} {x y : Operand} {T : TypeId} {ik : IntKind} {n : Int} (hT : tySl K.P T k = true)
    (hw : Wants ops S ⟨some d, .indexAddr T x y, ty, pos, after, g⟩ true) (hx : evl K S x = .own id len) (hy : evl K S y = .con (.int ik n))
    (h0 : 0 ≤ n) (hr : n.toNat < len) (hN : Nat.blt d K.N = true)
    (kk : AOps K ops rest Q (S.put d (.ptr id k n.toNat 0))) :
    AOps K ops (⟨some d, .indexAddr T x y, ty, pos, after, g⟩ :: rest) Q S :=
  aops_val _ hw hN (fun m β w a r => by
    have h := r.reads x
    rw [hx] at h
    generalize hev : a.eval x = v at h
    cases h with
    | imm h => cases h
    | ownNil h => omega
    | own h =>
      refine ⟨_, by simp only [execOp, hev, r.con hy]; exact run_value (run_index_slice hT h0 hr), ?_⟩
      rw [add_spot]
      have := VRel.ptr (m := m) (k := k) (i := n.toNat) (off := 0) h
      simpa using this) kk
theorem run_index_arr {P : Program} {w : World} {T : TypeId} {k len b o : Nat} {ik : IntKind} {n : Int} (hT : tyArr P T len k = true) (h0 : 0 ≤ n) (h1 : n.toNat < len) :
    (Instr.indexAt T (.pointer (some ⟨b, o, none⟩)) (.int ik n)).run P w = .ok (.pointer (some ⟨b, o + n.toNat * k, none⟩)) w := by
  obtain ⟨e, i, hu, hi, hk⟩ := tyArr_inv hT
  simp only [Instr.indexAt, asIntOf, Sem.run_bind, pure, Sem.run, Result.andThen_ok, run_underlying hu, Instr.sureAddr]
  rw [if_pos ⟨h0, by omega⟩]
  simp only [Sem.run_bind, run_sizeOf w hi, Result.andThen_ok, Program.cellsOf, hi, Option.map_some, Option.getD_some, hk, Sem.run, add_spot]
theorem aops_index_arr {d k id i o len s : Nat} {x y : Operand} {T : TypeId} {ik : IntKind} {n : Int} (hT : tyArr K.P T len s = true)
    (hw : Wants ops S ⟨some d, .indexAddr T x y, ty, pos, after, g⟩ true) (hx : evl K S x = .ptr id k i o) (hy : evl K S y = .con (.int ik n))
    (h0 : 0 ≤ n) (hr : n.toNat < len) (hN : Nat.blt d K.N = true)
    (kk : AOps K ops rest Q (S.put d (.ptr id k i (o + n.toNat * s)))) :
    AOps K ops (⟨some d, .indexAddr T x y, ty, pos, after, g⟩ :: rest) Q S :=
  aops_val _ hw hN (fun m β w a r => by
    have h := r.reads x
    rw [hx] at h
    obtain ⟨b, cap, hb, hv⟩ := h.ptr_inv
    exact ⟨_, by simp only [execOp, hv, r.con hy]; exact run_value (run_index_arr hT h0 hr), by have := VRel.ptr (m := m) (k := k) (i := i) (off := o + n.toNat * s) hb; simpa [Nat.add_assoc] using this⟩) kk
theorem run_builtin {P : Program} {w w' : World} {o : Oper} {b : Builtin} {args : Array Operand} {at' : Array TypeId} {n : Next}
    (ho : o.op = .call ⟨.builtin b, args, at'⟩) (h : (builtin b at' o.type (args.map fun | .const _ => true | _ => false) (args.map a.eval)).run P w = .ok n w') :
    (execOp a.eval o).run P w = .ok n w' := by
  simp only [execOp, ho, resolve, invoke, Sem.run_bind, pure, Sem.run, Result.andThen_ok]
  exact h
def tyStr (P : Program) (T : TypeId) : Bool := match P.underlying T with | some .string => true | _ => false
def tySlice (P : Program) (T : TypeId) : Bool := match P.underlying T with | some (.slice _) => true | _ => false
theorem tySlice_inv {P : Program} {T : TypeId} (h : tySlice P T = true) : ∃ e, P.underlying T = some (.slice e) := by
  unfold tySlice at h
  cases hu : P.underlying T with
  | none => simp [hu] at h
  | some d => rw [hu] at h; cases d <;> simp only [Bool.false_eq_true] at h; exact ⟨_, rfl⟩
theorem tyStr_inv {P : Program} {T : TypeId} (h : tyStr P T = true) : P.underlying T = some .string := by
  unfold tyStr at h
  cases hu : P.underlying T with
  | none => simp [hu] at h
  | some d => rw [hu] at h; cases d <;> simp only [Bool.false_eq_true] at h; rfl
/-- The length of what is known to be a slice. -/
def slen : V → Option Nat
  | .lst _ rows => some rows.length
  | .own _ n => some n
  | .con (.slice _ n _) => some n
  | _ => none
theorem aops_len {d n : Nat} {x : Operand} {T : TypeId} {sv : V} (hT : tySlice K.P T = true)
    (hw : Wants ops S ⟨some d, .call ⟨.builtin .len, #[x], #[T]⟩, ty, pos, after, g⟩ true) (hx : evl K S x = sv) (hn : slen sv = some n) (hN : Nat.blt d K.N = true)
    (kk : AOps K ops rest Q (S.put d (.con (.int .i64 n)))) :
    AOps K ops (⟨some d, .call ⟨.builtin .len, #[x], #[T]⟩, ty, pos, after, g⟩ :: rest) Q S :=
  aops_val _ hw hN (fun m β w a r => by
    have h := r.reads x
    rw [hx] at h
    obtain ⟨e, hu⟩ := tySlice_inv hT
    have key : ∃ ad cap, a.eval x = .slice ad n cap := by
      generalize a.eval x = v at h
      cases h with
      | imm h =>
        cases h with
        | nil => simp [slen] at hn; subst hn; exact ⟨_, _, rfl⟩
        | lst _ _ _ hl => simp [slen] at hn; subst hl; subst hn; exact ⟨_, _, rfl⟩
        | con => unfold slen at hn; split at hn <;> simp_all
        | _ => simp [slen] at hn
      | ownNil => simp [slen] at hn; subst hn; exact ⟨_, _, rfl⟩
      | own => simp [slen] at hn; subst hn; exact ⟨_, _, rfl⟩
      | _ => simp [slen] at hn
    obtain ⟨ad, cap, he⟩ := key
    refine ⟨.int .i64 n, run_builtin rfl ?_, .imm (.con _)⟩
    simp only [builtin]
    refine run_value ?_
    simp only [Builtin.len_, List.map_toArray, List.map_cons, List.map_nil, he]
    simp [run_underlying hu, goInt, pure, Sem.run]) kk
theorem aops_len_str {d : Nat} {x : Operand} {T : TypeId} {s : ByteArray} (hT : tyStr K.P T = true)
    (hw : Wants ops S ⟨some d, .call ⟨.builtin .len, #[x], #[T]⟩, ty, pos, after, g⟩ true) (hx : evl K S x = .con (.string s)) (hN : Nat.blt d K.N = true)
    (kk : AOps K ops rest Q (S.put d (.con (.int .i64 s.size)))) :
    AOps K ops (⟨some d, .call ⟨.builtin .len, #[x], #[T]⟩, ty, pos, after, g⟩ :: rest) Q S :=
  aops_val _ hw hN (fun m β w a r => by
    refine ⟨.int .i64 s.size, run_builtin rfl ?_, .imm (.con _)⟩
    simp only [builtin]
    refine run_value ?_
    simp only [Builtin.len_, List.map_toArray, List.map_cons, List.map_nil, r.con hx]
    simp [run_underlying (tyStr_inv hT), goInt, pure, Sem.run]) kk
structure IRels (m : Mem) (ds : List V) (vs : Array Value) : Prop where
  len : ds.length = vs.size
  at' : ∀ (i : Nat) (c : V) (v : Value), ds[i]? = some c → vs[i]? = some v → IRel m c v
/-- A function that leaves what there is as it is, and whose arguments and results lie in memory that nobody writes. -/
def PureG (gl : Gl) (P : Program) (f : FuncId) (args : List V) (d : V) : Prop :=
  ∀ (m : Mem) (w : World) (vs : Array Value), (∀ (b : Nat) o, m b = some o → w.heap[b]? = some o) → GlOk gl m → IRels m args vs →
    Calls P f vs w fun e w' => ∃ v m', e = .returned v ∧ IRel m' d v ∧ Grew m m' w w'
abbrev Pure := PureG []
/-- What does not lie in the call's own memory. -/
def Keep (d : V) : Prop := ∀ m β v, VRel m β d v → IRel m d v
def Imm (d : V) : Prop := d.deep = false ∧ Keep d
theorem Imm.con (v : Value) : Imm (.con v) := ⟨rfl, fun _ _ _ h => by cases h with | imm h => exact h⟩
theorem Imm.any : Imm .any := ⟨rfl, fun _ _ _ h => by cases h with | imm h => exact h⟩
theorem Imm.lst (k : Nat) (rows : List (List V)) : Imm (.lst k rows) := ⟨rfl, fun _ _ _ h => by cases h with | imm h => exact h⟩
theorem Imm.iptr (row : List V) (o : Nat) : Imm (.iptr row o) := ⟨rfl, fun _ _ _ h => by cases h with | imm h => exact h⟩
theorem Imm.imap (es : List (Value × V)) : Imm (.imap es) := ⟨rfl, fun _ _ _ h => by cases h with | imm h => exact h⟩
theorem Keep.dsl (e k : Nat) (rows : List (List V)) : Keep (.dsl e k rows) := fun _ _ _ h => by cases h with | imm h => cases h
theorem Keep.dmp (es : List (Value × V)) : Keep (.dmp es) := fun _ _ _ h => by cases h with | imm h => cases h
theorem Keep.dpt (e : Nat) (row : List V) : Keep (.dpt e row) := fun _ _ _ h => by cases h with | imm h => cases h
def Imms (ds : List V) : Prop := ∀ c, c ∈ ds → Imm c
def Keeps (ds : List V) : Prop := ∀ c, c ∈ ds → Keep c
theorem Keeps.nil : Keeps [] := fun _ h => by simp at h
theorem Keeps.cons {c : V} {ds : List V} (h : Keep c) (h' : Keeps ds) : Keeps (c :: ds) := fun x hx => by
  rcases List.mem_cons.1 hx with rfl | hx
  · exact h
  · exact h' x hx
theorem Imms.keep {ds : List V} (h : Imms ds) : Keeps ds := fun c hc => (h c hc).2
theorem Imms.nil : Imms [] := fun _ h => by simp at h
theorem Imms.cons {c : V} {ds : List V} (h : Imm c) (h' : Imms ds) : Imms (c :: ds) := fun x hx => by
  rcases List.mem_cons.1 hx with rfl | hx
  · exact h
  · exact h' x hx
theorem Imms.get {ds : List V} (h : Imms ds) {i : Nat} {c : V} (hi : ds[i]? = some c) : Imm c := h c (List.mem_of_getElem? hi)
theorem Imm.agg {cs : List V} (h : Imms cs) : Imm (.agg cs) := ⟨rfl, fun m β v hv => by
  cases hv with
  | imm h => exact h
  | agg hl hh => exact .agg hl fun i c v hi hv => (h.get hi).2 m β v (hh i c v hi hv)⟩
theorem Imm.tup {cs : List V} (h : Imms cs) : Imm (.tup cs) := ⟨rfl, fun m β v hv => by
  cases hv with
  | imm h => exact h
  | tup hl hh => exact .tup hl fun i c v hi hv => (h.get hi).2 m β v (hh i c v hi hv)⟩
theorem Imm.fn {f : Fn} {cs ds : List V} (h : Imms cs) (h' : Imms ds) : Imm (.fn f cs ds) := ⟨rfl, fun m β v hv => by
  cases hv with
  | imm h => exact h
  | fn hl hl' hh hh' => exact .fn hl hl' (fun i c v hi hv => (h.get hi).2 m β v (hh i c v hi hv)) fun i c v hi hv => (h'.get hi).2 m β v (hh' i c v hi hv)⟩
def fnOk (P : Program) (f : FuncId) : Bool := match P.funcs[f]? with | some fn => fn.name != "runtime.NumGoroutine" && fn.body.isSome | none => false
theorem run_enter {P : Program} {w : World} {f : FuncId} (h : fnOk P f = true) (args : Array Value) : (callFunc f args).run P w = .ok (.enter f args) w := by
  unfold fnOk at h
  cases hf : P.funcs[f]? with
  | none => simp [hf] at h
  | some fn =>
    rw [hf] at h
    simp only [Bool.and_eq_true, bne_iff_ne, ne_eq] at h
    obtain ⟨h1, h2⟩ := h
    have h3 : fn.body.isNone = false := by cases hb : fn.body <;> simp_all
    simp only [callFunc, program, Sem.run_bind, Sem.run, Result.andThen_ok, hf]
    rw [if_neg (by simpa using h1), if_neg (by simp [h3])]
    rfl
/-- The world after the call of a function that is known, in the state of the caller. -/
theorem aops_calls {o : Oper} {d : Nat} {f : FuncId} {dv : V} {avs : List V} (hw : Wants ops S o true) (hd : o.dst = some d) (hN : Nat.blt d K.N = true)
    (hrun : ∀ m β w a, Rel K m β w a S → ∃ vs : Array Value, (execOp a.eval o).run K.P w = .ok (.enter f vs) w ∧ IRels m avs vs)
    (hc : PureG K.gl K.P f avs dv) (kk : AOps K ops rest Q (S.put d dv)) : AOps K ops (o :: rest) Q S := by
  intro m β w a r
  unfold wpList
  rw [if_pos (hw.at r)]
  left
  obtain ⟨vs, h1, h2⟩ := hrun m β w a r
  unfold Oper.wp
  rw [h1]
  refine (hc m w vs r.imm (K.glok.mono r.ext) h2).mono ?_
  rintro e w' ⟨v, m', rfl, h3, h4⟩
  simp only [hd]
  exact kk m' β w' _ ((r.grow h4).put hN (.imm h3))
end
end Go.Pv
