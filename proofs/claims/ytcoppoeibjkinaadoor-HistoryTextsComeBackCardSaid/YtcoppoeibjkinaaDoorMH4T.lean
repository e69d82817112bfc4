/- Part of the proof: BL, BM, BJ, H4T. -/
import Derived.Test.YtcoppoeibjkinaaDoorMPvT
import Derived.Shelf.Strings.Builder1
import Derived.Lib.AppendStr
import Derived.Test.YtcoppoeibjkinaaDoorMLM
import Derived.Lib.Join
import Derived.Lib.Repeat
import Derived.Lib.ItoaLen
import Derived.Test.YtcoppoeibjkinaaDoorMDT
import Derived.Test.YtcoppoeibjkinaaDoorProg
import Derived.KernelRfl
namespace Go.Pv
open Go Go.RowKit Go.Lib Go.Shelf Go.Proofs
set_option linter.unusedVariables false
def BufAt (e : TypeId) (b : Nat) (v : Value) (bs : List UInt8) (w : World) : Prop :=
 (v = .slice none 0 0 ∧ bs = []) ∨ ∃ g c cur, v = .slice (some ⟨g, 0, none⟩) bs.length c ∧ g ≠ b ∧ w.heap[g]? = some (.cells cur e (0, 0)) ∧ cur.size = c ∧ bs.length ≤ c ∧ c ≤ maxLen ∧ bs ≠ [] ∧
  ∀ (i : Nat) (x : UInt8), bs[i]? = some x → cur[i]? = some (.int .u8 x.toNat)
theorem strCells_get (s : List UInt8) (i : Nat) : (strCells (⟨s.toArray⟩ : ByteArray))[i]? = (s[i]?).map fun x => Value.int .u8 (x.toNat : Int) := by simp [strCells]
theorem bsize (s : List UInt8) : (⟨s.toArray⟩ : ByteArray).size = s.length := by simp [ByteArray.size]
theorem run_buf {P : Program} (w : World) (t u ty e b : TypeId) (i : TypeInfo) (ht : P.underlying t = some (.slice e)) (hu : P.underlying u = some .string) (hi : P.info? e = some i) (hz : i.zero = some (.int .u8 0))
    (hsize : i.size = 1) (hby : i.bytes = 1) (v : Value) (bs s : List UInt8) (h : BufAt e b v bs w) (hb : b < w.heap.size) (hl : bs.length + s.length ≤ 140737488355328) :
    ∃ v' w', (Builtin.append_ #[t, u] ty #[v, .string ⟨s.toArray⟩]).run P w = .ok v' w' ∧ BufAt e b v' (bs ++ s) w' ∧ w.grownBy w' v.ownBlock ∧ w.drawn ≤ w'.drawn ∧ (∀ g, v'.ownBlock = some g → v.ownBlock = some g ∨ g = w.heap.size) := by
  rcases h with ⟨rfl, rfl⟩ | ⟨g, c, cur, rfl, hne, hg, hc, hlc, hcm, hnb, hcells⟩
  · by_cases hm : s = []
    · subst hm
      refine ⟨.slice none 0 0, w, ?_, .inl ⟨rfl, rfl⟩, ⟨rfl, rfl, rfl, Nat.le_refl _, fun _ _ _ => rfl⟩, Nat.le_refl _, fun g hg => by simp [Value.ownBlock] at hg⟩
      have hf := run_firstCells_string (P := P) w 1 ⟨#[]⟩
      simp [Builtin.append_, run_underlying ht, run_underlying hu, sizeOf, typeInfo, hi, Builtin.lenOf, ByteArray.size, Builtin.firstCells]
    · have hs0 : 0 < s.length := List.length_pos_iff.2 hm
      have hr := run_append_nil_string (P := P) w t u ty e i (.int .u8 0) ht hu hi hz ⟨s.toArray⟩ (by rw [bsize]; omega) (by rw [bsize]; omega) (by rw [hby, bsize]; omega)
      have hge := grownCap_ge w s.length 0 e
      have hcm : grownCap w s.length 0 e ≤ maxLen := grownCap_le_maxLen w s.length 0 e (by unfold maxLen; omega)
      rw [bsize] at hr
      refine ⟨_, _, hr, .inr ⟨w.heap.size, _, _, rfl, Nat.ne_of_gt hb, _root_.Go.heap_alloc_new w.drew _, ?_, by simpa using hge, hcm, by simpa using hm, ?_⟩, ⟨rfl, rfl, rfl, by simp, fun k hk _ => _root_.Go.heap_alloc_old w.drew _ hk⟩, by simp, fun g hg => .inr (by simpa [Value.ownBlock] using hg.symm)⟩
      · have hz1 : (Value.int IntKind.u8 0).cells.size = 1 := rfl
        simp only [Array.size_append, List.size_toArray, zeroCells_size, hz1, Array.size_map]
        simp
        omega
      · intro i x hx
        have hlt : i < s.length := (List.getElem?_eq_some_iff.1 (by simpa using hx)).1
        rw [Array.getElem?_append, if_pos (by simpa using hlt)]
        simp at hx
        simp [hx]
  · by_cases hroom : bs.length + s.length ≤ c
    · have hr := run_append_room_string (P := P) w t u ty e i ht hu hi hsize g bs.length c cur hg ⟨s.toArray⟩ (by rw [bsize]; exact hroom) (by rw [bsize]; omega)
      rw [bsize] at hr
      refine ⟨_, _, hr, .inr ⟨g, c, _, by simp, hne, setRow_heap w g cur _ e _ hg, ?_, by simpa using hroom, hcm, by simp [hnb], ?_⟩, ⟨rfl, rfl, rfl, by simp, fun k _ hk => setRow_other w g k _ (fun e => hk (by simp [Value.ownBlock, e]))⟩, by simp, fun g' hg' => .inl hg'⟩
      · simp [strCells_length, bsize]; omega
      · intro i x hx
        rw [List.getElem?_toArray, List.append_assoc]
        by_cases hi' : i < bs.length
        · rw [List.getElem?_append_left hi'] at hx
          rw [List.getElem?_append_left (by simp; omega), List.getElem?_take, if_pos hi']
          simpa using hcells i x hx
        · rw [List.getElem?_append_right (by omega)] at hx
          have hl1 : (cur.toList.take bs.length).length = bs.length := by simp; omega
          have hlt : i - bs.length < s.length := (List.getElem?_eq_some_iff.1 hx).1
          rw [List.getElem?_append_right (by omega), hl1, List.getElem?_append_left (by rw [strCells_length, bsize]; exact hlt), strCells_get, hx]; rfl
    · have hr := run_append_grow_string (P := P) w t u ty e i (.int .u8 0) ht hu hi hz ⟨g, 0, none⟩ bs.length c (bs.map fun x => Value.int .u8 (x.toNat : Int)) (by simp [hsize]) (fun j x hx => by
          rw [List.getElem?_map] at hx
          cases hbj : bs[j]? with
          | none => rw [hbj] at hx; cases hx
          | some y =>
            rw [hbj] at hx; cases hx
            have hadd : (⟨g, 0, none⟩ : Addr).add j = ⟨g, j, none⟩ := by unfold Addr.add; split <;> simp_all
            rw [hadd, cell_of_row w g j cur e (0, 0) hg]
            exact hcells j y hbj) ⟨s.toArray⟩ (by rw [bsize]; omega) (by rw [bsize]; omega) (by rw [hby, bsize]; exact growslice_fits (by omega) (by omega))
      have hge := grownCap_ge w (bs.length + s.length) c e
      have hcm : grownCap w (bs.length + s.length) c e ≤ maxLen := grownCap_le_maxLen w (bs.length + s.length) c e (by unfold maxLen; omega)
      rw [bsize] at hr
      refine ⟨_, _, hr, .inr ⟨w.heap.size, _, _, by simp, Nat.ne_of_gt hb, _root_.Go.heap_alloc_new w.drew _, ?_, by simpa using hge, hcm, by simp [hnb], ?_⟩, ⟨rfl, rfl, rfl, by simp, fun k hk _ => _root_.Go.heap_alloc_old w.drew _ hk⟩, by simp, fun g hg => .inr (by simpa [Value.ownBlock] using hg.symm)⟩
      · have hz1 : (Value.int IntKind.u8 0).cells.size = 1 := rfl
        simp only [Array.size_append, List.size_toArray, zeroCells_size, hz1, strCells_length, bsize, List.length_map]
        omega
      · intro i x hx
        have hlt : i < (bs ++ s).length := (List.getElem?_eq_some_iff.1 hx).1
        rw [Array.getElem?_append, if_pos (by simp [strCells_length, bsize]; simpa using hlt)]
        by_cases hi' : i < bs.length
        · rw [List.getElem?_append_left hi'] at hx
          rw [Array.getElem?_append, if_pos (by simpa using hi')]
          simp [hx]
        · rw [List.getElem?_append_right (by omega)] at hx
          rw [Array.getElem?_append, if_neg (by simpa using hi')]
          simp [strCells_get, hx]
theorem freeze_other {w : World} {g n k c : Nat} {m : Nat} (h : (Value.slice (some ⟨g, 0, none⟩) m c).ownBlock ≠ some k) : (w.drew.freeze ⟨g, 0, none⟩ n).heap[k]? = w.heap[k]? := by
 have hk : g ≠ k := fun e => h (by simp [Value.ownBlock, e])
 unfold World.freeze
 split
 ·rfl
 ·simp only [Array.getElem?_modify]; rw [if_neg hk]; rfl
theorem freeze_size (w : World) (g n : Nat) : (w.drew.freeze ⟨g, 0, none⟩ n).heap.size = w.heap.size := by
 unfold World.freeze
 split
 ·rfl
 ·simp
theorem freeze_same (w : World) (g n : Nat) : Same w (w.drew.freeze ⟨g, 0, none⟩ n) := by
 unfold World.freeze
 split
 ·exact ⟨rfl, rfl, rfl, trivial⟩
 ·exact ⟨rfl, rfl, rfl, trivial⟩
section
variable {P : Program} {ρ : Go.Shelf.Ren}
theorem bld_check (L : Lays.n240 P ρ) (X : Builder.X72 P ρ) (b : Nat) (p v : Value) (w : World) (hbk : w.heap[b]? = some (.cells #[p, v] (ρ.t 72) (0, 0))) (hp : p = .pointer none ∨ p = .pointer (some ⟨b, 0, none⟩)) :
  Calls P (ρ.f 240) #[.pointer (some ⟨b, 0, none⟩)] w fun e w' => e = .returned (.tuple #[]) ∧ w'.heap[b]? = some (.cells #[.pointer (some ⟨b, 0, none⟩), v] (ρ.t 72) (0, 0)) ∧ (∀ k, k ≠ b → w'.heap[k]? = w.heap[k]?) ∧ w'.heap.size = w.heap.size ∧ Same w w' := by
 have c0 : w.cell? ⟨b, 0, none⟩ = some p := by rw [Lib.cell_of_heap hbk]; rfl
 rcases hp with rfl | rfl
 ·refine (Any.Builder_copyCheck_fresh L X b w c0 (by simp [World.shape?, hbk]) (Lib.frozen_of_heap hbk 0)).mono ?_
  rintro e w' ⟨rfl, rfl⟩
  refine ⟨rfl, ?_, fun k hk => Below.heap_setCell _ _ _ _ hk, by simp [World.setCell], ⟨rfl, rfl, rfl, trivial⟩⟩
  simp [World.setCell, Array.getElem?_modify, hbk]
 ·refine (Any.Builder_copyCheck_used L X b w c0).mono ?_
  rintro e w' ⟨rfl, rfl⟩
  exact ⟨rfl, hbk, fun _ _ => rfl, rfl, ⟨rfl, rfl, rfl, trivial⟩⟩
theorem wpList_buf {ops : Array Oper} {rest : List Oper} {o : Oper} {a : Act} {Q : Exit → Act → World → Prop} {w : World} (hgd : o.guard = none) (sl x : Operand) (t u : TypeId)
  (ho : o.op = .call { callee := .builtin .append, args := #[sl, x], argTypes := #[t, u] })
  (e b : Nat) (i : TypeInfo) (ht : P.underlying t = some (.slice e)) (hu : P.underlying u = some .string) (hi : P.info? e = some i) (hz : i.zero = some (.int .u8 0)) (hsize : i.size = 1) (hby : i.bytes = 1)
  (v : Value) (bs s : List UInt8) (hs : a.eval sl = v) (hv : BufAt e b v bs w) (hx : a.eval x = .string ⟨s.toArray⟩) (hb : b < w.heap.size) (hl : bs.length + s.length ≤ 140737488355328)
  (h : ∀ v' w', BufAt e b v' (bs ++ s) w' → w.grownBy w' v.ownBlock → w.drawn ≤ w'.drawn → (∀ g, v'.ownBlock = some g → v.ownBlock = some g ∨ g = w.heap.size) → wpList P ops Q rest (a.put o.dst v') w') : wpList P ops Q (o :: rest) a w := by
 refine wpList_plain hgd fun K hK => ?_
 obtain ⟨v', w', hr, h2, h3, h4, h5⟩ := run_buf (P := P) w t u o.type e b i ht hu hi hz hsize hby v bs s hv hb hl
 unfold Oper.wp execOp
 simp only [ho, resolve, invoke, builtin, Sem.run_bind, Sem.run_pure, Result.andThen_ok, List.map_toArray, List.map_cons, List.map_nil, hs, hx, hr]
 exact hK _ _ (h v' w' h2 h3 h4 h5)
theorem BufAt.shape {e b : Nat} {v : Value} {bs : List UInt8} {w : World} (h : BufAt e b v bs w) : ∃ ao n c, v = .slice ao n c := by
 rcases h with ⟨rfl, _⟩ | ⟨g, c, _, rfl, _⟩
 ·exact ⟨_, _, _, rfl⟩
 ·exact ⟨_, _, _, rfl⟩
theorem BufAt.kept {e b : Nat} {v : Value} {bs : List UInt8} {w w' : World} (h : BufAt e b v bs w) (hk : ∀ k, k ≠ b → w'.heap[k]? = w.heap[k]?) : BufAt e b v bs w' := by
 rcases h with h | ⟨g, c, cur, h1, h2, h3, h4⟩
 ·exact .inl h
 ·exact .inr ⟨g, c, cur, h1, h2, by rw [hk g h2]; exact h3, h4⟩
set_option maxHeartbeats 2000000 in
set_option maxRecDepth 100000 in
theorem bld_write (L : Lays.n166 P ρ) (X : Builder.Extra P ρ) (b : Nat) (p v : Value) (bs s : List UInt8) (w : World) (hbk : w.heap[b]? = some (.cells #[p, v] (ρ.t 72) (0, 0))) (hp : p = .pointer none ∨ p = .pointer (some ⟨b, 0, none⟩))
  (hv : BufAt (ρ.t 5) b v bs w) (hl : bs.length + s.length ≤ 140737488355328) :
  Calls P (ρ.f 166) #[.pointer (some ⟨b, 0, none⟩), .string ⟨s.toArray⟩] w fun e w' => e = .returned (.tuple #[.int .i64 s.length, .nilIface]) ∧ ∃ v', w'.heap[b]? = some (.cells #[.pointer (some ⟨b, 0, none⟩), v'] (ρ.t 72) (0, 0)) ∧
   BufAt (ρ.t 5) b v' (bs ++ s) w' ∧ (∀ k, k < w.heap.size → k ≠ b → v.ownBlock ≠ some k → w'.heap[k]? = w.heap[k]?) ∧ w.heap.size ≤ w'.heap.size ∧ Same w w' ∧ ∀ g, v'.ownBlock = some g → v.ownBlock = some g ∨ w.heap.size ≤ g := by
 obtain ⟨i0, hi, hz0, hz1, hz2⟩ := info_parts X.infoByte
 have mixed := L.mixed
 have t72 := L.t72; have a72 := L.a72; have z72 := L.z72; have v72 := L.v72; have u72 := run_underlying L.t72
 have t70 := L.t70; have a70 := L.a70; have z70 := L.z70; have v70 := L.v70; have u70 := run_underlying L.t70
 have t37 := L.t37; have a37 := L.a37; have z37 := L.z37; have v37 := L.v37; have u37 := run_underlying L.t37
 have t3 := L.t3; have a3 := L.a3; have z3 := L.z3; have v3 := L.v3; have u3 := run_underlying L.t3
 have t9 := L.t9; have a9 := L.a9; have z9 := L.z9; have v9 := L.v9; have u9 := run_underlying L.t9
 have e240 : ∀ args w, (callFunc (ρ.f 240) args).run P w = .ok (.enter (ρ.f 240) args) w := enters_of L.f240 (by kernel_rfl) rfl
 have hsz : (⟨s.toArray⟩ : ByteArray).size = s.length := bsize s
 go_enter L.f166, Body.n166_ntmps ρ
 go_wp2_with (go_at_fn (ρ.f 240); refine (bld_check { L with } X.toX72 b p v _ hbk hp).mono ?_)
 rintro e w1 ⟨rfl, hb1, hk1, hs1, hsame1⟩
 have hlt : b < w1.heap.size := lt_of_some hb1
 have hv1 := hv.kept hk1
 have c0 : w1.cell? ⟨b, 0, none⟩ = some (.pointer (some ⟨b, 0, none⟩)) := by rw [Lib.cell_of_heap hb1]; rfl
 have c1 : w1.cell? ⟨b, 1, none⟩ = some v := by rw [Lib.cell_of_heap hb1]; rfl
 go_wp2_with (at_builtin; refine wpList_buf rfl _ _ (ρ.t 37) (ρ.t 9) rfl (ρ.t 5) b i0 L.t37 L.t9 hi hz0 hz1 hz2 v bs s rfl hv1 rfl hlt hl ?_)
 intro v' w2 hv2 hgrow hdr hown
 have hvb : some b ≠ v.ownBlock := by
  rcases hv1 with ⟨rfl, _⟩ | ⟨g, c, cur, rfl, hne, _⟩
  ·simp [Value.ownBlock]
  ·simp [Value.ownBlock]; exact fun h => hne h.symm
 have hb2 : w2.heap[b]? = some (.cells #[.pointer (some ⟨b, 0, none⟩), v] (ρ.t 72) (0, 0)) := by
  rw [hgrow.block b hlt hvb]; exact hb1
 have d0 : w2.cell? ⟨b, 0, none⟩ = some (.pointer (some ⟨b, 0, none⟩)) := by rw [Lib.cell_of_heap hb2]; rfl
 have d1 : w2.cell? ⟨b, 1, none⟩ = some v := by rw [Lib.cell_of_heap hb2]; rfl
 have f1 : w2.frozen? ⟨b, 1, none⟩ = false := Lib.frozen_of_heap hb2 1
 obtain ⟨ao, n', cap, rfl⟩ := hv2.shape
 go_wp2
 go_ret2
 refine ⟨rfl, _, ?_, hv2.kept (fun k hk => Below.heap_setCell _ _ _ _ hk), ?_, ?_, ?_, ?_⟩
 ·simp [World.setCell, Array.getElem?_modify, hb2]
 ·intro k hk hkb hkv
  rw [Below.heap_setCell _ _ _ _ hkb, hgrow.block k (by omega) (Ne.symm hkv), hk1 k hkb]
 ·have := hgrow.size; simp [World.setCell]; omega
 ·exact ⟨hgrow.os.trans hsame1.os, hgrow.tape.trans hsame1.tape, hgrow.output.trans hsame1.output, trivial⟩
 ·intro g hg
  rcases hown g hg with h | h
  ·exact .inl h
  ·exact .inr (by omega)
set_option maxHeartbeats 2000000 in
set_option maxRecDepth 100000 in
theorem bld_string (L : Lays.n169 P ρ) (X : Builder.Extra P ρ) (b : Nat) (p v : Value) (bs : List UInt8) (w : World) (hbk : w.heap[b]? = some (.cells #[p, v] (ρ.t 72) (0, 0))) (hv : BufAt (ρ.t 5) b v bs w) :
  Calls P (ρ.f 169) #[.pointer (some ⟨b, 0, none⟩)] w fun e w' => e = .returned (.string ⟨bs.toArray⟩) ∧ (∀ k, v.ownBlock ≠ some k → w'.heap[k]? = w.heap[k]?) ∧ w'.heap.size = w.heap.size ∧ Same w w' := by
 have c1 : w.drew.cell? ⟨b, 1, none⟩ = some v := by
  have : w.drew.heap[b]? = some (.cells #[p, v] (ρ.t 72) (0, 0)) := hbk
  rw [Lib.cell_of_heap this]; rfl
 rcases hv with ⟨rfl, rfl⟩ | ⟨g, cap, cur, rfl, hne, hg, hcs, hnc, hcm, h0, hcells⟩
 ·have hUS := Any.unsafeString_none L X
  have hSD : (Builtin.unsafeSliceData_ #[(ρ.t 37)] (ρ.t 127) #[.slice none 0 0]).run P w.drew = .ok (.pointer none) w.drew := rfl
  have mixed := L.mixed
  have t72 := L.t72; have a72 := L.a72; have z72 := L.z72; have v72 := L.v72; have u72 := run_underlying L.t72
  have t70 := L.t70; have a70 := L.a70; have z70 := L.z70; have v70 := L.v70; have u70 := run_underlying L.t70
  have t37 := L.t37; have a37 := L.a37; have z37 := L.z37; have v37 := L.v37; have u37 := run_underlying L.t37
  have t127 := L.t127; have a127 := L.a127; have z127 := L.z127; have v127 := L.v127; have u127 := run_underlying L.t127
  have t3 := L.t3; have a3 := L.a3; have z3 := L.z3; have v3 := L.v3; have u3 := run_underlying L.t3
  have t9 := L.t9; have a9 := L.a9; have z9 := L.z9; have v9 := L.v9; have u9 := run_underlying L.t9
  have t5 := X.t5; have a5 := X.a5; have z5 := X.z5; have v5 := X.v5; have u5 := run_underlying X.t5
  go_enter L.f169, Body.n169_ntmps ρ
  go_wp2
  go_region_o
  all_goals (go_wp2; go_ret; exact ⟨rfl, fun _ _ => rfl, rfl, ⟨rfl, rfl, rfl, trivial⟩⟩)
 ·have hl0 : bs.length ≠ 0 := by simpa using h0
  have hSD : (Builtin.unsafeSliceData_ #[(ρ.t 37)] (ρ.t 127) #[.slice (some ⟨g, 0, none⟩) bs.length cap]).run P w.drew = .ok (.pointer (some ⟨g, 0, none⟩)) w.drew :=
   Lib.run_unsafeSliceData_row _ _ _ _ _ _ (by omega)
  have hUS : (Builtin.unsafeString_ #[(ρ.t 127), (ρ.t 3)] (ρ.t 9) #[.pointer (some ⟨g, 0, none⟩), .int .i64 bs.length]).run P w.drew = .ok (.string ⟨bs.toArray⟩) (w.drew.freeze ⟨g, 0, none⟩ bs.length) := by
   refine Lib.run_unsafeString_row w.drew (ρ.t 127) (ρ.t 3) (ρ.t 9) (ρ.t 5) L.t127 X.cellsByte g cur.size (by have hg' : w.drew.heap[g]? = some (.cells cur (ρ.t 5) (0, 0)) := hg; simp [World.shape?, hg']) bs h0 (by omega) (by unfold maxLen at hcm; omega) ?_
   intro j x hx
   have hg' : w.drew.heap[g]? = some (.cells cur (ρ.t 5) (0, 0)) := hg
   have hadd : (⟨g, 0, none⟩ : Addr).add j = ⟨g, j, none⟩ := by unfold Addr.add; split <;> simp_all
   first
   | rw [hadd, cell_of_row w.drew g j cur (ρ.t 5) (0, 0) hg']; exact hcells j x hx
   | rw [cell_of_row w.drew g j cur (ρ.t 5) (0, 0) hg']; exact hcells j x hx
  have mixed := L.mixed
  have t72 := L.t72; have a72 := L.a72; have z72 := L.z72; have v72 := L.v72; have u72 := run_underlying L.t72
  have t70 := L.t70; have a70 := L.a70; have z70 := L.z70; have v70 := L.v70; have u70 := run_underlying L.t70
  have t37 := L.t37; have a37 := L.a37; have z37 := L.z37; have v37 := L.v37; have u37 := run_underlying L.t37
  have t127 := L.t127; have a127 := L.a127; have z127 := L.z127; have v127 := L.v127; have u127 := run_underlying L.t127
  have t3 := L.t3; have a3 := L.a3; have z3 := L.z3; have v3 := L.v3; have u3 := run_underlying L.t3
  have t9 := L.t9; have a9 := L.a9; have z9 := L.z9; have v9 := L.v9; have u9 := run_underlying L.t9
  have t5 := X.t5; have a5 := X.a5; have z5 := X.z5; have v5 := X.v5; have u5 := run_underlying X.t5
  go_enter L.f169, Body.n169_ntmps ρ
  go_wp2
  go_region_o
  all_goals (go_wp2; go_ret; exact ⟨rfl, fun k hk => freeze_other hk, freeze_size _ _ _, freeze_same _ _ _⟩)
end
theorem ObSub.bld {Y : Hy} {T e : Nat} {l : List UInt8} : ObSub Y (.bld T e l) (.bld T e l) := ⟨rfl, rfl, rfl⟩
section
variable {P : Program} {ρ : Go.Shelf.Ren}
theorem one_of {vs : Array Value} (h : vs.size = 1) : ∃ a, vs = #[a] := by
 obtain ⟨l⟩ := vs
 match l, h with
 | [a], _ => exact ⟨a, rfl⟩
theorem two_of' {vs : Array Value} (h : vs.size = 2) : ∃ a b, vs = #[a, b] := by
 obtain ⟨l⟩ := vs
 match l, h with
 | [a, b], _ => exact ⟨a, b, rfl⟩
theorem mut_bld {gl : Gl} {f id k : Nat} {hp : Heap} {T e : Nat} {bs bs' : List UInt8} {args : List V} {rv : Value} (dead : Bool) (hTe : T ≠ e) (ho : hget hp id = .bld T e bs) (hargs0 : args[0]? = some (.ptr id 2 0 0))
  (hC : ∀ (b : Nat) (p v : Value) (w : World) (vs : Array Value), vs.size = args.length → vs[0]? = some (.pointer (some ⟨b, 0, none⟩)) → (∀ (i : Nat) c u, args[i + 1]? = some (.con c) → vs[i + 1]? = some u → u = c) → w.heap[b]? = some (.cells #[p, v] T (0, 0)) →
   (p = .pointer none ∨ p = .pointer (some ⟨b, 0, none⟩)) → BufAt e b v bs w →
   Calls P f vs w fun x w' => x = .returned rv ∧ ∃ p' v', (dead = false → w'.heap[b]? = some (.cells #[p', v'] T (0, 0)) ∧ (p' = .pointer none ∨ p' = .pointer (some ⟨b, 0, none⟩)) ∧ BufAt e b v' bs' w') ∧
    (∀ k, k < w.heap.size → k ≠ b → v.ownBlock ≠ some k → w'.heap[k]? = w.heap[k]?) ∧ w.heap.size ≤ w'.heap.size ∧ Same w w' ∧ ∀ g, v'.ownBlock = some g → v.ownBlock = some g ∨ w.heap.size ≤ g)
  {d : V} (hd : ∀ m β, VRel m β d rv) (hcon : ∀ (i : Nat) x, args[i + 1]? = some x → ∃ c, x = .con c) :
  MutG gl P f args k hp d k ((id, bif dead then .dead else .bld T e bs') :: hp) := by
 intro m β w vs himm _ hargs hown hpriv hinj hhid hnx
 have hlid : hget hp id ≠ .dead := by rw [ho]; simp
 have hv0 : 0 < vs.size := by rw [← hargs.len]; exact (List.getElem?_eq_some_iff.1 hargs0).1
 have hp0 := hargs.at' 0 _ _ hargs0 (Array.getElem?_eq_getElem hv0)
 generalize hu0 : vs[0] = u0 at hp0
 cases hp0 with
 | imm h => cases h
 | @ptr _ _ _ _ b cap hb =>
  have hob := hown id
  rw [hb, ho] at hob
  obtain ⟨hoff, _, p, v, hbk, hpp, hbuf⟩ := hob
  rw [hoff] at hu0
  have hbw : BufAt e b v bs w := hbuf.imp (fun x => x) fun ⟨g, c, cur, a1, a2, a3, a4⟩ => ⟨g, c, cur, a1, a3, a4⟩
  have hgB : ∀ g, v.ownBlock = some g → β.hid id g := by
   intro g hg
   rcases hbuf with ⟨rfl, _⟩ | ⟨g', c, cur, rfl, a2, _⟩
   ·simp [Value.ownBlock] at hg
   ·simp [Value.ownBlock] at hg; subst hg; exact a2
  have hblt : b < w.heap.size := lt_of_some hbk
  refine (hC b p v w vs hargs.len.symm (by rw [Array.getElem?_eq_getElem hv0, hu0]) (fun i c u h1 h2 => (hargs.at' _ _ _ h1 h2).of_con) hbk hpp hbw).mono ?_
  rintro ex w' ⟨rfl, p', v', hnew, hkeep, hsz, hsame, hgs⟩
  generalize hob2 : (bif dead then Ob.dead else Ob.bld T e bs') = ob2
  have hg : ∀ q, hget ((id, ob2) :: hp) q = if id = q then ob2 else hget hp q := fun q => hget_put _ _ _ _
  have hlive : ∀ q, hget ((id, ob2) :: hp) q ≠ .dead → hget hp q ≠ .dead := fun q hq => by
   rw [hg] at hq
   split at hq
   ·rename_i hh; subst hh; exact hlid
   ·exact hq
  have hmn : ∀ x, w.heap.size ≤ x → m x = none := fun x hx => by
   cases hmx : m x with
   | none => rfl
   | some o => have := lt_of_some (himm x o hmx); omega
  have hllt : ∀ q b c, hget hp q ≠ .dead → β q = some (some (b, c)) → b < w.heap.size := fun q b c hq hb' => by
   exact live_lt hq hb' (hown q)
  have hkp : ∀ k, k < w.heap.size → k ≠ b → ¬ β.hid id k → w'.heap[k]? = w.heap[k]? := fun k h1 h2 h3 => hkeep k h1 h2 fun h => h3 (hgB k h)
  let β' : Locs := ⟨β.f, fun i x => if i = id then v'.ownBlock = some x else β.hid i x⟩
  have hhi : ∀ i x, i ≠ id → (β'.hid i x ↔ β.hid i x) := fun i x h => by simp [β', h]
  have hhid' : ∀ x, β'.hid id x ↔ v'.ownBlock = some x := fun x => by simp [β']
  refine ⟨rv, m, β', rfl, hd _ _, Mem.le_refl _, ?_, ?_, hsz, hsame, ?_, ?_, ?_, ?_, hnx, fun q hq => ⟨hq, rfl⟩⟩
  ·intro x o hx
   have hx1 := himm x o hx
   rw [hkp x (lt_of_some hx1) (fun e => by rw [e, hpriv id b cap hlid hb] at hx; cases hx) (fun h => by rw [(hhid id x hlid h).2.1] at hx; cases hx)]
   exact hx1
  ·intro x hx hF
   exact ⟨rfl, hkp x hx (fun e => (hF id hlid).1 cap (by rw [e]; exact hb)) (hF id hlid).2⟩
  ·intro q
   rw [hg]
   split
   ·rename_i hh
    subst hh
    cases dead with
    | true => simp at hob2; subst hob2; exact ObOk.dead' _
    | false =>
     simp at hob2; subst hob2
     obtain ⟨n1, n2, n3⟩ := hnew rfl
     show ObOk m β' w' (β'.hid id) (β id) _
     rw [hb]
     refine ⟨hoff, hTe, p', v', n1, n2, n3.imp (fun x => x) ?_⟩
     rintro ⟨g, c, cur, a1, a2, a3, a4⟩
     exact ⟨g, c, cur, a1, (hhid' g).2 (by rw [a1]; rfl), a2, a3, a4⟩
   ·rename_i hh
    have hBq : β'.hid q = β.hid q := by funext x; exact propext (hhi q x (Ne.symm hh))
    rw [hBq]
    by_cases hqd : hget hp q = .dead
    ·rw [hqd]; exact ObOk.dead' _
    refine ObOk.mono (m := m) (β := β) (β' := β') (w := w') (Mem.le_refl _) (fun _ _ h => h) (fun _ _ h => h) (fun _ _ => rfl) (ObOk.congr (w := w) ?_ ?_ (hown q))
    ·intro b1 c1 hb1
     exact hkp b1 (hllt q b1 c1 hqd hb1) (fun e => hh (hinj _ _ _ _ _ hlid hqd hb (by rw [← e]; exact hb1))) (fun h => (hhid id b1 hlid h).2.2.1 q b1 c1 hqd hb1 rfl)
    ·intro x hx
     have hx' := hhid q x hqd hx
     exact hkp x hx'.1 (hx'.2.2.1 id b cap hlid hb) (fun h => hh (hx'.2.2.2 id hlid h))
  ·intro q b1 c1 hq hb1
   have hq := hlive q hq
   exact ⟨hpriv q b1 c1 hq hb1, fun _ hF => (hF q hq).1 c1 hb1⟩
  ·intro q q' b1 c1 c1' hq hq'
   exact hinj q q' b1 c1 c1' (hlive q hq) (hlive q' hq')
  ·intro q x hq hx
   by_cases hqi : q = id
   ·subst hqi
    have hx1 := (hhid' x).1 hx
    rw [hg, if_pos rfl] at hq
    have hdf : dead = false := by
     cases dead with
     | true => simp at hob2; exact absurd hob2.symm hq
     | false => rfl
    obtain ⟨n1, n2, n3⟩ := hnew hdf
    have hxs : x < w'.heap.size := by
     rcases n3 with ⟨rfl, _⟩ | ⟨g, c, cur, rfl, _, a3, _⟩
     ·simp [Value.ownBlock] at hx1
     ·simp [Value.ownBlock] at hx1; subst hx1; exact lt_of_some a3
    rcases hgs x hx1 with h | h
    ·have hxq := hhid q x hlid (hgB x h)
     refine ⟨hxs, hxq.2.1, fun _ hF => (hF q hlid).2 (hgB x h), fun i b1 c1 hi => hxq.2.2.1 i b1 c1 (hlive i hi), fun i hi hix => ?_⟩
     by_cases hii : i = q
     ·exact hii
     ·exact hxq.2.2.2 i (hlive i hi) ((hhi i x hii).1 hix)
    ·refine ⟨hxs, hmn x h, fun h' => by omega, fun i b1 c1 hi hb1 e => ?_, fun i hi hix => ?_⟩
     ·have := hllt i b1 c1 (hlive i hi) hb1; omega
     ·by_cases hii : i = q
      ·exact hii
      ·have := (hhid i x (hlive i hi) ((hhi i x hii).1 hix)).1; omega
   ·have hx1 := (hhi q x hqi).1 hx
    have hq1 := hlive q hq
    have hxq := hhid q x hq1 hx1
    refine ⟨by omega, hxq.2.1, fun _ hF => (hF q hq1).2 hx1, fun i b1 c1 hi => hxq.2.2.1 i b1 c1 (hlive i hi), fun i hi hix => ?_⟩
    by_cases hii : i = id
    ·subst hii
     rcases hgs x ((hhid' x).1 hix) with h | h
     ·exact hxq.2.2.2 i hlid (hgB x h)
     ·omega
    ·exact hxq.2.2.2 i (hlive i hi) ((hhi i x hii).1 hix)
theorem mut_bldW {gl : Gl} (L : Lays.n166 P ρ) (X : Builder.Extra P ρ) {id k : Nat} {hp : Heap} {bs s : List UInt8} (ho : hget hp id = .bld (ρ.t 72) (ρ.t 5) bs) (hl : bs.length + s.length ≤ 140737488355328) :
  MutG gl P (ρ.f 166) [.ptr id 2 0 0, .con (.string ⟨s.toArray⟩)] k hp (.tup [.con (.int .i64 s.length), .con .nilIface]) k ((id, .bld (ρ.t 72) (ρ.t 5) (bs ++ s)) :: hp) := by
 refine mut_bld (bs' := bs ++ s) (rv := .tuple #[.int .i64 s.length, .nilIface]) false X.neB5 ho rfl (fun b p v w vs h1 h2 h3 h4 h5 h6 => ?_) (fun m β => .imm (.tup rfl ?_)) (fun i x hx => ?_)
 ·obtain ⟨x, y, rfl⟩ := two_of' (vs := vs) h1
  have hx : x = .pointer (some ⟨b, 0, none⟩) := by simpa using h2
  have hy := h3 0 (.string ⟨s.toArray⟩) y rfl rfl
  subst hx hy
  refine (bld_write L X b p v bs s w h4 h5 h6 hl).mono ?_
  rintro e w' ⟨rfl, v', q1, q2, q3, q4, q5, q6⟩
  exact ⟨rfl, _, v', fun _ => ⟨q1, .inr rfl, q2⟩, q3, q4, q5, q6⟩
 ·intro i c v hc hv
  match i with
  | 0 => simp at hc hv; subst hc hv; exact .con _
  | 1 => simp at hc hv; subst hc hv; exact .con _
  | i + 2 => simp at hc
 ·match i with
  | 0 => simp at hx; exact ⟨_, hx.symm⟩
  | i + 1 => simp at hx
theorem mut_bldL {gl : Gl} (L : Lays.n170 P ρ) (hTe : ρ.t 72 ≠ ρ.t 5) {id k : Nat} {hp : Heap} {bs : List UInt8} (ho : hget hp id = .bld (ρ.t 72) (ρ.t 5) bs) :
  MutG gl P (ρ.f 170) [.ptr id 2 0 0] k hp (.con (.int .i64 bs.length)) k ((id, .bld (ρ.t 72) (ρ.t 5) bs) :: hp) := by
 refine mut_bld (bs' := bs) (rv := .int .i64 bs.length) false hTe ho rfl (fun b p v w vs h1 h2 h3 h4 h5 h6 => ?_) (fun m β => .imm (.con _)) (fun i x hx => by simp at hx)
 obtain ⟨x, rfl⟩ := one_of (vs := vs) h1
 have hx : x = .pointer (some ⟨b, 0, none⟩) := by simpa using h2
 subst hx
 have hB : Lib.BuilderAt (ρ.t 72) (ρ.t 5) 0 b p (bs.map fun x => Value.int .u8 (x.toNat : Int)) w := by
  refine ⟨Nat.zero_le _, v, h4, ⟨by simp, ?_⟩, ?_⟩
  ·rcases h6 with ⟨rfl, rfl⟩ | ⟨g, c, cur, rfl, a2, a3, a4, a5, a6, a7, a8⟩
   ·exact .inl ⟨rfl, rfl⟩
   ·refine .inr ⟨g, c, cur, by simp, Nat.zero_le _, a3, by simpa using a5, a6, by simpa using a4, ?_⟩
    apply List.ext_getElem?
    intro i
    rw [List.getElem?_take, List.getElem?_map]
    split
    ·rename_i hi
     have hi' : i < bs.length := by simpa using hi
     rw [List.getElem?_eq_getElem hi', Array.getElem?_toList, a8 i _ (List.getElem?_eq_getElem hi')]; rfl
    ·rename_i hi
     rw [List.getElem?_eq_none (by simpa using hi)]; rfl
  ·rcases h6 with ⟨rfl, rfl⟩ | ⟨g, c, cur, rfl, a2, _⟩
   ·simp [Value.ownBlock]
   ·simpa [Value.ownBlock] using a2
 refine (Any.Builder_Len L 0 b _ w (by rcases h5 with rfl | rfl; exact .inl hB; exact .inr hB)).mono ?_
 rintro e w' ⟨rfl, rfl⟩
 exact ⟨by simp, p, v, fun _ => ⟨h4, h5, h6⟩, fun _ _ _ _ => rfl, Nat.le_refl _, ⟨rfl, rfl, rfl, trivial⟩, fun g hg => .inl hg⟩
theorem mut_bldS {gl : Gl} (L : Lays.n169 P ρ) (X : Builder.Extra P ρ) {id k : Nat} {hp : Heap} {bs : List UInt8} (ho : hget hp id = .bld (ρ.t 72) (ρ.t 5) bs) :
  MutG gl P (ρ.f 169) [.ptr id 2 0 0] k hp (.con (.string ⟨bs.toArray⟩)) k ((id, .dead) :: hp) := by
 refine mut_bld (bs' := bs) (rv := .string ⟨bs.toArray⟩) true X.neB5 ho rfl (fun b p v w vs h1 h2 h3 h4 h5 h6 => ?_) (fun m β => .imm (.con _)) (fun i x hx => by simp at hx)
 obtain ⟨x, rfl⟩ := one_of (vs := vs) h1
 have hx : x = .pointer (some ⟨b, 0, none⟩) := by simpa using h2
 subst hx
 refine (bld_string L X b p v bs w h4 h6).mono ?_
 rintro e w' ⟨rfl, q1, q2, q3⟩
 exact ⟨rfl, p, v, fun h => (by cases h), fun k _ _ hk => q1 k hk, by omega, q3, fun g hg => .inl hg⟩
end
section
variable {K : Ctx} {Q : Post} {S : St}
variable {m : Mem} {β : Locs} {w : World} {a : Act}
variable {ops : Array Oper} {rest : List Oper} {ty : TypeId} {pos : String} {after : Array Edge} {g : Option (Nat × Bool)}
theorem aops_allocBld {d : Nat} {T : TypeId} (e : Nat) (hTe : Nat.beq T e = false) (hz : zeroCells K.P T = some [.pointer none, .slice none 0 0]) (hw : Wants ops S ⟨some d, .alloc T, ty, pos, after, g⟩ true)
  (hN : Nat.blt d K.N = true)
  (kk : AOps K ops rest Q ⟨(d, .ptr S.nx 2 0 0) :: S.env, (S.nx, .bld T e []) :: S.hp, S.nx + 1⟩) :
  AOps K ops (⟨some d, .alloc T, ty, pos, after, g⟩ :: rest) Q S := by
 refine aops_runs hw (fun m β w a r => ?_) kk
 obtain ⟨z, hz1, hz2⟩ := zero_run hz w
 obtain ⟨β', hle, hn, r'⟩ := r.alloc (.cells z.cells T) (.bld T e []) ⟨1, 0⟩ _ rfl (fun β' hle => by
  refine ⟨rfl, fun h => by rw [h] at hTe; simp at hTe, .pointer none, .slice none 0 0, ?_, .inl rfl, .inl ⟨rfl, rfl⟩⟩
  simp only [Array.getElem?_push, if_true, hz2])
 refine ⟨.pointer (some ⟨w.heap.size, 0, none⟩), { w with heap := w.heap.push (.cells z.cells T) }, m, β', .inl ?_, ?_⟩
 rotate_left
 ·exact Rel.put r' hN (by have := VRel.ptr (m := m) (k := 2) (i := 0) (off := 0) hn; simpa using this)
 ·simp only [execOp, Instr.alloc]
  simp only [Sem.run_bind, hz1, Result.andThen_ok]
  rfl
theorem aops_appendT_at {d T T' e bytes n n' id nx : Nat} {s x : Operand} {txt : List UInt8} {rows : List (List V)} (idn : Nat) (hid : (Nat.blt idn nx && Nat.ble K.pins idn) = true) (hnxx : S.nx = nx) (hres : hget S.hp idn = .res) (rows' : List (List V)) (hT : tyEl K.P T e 1 bytes = true) (hT' : tyStr K.P T' = true)
  (hpos : Nat.blt 0 bytes = true)
  (hw : Wants ops S ⟨some d, .call ⟨.builtin .append, #[s, x], #[T, T']⟩, ty, pos, after, g⟩ true)
  (hs : evl K S s = .own id n) (ho : hget S.hp id = .arr e 1 rows) (hn : rows.length = n) (hx : evl K S x = .con (.string ⟨txt.toArray⟩))
  (hr : rows ++ (txt.map fun c => [V.con (.int .u8 (c.toNat : Int))]) = rows') (hn' : rows'.length = n') (hb : n' * bytes ≤ 140737488355328) (hN : Nat.blt d K.N = true)
  (kk : AOps K ops rest Q ⟨(d, .own idn n') :: S.env, (idn, .arr e 1 rows') :: (id, .dead) :: S.hp, S.nx⟩) :
  AOps K ops (⟨some d, .call ⟨.builtin .append, #[s, x], #[T, T']⟩, ty, pos, after, g⟩ :: rest) Q S :=
 aops_appendG idn S.nx (fun _ _ _ _ r => ⟨r.free hres, fun q hq => by have := Nat.le_of_ble_eq_true (Bool.and_eq_true_iff.1 hid).2; omega⟩) (by rw [hnxx]; exact Nat.le_of_ble_eq_true (Bool.and_eq_true_iff.1 hid).1) (Nat.le_refl _) _ rows' hT (by unfold tyStr at hT'; unfold tySS; split at hT' <;> simp_all) hpos rfl hw hs ho hn hx (.str rfl rfl) hr hn' (.inl hb) hN kk
end
theorem hU {σ : List Nat} {hp T : Heap} {id t e : Nat} {l : List UInt8} (hn : Nat.blt id σ.length = true) (h : hget hp (sg σ id) = .bld t e l) (r : HS σ hp T) : HS σ hp ((id, .bld t e l) :: T) :=
 .cons hn (by rw [h]; exact ObSub.bld) r
end Go.Pv
namespace Go.Pv
open Go Go.RowKit
set_option linter.unusedVariables false
theorem rows_txt (enc : Int → List V) (xs : List Int) (s : List UInt8) (h : ∀ x, enc x = [V.con (.int .u8 x)]) : xs.map enc ++ (s.map fun c => [V.con (.int .u8 (c.toNat : Int))]) = (xs ++ s.map fun c => (c.toNat : Int)).map enc := by
 rw [List.map_append, List.map_map]; congr 1; apply List.map_congr_left; intro x _; exact (h _).symm
theorem irel_strs {m : Mem} {w : World} {xs : List (List UInt8)} {enc : List UInt8 → List V} {v : Value} (he : ∀ x, enc x = [sV x]) (himm : ∀ (b : Nat) o, m b = some o → w.heap[b]? = some o) (h : IRel m (.lst 1 (xs.map enc)) v) :
  (∃ a cap, v = .slice a 0 cap ∧ xs = []) ∨ ∃ bk o c, v = .slice (some ⟨bk, o, none⟩) xs.length c ∧ xs.length ≤ c ∧ bk < w.heap.size ∧ ∀ (j : Nat) x, xs[j]? = some x → w.cell? ⟨bk, o + j, none⟩ = some (.string ⟨x.toArray⟩) := by
 generalize hr : xs.map enc = rows at h
 cases h with
 | nil k a cap => exact .inl ⟨a, cap, rfl, by simpa using hr⟩
 | @lst _ _ a n cap arr T fr f hm hs hn hcap hbd hk hf h =>
  subst hr
  have hl : xs.length = n := by simpa using hn
  subst hl
  obtain ⟨bk, o, sp⟩ := a
  simp only at hs hm hf
  subst hs
  have hh := himm _ _ hm
  refine .inr ⟨bk, o, cap, rfl, hcap, lt_of_some hh, fun j x hx => ?_⟩
  have hj : j < xs.length := (List.getElem?_eq_some_iff.1 hx).1
  have h1 := h j 0 (enc x) (sV x) (by rw [List.getElem?_map, hx]; rfl) (by rw [he]; rfl)
  have h2 := hf j (by simpa using hj)
  have h3 : f (j * 1 + 0) = .string ⟨x.toArray⟩ := VRel.of_con (m := m) (β := ⟨fun _ => none, fun _ _ => False⟩) (.imm h1)
  simp only [Nat.mul_one, Nat.add_zero] at h3
  simp only [World.cell?, hh]
  rw [h2, h3]; rfl
theorem pure_join {gl : Gl} {P : Program} {f : FuncId} {xs : List (List UInt8)} {sep : List UInt8} {enc : List UInt8 → List V} (he : ∀ x, enc x = [sV x]) (hN : xs.length ≤ 140737488355328) (hl : (Lib.join xs sep).length ≤ 140737488355328)
  (h0 : ∀ (a : Option Addr) (c : Nat) (w : World), Calls P f #[.slice a 0 c, .string ⟨sep.toArray⟩] w fun e w' => e = .returned (.string ⟨#[]⟩) ∧ w' = w)
  (h : ∀ (bk o c : Nat) (w : World), (∀ (j : Nat) x, (xs.map fun x => (⟨x.toArray⟩ : ByteArray))[j]? = some x → w.cell? ⟨bk, o + j, none⟩ = some (.string x)) → bk < w.heap.size → (xs.map fun x => (⟨x.toArray⟩ : ByteArray)).length ≤ 140737488355328 → (xs.map fun x => (⟨x.toArray⟩ : ByteArray)).length ≤ c →
   (Lib.join ((xs.map fun x => (⟨x.toArray⟩ : ByteArray)).map (·.data.toList)) (⟨sep.toArray⟩ : ByteArray).data.toList).length ≤ 140737488355328 →
   Calls P f #[.slice (some ⟨bk, o, none⟩) (xs.map fun x => (⟨x.toArray⟩ : ByteArray)).length c, .string ⟨sep.toArray⟩] w fun e w' => e = .returned (.string ⟨(Lib.join ((xs.map fun x => (⟨x.toArray⟩ : ByteArray)).map (·.data.toList)) (⟨sep.toArray⟩ : ByteArray).data.toList).toArray⟩) ∧ Below w.heap.size w w') :
  PureG gl P f [V.lst 1 (xs.map enc), sV sep] (sV (Lib.join xs sep)) := by
 intro m w vs himm _ hargs
 obtain ⟨v, u, rfl⟩ := two_of' (vs := vs) hargs.len.symm
 have hv := hargs.at' 0 _ _ rfl rfl
 have hu : u = .string ⟨sep.toArray⟩ := by have := hargs.at' 1 _ _ rfl rfl; cases this; rfl
 subst hu
 have hm : (xs.map fun x => (⟨x.toArray⟩ : ByteArray)).map (·.data.toList) = xs := by
  rw [List.map_map]; conv => rhs; rw [← List.map_id xs]
  apply List.map_congr_left; intro x _; simp
 rcases irel_strs he himm hv with ⟨a, cap, rfl, rfl⟩ | ⟨bk, o, c, rfl, hc, hb, hcells⟩
 ·refine (h0 a cap w).mono ?_
  rintro e w' ⟨rfl, rfl⟩
  exact ⟨_, m, rfl, .con _, grew_below himm (Below.refl _ _) trivial⟩
 ·have := h bk o c w (fun j x hx => by
   rw [List.getElem?_map] at hx
   cases hj : xs[j]? with
   | none => rw [hj] at hx; cases hx
   | some y => rw [hj] at hx; cases hx; exact hcells j y hj) hb (by simpa using hN) (by simpa using hc) (by rw [hm]; simpa using hl)
  rw [hm] at this
  rw [List.length_map] at this
  refine this.mono ?_
  rintro e w' ⟨rfl, hbl⟩
  exact ⟨_, m, rfl, .con _, grew_below himm hbl trivial⟩
end Go.Pv
namespace Go.Proofs.YtcoppoeibjkinaaDoor
open Go Go.Pv
set_option linter.unusedVariables false
set_option maxRecDepth 100000
variable {mx : Int}
theorem mixed : Tryd.prog.follows .mixedOrders = true := by kernel_rfl
structure TExposure where
 Advisory : (List UInt8)
 Component : (List UInt8)
 Severity : Int
 deriving DecidableEq
structure TRelease where
 Version : (List UInt8)
 Day : Int
 Exposures : (List TExposure)
 deriving DecidableEq
structure TPublished where
 Advisory : (List UInt8)
 Day : Int
 Ended : Int
 deriving DecidableEq
structure TStory where
 Product : (List UInt8)
 Releases : (List TRelease)
 Known : (List TPublished)
 Until : Int
 deriving DecidableEq
structure Thistory_key where
 advisory : (List UInt8)
 component : (List UInt8)
 deriving DecidableEq
structure TCalendar where
 Free : (List Int)
 Holidays : (List Int)
 deriving DecidableEq
structure Thistory_week where
 free : (Nat → Bool)
 work : Int
 holidays : (List Int)
def tab1 : Nat → Int := fun i => ([1, 10, 100, 1000, 10000, 100000, 1000000, 10000000, 100000000, 1000000000, 10000000000, 100000000000, 1000000000000, 10000000000000, 100000000000000, 1000000000000000, 10000000000000000, 100000000000000000, 1000000000000000000, 10000000000000000000] : List Int).getD i 0
def gl (mx : Int) : Gl := [(0, [V.con (.int .i64 mx)]), (1, [V.con (.int .u64 (tab1 0)), V.con (.int .u64 (tab1 1)), V.con (.int .u64 (tab1 2)), V.con (.int .u64 (tab1 3)), V.con (.int .u64 (tab1 4)), V.con (.int .u64 (tab1 5)), V.con (.int .u64 (tab1 6)), V.con (.int .u64 (tab1 7)), V.con (.int .u64 (tab1 8)), V.con (.int .u64 (tab1 9)), V.con (.int .u64 (tab1 10)), V.con (.int .u64 (tab1 11)), V.con (.int .u64 (tab1 12)), V.con (.int .u64 (tab1 13)), V.con (.int .u64 (tab1 14)), V.con (.int .u64 (tab1 15)), V.con (.int .u64 (tab1 16)), V.con (.int .u64 (tab1 17)), V.con (.int .u64 (tab1 18)), V.con (.int .u64 (tab1 19))])]
def encI_i64 (x : Int) : List V := [(iV x)]
theorem imms_encI_i64 (x : Int) : Imms (encI_i64 x) := (.cons (Imm.con _) .nil)
theorem one_encI_i64 (x : Int) : (encI_i64 x).all oneV = true := rfl
instance : EI encI_i64 := ⟨imms_encI_i64, one_encI_i64⟩
def encI_u8 (x : Int) : List V := [(V.con (.int .u8 x))]
theorem imms_encI_u8 (x : Int) : Imms (encI_u8 x) := (.cons (Imm.con _) .nil)
theorem one_encI_u8 (x : Int) : (encI_u8 x).all oneV = true := rfl
instance : EI encI_u8 := ⟨imms_encI_u8, one_encI_u8⟩
def encS (x : (List UInt8)) : List V := [(sV x)]
theorem imms_encS (x : (List UInt8)) : Imms (encS x) := (.cons (Imm.con _) .nil)
theorem one_encS (x : (List UInt8)) : (encS x).all oneV = true := rfl
instance : EI encS := ⟨imms_encS, one_encS⟩
def encTExposure (x : TExposure) : List V := [(sV x.Advisory), (sV x.Component), (iV x.Severity)]
theorem imms_encTExposure (x : TExposure) : Imms (encTExposure x) := (.cons (Imm.con _) (.cons (Imm.con _) (.cons (Imm.con _) .nil)))
theorem one_encTExposure (x : TExposure) : (encTExposure x).all oneV = true := rfl
instance : EI encTExposure := ⟨imms_encTExposure, one_encTExposure⟩
@[simp] theorem len_encTExposure (x : TExposure) : (encTExposure x).length = 3 := rfl
def encTRelease (x : TRelease) : List V := [(sV x.Version), (iV x.Day), (V.lst 3 (x.Exposures.map encTExposure))]
theorem imms_encTRelease (x : TRelease) : Imms (encTRelease x) := (.cons (Imm.con _) (.cons (Imm.con _) (.cons (Imm.lst _ _) .nil)))
theorem one_encTRelease (x : TRelease) : (encTRelease x).all oneV = true := rfl
instance : EI encTRelease := ⟨imms_encTRelease, one_encTRelease⟩
@[simp] theorem len_encTRelease (x : TRelease) : (encTRelease x).length = 3 := rfl
def encTPublished (x : TPublished) : List V := [(sV x.Advisory), (iV x.Day), (iV x.Ended)]
theorem imms_encTPublished (x : TPublished) : Imms (encTPublished x) := (.cons (Imm.con _) (.cons (Imm.con _) (.cons (Imm.con _) .nil)))
theorem one_encTPublished (x : TPublished) : (encTPublished x).all oneV = true := rfl
instance : EI encTPublished := ⟨imms_encTPublished, one_encTPublished⟩
@[simp] theorem len_encTPublished (x : TPublished) : (encTPublished x).length = 3 := rfl
def encTStory (x : TStory) : List V := [(sV x.Product), (V.lst 3 (x.Releases.map encTRelease)), (V.lst 3 (x.Known.map encTPublished)), (iV x.Until)]
theorem imms_encTStory (x : TStory) : Imms (encTStory x) := (.cons (Imm.con _) (.cons (Imm.lst _ _) (.cons (Imm.lst _ _) (.cons (Imm.con _) .nil))))
theorem one_encTStory (x : TStory) : (encTStory x).all oneV = true := rfl
instance : EI encTStory := ⟨imms_encTStory, one_encTStory⟩
@[simp] theorem len_encTStory (x : TStory) : (encTStory x).length = 4 := rfl
def encTCalendar (x : TCalendar) : List V := [(V.lst 1 (x.Free.map encI_i64)), (V.lst 1 (x.Holidays.map encI_i64))]
theorem imms_encTCalendar (x : TCalendar) : Imms (encTCalendar x) := (.cons (Imm.lst _ _) (.cons (Imm.lst _ _) .nil))
theorem one_encTCalendar (x : TCalendar) : (encTCalendar x).all oneV = true := rfl
instance : EI encTCalendar := ⟨imms_encTCalendar, one_encTCalendar⟩
@[simp] theorem len_encTCalendar (x : TCalendar) : (encTCalendar x).length = 2 := rfl
def encThistory_key (x : Thistory_key) : List V := [(sV x.advisory), (sV x.component)]
theorem imms_encThistory_key (x : Thistory_key) : Imms (encThistory_key x) := (.cons (Imm.con _) (.cons (Imm.con _) .nil))
theorem one_encThistory_key (x : Thistory_key) : (encThistory_key x).all oneV = true := rfl
instance : EI encThistory_key := ⟨imms_encThistory_key, one_encThistory_key⟩
@[simp] theorem len_encThistory_key (x : Thistory_key) : (encThistory_key x).length = 2 := rfl
def dencTRelease (x : TRelease) : List V := [(sV x.Version), (iV x.Day), (V.dsl 66 3 (x.Exposures.map encTExposure))]
theorem und_dencTRelease : UndE dencTRelease encTRelease := fun x => (.cons (und_con _) (.cons (und_con _) (.cons (und_dsl _ _ imms_encTExposure _) .nil)))
@[simp] theorem len_dencTRelease (x : TRelease) : (dencTRelease x).length = 3 := rfl
instance : EK dencTRelease := ⟨fun x c hc => by
 obtain ⟨j, hj⟩ := List.getElem?_of_mem hc
 have hl := (List.getElem?_eq_some_iff.1 hj).1
 rw [(und_dencTRelease x).1] at hl
 exact ((und_dencTRelease x).2 j c _ hj (List.getElem?_eq_getElem hl)).2⟩
theorem eqp9 {d : Nat} : EqOk Tryd.prog (d + 1) 9 1 false (fun l => ∃ n, l = [.string n]) := eqOk_str (show Tryd.prog.underlying 9 = some (.string) by kernel_rfl) (show tyC Tryd.prog 9 = true by kernel_rfl)
theorem eqp3 {d : Nat} : EqOk Tryd.prog (d + 1) 3 1 false (fun l => ∃ n, l = [.int .i64 n]) := eqOk_int (show Tryd.prog.underlying 3 = some (.int .i64) by kernel_rfl) (show tyC Tryd.prog 3 = true by kernel_rfl)
def cv66 (x : TExposure) : List Value := [str x.Advisory] ++ ([str x.Component] ++ ([.int .i64 x.Severity] ++ []))
theorem inj_cv66 (x y : TExposure) (h : cv66 x = cv66 y) : x = y := by
 obtain ⟨h0, h⟩ := List.append_inj h rfl
 obtain ⟨h1, h⟩ := List.append_inj h rfl
 obtain ⟨h2, h⟩ := List.append_inj h rfl
 obtain ⟨a0, a1, a2⟩ := x
 obtain ⟨b0, b1, b2⟩ := y
 obtain rfl : a0 = b0 := inj_str _ _ (List.cons.inj h0).1
 obtain rfl : a1 = b1 := inj_str _ _ (List.cons.inj h1).1
 obtain rfl : a2 = b2 := inj_int _ _ (List.cons.inj h2).1
 rfl
theorem eqp66 {d : Nat} : EqOk Tryd.prog (d + 2) 66 3 true (fun l => ∃ x : TExposure, l = cv66 x) := (eqOk_struct (d := d + 1) (fs := [(Field.mk "Advisory" 9 0 false "" "" 0), (Field.mk "Component" 9 1 false "" "" 16), (Field.mk "Severity" 3 2 false "" "" 32)]) (by kernel_rfl) (by kernel_rfl) (by kernel_rfl) (by kernel_rfl) (eqF_cons eqp9 (by simp) rfl (by simp) (eqF_cons eqp9 (by simp) rfl (by simp) (eqF_cons eqp3 (by simp) rfl (by simp) eqF_nil)))).weaken (fun l ⟨x, hx⟩ => by subst hx; exact ⟨_, _, rfl, ⟨_, rfl⟩, ⟨_, _, rfl, ⟨_, rfl⟩, ⟨_, _, rfl, ⟨_, rfl⟩, rfl⟩⟩⟩)
theorem eqk66 : EqOk Tryd.prog 10000 66 3 true (fun l => ∃ x : TExposure, l = cv66 x) := eqp66 (d := 9998)
def cv51 (x : TPublished) : List Value := [str x.Advisory] ++ ([.int .i64 x.Day] ++ ([.int .i64 x.Ended] ++ []))
theorem inj_cv51 (x y : TPublished) (h : cv51 x = cv51 y) : x = y := by
 obtain ⟨h0, h⟩ := List.append_inj h rfl
 obtain ⟨h1, h⟩ := List.append_inj h rfl
 obtain ⟨h2, h⟩ := List.append_inj h rfl
 obtain ⟨a0, a1, a2⟩ := x
 obtain ⟨b0, b1, b2⟩ := y
 obtain rfl : a0 = b0 := inj_str _ _ (List.cons.inj h0).1
 obtain rfl : a1 = b1 := inj_int _ _ (List.cons.inj h1).1
 obtain rfl : a2 = b2 := inj_int _ _ (List.cons.inj h2).1
 rfl
theorem eqp51 {d : Nat} : EqOk Tryd.prog (d + 2) 51 3 true (fun l => ∃ x : TPublished, l = cv51 x) := (eqOk_struct (d := d + 1) (fs := [(Field.mk "Advisory" 9 0 false "" "" 0), (Field.mk "Day" 3 1 false "" "" 16), (Field.mk "Ended" 3 2 false "" "" 24)]) (by kernel_rfl) (by kernel_rfl) (by kernel_rfl) (by kernel_rfl) (eqF_cons eqp9 (by simp) rfl (by simp) (eqF_cons eqp3 (by simp) rfl (by simp) (eqF_cons eqp3 (by simp) rfl (by simp) eqF_nil)))).weaken (fun l ⟨x, hx⟩ => by subst hx; exact ⟨_, _, rfl, ⟨_, rfl⟩, ⟨_, _, rfl, ⟨_, rfl⟩, ⟨_, _, rfl, ⟨_, rfl⟩, rfl⟩⟩⟩)
theorem eqk51 : EqOk Tryd.prog 10000 51 3 true (fun l => ∃ x : TPublished, l = cv51 x) := eqp51 (d := 9998)
def encM9_4 (p : (List UInt8) × Bool) : Value × V := (str p.1, (bV p.2))
abbrev encM9_4_val (v : Bool) : V := (bV v)
theorem encM9_4_puts (xs : List ((List UInt8) × Bool)) (k : (List UInt8)) (v : Bool) : Puts (str k) (encM9_4_val v) (xs.map encM9_4) ((mput xs k v).map encM9_4) := puts_map (kv := fun k => str k) (ev := encM9_4_val) inj_str xs k v
theorem encM9_4_look (xs : List ((List UInt8) × Bool)) (k : (List UInt8)) : Look (str k) (xs.map encM9_4) ((mget xs k).map encM9_4_val) := look_map (kv := fun k => str k) (ev := encM9_4_val) inj_str xs k
instance : EM encM9_4 := ⟨fun _ => (Imm.con _)⟩
theorem encM9_4_good {xs : List ((List UInt8) × Bool)} : ∀ p, p ∈ xs.map encM9_4 → isStr p.1 := by
 intro p hp
 obtain ⟨x, _, rfl⟩ := List.mem_map.1 hp
 exact ⟨_, rfl⟩
theorem tS25 : tyS Tryd.prog 25 4 = true := by kernel_rfl
theorem tA25 : tyA Tryd.prog 25 4 = true := by kernel_rfl
theorem tF25_0 : tyF Tryd.prog 25 0 0 = true := by kernel_rfl
theorem tC9 : tyC Tryd.prog 9 = true := by kernel_rfl
theorem tStr9 : tyStr Tryd.prog 9 = true := by kernel_rfl
theorem fOk28 : fnOk Tryd.prog 28 = true := by kernel_rfl
theorem fOk30 : fnOk Tryd.prog 30 = true := by kernel_rfl
theorem tF25_3 : tyF Tryd.prog 25 3 3 = true := by kernel_rfl
theorem tC3 : tyC Tryd.prog 3 = true := by kernel_rfl
theorem fOk31 : fnOk Tryd.prog 31 = true := by kernel_rfl
theorem tF25_1 : tyF Tryd.prog 25 1 1 = true := by kernel_rfl
theorem tC22 : tyC Tryd.prog 22 = true := by kernel_rfl
theorem tIsSl22 : tySlice Tryd.prog 22 = true := by kernel_rfl
theorem tF25_2 : tyF Tryd.prog 25 2 2 = true := by kernel_rfl
theorem tC23 : tyC Tryd.prog 23 = true := by kernel_rfl
theorem tIsSl23 : tySlice Tryd.prog 23 = true := by kernel_rfl
theorem tSl22 : tySl Tryd.prog 22 3 = true := by kernel_rfl
theorem tA47 : tyA Tryd.prog 47 3 = true := by kernel_rfl
theorem tZ47 : zeroCells Tryd.prog 47 = some [.string ⟨#[]⟩, .int .i64 0, .slice none 0 0] := by kernel_rfl
theorem tS47 : tyS Tryd.prog 47 3 = true := by kernel_rfl
theorem tF47_0 : tyF Tryd.prog 47 0 0 = true := by kernel_rfl
theorem tMap78 : tyMap Tryd.prog 78 9 4 = true := by kernel_rfl
theorem tKey9 : KeyT Tryd.prog 9 isStr := keyT_str (by kernel_rfl)
theorem tZo4 : (Tryd.prog.info? 4).bind (·.zero) = some (.bool false) := by kernel_rfl
theorem tF47_1 : tyF Tryd.prog 47 1 1 = true := by kernel_rfl
theorem tF47_2 : tyF Tryd.prog 47 2 2 = true := by kernel_rfl
theorem tC45 : tyC Tryd.prog 45 = true := by kernel_rfl
theorem tIsSl45 : tySlice Tryd.prog 45 = true := by kernel_rfl
theorem tSl45 : tySl Tryd.prog 45 3 = true := by kernel_rfl
theorem tA66 : tyA Tryd.prog 66 3 = true := by kernel_rfl
theorem tZ66 : zeroCells Tryd.prog 66 = some [.string ⟨#[]⟩, .string ⟨#[]⟩, .int .i64 0] := by kernel_rfl
theorem tS66 : tyS Tryd.prog 66 3 = true := by kernel_rfl
theorem tF66_0 : tyF Tryd.prog 66 0 0 = true := by kernel_rfl
theorem tF66_1 : tyF Tryd.prog 66 1 1 = true := by kernel_rfl
theorem tF66_2 : tyF Tryd.prog 66 2 2 = true := by kernel_rfl
theorem tZ106 : zeroCells Tryd.prog 106 = some [.string ⟨#[]⟩, .string ⟨#[]⟩] := by kernel_rfl
theorem tPl106 : tyPlaces Tryd.prog 106 = some [(0, 1), (1, 1)] := by kernel_rfl
theorem tS106 : tyS Tryd.prog 106 2 = true := by kernel_rfl
theorem tA106 : tyA Tryd.prog 106 2 = true := by kernel_rfl
theorem fOk64 : fnOk Tryd.prog 64 = true := by kernel_rfl
theorem tF106_0 : tyF Tryd.prog 106 0 0 = true := by kernel_rfl
theorem fOk96 : fnOk Tryd.prog 96 = true := by kernel_rfl
theorem fOk83 : fnOk Tryd.prog 83 = true := by kernel_rfl
theorem tF106_1 : tyF Tryd.prog 106 1 1 = true := by kernel_rfl
theorem tIsSl39 : tySlice Tryd.prog 39 = true := by kernel_rfl
theorem tSl39 : tySl Tryd.prog 39 1 = true := by kernel_rfl
theorem fOk82 : fnOk Tryd.prog 82 = true := by kernel_rfl
theorem tEl39 : tyEl Tryd.prog 39 3 1 8 = true := by kernel_rfl
theorem tZ3 : zeroCells Tryd.prog 3 = some [.int .i64 0] := by kernel_rfl
theorem fOk63 : fnOk Tryd.prog 63 = true := by kernel_rfl
theorem fOk50 : fnOk Tryd.prog 50 = true := by kernel_rfl
theorem fOk32 : fnOk Tryd.prog 32 = true := by kernel_rfl
theorem tSl23 : tySl Tryd.prog 23 3 = true := by kernel_rfl
theorem tA51 : tyA Tryd.prog 51 3 = true := by kernel_rfl
theorem tZ51 : zeroCells Tryd.prog 51 = some [.string ⟨#[]⟩, .int .i64 0, .int .i64 0] := by kernel_rfl
theorem tS51 : tyS Tryd.prog 51 3 = true := by kernel_rfl
theorem tF51_0 : tyF Tryd.prog 51 0 0 = true := by kernel_rfl
theorem tF51_1 : tyF Tryd.prog 51 1 1 = true := by kernel_rfl
theorem tF51_2 : tyF Tryd.prog 51 2 2 = true := by kernel_rfl
theorem fOk14 : fnOk Tryd.prog 14 = true := by kernel_rfl
theorem tZ59 : zeroCells Tryd.prog 59 = some [.pointer none, .slice none 0 0] := by kernel_rfl
theorem fOk22 : fnOk Tryd.prog 22 = true := by kernel_rfl
theorem fOk21 : fnOk Tryd.prog 21 = true := by kernel_rfl
theorem fOk23 : fnOk Tryd.prog 23 = true := by kernel_rfl
theorem fOk24 : fnOk Tryd.prog 24 = true := by kernel_rfl
theorem fOk9 : fnOk Tryd.prog 9 = true := by kernel_rfl
theorem fOk35 : fnOk Tryd.prog 35 = true := by kernel_rfl
theorem fOk36 : fnOk Tryd.prog 36 = true := by kernel_rfl
theorem fOk51 : fnOk Tryd.prog 51 = true := by kernel_rfl
theorem fOk37 : fnOk Tryd.prog 37 = true := by kernel_rfl
theorem fOk38 : fnOk Tryd.prog 38 = true := by kernel_rfl
theorem fOk16 : fnOk Tryd.prog 16 = true := by kernel_rfl
theorem tZ71 : zeroCells Tryd.prog 71 = some [.slice none 0 0] := by kernel_rfl
theorem tPl71 : tyPlaces Tryd.prog 71 = some [(0, 1)] := by kernel_rfl
theorem tS71 : tyS Tryd.prog 71 1 = true := by kernel_rfl
theorem tF71_0 : tyF Tryd.prog 71 0 0 = true := by kernel_rfl
theorem tC57 : tyC Tryd.prog 57 = true := by kernel_rfl
theorem fOk45 : fnOk Tryd.prog 45 = true := by kernel_rfl
theorem tS57 : tyS Tryd.prog 57 1 = true := by kernel_rfl
theorem tEl57 : tyEl Tryd.prog 57 5 1 1 = true := by kernel_rfl
theorem tZ5 : zeroCells Tryd.prog 5 = some [.int .u8 0] := by kernel_rfl
theorem tIsSl57 : tySlice Tryd.prog 57 = true := by kernel_rfl
theorem fOk25 : fnOk Tryd.prog 25 = true := by kernel_rfl
theorem tEl35 : tyEl Tryd.prog 35 9 1 16 = true := by kernel_rfl
theorem tZ9 : zeroCells Tryd.prog 9 = some [.string ⟨#[]⟩] := by kernel_rfl
theorem tIsSl35 : tySlice Tryd.prog 35 = true := by kernel_rfl
theorem tBy57 : tyBytes Tryd.prog 57 = true := by kernel_rfl
theorem fOk10 : fnOk Tryd.prog 10 = true := by kernel_rfl
theorem tZ55 : zeroCells Tryd.prog 55 = some [.slice none 0 0, .slice none 0 0] := by kernel_rfl
theorem tPl55 : tyPlaces Tryd.prog 55 = some [(0, 1), (1, 1)] := by kernel_rfl
theorem tS55 : tyS Tryd.prog 55 2 = true := by kernel_rfl
theorem tA55 : tyA Tryd.prog 55 2 = true := by kernel_rfl
theorem tF55_0 : tyF Tryd.prog 55 0 0 = true := by kernel_rfl
theorem tC39 : tyC Tryd.prog 39 = true := by kernel_rfl
theorem tF55_1 : tyF Tryd.prog 55 1 1 = true := by kernel_rfl
theorem fOk52 : fnOk Tryd.prog 52 = true := by kernel_rfl
theorem fOk40 : fnOk Tryd.prog 40 = true := by kernel_rfl
theorem tZ85 : zeroCells Tryd.prog 85 = some [.bool false, .bool false, .bool false, .bool false, .bool false, .bool false, .bool false, .int .i64 0, .slice none 0 0] := by kernel_rfl
theorem tPl85 : tyPlaces Tryd.prog 85 = some [(0, 7), (7, 1), (8, 1)] := by kernel_rfl
theorem tS85 : tyS Tryd.prog 85 9 = true := by kernel_rfl
theorem tF85_0 : tyF Tryd.prog 85 0 0 = true := by kernel_rfl
theorem tArr83 : tyArr Tryd.prog 83 7 1 = true := by kernel_rfl
theorem tS4 : tyS Tryd.prog 4 1 = true := by kernel_rfl
theorem tC4 : tyC Tryd.prog 4 = true := by kernel_rfl
theorem tF85_2 : tyF Tryd.prog 85 2 8 = true := by kernel_rfl
theorem tS39 : tyS Tryd.prog 39 1 = true := by kernel_rfl
theorem tA85 : tyA Tryd.prog 85 9 = true := by kernel_rfl
theorem fOk41 : fnOk Tryd.prog 41 = true := by kernel_rfl
theorem tF85_1 : tyF Tryd.prog 85 1 7 = true := by kernel_rfl
theorem tI108 : tyI Tryd.prog 108 .u64 = true := by kernel_rfl
theorem tUn3 : tyU Tryd.prog 3 = true := by kernel_rfl
theorem tI3 : tyI Tryd.prog 3 .i64 = true := by kernel_rfl
theorem tUn108 : tyU Tryd.prog 108 = true := by kernel_rfl
theorem fOk84 : fnOk Tryd.prog 84 = true := by kernel_rfl
theorem fOk65 : fnOk Tryd.prog 65 = true := by kernel_rfl
theorem fOk66 : fnOk Tryd.prog 66 = true := by kernel_rfl
theorem fOk53 : fnOk Tryd.prog 53 = true := by kernel_rfl
theorem fOk42 : fnOk Tryd.prog 42 = true := by kernel_rfl
theorem fOk20 : fnOk Tryd.prog 20 = true := by kernel_rfl
theorem fOk8 : fnOk Tryd.prog 8 = true := by kernel_rfl
theorem tZ25 : zeroCells Tryd.prog 25 = some [.string ⟨#[]⟩, .slice none 0 0, .slice none 0 0, .int .i64 0] := by kernel_rfl
theorem tPl25 : tyPlaces Tryd.prog 25 = some [(0, 1), (1, 1), (2, 1), (3, 1)] := by kernel_rfl
theorem fOk11 : fnOk Tryd.prog 11 = true := by kernel_rfl
theorem tSl35 : tySl Tryd.prog 35 1 = true := by kernel_rfl
theorem fOk49 : fnOk Tryd.prog 49 = true := by kernel_rfl
theorem fOk29 : fnOk Tryd.prog 29 = true := by kernel_rfl
theorem fOk13 : fnOk Tryd.prog 13 = true := by kernel_rfl
theorem tPl47 : tyPlaces Tryd.prog 47 = some [(0, 1), (1, 1), (2, 1)] := by kernel_rfl
theorem tS22 : tyS Tryd.prog 22 1 = true := by kernel_rfl
theorem tEl22 : tyEl Tryd.prog 22 47 3 48 = true := by kernel_rfl
theorem tPl51 : tyPlaces Tryd.prog 51 = some [(0, 1), (1, 1), (2, 1)] := by kernel_rfl
theorem tS3 : tyS Tryd.prog 3 1 = true := by kernel_rfl
theorem tS23 : tyS Tryd.prog 23 1 = true := by kernel_rfl
theorem tEl23 : tyEl Tryd.prog 23 51 3 32 = true := by kernel_rfl
theorem fOk27 : fnOk Tryd.prog 27 = true := by kernel_rfl
theorem tPl66 : tyPlaces Tryd.prog 66 = some [(0, 1), (1, 1), (2, 1)] := by kernel_rfl
theorem tEl45 : tyEl Tryd.prog 45 66 3 40 = true := by kernel_rfl
theorem tS45 : tyS Tryd.prog 45 1 = true := by kernel_rfl
theorem fOk12 : fnOk Tryd.prog 12 = true := by kernel_rfl
theorem tS9 : tyS Tryd.prog 9 1 = true := by kernel_rfl
theorem fOk5 : fnOk Tryd.prog 5 = true := by kernel_rfl
theorem tEqG66 : Tryd.prog.eqGuardType Tryd.prog.depth 66 = false := by kernel_rfl
theorem fOk39 : fnOk Tryd.prog 39 = true := by kernel_rfl
theorem fOk18 : fnOk Tryd.prog 18 = true := by kernel_rfl
theorem fOk17 : fnOk Tryd.prog 17 = true := by kernel_rfl
theorem tEqG51 : Tryd.prog.eqGuardType Tryd.prog.depth 51 = false := by kernel_rfl
theorem fOk19 : fnOk Tryd.prog 19 = true := by kernel_rfl
theorem fOk7 : fnOk Tryd.prog 7 = true := by kernel_rfl
def tt : TT := [(3, [.C, .U, .I .i64, .S 1]), (4, [.C]), (5, [.Fn]), (7, [.Fn]), (8, [.Fn]), (9, [.C, .Str, .Fn, .S 1]), (10, [.Fn]), (11, [.Fn]), (13, [.Fn]), (14, [.Fn]), (16, [.Fn]), (17, [.Fn]), (18, [.Fn]), (19, [.Fn]), (22, [.C, .Sn, .Sl 3, .Fn, .S 1]), (23, [.C, .Sn, .Sl 3, .S 1]), (25, [.S 4, .A 4, .F 0 0, .F 3 3, .F 1 1, .F 2 2, .Z 4 [.string ⟨#[]⟩, .slice none 0 0, .slice none 0 0, .int .i64 0], .Pl [(0, 1), (1, 1), (2, 1), (3, 1)]]), (28, [.Fn]), (29, [.Fn]), (30, [.Fn]), (31, [.Fn]), (32, [.Fn]), (35, [.Fn, .El 9 1 16, .Sn, .Sl 1]), (36, [.Fn]), (37, [.Fn]), (38, [.Fn]), (39, [.Sn, .Sl 1, .C, .El 3 1 8, .S 1, .Fn]), (40, [.Fn]), (41, [.Fn]), (42, [.Fn]), (45, [.C, .Sn, .Sl 3, .Fn]), (47, [.A 3, .Z 3 [.string ⟨#[]⟩, .int .i64 0, .slice none 0 0], .S 3, .F 0 0, .F 1 1, .F 2 2, .Pl [(0, 1), (1, 1), (2, 1)]]), (49, [.Fn]), (50, [.Fn]), (51, [.A 3, .Z 3 [.string ⟨#[]⟩, .int .i64 0, .int .i64 0], .S 3, .F 0 0, .F 1 1, .F 2 2, .Fn, .Pl [(0, 1), (1, 1), (2, 1)]]), (52, [.Fn]), (53, [.Fn]), (55, [.Z 2 [.slice none 0 0, .slice none 0 0], .Pl [(0, 1), (1, 1)], .S 2, .A 2, .F 0 0, .F 1 1]), (57, [.C, .S 1, .Sn]), (63, [.Fn]), (64, [.Fn]), (65, [.Fn]), (66, [.A 3, .Z 3 [.string ⟨#[]⟩, .string ⟨#[]⟩, .int .i64 0], .S 3, .F 0 0, .F 1 1, .F 2 2, .Fn, .Pl [(0, 1), (1, 1), (2, 1)]]), (71, [.Z 1 [.slice none 0 0], .Pl [(0, 1)], .S 1, .F 0 0]), (82, [.Fn]), (83, [.Fn, .Arr 7 1]), (84, [.Fn]), (85, [.Z 9 [.bool false, .bool false, .bool false, .bool false, .bool false, .bool false, .bool false, .int .i64 0, .slice none 0 0], .Pl [(0, 7), (7, 1), (8, 1)], .S 9, .F 0 0, .F 2 8, .A 9, .F 1 7]), (96, [.Fn]), (106, [.Z 2 [.string ⟨#[]⟩, .string ⟨#[]⟩], .Pl [(0, 1), (1, 1)], .S 2, .A 2, .F 0 0, .F 1 1]), (108, [.I .u64, .U])]
theorem ok : TTok Tryd.prog tt := tt_all ⟨⟨tC3, tUn3, tI3, tS3, trivial⟩, ⟨tC4, trivial⟩, ⟨fOk5, trivial⟩, ⟨fOk7, trivial⟩, ⟨fOk8, trivial⟩, ⟨tC9, tStr9, fOk9, tS9, trivial⟩, ⟨fOk10, trivial⟩, ⟨fOk11, trivial⟩, ⟨fOk13, trivial⟩, ⟨fOk14, trivial⟩, ⟨fOk16, trivial⟩, ⟨fOk17, trivial⟩, ⟨fOk18, trivial⟩, ⟨fOk19, trivial⟩, ⟨tC22, tIsSl22, tSl22, fOk22, tS22, trivial⟩, ⟨tC23, tIsSl23, tSl23, tS23, trivial⟩, ⟨tS25, tA25, tF25_0, tF25_3, tF25_1, tF25_2, ⟨tZ25, rfl⟩, tPl25, trivial⟩, ⟨fOk28, trivial⟩, ⟨fOk29, trivial⟩, ⟨fOk30, trivial⟩, ⟨fOk31, trivial⟩, ⟨fOk32, trivial⟩, ⟨fOk35, tEl35, tIsSl35, tSl35, trivial⟩, ⟨fOk36, trivial⟩, ⟨fOk37, trivial⟩, ⟨fOk38, trivial⟩, ⟨tIsSl39, tSl39, tC39, tEl39, tS39, fOk39, trivial⟩, ⟨fOk40, trivial⟩, ⟨fOk41, trivial⟩, ⟨fOk42, trivial⟩, ⟨tC45, tIsSl45, tSl45, fOk45, trivial⟩, ⟨tA47, ⟨tZ47, rfl⟩, tS47, tF47_0, tF47_1, tF47_2, tPl47, trivial⟩, ⟨fOk49, trivial⟩, ⟨fOk50, trivial⟩, ⟨tA51, ⟨tZ51, rfl⟩, tS51, tF51_0, tF51_1, tF51_2, fOk51, tPl51, trivial⟩, ⟨fOk52, trivial⟩, ⟨fOk53, trivial⟩, ⟨⟨tZ55, rfl⟩, tPl55, tS55, tA55, tF55_0, tF55_1, trivial⟩, ⟨tC57, tS57, tIsSl57, trivial⟩, ⟨fOk63, trivial⟩, ⟨fOk64, trivial⟩, ⟨fOk65, trivial⟩, ⟨tA66, ⟨tZ66, rfl⟩, tS66, tF66_0, tF66_1, tF66_2, fOk66, tPl66, trivial⟩, ⟨⟨tZ71, rfl⟩, tPl71, tS71, tF71_0, trivial⟩, ⟨fOk82, trivial⟩, ⟨fOk83, tArr83, trivial⟩, ⟨fOk84, trivial⟩, ⟨⟨tZ85, rfl⟩, tPl85, tS85, tF85_0, tF85_2, tA85, tF85_1, trivial⟩, ⟨fOk96, trivial⟩, ⟨⟨tZ106, rfl⟩, tPl106, tS106, tA106, tF106_0, tF106_1, trivial⟩, ⟨tI108, tUn108, trivial⟩, trivial⟩
instance {N : Nat} {w : World} {m : Mem} {o : Nat → Prop} {p : Nat} {l : Nat → Option (Option (Nat × Cap))} {g : Gl} {h : GlOk g m} : TC ⟨Tryd.prog, N, w, m, o, p, l, g, h⟩ tt := ⟨ok⟩
end Go.Proofs.YtcoppoeibjkinaaDoor
