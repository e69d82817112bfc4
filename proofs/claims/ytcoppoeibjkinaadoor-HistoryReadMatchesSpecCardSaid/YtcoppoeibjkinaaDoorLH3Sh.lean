/- Part of the proof: H3P8, H3P9, H3Sh. -/
import Derived.Test.YtcoppoeibjkinaaDoorLH3P7
import Derived.Shelf.Strings.Builder1
import Derived.Shelf.Strings.Builder2
import Derived.Shelf.Strings.OnBuilder
import Derived.Shelf.Strings.BuilderF
import Derived.Shelf.Strings.BuilderK
import Derived.Shelf.Utf8.RuneCount
import Derived.Shelf.Strings.Builder2Cap
import Derived.Shelf.Strconv.Atoi
import Derived.Shelf.Strconv.Itoa0
import Derived.Shelf.Strconv.Itoa1
import Derived.Shelf.LaysM
import Derived.Shelf.Strconv.Itoa2
import Derived.Shelf.Strconv.Itoa3
import Derived.Shelf.Strconv.AtoiErrFast
import Derived.Shelf.Strconv.ParseIntEmpty
import Derived.Shelf.Strconv.AtoiFail
import Derived.Shelf.Strconv.SyntaxError
import Derived.Shelf.Strconv.Lower
import Derived.Shelf.Strconv.ParseUint10
import Derived.Shelf.Strconv.ParseUint10Empty
import Derived.Shelf.Strconv.RangeError
import Derived.Shelf.Strconv.ParseUintEmpty
import Derived.Shelf.Strconv.ParseUint10b64
import Derived.Shelf.Strconv.ParseUint10b32
import Derived.Shelf.Strconv.ParseUint10b16
import Derived.Shelf.Strconv.ParseUint10b8
import Derived.Shelf.Strings.Search1
import Derived.Shelf.Strings.Search2
import Derived.Shelf.Strings.Search3
import Derived.Shelf.Strings.Count
import Derived.Shelf.Strings.Shaped
import Derived.Shelf.Strings.Split
import Derived.Shelf.Strings.SplitShaped
import Derived.Shelf.Unicode.Decode
import Derived.Shelf.Strings.RuneCount
import Derived.Shelf.Strings.Explode
import Derived.Shelf.Unicode.DecodeSlow
import Derived.Shelf.Unicode.DecodeAny
import Derived.Ground.Names2Prog
import Derived.Shelf.Slices.SearchI
import Derived.Shelf.Slices.Empties
import Derived.Test.YtcoppoeibjkinaaDoorProg
namespace Go.Proofs.YtcoppoeibjkinaaDoor
open Go Go.Pv
set_option linter.unusedVariables false
set_option linter.unusedSimpArgs false
theorem inv0 : Inv 0 ([], 0, [], []) := ⟨Nat.le_refl _, Nat.le_refl _, fun r hr => by simp at hr, fun r hr => by simp at hr, Nat.zero_le _⟩
theorem okSt_inv {i : Nat} {q : Sto} (h : Inv i q) : okSt (TStory.mk q.1 q.2.2.1 q.2.2.2 q.2.1) := ⟨h.p, fun r hr => ⟨(h.e r hr).2.1, (h.e r hr).2.2⟩, h.a⟩
def endS (q : Sto) : TStory × Int × Int := if chk (TStory.mk q.1 q.2.2.1 q.2.2.2 q.2.1) ≠ 0 then (noSt, 0, chk (TStory.mk q.1 q.2.2.1 q.2.2.2 q.2.1)) else (TStory.mk q.1 q.2.2.1 q.2.2.2 q.2.1, 0, 0)
def readS (text : List UInt8) : TStory × Int × Int :=
 if 1000000 < text.length then (noSt, 0, 3) else
 match runS (Lib.split text [10]).dropLast 0 ([], 0, [], []) with
 | .inl j => (noSt, (j : Int), 6)
 | .inr q => if (Lib.split text [10]).getLast? = some [] then (if (Lib.split text [10]).length = 1 then (noSt, 0, 6) else endS q)
  else match takeS ((Lib.split text [10]).length == 1) (Lib.split ((Lib.split text [10]).getLast?.getD []) [32]) q.1 q.2.1 q.2.2.1 q.2.2.2 with
   | some _ => (noSt, (((Lib.split text [10]).length : Nat) : Int), 6)
   | none => (noSt, (((Lib.split text [10]).length - 1 : Nat) : Int), 6)
theorem runS_app : ∀ (l : List (List UInt8)) (x : List UInt8) (i : Nat) (q : Sto), runS (l ++ [x]) i q = match runS l i q with | .inl j => .inl j | .inr q' => runS [x] (i + l.length) q'
 | [], x, i, q => rfl
 | y :: l, x, i, q => by
  have e : ∀ l, runS (y :: l) i q = match takeS (i == 0) (Lib.split y [32]) q.1 q.2.1 q.2.2.1 q.2.2.2 with | some q' => runS l (i + 1) q' | none => .inl i := fun l => rfl
  rw [List.cons_append, e, e]
  cases takeS (i == 0) (Lib.split y [32]) q.1 q.2.1 q.2.2.1 q.2.2.2 with
  | none => rfl
  | some q' =>
   simp only
   rw [runS_app l x (i + 1) q', List.length_cons, show i + 1 + l.length = i + (l.length + 1) by omega]
theorem cut_last {l : List (List UInt8)} (h : l ≠ []) : ∃ a x, l = a ++ [x] := ⟨l.dropLast, l.getLast h, (List.dropLast_concat_getLast h).symm⟩
theorem M6_eq (F : Nat) (text : List UInt8) : M6 F text = some (readS text) := by
 unfold M6 readS
 by_cases hl : 1000000 < text.length
 ·rw [if_t (by omega), if_pos hl]; rfl
 rw [if_f (by omega), if_neg hl, M11_eq F text 10 (by omega), Option.bind_some]
 have hlen := split_len text 10
 have hmem : ∀ x, x ∈ Lib.split text [10] → x.length ≤ 1000000 := fun x hx => Nat.le_trans (split_mem hx) (by omega)
 obtain ⟨a, e, he⟩ := cut_last (split_ne text [10])
 rw [he] at hlen hmem ⊢
 rw [List.length_append, List.length_singleton] at hlen
 have e1 : w64 ((((a ++ [e]).length : Nat) : Int) - 1) = (a.length : Int) := by rw [List.length_append, List.length_singleton, w64_id (by omega) (by omega)]; omega
 rw [e1, idx_nat (by simp), Option.bind_some, if_pos ⟨by omega, by simp⟩, jn_def]
 have e2 : ((a ++ [e]).take ((a.length : Int)).toNat) = a := by simp
 have e3 : (a ++ [e])[a.length]'(by simp) = e := by simp
 rw [e2, e3]
 have hr := M6_L1_eq F (fun (s9 : List UInt8) (n10 : Int) (l11 : List TRelease) (l12 : List TPublished) => if (!(e == ([] : List UInt8))) = true then (M11 F e ([32] : List UInt8)).bind fun y33 => (M15 F y33 (((a.length : Nat) : Int) == 0) s9 n10 l11 l12).bind fun y35 => if (y35.1) = true then some ((TStory.mk ([] : List UInt8) ([] : List TRelease) ([] : List TPublished) 0), (w64 (((a.length : Nat) : Int) + 1)), 6)
  else some ((TStory.mk ([] : List UInt8) ([] : List TRelease) ([] : List TPublished) 0), ((a.length : Nat) : Int), 6)
  else if (((a.length : Nat) : Int) == 0) = true then some ((TStory.mk ([] : List UInt8) ([] : List TRelease) ([] : List TPublished) 0), 0, 6)
  else (M16 F (TStory.mk s9 l11 l12 n10)).bind fun y39 => if (y39 != 0) = true then some ((TStory.mk ([] : List UInt8) ([] : List TRelease) ([] : List TPublished) 0), 0, y39)
  else some ((TStory.mk s9 l11 l12 n10), 0, 0)) a 0 ([], 0, [], []) inv0 (by omega) (fun x hx => hmem x (List.mem_append_left _ hx))
 refine Eq.trans hr ?_
 have hinv := fun q' => runS_inv (l := a) (q' := q') inv0 (fun x hx => Nat.le_trans (hmem x (List.mem_append_left _ hx)) (by decide))
 rw [List.dropLast_concat, List.getLast?_concat, List.length_append, List.length_singleton]
 cases hq : runS a 0 ([], 0, [], []) with
 | inl j => rfl
 | inr q =>
  have hi := hinv q hq
  simp only [endR]
  have ha0 : (((a.length : Nat) : Int) == 0) = (a.length + 1 == 1) := by cases a <;> simp; omega
  by_cases h0 : e = []
  ·subst h0
   rw [if_neg (by simp), if_pos rfl]
   by_cases hz : a.length = 0
   ·rw [if_pos (by rw [hz]; rfl), if_pos (by rw [hz])]; rfl
   ·rw [if_neg (fun h => hz (by rw [beq_iff_eq] at h; omega)), if_neg (fun h => hz (by omega)), M16_eq F _ (okSt_inv hi), Option.bind_some]
    unfold endS
    by_cases hc : chk (TStory.mk q.1 q.2.2.1 q.2.2.2 q.2.1) = 0
    ·rw [if_neg (by simp [hc]), if_neg (by simp [hc])]
    ·rw [if_pos (by simpa using hc), if_pos hc]; rfl
  ·rw [if_pos (by simpa using h0), if_neg (by simpa using h0), M11_eq F e 32 (hmem e (by simp)), Option.bind_some]
   simp only [Option.getD_some]
   obtain ⟨w, t, hp⟩ := List.exists_cons_of_ne_nil (split_ne e [32])
   have hlen2 := split_len e 32
   have hee := hmem e (by simp)
   rw [hp, List.length_cons] at hlen2
   obtain ⟨b, s', n', R', K', h1, h2⟩ := M15_eq F (a.length + 1 == 1) w t q.1 q.2.1 q.2.2.1 q.2.2.2 (by omega) (by rw [← hp]; exact fun y hy => Nat.le_trans (split_mem hy) (Nat.le_trans hee (by decide))) (Nat.le_trans hi.k (by omega)) (Nat.le_trans hi.r (by omega)) (fun r hr => Nat.le_trans (hi.e r hr).1 (by omega))
   rw [hp, ha0, h1, Option.bind_some, h2, w64_id (by omega) (by omega)]
   cases b <;> simp [noSt]
theorem M5_eq (F : Nat) (text : List UInt8) : M5 F text = some (readS text) := by
 unfold M5 readS
 by_cases hl : 1000000 < text.length
 ·rw [if_t (by omega), if_pos hl]; rfl
 rw [if_f (by omega), if_neg hl, M11_eq F text 10 (by omega), Option.bind_some]
 have hlen := split_len text 10
 have hmem : ∀ x, x ∈ Lib.split text [10] → x.length ≤ 1000000 := fun x hx => Nat.le_trans (split_mem hx) (by omega)
 obtain ⟨a, e, he⟩ := cut_last (split_ne text [10])
 rw [he] at hlen hmem ⊢
 rw [List.length_append, List.length_singleton] at hlen
 have e1 : w64 ((((a ++ [e]).length : Nat) : Int) - 1) = (a.length : Int) := by rw [List.length_append, List.length_singleton, w64_id (by omega) (by omega)]; omega
 have e2 : ((a ++ [e]).take ((a.length : Int)).toNat) = a := by simp
 have e3 : (a ++ [e])[a.length]'(by simp) = e := by simp
 rw [e1, idx_nat (by simp), Option.bind_some, jn_def, e2, e3]
 simp only [jn_def]
 have hr := fun (l8 : List (List UInt8)) (h1 : l8.length ≤ 1000001) (h2 : ∀ x, x ∈ l8 → x.length ≤ 1000000) => M5_L1_eq F (fun (s12 : List UInt8) (n13 : Int) (l14 : List TRelease) (l15 : List TPublished) => if (((l8.length : Nat) : Int) == 0) = true then some ((TStory.mk ([] : List UInt8) ([] : List TRelease) ([] : List TPublished) 0), ((l8.length : Nat) : Int), 6)
  else if (!(e == ([] : List UInt8))) = true then some ((TStory.mk ([] : List UInt8) ([] : List TRelease) ([] : List TPublished) 0), ((l8.length : Nat) : Int), 6)
  else (M14 F (TStory.mk s12 l14 l15 n13)).bind fun y56 => if (y56 != 0) = true then some ((TStory.mk ([] : List UInt8) ([] : List TRelease) ([] : List TPublished) 0), 0, y56)
  else some ((TStory.mk s12 l14 l15 n13), 0, 0)) l8 0 ([], 0, [], []) inv0 (by omega) h2
 have hinv := fun q' => runS_inv (l := a) (q' := q') inv0 (fun x hx => Nat.le_trans (hmem x (List.mem_append_left _ hx)) (by decide))
 rw [List.dropLast_concat, List.getLast?_concat, List.length_append, List.length_singleton]
 by_cases h0 : e = []
 ·subst h0
  rw [if_pos (by rfl), if_pos ⟨by omega, by simp⟩]
  refine Eq.trans (hr a (by omega) (fun x hx => hmem x (List.mem_append_left _ hx))) ?_
  cases hq : runS a 0 ([], 0, [], []) with
  | inl j => rfl
  | inr q =>
   have hi := hinv q hq
   simp only [endR]
   rw [if_pos trivial]
   by_cases hz : a.length = 0
   ·rw [if_pos (by rw [hz]; rfl), if_pos (by rw [hz]), hz]; rfl
   ·rw [if_neg (fun h => hz (by rw [beq_iff_eq] at h; omega)), if_neg (by simp), if_neg (fun h => hz (by omega)), M14_eq F _ (okSt_inv hi), Option.bind_some]
    unfold endS
    by_cases hc : chk (TStory.mk q.1 q.2.2.1 q.2.2.2 q.2.1) = 0
    ·rw [if_neg (by simp [hc]), if_neg (by simp [hc])]
    ·rw [if_pos (by simpa using hc), if_pos hc]; rfl
 ·rw [if_neg (by simpa using h0)]
  have h9 := hr (a ++ [e]) (by rw [List.length_append, List.length_singleton]; omega) hmem
  rw [List.length_append, List.length_singleton] at h9
  refine Eq.trans h9 ?_
  rw [runS_app]
  have hlz : (((a.length + 1 : Nat) : Int) == 0) = false := by rw [beq_eq_false_iff_ne]; omega
  cases hq : runS a 0 ([], 0, [], []) with
  | inl j => rfl
  | inr q =>
   simp only
   rw [if_neg (by simpa using h0), Nat.zero_add]
   unfold runS
   have hz : (a.length == 0) = (a.length + 1 == 1) := by cases a <;> simp
   rw [hz]
   simp only [Option.getD_some]
   cases takeS (a.length + 1 == 1) (Lib.split e [32]) q.1 q.2.1 q.2.2.1 q.2.2.2 with
   | none => simp [endR]
   | some q' =>
    simp only [runS, endR, hlz]
    rw [if_neg (by decide), if_pos (by simpa using h0)]
    simp [noSt]
theorem M7_refl (F : Nat) (s : TStory) : M7 F s s = some true := by
 have e17 : ∀ (l : List TRelease) (a : List TRelease) (j : Nat), a.drop j = l → M17_L1 F a (some true) l (j : Int) = some true := by
  intro l
  induction l with
  | nil => intro a j _; rfl
  | cons x l ih =>
   intro a j h
   obtain ⟨hn, h1, h2⟩ := drop_at h
   rw [M17_L1, idx_nat hn, h1, Option.bind_some, M18_eq, Option.bind_some, if_neg (by simp)]
   exact ih a (j + 1) h2
 have e19 : ∀ (l : List TPublished) (a : List TPublished) (j : Nat), a.drop j = l → M19_L1 F a (some true) l (j : Int) = some true := by
  intro l
  induction l with
  | nil => intro a j _; rfl
  | cons x l ih =>
   intro a j h
   obtain ⟨hn, h1, h2⟩ := drop_at h
   rw [M19_L1, idx_nat hn, h1, Option.bind_some, if_neg (by simp)]
   exact ih a (j + 1) h2
 have a17 : M17 F s.Releases s.Releases = some true := by
  unfold M17
  rw [if_neg (by simp), jn_def]
  exact e17 s.Releases s.Releases 0 rfl
 have a19 : M19 F s.Known s.Known = some true := by
  unfold M19
  rw [if_neg (by simp), jn_def]
  exact e19 s.Known s.Known 0 rfl
 unfold M7
 simp [a17, a19]
theorem M8_eq : M8 1 = some true := by rfl
theorem read_true (text : List UInt8) : M3 1 text = some true := by
 unfold M3
 rw [M5_eq, Option.bind_some, M6_eq, Option.bind_some, M7_refl, Option.bind_some, M8_eq, Option.bind_some]
 simp
end Go.Proofs.YtcoppoeibjkinaaDoor
/-
 DERIVED: THE SHELF's CONTRACTS AT THIS DUMP, IN PLAIN WORDS (tools/lay-plain.mjs out of 'TrydShelf.lean', which tools/lay-shelf.mjs wrote): THE SAME DECLARATIONS UNDER THE SAME NAMES: 'import', 'namespace', 'open', 'def', 'theorem' AND NOTHING ELSE: no command of the shelf's: FOR A HAND-IN. Each laying: the table of numbers ('.._ren') and one theorem, a field a fact of the dump's own or the kernel's comparison; each contract: ONE APPLICATION.
-/
namespace Go.Proofs
open Go.Shelf
def Tryd.lays172_ren : Go.Shelf.Ren := ⟨fun | 172 => 49 | 244 => 61 | 245 => 62 | 247 => 77 | 279 => 78 | 280 => 79 | 281 => 80 | 282 => 81 | 287 => 93 | 316 => 94 | 171 => 22 | 205 => 95 | 321 => 99 | 322 => 100 | 243 => 44 | 246 => 55 | 283 => 67 | 284 => 68 | 285 => 69 | 286 => 70 | 129 => 86 | 317 => 85 | 318 => 87 | 319 => 88 | 320 => 89 | 337 => 97 | 338 => 98 | n => n, fun | 9 => 9 | 3 => 3 | 75 => 61 | 76 => 62 | 4 => 4 | 5 => 5 | 167 => 116 | 37 => 57 | 0 => 0 | 85 => 117 | 2 => 2 | 168 => 119 | 53 => 111 | 175 => 135 | 46 => 108 | 210 => 139 | 127 => 88 | 145 => 145 | 143 => 143 | 21 => 21 | 171 => 110 | 173 => 114 | 212 => 124 | 51 => 125 | 20 => 20 | 213 => 126 | 232 => 146 | 233 => 147 | 80 => 68 | n => n, fun | 15 => 4 | 16 => 5 | 17 => 1 | 18 => 6 | 19 => 7 | n => n⟩
theorem Tryd.lays172 : Go.Proofs.Lays.n172 Tryd.prog Tryd.lays172_ren := {
 mixed := by kernel_rfl
 f129 := Tryd.func86.trans (congrArg some (by kernel_rfl))
 f171 := Tryd.func22.trans (congrArg some (by kernel_rfl))
 f172 := Tryd.func49.trans (congrArg some (by kernel_rfl))
 f205 := Tryd.func95.trans (congrArg some (by kernel_rfl))
 f243 := Tryd.func44.trans (congrArg some (by kernel_rfl))
 f244 := Tryd.func61.trans (congrArg some (by kernel_rfl))
 f245 := Tryd.func62.trans (congrArg some (by kernel_rfl))
 f246 := Tryd.func55.trans (congrArg some (by kernel_rfl))
 f247 := Tryd.func77.trans (congrArg some (by kernel_rfl))
 f279 := Tryd.func78.trans (congrArg some (by kernel_rfl))
 f280 := Tryd.func79.trans (congrArg some (by kernel_rfl))
 f281 := Tryd.func80.trans (congrArg some (by kernel_rfl))
 f282 := Tryd.func81.trans (congrArg some (by kernel_rfl))
 f283 := Tryd.func67.trans (congrArg some (by kernel_rfl))
 f284 := Tryd.func68.trans (congrArg some (by kernel_rfl))
 f285 := Tryd.func69.trans (congrArg some (by kernel_rfl))
 f286 := Tryd.func70.trans (congrArg some (by kernel_rfl))
 f287 := Tryd.func93.trans (congrArg some (by kernel_rfl))
 f316 := Tryd.func94.trans (congrArg some (by kernel_rfl))
 f317 := Tryd.func85.trans (congrArg some (by kernel_rfl))
 f318 := Tryd.func87.trans (congrArg some (by kernel_rfl))
 f319 := Tryd.func88.trans (congrArg some (by kernel_rfl))
 f320 := Tryd.func89.trans (congrArg some (by kernel_rfl))
 f321 := Tryd.func99.trans (congrArg some (by kernel_rfl))
 f322 := Tryd.func100.trans (congrArg some (by kernel_rfl))
 f337 := Tryd.func97.trans (congrArg some (by kernel_rfl))
 f338 := Tryd.func98.trans (congrArg some (by kernel_rfl))
 t0 := Tryd.underlying0
 a0 := Tryd.isAgg0
 z0 := Tryd.sizeOf0
 v0 := Tryd.zeroValue0
 t2 := Tryd.underlying2
 a2 := Tryd.isAgg2
 z2 := Tryd.sizeOf2
 v2 := Tryd.zeroValue2
 t3 := Tryd.underlying3
 a3 := Tryd.isAgg3
 z3 := Tryd.sizeOf3
 v3 := Tryd.zeroValue3
 t4 := Tryd.underlying4
 a4 := Tryd.isAgg4
 z4 := Tryd.sizeOf4
 v4 := Tryd.zeroValue4
 t5 := Tryd.underlying5
 a5 := Tryd.isAgg5
 z5 := Tryd.sizeOf5
 v5 := Tryd.zeroValue5
 t9 := Tryd.underlying9
 a9 := Tryd.isAgg9
 z9 := Tryd.sizeOf9
 v9 := Tryd.zeroValue9
 t20 := Tryd.underlying20
 a20 := Tryd.isAgg20
 z20 := Tryd.sizeOf20
 v20 := Tryd.zeroValue20
 t21 := Tryd.underlying21
 a21 := Tryd.isAgg21
 z21 := Tryd.sizeOf21
 v21 := Tryd.zeroValue21
 t37 := Tryd.underlying57
 a37 := Tryd.isAgg57
 z37 := Tryd.sizeOf57
 v37 := Tryd.zeroValue57
 t46 := Tryd.underlying108
 a46 := Tryd.isAgg108
 z46 := Tryd.sizeOf108
 v46 := Tryd.zeroValue108
 t51 := Tryd.underlying125
 a51 := Tryd.isAgg125
 z51 := Tryd.sizeOf125
 v51 := Tryd.zeroValue125
 t53 := Tryd.underlying111
 a53 := Tryd.isAgg111
 z53 := Tryd.sizeOf111
 v53 := Tryd.zeroValue111
 t75 := Tryd.underlying61
 a75 := Tryd.isAgg61
 z75 := Tryd.sizeOf61
 v75 := Tryd.zeroValue61
 t76 := Tryd.underlying62
 a76 := Tryd.isAgg62
 z76 := Tryd.sizeOf62
 v76 := Tryd.zeroValue62
 t85 := Tryd.underlying117
 a85 := Tryd.isAgg117
 z85 := Tryd.sizeOf117
 v85 := Tryd.zeroValue117
 t127 := Tryd.underlying88
 a127 := Tryd.isAgg88
 z127 := Tryd.sizeOf88
 v127 := Tryd.zeroValue88
 t143 := Tryd.underlying143
 a143 := Tryd.isAgg143
 z143 := Tryd.sizeOf143
 v143 := Tryd.zeroValue143
 t145 := Tryd.underlying145
 a145 := Tryd.isAgg145
 z145 := Tryd.sizeOf145
 v145 := Tryd.zeroValue145
 t167 := Tryd.underlying116
 a167 := Tryd.isAgg116
 z167 := Tryd.sizeOf116
 v167 := Tryd.zeroValue116
 t168 := Tryd.underlying119
 a168 := Tryd.isAgg119
 z168 := Tryd.sizeOf119
 v168 := Tryd.zeroValue119
 t171 := Tryd.underlying110
 a171 := Tryd.isAgg110
 z171 := Tryd.sizeOf110
 v171 := Tryd.zeroValue110
 t173 := Tryd.underlying114
 a173 := Tryd.isAgg114
 z173 := Tryd.sizeOf114
 v173 := Tryd.zeroValue114
 t175 := Tryd.underlying135
 a175 := Tryd.isAgg135
 z175 := Tryd.sizeOf135
 v175 := Tryd.zeroValue135
 t210 := Tryd.underlying139
 a210 := Tryd.isAgg139
 z210 := Tryd.sizeOf139
 v210 := Tryd.zeroValue139
 t212 := Tryd.underlying124
 a212 := Tryd.isAgg124
 z212 := Tryd.sizeOf124
 v212 := Tryd.zeroValue124
 t213 := Tryd.underlying126
 a213 := Tryd.isAgg126
 z213 := Tryd.sizeOf126
 t232 := Tryd.underlying146
 a232 := Tryd.isAgg146
 z232 := Tryd.sizeOf146
 v232 := Tryd.zeroValue146
 t233 := Tryd.underlying147
 a233 := Tryd.isAgg147
 z233 := Tryd.sizeOf147
 v233 := Tryd.zeroValue147
 g15 := by kernel_rfl
 g16 := by kernel_rfl
 g17 := by kernel_rfl
 g18 := by kernel_rfl
 g19 := by kernel_rfl }
open Go.RowKit in
theorem Tryd.strconv_Atoi (s : ByteArray) (n : Int) (hl : s.size ≤ 18) (h : Lib.atoi s.data.toList = some n) (w : World) :
  Calls Tryd.prog 49 #[.string s] w fun e w' => e = .returned (.tuple #[.int .i64 n, .nilIface]) ∧ ∃ t, w' = Lib.bytesWorld w 5 t := Any.strconv_Atoi Tryd.lays172 s n hl h w
def Tryd.lays146_ren : Go.Shelf.Ren := ⟨fun | 146 => 11 | 221 => 26 | 268 => 46 | 138 => 47 | 143 => 48 | 195 => 57 | 197 => 58 | 218 => 59 | 219 => 60 | 260 => 72 | 217 => 73 | 225 => 74 | 224 => 75 | 267 => 76 | 266 => 91 | 314 => 92 | n => n, fun | 9 => 9 | 31 => 35 | 3 => 3 | 4 => 4 | 0 => 0 | 105 => 100 | 21 => 21 | 5 => 5 | 46 => 108 | 119 => 129 | 139 => 132 | 138 => 131 | 146 => 133 | 51 => 125 | n => n, fun | 1 => 0 | 3 => 2 | 4 => 3 | n => n⟩
theorem Tryd.lays146 : Go.Proofs.Lays.n146 Tryd.prog Tryd.lays146_ren := {
 mixed := by kernel_rfl
 f138 := Tryd.func47.trans (congrArg some (by kernel_rfl))
 f143 := Tryd.func48.trans (congrArg some (by kernel_rfl))
 f146 := Tryd.func11.trans (congrArg some (by kernel_rfl))
 f195 := Tryd.func57.trans (congrArg some (by kernel_rfl))
 f197 := Tryd.func58.trans (congrArg some (by kernel_rfl))
 f217 := Tryd.func73.trans (congrArg some (by kernel_rfl))
 f218 := Tryd.func59.trans (congrArg some (by kernel_rfl))
 f219 := Tryd.func60.trans (congrArg some (by kernel_rfl))
 f221 := Tryd.func26.trans (congrArg some (by kernel_rfl))
 f224 := Tryd.func75.trans (congrArg some (by kernel_rfl))
 f225 := Tryd.func74.trans (congrArg some (by kernel_rfl))
 f260 := Tryd.func72.trans (congrArg some (by kernel_rfl))
 f266 := Tryd.func91.trans (congrArg some (by kernel_rfl))
 f267 := Tryd.func76.trans (congrArg some (by kernel_rfl))
 f268 := Tryd.func46.trans (congrArg some (by kernel_rfl))
 f314 := Tryd.func92.trans (congrArg some (by kernel_rfl))
 t0 := Tryd.underlying0
 a0 := Tryd.isAgg0
 z0 := Tryd.sizeOf0
 v0 := Tryd.zeroValue0
 t3 := Tryd.underlying3
 a3 := Tryd.isAgg3
 z3 := Tryd.sizeOf3
 v3 := Tryd.zeroValue3
 t4 := Tryd.underlying4
 a4 := Tryd.isAgg4
 z4 := Tryd.sizeOf4
 v4 := Tryd.zeroValue4
 t5 := Tryd.underlying5
 a5 := Tryd.isAgg5
 z5 := Tryd.sizeOf5
 v5 := Tryd.zeroValue5
 t9 := Tryd.underlying9
 a9 := Tryd.isAgg9
 z9 := Tryd.sizeOf9
 v9 := Tryd.zeroValue9
 t21 := Tryd.underlying21
 a21 := Tryd.isAgg21
 z21 := Tryd.sizeOf21
 v21 := Tryd.zeroValue21
 t31 := Tryd.underlying35
 a31 := Tryd.isAgg35
 z31 := Tryd.sizeOf35
 v31 := Tryd.zeroValue35
 t46 := Tryd.underlying108
 a46 := Tryd.isAgg108
 z46 := Tryd.sizeOf108
 v46 := Tryd.zeroValue108
 t51 := Tryd.underlying125
 a51 := Tryd.isAgg125
 z51 := Tryd.sizeOf125
 v51 := Tryd.zeroValue125
 t105 := Tryd.underlying100
 a105 := Tryd.isAgg100
 z105 := Tryd.sizeOf100
 v105 := Tryd.zeroValue100
 t119 := Tryd.underlying129
 a119 := Tryd.isAgg129
 z119 := Tryd.sizeOf129
 t138 := Tryd.underlying131
 a138 := Tryd.isAgg131
 z138 := Tryd.sizeOf131
 v138 := Tryd.zeroValue131
 t139 := Tryd.underlying132
 a139 := Tryd.isAgg132
 z139 := Tryd.sizeOf132
 v139 := Tryd.zeroValue132
 t146 := Tryd.underlying133
 a146 := Tryd.isAgg133
 z146 := Tryd.sizeOf133
 v146 := Tryd.zeroValue133
 g1 := by kernel_rfl
 g3 := by kernel_rfl
 g4 := by kernel_rfl }
open Go.RowKit Go.Lib in
theorem Tryd.strings_Split (s sep : ByteArray) (m : Int) (w : World) (hs : s.size < 4294967281) (hm : w.cell? ⟨0, 0, none⟩ = some (.int .i64 m)) (h1 : 1 ≤ sep.size) :
  Calls Tryd.prog 11 #[.string s, .string sep] w fun e w' =>
   e = .returned (.slice (some ⟨w.heap.size, 0, none⟩) (Lib.countB s sep + 1) (Lib.countB s sep + 1)) ∧ w' = w.alloc (.cells ((Lib.splitB sep 0 (Lib.countB s sep) s).map Value.string).toArray 9) := Any.strings_Split Tryd.lays146 (by kernel_rfl) s sep m w hs hm h1
def Tryd.laysM146_ren : Go.Shelf.Ren := ⟨fun | 146 => 11 | 221 => 26 | 268 => 46 | 138 => 47 | 143 => 48 | 195 => 57 | 197 => 58 | 218 => 59 | 219 => 60 | 260 => 72 | 217 => 73 | 225 => 74 | 224 => 75 | 267 => 76 | 266 => 91 | 314 => 92 | n => n, fun | 9 => 9 | 31 => 35 | 3 => 3 | 4 => 4 | 0 => 0 | 105 => 100 | 21 => 21 | 5 => 5 | 46 => 108 | 119 => 129 | 139 => 132 | 138 => 131 | 146 => 133 | 51 => 125 | n => n, fun | 1 => 0 | 3 => 2 | 4 => 3 | n => n⟩
theorem Tryd.laysM146 : Go.Proofs.LaysM.n146 Tryd.prog Tryd.laysM146_ren := {
 mixed := by kernel_rfl
 f138 := Tryd.func47.trans (congrArg some (by kernel_rfl))
 f143 := Tryd.func48.trans (congrArg some (by kernel_rfl))
 f146 := Tryd.func11.trans (congrArg some (by kernel_rfl))
 f195 := Tryd.func57.trans (congrArg some (by kernel_rfl))
 f197 := Tryd.func58.trans (congrArg some (by kernel_rfl))
 f217 := Tryd.func73.trans (congrArg some (by kernel_rfl))
 f218 := Tryd.func59.trans (congrArg some (by kernel_rfl))
 f219 := Tryd.func60.trans (congrArg some (by kernel_rfl))
 f221 := Tryd.func26.trans (congrArg some (by kernel_rfl))
 f224 := Tryd.func75.trans (congrArg some (by kernel_rfl))
 f225 := Tryd.func74.trans (congrArg some (by kernel_rfl))
 f260 := Tryd.func72.trans (congrArg some (by kernel_rfl))
 f266 := Tryd.func91.trans (congrArg some (by kernel_rfl))
 f267 := Tryd.func76.trans (congrArg some (by kernel_rfl))
 f268 := Tryd.func46.trans (congrArg some (by kernel_rfl))
 f314 := Tryd.func92.trans (congrArg some (by kernel_rfl))
 t0 := Tryd.underlying0
 a0 := Tryd.isAgg0
 z0 := Tryd.sizeOf0
 v0 := Tryd.zeroValue0
 t3 := Tryd.underlying3
 a3 := Tryd.isAgg3
 z3 := Tryd.sizeOf3
 v3 := Tryd.zeroValue3
 t4 := Tryd.underlying4
 a4 := Tryd.isAgg4
 z4 := Tryd.sizeOf4
 v4 := Tryd.zeroValue4
 t5 := Tryd.underlying5
 a5 := Tryd.isAgg5
 z5 := Tryd.sizeOf5
 v5 := Tryd.zeroValue5
 t9 := Tryd.underlying9
 a9 := Tryd.isAgg9
 z9 := Tryd.sizeOf9
 v9 := Tryd.zeroValue9
 t21 := Tryd.underlying21
 a21 := Tryd.isAgg21
 z21 := Tryd.sizeOf21
 v21 := Tryd.zeroValue21
 t31 := Tryd.underlying35
 a31 := Tryd.isAgg35
 z31 := Tryd.sizeOf35
 v31 := Tryd.zeroValue35
 t46 := Tryd.underlying108
 a46 := Tryd.isAgg108
 z46 := Tryd.sizeOf108
 v46 := Tryd.zeroValue108
 t51 := Tryd.underlying125
 a51 := Tryd.isAgg125
 z51 := Tryd.sizeOf125
 v51 := Tryd.zeroValue125
 t105 := Tryd.underlying100
 a105 := Tryd.isAgg100
 z105 := Tryd.sizeOf100
 v105 := Tryd.zeroValue100
 t119 := Tryd.underlying129
 a119 := Tryd.isAgg129
 z119 := Tryd.sizeOf129
 t138 := Tryd.underlying131
 a138 := Tryd.isAgg131
 z138 := Tryd.sizeOf131
 v138 := Tryd.zeroValue131
 t139 := Tryd.underlying132
 a139 := Tryd.isAgg132
 z139 := Tryd.sizeOf132
 v139 := Tryd.zeroValue132
 t146 := Tryd.underlying133
 a146 := Tryd.isAgg133
 z146 := Tryd.sizeOf133
 v146 := Tryd.zeroValue133
 g1 := by kernel_rfl
 g3 := by kernel_rfl
 g4 := by kernel_rfl
 i0 := by kernel_rfl
 i3 := by kernel_rfl
 i4 := by kernel_rfl
 i5 := by kernel_rfl
 i9 := by kernel_rfl
 i21 := by kernel_rfl
 i31 := by kernel_rfl
 i46 := by kernel_rfl
 i51 := by kernel_rfl
 i105 := by kernel_rfl
 i138 := by kernel_rfl
 i139 := by kernel_rfl
 i146 := by kernel_rfl
 m1 := by kernel_rfl
 s1_3 := fun w h => Go.Proofs.cell_of_shapedOpen_int (zero := #[.int .i64 0]) (t := 3) h (of_decide_eq_true (by kernel_rfl)) (by kernel_rfl) rfl (by kernel_rfl) (by kernel_rfl) Tryd.underlying3
 m3 := by kernel_rfl
 m4 := by kernel_rfl }
end Go.Proofs
