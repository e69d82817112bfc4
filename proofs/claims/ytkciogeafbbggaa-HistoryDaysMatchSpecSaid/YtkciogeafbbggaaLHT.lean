/- Part of the proof: HT. -/
import Derived.Test.YtkciogeafbbggaaPvS
import Derived.Test.YtkciogeafbbggaaProg
import Derived.KernelRfl
namespace Go.Proofs.Ytkciogeafbbggaa
open Go Go.Pv
set_option linter.unusedVariables false
set_option maxRecDepth 100000
theorem mixed : Try.prog.follows .mixedOrders = true := by kernel_rfl
structure TCalendar where
  Free : (List Int)
  Holidays : (List Int)
  deriving DecidableEq
structure Thistory_week where
  free : (Nat → Bool)
  work : Int
  holidays : (List Int)

structure Tprovenderref11_calendar where
  free : (Nat → Bool)
  holidays : (List (Int × Bool))

def encI_i64 (x : Int) : List V := [(iV x)]
theorem imms_encI_i64 (x : Int) : Imms (encI_i64 x) := (.cons (Imm.con _) .nil)
theorem one_encI_i64 (x : Int) : (encI_i64 x).all oneV = true := rfl
def encTCalendar (x : TCalendar) : List V := [(V.lst 1 (x.Free.map encI_i64)), (V.lst 1 (x.Holidays.map encI_i64))]
theorem imms_encTCalendar (x : TCalendar) : Imms (encTCalendar x) := (.cons (Imm.lst _ _) (.cons (Imm.lst _ _) .nil))
theorem one_encTCalendar (x : TCalendar) : (encTCalendar x).all oneV = true := rfl
def encM3_4 (p : Int × Bool) : Value × V := (.int .i64 p.1, (bV p.2))
abbrev encM3_4_val (v : Bool) : V := (bV v)
theorem encM3_4_puts (xs : List (Int × Bool)) (k : Int) (v : Bool) : Puts (.int .i64 k) (encM3_4_val v) (xs.map encM3_4) ((mput xs k v).map encM3_4) := puts_map (kv := fun k => .int .i64 k) (ev := encM3_4_val) inj_int xs k v
theorem encM3_4_look (xs : List (Int × Bool)) (k : Int) : Look (.int .i64 k) (xs.map encM3_4) ((mget xs k).map encM3_4_val) := look_map (kv := fun k => .int .i64 k) (ev := encM3_4_val) inj_int xs k
theorem encM3_4_imm {xs : List (Int × Bool)} : ∀ p, p ∈ xs.map encM3_4 → Imm p.2 := by
  intro p hp
  obtain ⟨x, _, rfl⟩ := List.mem_map.1 hp
  exact (Imm.con _)
theorem encM3_4_good {xs : List (Int × Bool)} : ∀ p, p ∈ xs.map encM3_4 → (isInt .i64) p.1 := by
  intro p hp
  obtain ⟨x, _, rfl⟩ := List.mem_map.1 hp
  exact ⟨_, rfl⟩
theorem tF24_0 : tyF Try.prog 24 0 0 = true := by kernel_rfl
theorem tC22 : tyC Try.prog 22 = true := by kernel_rfl
theorem tIsSl22 : tySlice Try.prog 22 = true := by kernel_rfl
theorem tF24_1 : tyF Try.prog 24 1 1 = true := by kernel_rfl
theorem tSl22 : tySl Try.prog 22 1 = true := by kernel_rfl
theorem tC3 : tyC Try.prog 3 = true := by kernel_rfl
theorem fOk78 : fnOk Try.prog 78 = true := by kernel_rfl
theorem fOk21 : fnOk Try.prog 21 = true := by kernel_rfl
theorem tA24 : tyA Try.prog 24 2 = true := by kernel_rfl
theorem fOk69 : fnOk Try.prog 69 = true := by kernel_rfl
theorem tZ101 : zeroCells Try.prog 101 = some [.bool false, .bool false, .bool false, .bool false, .bool false, .bool false, .bool false, .int .i64 0, .slice none 0 0] := by kernel_rfl
theorem tPl101 : tyPlaces Try.prog 101 = some [(0, 7), (7, 1), (8, 1)] := by kernel_rfl
theorem tS101 : tyS Try.prog 101 9 = true := by kernel_rfl
theorem tF101_0 : tyF Try.prog 101 0 0 = true := by kernel_rfl
theorem tArr99 : tyArr Try.prog 99 7 1 = true := by kernel_rfl
theorem tS4 : tyS Try.prog 4 1 = true := by kernel_rfl
theorem tC4 : tyC Try.prog 4 = true := by kernel_rfl
theorem tF101_2 : tyF Try.prog 101 2 8 = true := by kernel_rfl
theorem tEl22 : tyEl Try.prog 22 3 1 8 = true := by kernel_rfl
theorem tZ3 : zeroCells Try.prog 3 = some [.int .i64 0] := by kernel_rfl
theorem tS22 : tyS Try.prog 22 1 = true := by kernel_rfl
theorem tA101 : tyA Try.prog 101 9 = true := by kernel_rfl
theorem fOk70 : fnOk Try.prog 70 = true := by kernel_rfl
theorem tF101_1 : tyF Try.prog 101 1 7 = true := by kernel_rfl
theorem tU150 : Try.prog.underlying 150 = some (.int .u64) := by kernel_rfl
theorem tU3 : Try.prog.underlying 3 = some (.int .i64) := by kernel_rfl
theorem fOk140 : fnOk Try.prog 140 = true := by kernel_rfl
theorem fOk108 : fnOk Try.prog 108 = true := by kernel_rfl
theorem fOk109 : fnOk Try.prog 109 = true := by kernel_rfl
theorem fOk53 : fnOk Try.prog 53 = true := by kernel_rfl
theorem fOk71 : fnOk Try.prog 71 = true := by kernel_rfl
theorem fOk15 : fnOk Try.prog 15 = true := by kernel_rfl
theorem fOk22 : fnOk Try.prog 22 = true := by kernel_rfl
theorem fOk72 : fnOk Try.prog 72 = true := by kernel_rfl
theorem tZ106 : zeroCells Try.prog 106 = some [.bool false, .bool false, .bool false, .bool false, .bool false, .bool false, .bool false, .map none] := by kernel_rfl
theorem tPl106 : tyPlaces Try.prog 106 = some [(0, 7), (7, 1)] := by kernel_rfl
theorem tS106 : tyS Try.prog 106 8 = true := by kernel_rfl
theorem tF106_0 : tyF Try.prog 106 0 0 = true := by kernel_rfl
theorem tF106_1 : tyF Try.prog 106 1 7 = true := by kernel_rfl
theorem tC104 : tyC Try.prog 104 = true := by kernel_rfl
theorem tMap104 : tyMap Try.prog 104 3 4 = true := by kernel_rfl
theorem tKey3 : KeyT Try.prog 3 (isInt .i64) := keyT_int (by kernel_rfl)
theorem tA106 : tyA Try.prog 106 8 = true := by kernel_rfl
theorem fOk73 : fnOk Try.prog 73 = true := by kernel_rfl
theorem tZo4 : (Try.prog.info? 4).bind (·.zero) = some (.bool false) := by kernel_rfl
theorem fOk74 : fnOk Try.prog 74 = true := by kernel_rfl
theorem fOk16 : fnOk Try.prog 16 = true := by kernel_rfl
theorem fOk17 : fnOk Try.prog 17 = true := by kernel_rfl
theorem fOk75 : fnOk Try.prog 75 = true := by kernel_rfl
theorem fOk18 : fnOk Try.prog 18 = true := by kernel_rfl
theorem tS3 : tyS Try.prog 3 1 = true := by kernel_rfl
theorem fOk126 : fnOk Try.prog 126 = true := by kernel_rfl
theorem fOk125 : fnOk Try.prog 125 = true := by kernel_rfl
theorem fOk76 : fnOk Try.prog 76 = true := by kernel_rfl
theorem fOk19 : fnOk Try.prog 19 = true := by kernel_rfl
theorem fOk77 : fnOk Try.prog 77 = true := by kernel_rfl
theorem fOk20 : fnOk Try.prog 20 = true := by kernel_rfl
theorem tZ24 : zeroCells Try.prog 24 = some [.slice none 0 0, .slice none 0 0] := by kernel_rfl
theorem tPl24 : tyPlaces Try.prog 24 = some [(0, 1), (1, 1)] := by kernel_rfl
theorem fOk23 : fnOk Try.prog 23 = true := by kernel_rfl
theorem tU4 : Try.prog.underlying 4 = some (.bool) := by kernel_rfl
end Go.Proofs.Ytkciogeafbbggaa
