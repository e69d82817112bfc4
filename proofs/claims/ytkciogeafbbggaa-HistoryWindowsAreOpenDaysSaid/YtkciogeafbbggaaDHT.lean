/- Part of the proof: HT. -/
import Derived.Test.YtkciogeafbbggaaDPvV
import Derived.Test.YtkciogeafbbggaaProg
import Derived.KernelRfl
namespace Go.Proofs.Ytkciogeafbbggaa
open Go Go.Pv
set_option linter.unusedVariables false
set_option maxRecDepth 100000
theorem mixed : Try.prog.follows .mixedOrders = true := by kernel_rfl
structure TCalendar where
  Free : (List Int)
  Holidays : (List Int)
  deriving DecidableEq
structure Thistory_week where
  free : (Nat → Bool)
  work : Int
  holidays : (List Int)
structure TWindow where
  Advisory : (List UInt8)
  Component : (List UInt8)
  Severity : Int
  From : Int
  To : Int
  Open : Bool
  deriving DecidableEq
structure TExposure where
  Advisory : (List UInt8)
  Component : (List UInt8)
  Severity : Int
  deriving DecidableEq
structure TRelease where
  Version : (List UInt8)
  Day : Int
  Exposures : (List TExposure)
  deriving DecidableEq
structure Thistory_key where
  advisory : (List UInt8)
  component : (List UInt8)
  deriving DecidableEq
structure TPublished where
  Advisory : (List UInt8)
  Day : Int
  Ended : Int
  deriving DecidableEq
structure TStory where
  Product : (List UInt8)
  Releases : (List TRelease)
  Known : (List TPublished)
  Until : Int
  deriving DecidableEq
structure Thistory_piece where
  x : TExposure
  from_ : Int
  to : Int
  deriving DecidableEq
structure Tprovenderref11_view where
  s : TStory
  known : (List ((List UInt8) × TPublished))
  deriving DecidableEq
structure Tprovenderref11_stretch where
  x : TExposure
  from_ : Int
  to : Int
  deriving DecidableEq
def encI_i64 (x : Int) : List V := [(iV x)]
theorem imms_encI_i64 (x : Int) : Imms (encI_i64 x) := (.cons (Imm.con _) .nil)
def encTCalendar (x : TCalendar) : List V := [(V.lst 1 (x.Free.map encI_i64)), (V.lst 1 (x.Holidays.map encI_i64))]
theorem imms_encTCalendar (x : TCalendar) : Imms (encTCalendar x) := (.cons (Imm.lst _ _) (.cons (Imm.lst _ _) .nil))
@[simp] theorem len_encTCalendar (x : TCalendar) : (encTCalendar x).length = 2 := rfl
def encTWindow (x : TWindow) : List V := [(sV x.Advisory), (sV x.Component), (iV x.Severity), (iV x.From), (iV x.To), (bV x.Open)]
theorem imms_encTWindow (x : TWindow) : Imms (encTWindow x) := (.cons (Imm.con _) (.cons (Imm.con _) (.cons (Imm.con _) (.cons (Imm.con _) (.cons (Imm.con _) (.cons (Imm.con _) .nil))))))
theorem one_encTWindow (x : TWindow) : (encTWindow x).all oneV = true := rfl
@[simp] theorem len_encTWindow (x : TWindow) : (encTWindow x).length = 6 := rfl
def encTExposure (x : TExposure) : List V := [(sV x.Advisory), (sV x.Component), (iV x.Severity)]
theorem imms_encTExposure (x : TExposure) : Imms (encTExposure x) := (.cons (Imm.con _) (.cons (Imm.con _) (.cons (Imm.con _) .nil)))
@[simp] theorem len_encTExposure (x : TExposure) : (encTExposure x).length = 3 := rfl
def encTRelease (x : TRelease) : List V := [(sV x.Version), (iV x.Day), (V.lst 3 (x.Exposures.map encTExposure))]
@[simp] theorem len_encTRelease (x : TRelease) : (encTRelease x).length = 3 := rfl
def encTPublished (x : TPublished) : List V := [(sV x.Advisory), (iV x.Day), (iV x.Ended)]
@[simp] theorem len_encTPublished (x : TPublished) : (encTPublished x).length = 3 := rfl
def encTStory (x : TStory) : List V := [(sV x.Product), (V.lst 3 (x.Releases.map encTRelease)), (V.lst 3 (x.Known.map encTPublished)), (iV x.Until)]
theorem imms_encTStory (x : TStory) : Imms (encTStory x) := (.cons (Imm.con _) (.cons (Imm.lst _ _) (.cons (Imm.lst _ _) (.cons (Imm.con _) .nil))))
@[simp] theorem len_encTStory (x : TStory) : (encTStory x).length = 4 := rfl
def encThistory_key (x : Thistory_key) : List V := [(sV x.advisory), (sV x.component)]
theorem imms_encThistory_key (x : Thistory_key) : Imms (encThistory_key x) := (.cons (Imm.con _) (.cons (Imm.con _) .nil))
@[simp] theorem len_encThistory_key (x : Thistory_key) : (encThistory_key x).length = 2 := rfl
def encThistory_piece (x : Thistory_piece) : List V := [(sV x.x.Advisory), (sV x.x.Component), (iV x.x.Severity), (iV x.from_), (iV x.to)]
theorem imms_encThistory_piece (x : Thistory_piece) : Imms (encThistory_piece x) := (.cons (Imm.con _) (.cons (Imm.con _) (.cons (Imm.con _) (.cons (Imm.con _) (.cons (Imm.con _) .nil)))))
@[simp] theorem len_encThistory_piece (x : Thistory_piece) : (encThistory_piece x).length = 5 := rfl
theorem eqp9 {d : Nat} : EqOk Try.prog (d + 1) 9 1 false (fun l => ∃ n, l = [.string n]) := eqOk_str (show Try.prog.underlying 9 = some (.string) by kernel_rfl) (show tyC Try.prog 9 = true by kernel_rfl)
def cv118 (x : Thistory_key) : List Value := [str x.advisory] ++ ([str x.component] ++ [])
theorem inj_cv118 (x y : Thistory_key) (h : cv118 x = cv118 y) : x = y := by
  obtain ⟨h0, h⟩ := List.append_inj h rfl
  obtain ⟨h1, h⟩ := List.append_inj h rfl
  obtain ⟨a0, a1⟩ := x
  obtain ⟨b0, b1⟩ := y
  obtain rfl : a0 = b0 := inj_str _ _ (List.cons.inj h0).1
  obtain rfl : a1 = b1 := inj_str _ _ (List.cons.inj h1).1
  rfl
def isAgg118 (v : Value) : Prop := ∃ x : Thistory_key, v = .agg (cv118 x).toArray
theorem inj_agg118 : ∀ a b : Thistory_key, (Value.agg (cv118 a).toArray) = .agg (cv118 b).toArray → a = b := fun a b h => inj_cv118 a b (by simpa using congrArg Array.toList (Value.agg.inj h))
theorem eqp118 {d : Nat} : EqOk Try.prog (d + 2) 118 2 true (fun l => ∃ x : Thistory_key, l = cv118 x) := (eqOk_struct (d := d + 1) (fs := [(Field.mk "advisory" 9 0 false "" "provender/history" 0), (Field.mk "component" 9 1 false "" "provender/history" 16)]) (by kernel_rfl) (by kernel_rfl) (by kernel_rfl) (by kernel_rfl) (eqF_cons eqp9 (by simp) rfl (by simp) (eqF_cons eqp9 (by simp) rfl (by simp) eqF_nil))).weaken (fun l ⟨x, hx⟩ => by subst hx; exact ⟨_, _, rfl, ⟨_, rfl⟩, ⟨_, _, rfl, ⟨_, rfl⟩, rfl⟩⟩)
theorem eqk118 : EqOk Try.prog 10000 118 2 true (fun l => ∃ x : Thistory_key, l = cv118 x) := eqp118 (d := 9998)
def encM9_137 (p : (List UInt8) × TPublished) : Value × V := (str p.1, (V.agg [(sV p.2.Advisory), (iV p.2.Day), (iV p.2.Ended)]))
abbrev encM9_137_val (v : TPublished) : V := (V.agg [(sV v.Advisory), (iV v.Day), (iV v.Ended)])
theorem encM9_137_puts (xs : List ((List UInt8) × TPublished)) (k : (List UInt8)) (v : TPublished) : Puts (str k) (encM9_137_val v) (xs.map encM9_137) ((mput xs k v).map encM9_137) := puts_map (kv := fun k => str k) (ev := encM9_137_val) inj_str xs k v
theorem encM9_137_look (xs : List ((List UInt8) × TPublished)) (k : (List UInt8)) : Look (str k) (xs.map encM9_137) ((mget xs k).map encM9_137_val) := look_map (kv := fun k => str k) (ev := encM9_137_val) inj_str xs k
theorem encM9_137_imm {xs : List ((List UInt8) × TPublished)} : ∀ p, p ∈ xs.map encM9_137 → Imm p.2 := by
  intro p hp
  obtain ⟨x, _, rfl⟩ := List.mem_map.1 hp
  exact (Imm.agg (.cons (Imm.con _) (.cons (Imm.con _) (.cons (Imm.con _) .nil))))
theorem encM9_137_good {xs : List ((List UInt8) × TPublished)} : ∀ p, p ∈ xs.map encM9_137 → isStr p.1 := by
  intro p hp
  obtain ⟨x, _, rfl⟩ := List.mem_map.1 hp
  exact ⟨_, rfl⟩
def encTprovenderref11_view (x : Tprovenderref11_view) : List V := [(sV x.s.Product), (V.lst 3 (x.s.Releases.map encTRelease)), (V.lst 3 (x.s.Known.map encTPublished)), (iV x.s.Until), (V.imap (x.known.map encM9_137))]
theorem imms_encTprovenderref11_view (x : Tprovenderref11_view) : Imms (encTprovenderref11_view x) := (.cons (Imm.con _) (.cons (Imm.lst _ _) (.cons (Imm.lst _ _) (.cons (Imm.con _) (.cons (Imm.imap _) .nil)))))
@[simp] theorem len_encTprovenderref11_view (x : Tprovenderref11_view) : (encTprovenderref11_view x).length = 5 := rfl
def encM9_4 (p : (List UInt8) × Bool) : Value × V := (str p.1, (bV p.2))
abbrev encM9_4_val (v : Bool) : V := (bV v)
theorem encM9_4_puts (xs : List ((List UInt8) × Bool)) (k : (List UInt8)) (v : Bool) : Puts (str k) (encM9_4_val v) (xs.map encM9_4) ((mput xs k v).map encM9_4) := puts_map (kv := fun k => str k) (ev := encM9_4_val) inj_str xs k v
theorem encM9_4_look (xs : List ((List UInt8) × Bool)) (k : (List UInt8)) : Look (str k) (xs.map encM9_4) ((mget xs k).map encM9_4_val) := look_map (kv := fun k => str k) (ev := encM9_4_val) inj_str xs k
theorem encM9_4_imm {xs : List ((List UInt8) × Bool)} : ∀ p, p ∈ xs.map encM9_4 → Imm p.2 := by
  intro p hp
  obtain ⟨x, _, rfl⟩ := List.mem_map.1 hp
  exact (Imm.con _)
theorem encM9_4_good {xs : List ((List UInt8) × Bool)} : ∀ p, p ∈ xs.map encM9_4 → isStr p.1 := by
  intro p hp
  obtain ⟨x, _, rfl⟩ := List.mem_map.1 hp
  exact ⟨_, rfl⟩
def encM118_3 (p : Thistory_key × Int) : Value × V := (.agg (cv118 p.1).toArray, (iV p.2))
abbrev encM118_3_val (v : Int) : V := (iV v)
theorem encM118_3_puts (xs : List (Thistory_key × Int)) (k : Thistory_key) (v : Int) : Puts (.agg (cv118 k).toArray) (encM118_3_val v) (xs.map encM118_3) ((mput xs k v).map encM118_3) := puts_map (kv := fun k => .agg (cv118 k).toArray) (ev := encM118_3_val) inj_agg118 xs k v
theorem encM118_3_look (xs : List (Thistory_key × Int)) (k : Thistory_key) : Look (.agg (cv118 k).toArray) (xs.map encM118_3) ((mget xs k).map encM118_3_val) := look_map (kv := fun k => .agg (cv118 k).toArray) (ev := encM118_3_val) inj_agg118 xs k
theorem encM118_3_imm {xs : List (Thistory_key × Int)} : ∀ p, p ∈ xs.map encM118_3 → Imm p.2 := by
  intro p hp
  obtain ⟨x, _, rfl⟩ := List.mem_map.1 hp
  exact (Imm.con _)
theorem encM118_3_good {xs : List (Thistory_key × Int)} : ∀ p, p ∈ xs.map encM118_3 → (isAgg118) p.1 := by
  intro p hp
  obtain ⟨x, _, rfl⟩ := List.mem_map.1 hp
  exact ⟨_, rfl⟩
theorem tA24 : tyA Try.prog 24 2 = true := by kernel_rfl
theorem tF24_0 : tyF Try.prog 24 0 0 = true := by kernel_rfl
theorem tC22 : tyC Try.prog 22 = true := by kernel_rfl
theorem tIsSl22 : tySlice Try.prog 22 = true := by kernel_rfl
theorem tF24_1 : tyF Try.prog 24 1 1 = true := by kernel_rfl
theorem tSl22 : tySl Try.prog 22 1 = true := by kernel_rfl
theorem tC3 : tyC Try.prog 3 = true := by kernel_rfl
theorem fOk78 : fnOk Try.prog 78 = true := by kernel_rfl
theorem fOk21 : fnOk Try.prog 21 = true := by kernel_rfl
theorem fOk69 : fnOk Try.prog 69 = true := by kernel_rfl
theorem tZ101 : zeroCells Try.prog 101 = some [.bool false, .bool false, .bool false, .bool false, .bool false, .bool false, .bool false, .int .i64 0, .slice none 0 0] := by kernel_rfl
theorem tPl101 : tyPlaces Try.prog 101 = some [(0, 7), (7, 1), (8, 1)] := by kernel_rfl
theorem tS101 : tyS Try.prog 101 9 = true := by kernel_rfl
theorem tF101_0 : tyF Try.prog 101 0 0 = true := by kernel_rfl
theorem tArr99 : tyArr Try.prog 99 7 1 = true := by kernel_rfl
theorem tS4 : tyS Try.prog 4 1 = true := by kernel_rfl
theorem tC4 : tyC Try.prog 4 = true := by kernel_rfl
theorem tF101_2 : tyF Try.prog 101 2 8 = true := by kernel_rfl
theorem tEl22 : tyEl Try.prog 22 3 1 8 = true := by kernel_rfl
theorem tZ3 : zeroCells Try.prog 3 = some [.int .i64 0] := by kernel_rfl
theorem tS22 : tyS Try.prog 22 1 = true := by kernel_rfl
theorem tA101 : tyA Try.prog 101 9 = true := by kernel_rfl
theorem fOk70 : fnOk Try.prog 70 = true := by kernel_rfl
theorem tF101_1 : tyF Try.prog 101 1 7 = true := by kernel_rfl
theorem tU150 : Try.prog.underlying 150 = some (.int .u64) := by kernel_rfl
theorem tU3 : Try.prog.underlying 3 = some (.int .i64) := by kernel_rfl
theorem fOk140 : fnOk Try.prog 140 = true := by kernel_rfl
theorem fOk108 : fnOk Try.prog 108 = true := by kernel_rfl
theorem fOk109 : fnOk Try.prog 109 = true := by kernel_rfl
theorem fOk53 : fnOk Try.prog 53 = true := by kernel_rfl
theorem fOk71 : fnOk Try.prog 71 = true := by kernel_rfl
theorem fOk72 : fnOk Try.prog 72 = true := by kernel_rfl
theorem tZo4 : (Try.prog.info? 4).bind (·.zero) = some (.bool false) := by kernel_rfl
theorem fOk17 : fnOk Try.prog 17 = true := by kernel_rfl
theorem tS3 : tyS Try.prog 3 1 = true := by kernel_rfl
theorem tZ24 : zeroCells Try.prog 24 = some [.slice none 0 0, .slice none 0 0] := by kernel_rfl
theorem tPl24 : tyPlaces Try.prog 24 = some [(0, 1), (1, 1)] := by kernel_rfl
theorem fOk23 : fnOk Try.prog 23 = true := by kernel_rfl
theorem tA35 : tyA Try.prog 35 6 = true := by kernel_rfl
theorem tF35_2 : tyF Try.prog 35 2 2 = true := by kernel_rfl
theorem tF35_3 : tyF Try.prog 35 3 3 = true := by kernel_rfl
theorem tA42 : tyA Try.prog 42 3 = true := by kernel_rfl
theorem tZ42 : zeroCells Try.prog 42 = some [.string ⟨#[]⟩, .int .i64 0, .slice none 0 0] := by kernel_rfl
theorem tIsSl49 : tySlice Try.prog 49 = true := by kernel_rfl
theorem tSl49 : tySl Try.prog 49 3 = true := by kernel_rfl
theorem tS42 : tyS Try.prog 42 3 = true := by kernel_rfl
theorem tF42_0 : tyF Try.prog 42 0 0 = true := by kernel_rfl
theorem tC9 : tyC Try.prog 9 = true := by kernel_rfl
theorem tStr9 : tyStr Try.prog 9 = true := by kernel_rfl
theorem fOk131 : fnOk Try.prog 131 = true := by kernel_rfl
theorem fOk93 : fnOk Try.prog 93 = true := by kernel_rfl
theorem tF42_1 : tyF Try.prog 42 1 1 = true := by kernel_rfl
theorem tF42_2 : tyF Try.prog 42 2 2 = true := by kernel_rfl
theorem tC40 : tyC Try.prog 40 = true := by kernel_rfl
theorem tIsSl40 : tySlice Try.prog 40 = true := by kernel_rfl
theorem tSl40 : tySl Try.prog 40 3 = true := by kernel_rfl
theorem tA47 : tyA Try.prog 47 3 = true := by kernel_rfl
theorem tZ47 : zeroCells Try.prog 47 = some [.string ⟨#[]⟩, .string ⟨#[]⟩, .int .i64 0] := by kernel_rfl
theorem tS47 : tyS Try.prog 47 3 = true := by kernel_rfl
theorem tF47_0 : tyF Try.prog 47 0 0 = true := by kernel_rfl
theorem tF47_1 : tyF Try.prog 47 1 1 = true := by kernel_rfl
theorem tF47_2 : tyF Try.prog 47 2 2 = true := by kernel_rfl
theorem tZ118 : zeroCells Try.prog 118 = some [.string ⟨#[]⟩, .string ⟨#[]⟩] := by kernel_rfl
theorem tPl118 : tyPlaces Try.prog 118 = some [(0, 1), (1, 1)] := by kernel_rfl
theorem tS118 : tyS Try.prog 118 2 = true := by kernel_rfl
theorem tA118 : tyA Try.prog 118 2 = true := by kernel_rfl
theorem fOk84 : fnOk Try.prog 84 = true := by kernel_rfl
theorem fOk152 : fnOk Try.prog 152 = true := by kernel_rfl
theorem fOk138 : fnOk Try.prog 138 = true := by kernel_rfl
theorem fOk149 : fnOk Try.prog 149 = true := by kernel_rfl
theorem tF118_0 : tyF Try.prog 118 0 0 = true := by kernel_rfl
theorem tF118_1 : tyF Try.prog 118 1 1 = true := by kernel_rfl
theorem fOk146 : fnOk Try.prog 146 = true := by kernel_rfl
theorem fOk127 : fnOk Try.prog 127 = true := by kernel_rfl
theorem fOk100 : fnOk Try.prog 100 = true := by kernel_rfl
theorem fOk43 : fnOk Try.prog 43 = true := by kernel_rfl
theorem tEl40 : tyEl Try.prog 40 47 3 40 = true := by kernel_rfl
theorem fOk95 : fnOk Try.prog 95 = true := by kernel_rfl
theorem fOk132 : fnOk Try.prog 132 = true := by kernel_rfl
theorem fOk96 : fnOk Try.prog 96 = true := by kernel_rfl
theorem tA52 : tyA Try.prog 52 4 = true := by kernel_rfl
theorem tF52_0 : tyF Try.prog 52 0 0 = true := by kernel_rfl
theorem tF52_3 : tyF Try.prog 52 3 3 = true := by kernel_rfl
theorem tF52_1 : tyF Try.prog 52 1 1 = true := by kernel_rfl
theorem tC49 : tyC Try.prog 49 = true := by kernel_rfl
theorem tF52_2 : tyF Try.prog 52 2 2 = true := by kernel_rfl
theorem tC50 : tyC Try.prog 50 = true := by kernel_rfl
theorem tIsSl50 : tySlice Try.prog 50 = true := by kernel_rfl
theorem tMap135 : tyMap Try.prog 135 9 4 = true := by kernel_rfl
theorem tKey9 : KeyT Try.prog 9 isStr := keyT_str (by kernel_rfl)
theorem fOk94 : fnOk Try.prog 94 = true := by kernel_rfl
theorem tSl50 : tySl Try.prog 50 3 = true := by kernel_rfl
theorem tA137 : tyA Try.prog 137 3 = true := by kernel_rfl
theorem tZ137 : zeroCells Try.prog 137 = some [.string ⟨#[]⟩, .int .i64 0, .int .i64 0] := by kernel_rfl
theorem tS137 : tyS Try.prog 137 3 = true := by kernel_rfl
theorem tF137_0 : tyF Try.prog 137 0 0 = true := by kernel_rfl
theorem tF137_1 : tyF Try.prog 137 1 1 = true := by kernel_rfl
theorem tF137_2 : tyF Try.prog 137 2 2 = true := by kernel_rfl
theorem fOk35 : fnOk Try.prog 35 = true := by kernel_rfl
theorem tPl42 : tyPlaces Try.prog 42 = some [(0, 1), (1, 1), (2, 1)] := by kernel_rfl
theorem fOk97 : fnOk Try.prog 97 = true := by kernel_rfl
theorem fOk36 : fnOk Try.prog 36 = true := by kernel_rfl
theorem fOk89 : fnOk Try.prog 89 = true := by kernel_rfl
theorem tMap129 : tyMap Try.prog 129 9 137 = true := by kernel_rfl
theorem tZo137 : (Try.prog.info? 137).bind (·.zero) = some (.agg #[.string ⟨#[]⟩, .int .i64 0, .int .i64 0]) := by kernel_rfl
theorem tZ128 : zeroCells Try.prog 128 = some [.string ⟨#[]⟩, .string ⟨#[]⟩, .int .i64 0, .int .i64 0, .int .i64 0] := by kernel_rfl
theorem tPl128 : tyPlaces Try.prog 128 = some [(0, 3), (3, 1), (4, 1)] := by kernel_rfl
theorem tS128 : tyS Try.prog 128 5 = true := by kernel_rfl
theorem tF128_2 : tyF Try.prog 128 2 4 = true := by kernel_rfl
theorem tF128_1 : tyF Try.prog 128 1 3 = true := by kernel_rfl
theorem tA128 : tyA Try.prog 128 5 = true := by kernel_rfl
theorem tEl125 : tyEl Try.prog 125 128 5 56 = true := by kernel_rfl
theorem tIsSl125 : tySlice Try.prog 125 = true := by kernel_rfl
theorem fOk90 : fnOk Try.prog 90 = true := by kernel_rfl
theorem tSl125 : tySl Try.prog 125 5 = true := by kernel_rfl
theorem tF128_0 : tyF Try.prog 128 0 0 = true := by kernel_rfl
theorem fOk33 : fnOk Try.prog 33 = true := by kernel_rfl
theorem tZ131 : zeroCells Try.prog 131 = some [.string ⟨#[]⟩, .slice none 0 0, .slice none 0 0, .int .i64 0, .map none] := by kernel_rfl
theorem tPl131 : tyPlaces Try.prog 131 = some [(0, 4), (4, 1)] := by kernel_rfl
theorem tS131 : tyS Try.prog 131 5 = true := by kernel_rfl
theorem tF131_1 : tyF Try.prog 131 1 4 = true := by kernel_rfl
theorem tC129 : tyC Try.prog 129 = true := by kernel_rfl
theorem tA131 : tyA Try.prog 131 5 = true := by kernel_rfl
theorem fOk91 : fnOk Try.prog 91 = true := by kernel_rfl
theorem tF131_0 : tyF Try.prog 131 0 0 = true := by kernel_rfl
theorem fOk130 : fnOk Try.prog 130 = true := by kernel_rfl
theorem fOk92 : fnOk Try.prog 92 = true := by kernel_rfl
theorem fOk34 : fnOk Try.prog 34 = true := by kernel_rfl
theorem tMap172 : tyMap Try.prog 172 118 3 = true := by kernel_rfl
theorem tKey118 : KeyT Try.prog 118 isAgg118 := keyT_agg eqk118 (by kernel_rfl) (fun v ⟨x, hx⟩ => ⟨_, ⟨x, rfl⟩, hx⟩)
theorem tZo3 : (Try.prog.info? 3).bind (·.zero) = some (.int .i64 0) := by kernel_rfl
theorem tIsSl59 : tySlice Try.prog 59 = true := by kernel_rfl
theorem tZ35 : zeroCells Try.prog 35 = some [.string ⟨#[]⟩, .string ⟨#[]⟩, .int .i64 0, .int .i64 0, .int .i64 0, .bool false] := by kernel_rfl
theorem tPl35 : tyPlaces Try.prog 35 = some [(0, 1), (1, 1), (2, 1), (3, 1), (4, 1), (5, 1)] := by kernel_rfl
theorem tEl59 : tyEl Try.prog 59 35 6 64 = true := by kernel_rfl
theorem tSl59 : tySl Try.prog 59 6 = true := by kernel_rfl
theorem tF35_4 : tyF Try.prog 35 4 4 = true := by kernel_rfl
theorem tF35_5 : tyF Try.prog 35 5 5 = true := by kernel_rfl
theorem fOk147 : fnOk Try.prog 147 = true := by kernel_rfl
theorem fOk116 : fnOk Try.prog 116 = true := by kernel_rfl
theorem tF35_0 : tyF Try.prog 35 0 0 = true := by kernel_rfl
theorem tF35_1 : tyF Try.prog 35 1 1 = true := by kernel_rfl
theorem fOk134 : fnOk Try.prog 134 = true := by kernel_rfl
theorem tS35 : tyS Try.prog 35 6 = true := by kernel_rfl
theorem fOk171 : fnOk Try.prog 171 = true := by kernel_rfl
theorem fOk185 : fnOk Try.prog 185 = true := by kernel_rfl
theorem fOk181 : fnOk Try.prog 181 = true := by kernel_rfl
theorem fOk172 : fnOk Try.prog 172 = true := by kernel_rfl
theorem fOk157 : fnOk Try.prog 157 = true := by kernel_rfl
theorem fOk148 : fnOk Try.prog 148 = true := by kernel_rfl
theorem fOk133 : fnOk Try.prog 133 = true := by kernel_rfl
theorem fOk98 : fnOk Try.prog 98 = true := by kernel_rfl
theorem fOk38 : fnOk Try.prog 38 = true := by kernel_rfl
theorem fOk44 : fnOk Try.prog 44 = true := by kernel_rfl
end Go.Proofs.Ytkciogeafbbggaa
