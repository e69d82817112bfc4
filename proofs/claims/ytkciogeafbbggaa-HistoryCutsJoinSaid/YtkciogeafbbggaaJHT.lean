/- Part of the proof: HT. -/
import Derived.Test.YtkciogeafbbggaaJPvV
import Derived.Test.YtkciogeafbbggaaProg
import Derived.KernelRfl
namespace Go.Proofs.Ytkciogeafbbggaa
open Go Go.Pv
set_option linter.unusedVariables false
set_option maxRecDepth 100000
theorem bsp {P : Prop} (c : Bool) (f : c = true → P) (g : c = false → P) : P := (Bool.eq_false_or_eq_true c).elim f g
theorem mixed : Try.prog.follows .mixedOrders = true := by kernel_rfl
structure TCalendar where
  Free : (List Int)
  Holidays : (List Int)
  deriving DecidableEq
structure Thistory_week where
  free : (Nat → Bool)
  work : Int
  holidays : (List Int)
structure TExposure where
  Advisory : (List UInt8)
  Component : (List UInt8)
  Severity : Int
  deriving DecidableEq
structure TRelease where
  Version : (List UInt8)
  Day : Int
  Exposures : (List TExposure)
  deriving DecidableEq
structure Thistory_key where
  advisory : (List UInt8)
  component : (List UInt8)
  deriving DecidableEq
structure TPublished where
  Advisory : (List UInt8)
  Day : Int
  Ended : Int
  deriving DecidableEq
structure TStory where
  Product : (List UInt8)
  Releases : (List TRelease)
  Known : (List TPublished)
  Until : Int
  deriving DecidableEq
def encI_i64 (x : Int) : List V := [(iV x)]
theorem imms_encI_i64 (x : Int) : Imms (encI_i64 x) := (.cons (Imm.con _) .nil)
def encTCalendar (x : TCalendar) : List V := [(V.lst 1 (x.Free.map encI_i64)), (V.lst 1 (x.Holidays.map encI_i64))]
theorem imms_encTCalendar (x : TCalendar) : Imms (encTCalendar x) := (.cons (Imm.lst _ _) (.cons (Imm.lst _ _) .nil))
@[simp] theorem len_encTCalendar (x : TCalendar) : (encTCalendar x).length = 2 := rfl
def encTExposure (x : TExposure) : List V := [(sV x.Advisory), (sV x.Component), (iV x.Severity)]
theorem imms_encTExposure (x : TExposure) : Imms (encTExposure x) := (.cons (Imm.con _) (.cons (Imm.con _) (.cons (Imm.con _) .nil)))
theorem one_encTExposure (x : TExposure) : (encTExposure x).all oneV = true := rfl
@[simp] theorem len_encTExposure (x : TExposure) : (encTExposure x).length = 3 := rfl
def encTRelease (x : TRelease) : List V := [(sV x.Version), (iV x.Day), (V.lst 3 (x.Exposures.map encTExposure))]
theorem imms_encTRelease (x : TRelease) : Imms (encTRelease x) := (.cons (Imm.con _) (.cons (Imm.con _) (.cons (Imm.lst _ _) .nil)))
theorem one_encTRelease (x : TRelease) : (encTRelease x).all oneV = true := rfl
@[simp] theorem len_encTRelease (x : TRelease) : (encTRelease x).length = 3 := rfl
def encTPublished (x : TPublished) : List V := [(sV x.Advisory), (iV x.Day), (iV x.Ended)]
theorem imms_encTPublished (x : TPublished) : Imms (encTPublished x) := (.cons (Imm.con _) (.cons (Imm.con _) (.cons (Imm.con _) .nil)))
theorem one_encTPublished (x : TPublished) : (encTPublished x).all oneV = true := rfl
@[simp] theorem len_encTPublished (x : TPublished) : (encTPublished x).length = 3 := rfl
def encTStory (x : TStory) : List V := [(sV x.Product), (V.lst 3 (x.Releases.map encTRelease)), (V.lst 3 (x.Known.map encTPublished)), (iV x.Until)]
theorem imms_encTStory (x : TStory) : Imms (encTStory x) := (.cons (Imm.con _) (.cons (Imm.lst _ _) (.cons (Imm.lst _ _) (.cons (Imm.con _) .nil))))
@[simp] theorem len_encTStory (x : TStory) : (encTStory x).length = 4 := rfl
def encThistory_key (x : Thistory_key) : List V := [(sV x.advisory), (sV x.component)]
theorem imms_encThistory_key (x : Thistory_key) : Imms (encThistory_key x) := (.cons (Imm.con _) (.cons (Imm.con _) .nil))
@[simp] theorem len_encThistory_key (x : Thistory_key) : (encThistory_key x).length = 2 := rfl
theorem eqp9 {d : Nat} : EqOk Try.prog (d + 1) 9 1 false (fun l => ∃ n, l = [.string n]) := eqOk_str (show Try.prog.underlying 9 = some (.string) by kernel_rfl) (show tyC Try.prog 9 = true by kernel_rfl)
theorem eqp3 {d : Nat} : EqOk Try.prog (d + 1) 3 1 false (fun l => ∃ n, l = [.int .i64 n]) := eqOk_int (show Try.prog.underlying 3 = some (.int .i64) by kernel_rfl) (show tyC Try.prog 3 = true by kernel_rfl)
def cv47 (x : TExposure) : List Value := [str x.Advisory] ++ ([str x.Component] ++ ([.int .i64 x.Severity] ++ []))
theorem inj_cv47 (x y : TExposure) (h : cv47 x = cv47 y) : x = y := by
  obtain ⟨h0, h⟩ := List.append_inj h rfl
  obtain ⟨h1, h⟩ := List.append_inj h rfl
  obtain ⟨h2, h⟩ := List.append_inj h rfl
  obtain ⟨a0, a1, a2⟩ := x
  obtain ⟨b0, b1, b2⟩ := y
  obtain rfl : a0 = b0 := inj_str _ _ (List.cons.inj h0).1
  obtain rfl : a1 = b1 := inj_str _ _ (List.cons.inj h1).1
  obtain rfl : a2 = b2 := inj_int _ _ (List.cons.inj h2).1
  rfl
theorem eqp47 {d : Nat} : EqOk Try.prog (d + 2) 47 3 true (fun l => ∃ x : TExposure, l = cv47 x) := (eqOk_struct (d := d + 1) (fs := [(Field.mk "Advisory" 9 0 false "" "" 0), (Field.mk "Component" 9 1 false "" "" 16), (Field.mk "Severity" 3 2 false "" "" 32)]) (by kernel_rfl) (by kernel_rfl) (by kernel_rfl) (by kernel_rfl) (eqF_cons eqp9 (by simp) rfl (by simp) (eqF_cons eqp9 (by simp) rfl (by simp) (eqF_cons eqp3 (by simp) rfl (by simp) eqF_nil)))).weaken (fun l ⟨x, hx⟩ => by subst hx; exact ⟨_, _, rfl, ⟨_, rfl⟩, ⟨_, _, rfl, ⟨_, rfl⟩, ⟨_, _, rfl, ⟨_, rfl⟩, rfl⟩⟩⟩)
theorem eqk47 : EqOk Try.prog 10000 47 3 true (fun l => ∃ x : TExposure, l = cv47 x) := eqp47 (d := 9998)
def cv137 (x : TPublished) : List Value := [str x.Advisory] ++ ([.int .i64 x.Day] ++ ([.int .i64 x.Ended] ++ []))
theorem inj_cv137 (x y : TPublished) (h : cv137 x = cv137 y) : x = y := by
  obtain ⟨h0, h⟩ := List.append_inj h rfl
  obtain ⟨h1, h⟩ := List.append_inj h rfl
  obtain ⟨h2, h⟩ := List.append_inj h rfl
  obtain ⟨a0, a1, a2⟩ := x
  obtain ⟨b0, b1, b2⟩ := y
  obtain rfl : a0 = b0 := inj_str _ _ (List.cons.inj h0).1
  obtain rfl : a1 = b1 := inj_int _ _ (List.cons.inj h1).1
  obtain rfl : a2 = b2 := inj_int _ _ (List.cons.inj h2).1
  rfl
theorem eqp137 {d : Nat} : EqOk Try.prog (d + 2) 137 3 true (fun l => ∃ x : TPublished, l = cv137 x) := (eqOk_struct (d := d + 1) (fs := [(Field.mk "Advisory" 9 0 false "" "" 0), (Field.mk "Day" 3 1 false "" "" 16), (Field.mk "Ended" 3 2 false "" "" 24)]) (by kernel_rfl) (by kernel_rfl) (by kernel_rfl) (by kernel_rfl) (eqF_cons eqp9 (by simp) rfl (by simp) (eqF_cons eqp3 (by simp) rfl (by simp) (eqF_cons eqp3 (by simp) rfl (by simp) eqF_nil)))).weaken (fun l ⟨x, hx⟩ => by subst hx; exact ⟨_, _, rfl, ⟨_, rfl⟩, ⟨_, _, rfl, ⟨_, rfl⟩, ⟨_, _, rfl, ⟨_, rfl⟩, rfl⟩⟩⟩)
theorem eqk137 : EqOk Try.prog 10000 137 3 true (fun l => ∃ x : TPublished, l = cv137 x) := eqp137 (d := 9998)
def encM9_137 (p : (List UInt8) × TPublished) : Value × V := (str p.1, (V.agg [(sV p.2.Advisory), (iV p.2.Day), (iV p.2.Ended)]))
abbrev encM9_137_val (v : TPublished) : V := (V.agg [(sV v.Advisory), (iV v.Day), (iV v.Ended)])
theorem encM9_137_puts (xs : List ((List UInt8) × TPublished)) (k : (List UInt8)) (v : TPublished) : Puts (str k) (encM9_137_val v) (xs.map encM9_137) ((mput xs k v).map encM9_137) := puts_map (kv := fun k => str k) (ev := encM9_137_val) inj_str xs k v
theorem encM9_137_look (xs : List ((List UInt8) × TPublished)) (k : (List UInt8)) : Look (str k) (xs.map encM9_137) ((mget xs k).map encM9_137_val) := look_map (kv := fun k => str k) (ev := encM9_137_val) inj_str xs k
theorem encM9_137_imm {xs : List ((List UInt8) × TPublished)} : ∀ p, p ∈ xs.map encM9_137 → Imm p.2 := by
  intro p hp
  obtain ⟨x, _, rfl⟩ := List.mem_map.1 hp
  exact (Imm.agg (.cons (Imm.con _) (.cons (Imm.con _) (.cons (Imm.con _) .nil))))
theorem encM9_137_good {xs : List ((List UInt8) × TPublished)} : ∀ p, p ∈ xs.map encM9_137 → isStr p.1 := by
  intro p hp
  obtain ⟨x, _, rfl⟩ := List.mem_map.1 hp
  exact ⟨_, rfl⟩
def encM9_4 (p : (List UInt8) × Bool) : Value × V := (str p.1, (bV p.2))
abbrev encM9_4_val (v : Bool) : V := (bV v)
theorem encM9_4_puts (xs : List ((List UInt8) × Bool)) (k : (List UInt8)) (v : Bool) : Puts (str k) (encM9_4_val v) (xs.map encM9_4) ((mput xs k v).map encM9_4) := puts_map (kv := fun k => str k) (ev := encM9_4_val) inj_str xs k v
theorem encM9_4_look (xs : List ((List UInt8) × Bool)) (k : (List UInt8)) : Look (str k) (xs.map encM9_4) ((mget xs k).map encM9_4_val) := look_map (kv := fun k => str k) (ev := encM9_4_val) inj_str xs k
theorem encM9_4_imm {xs : List ((List UInt8) × Bool)} : ∀ p, p ∈ xs.map encM9_4 → Imm p.2 := by
  intro p hp
  obtain ⟨x, _, rfl⟩ := List.mem_map.1 hp
  exact (Imm.con _)
theorem encM9_4_good {xs : List ((List UInt8) × Bool)} : ∀ p, p ∈ xs.map encM9_4 → isStr p.1 := by
  intro p hp
  obtain ⟨x, _, rfl⟩ := List.mem_map.1 hp
  exact ⟨_, rfl⟩
theorem tA24 : tyA Try.prog 24 2 = true := by kernel_rfl
theorem tF24_0 : tyF Try.prog 24 0 0 = true := by kernel_rfl
theorem tC22 : tyC Try.prog 22 = true := by kernel_rfl
theorem tIsSl22 : tySlice Try.prog 22 = true := by kernel_rfl
theorem tF24_1 : tyF Try.prog 24 1 1 = true := by kernel_rfl
theorem tSl22 : tySl Try.prog 22 1 = true := by kernel_rfl
theorem tC3 : tyC Try.prog 3 = true := by kernel_rfl
theorem fOk78 : fnOk Try.prog 78 = true := by kernel_rfl
theorem fOk21 : fnOk Try.prog 21 = true := by kernel_rfl
theorem fOk69 : fnOk Try.prog 69 = true := by kernel_rfl
theorem tZ101 : zeroCells Try.prog 101 = some [.bool false, .bool false, .bool false, .bool false, .bool false, .bool false, .bool false, .int .i64 0, .slice none 0 0] := by kernel_rfl
theorem tPl101 : tyPlaces Try.prog 101 = some [(0, 7), (7, 1), (8, 1)] := by kernel_rfl
theorem tS101 : tyS Try.prog 101 9 = true := by kernel_rfl
theorem tF101_0 : tyF Try.prog 101 0 0 = true := by kernel_rfl
theorem tArr99 : tyArr Try.prog 99 7 1 = true := by kernel_rfl
theorem tS4 : tyS Try.prog 4 1 = true := by kernel_rfl
theorem tC4 : tyC Try.prog 4 = true := by kernel_rfl
theorem tF101_2 : tyF Try.prog 101 2 8 = true := by kernel_rfl
theorem tEl22 : tyEl Try.prog 22 3 1 8 = true := by kernel_rfl
theorem tZ3 : zeroCells Try.prog 3 = some [.int .i64 0] := by kernel_rfl
theorem tS22 : tyS Try.prog 22 1 = true := by kernel_rfl
theorem tA101 : tyA Try.prog 101 9 = true := by kernel_rfl
theorem fOk70 : fnOk Try.prog 70 = true := by kernel_rfl
theorem tF101_1 : tyF Try.prog 101 1 7 = true := by kernel_rfl
theorem tU150 : Try.prog.underlying 150 = some (.int .u64) := by kernel_rfl
theorem tU3 : Try.prog.underlying 3 = some (.int .i64) := by kernel_rfl
theorem fOk140 : fnOk Try.prog 140 = true := by kernel_rfl
theorem fOk108 : fnOk Try.prog 108 = true := by kernel_rfl
theorem fOk109 : fnOk Try.prog 109 = true := by kernel_rfl
theorem fOk53 : fnOk Try.prog 53 = true := by kernel_rfl
theorem fOk71 : fnOk Try.prog 71 = true := by kernel_rfl
theorem fOk72 : fnOk Try.prog 72 = true := by kernel_rfl
theorem tZo4 : (Try.prog.info? 4).bind (·.zero) = some (.bool false) := by kernel_rfl
theorem fOk17 : fnOk Try.prog 17 = true := by kernel_rfl
theorem tS3 : tyS Try.prog 3 1 = true := by kernel_rfl
theorem tZ24 : zeroCells Try.prog 24 = some [.slice none 0 0, .slice none 0 0] := by kernel_rfl
theorem tPl24 : tyPlaces Try.prog 24 = some [(0, 1), (1, 1)] := by kernel_rfl
theorem fOk23 : fnOk Try.prog 23 = true := by kernel_rfl
theorem tA42 : tyA Try.prog 42 3 = true := by kernel_rfl
theorem tEl49 : tyEl Try.prog 49 42 3 48 = true := by kernel_rfl
theorem tZ42 : zeroCells Try.prog 42 = some [.string ⟨#[]⟩, .int .i64 0, .slice none 0 0] := by kernel_rfl
theorem tIsSl49 : tySlice Try.prog 49 = true := by kernel_rfl
theorem tSl49 : tySl Try.prog 49 3 = true := by kernel_rfl
theorem tS42 : tyS Try.prog 42 3 = true := by kernel_rfl
theorem tF42_0 : tyF Try.prog 42 0 0 = true := by kernel_rfl
theorem tC9 : tyC Try.prog 9 = true := by kernel_rfl
theorem tStr9 : tyStr Try.prog 9 = true := by kernel_rfl
theorem fOk131 : fnOk Try.prog 131 = true := by kernel_rfl
theorem fOk93 : fnOk Try.prog 93 = true := by kernel_rfl
theorem tF42_1 : tyF Try.prog 42 1 1 = true := by kernel_rfl
theorem tF42_2 : tyF Try.prog 42 2 2 = true := by kernel_rfl
theorem tC40 : tyC Try.prog 40 = true := by kernel_rfl
theorem tIsSl40 : tySlice Try.prog 40 = true := by kernel_rfl
theorem tSl40 : tySl Try.prog 40 3 = true := by kernel_rfl
theorem tA47 : tyA Try.prog 47 3 = true := by kernel_rfl
theorem tZ47 : zeroCells Try.prog 47 = some [.string ⟨#[]⟩, .string ⟨#[]⟩, .int .i64 0] := by kernel_rfl
theorem tS47 : tyS Try.prog 47 3 = true := by kernel_rfl
theorem tF47_0 : tyF Try.prog 47 0 0 = true := by kernel_rfl
theorem tF47_1 : tyF Try.prog 47 1 1 = true := by kernel_rfl
theorem tF47_2 : tyF Try.prog 47 2 2 = true := by kernel_rfl
theorem tZ118 : zeroCells Try.prog 118 = some [.string ⟨#[]⟩, .string ⟨#[]⟩] := by kernel_rfl
theorem tPl118 : tyPlaces Try.prog 118 = some [(0, 1), (1, 1)] := by kernel_rfl
theorem tS118 : tyS Try.prog 118 2 = true := by kernel_rfl
theorem tA118 : tyA Try.prog 118 2 = true := by kernel_rfl
theorem fOk84 : fnOk Try.prog 84 = true := by kernel_rfl
theorem fOk152 : fnOk Try.prog 152 = true := by kernel_rfl
theorem fOk138 : fnOk Try.prog 138 = true := by kernel_rfl
theorem fOk149 : fnOk Try.prog 149 = true := by kernel_rfl
theorem tF118_0 : tyF Try.prog 118 0 0 = true := by kernel_rfl
theorem tF118_1 : tyF Try.prog 118 1 1 = true := by kernel_rfl
theorem fOk146 : fnOk Try.prog 146 = true := by kernel_rfl
theorem fOk127 : fnOk Try.prog 127 = true := by kernel_rfl
theorem tEl40 : tyEl Try.prog 40 47 3 40 = true := by kernel_rfl
theorem fOk95 : fnOk Try.prog 95 = true := by kernel_rfl
theorem fOk132 : fnOk Try.prog 132 = true := by kernel_rfl
theorem fOk96 : fnOk Try.prog 96 = true := by kernel_rfl
theorem tEqG47 : Try.prog.eqGuardType Try.prog.depth 47 = false := by kernel_rfl
theorem fOk30 : fnOk Try.prog 30 = true := by kernel_rfl
theorem tA52 : tyA Try.prog 52 4 = true := by kernel_rfl
theorem tF52_0 : tyF Try.prog 52 0 0 = true := by kernel_rfl
theorem tF52_3 : tyF Try.prog 52 3 3 = true := by kernel_rfl
theorem tF52_1 : tyF Try.prog 52 1 1 = true := by kernel_rfl
theorem tC49 : tyC Try.prog 49 = true := by kernel_rfl
theorem tF52_2 : tyF Try.prog 52 2 2 = true := by kernel_rfl
theorem tC50 : tyC Try.prog 50 = true := by kernel_rfl
theorem tIsSl50 : tySlice Try.prog 50 = true := by kernel_rfl
theorem tMap135 : tyMap Try.prog 135 9 4 = true := by kernel_rfl
theorem tKey9 : KeyT Try.prog 9 isStr := keyT_str (by kernel_rfl)
theorem fOk94 : fnOk Try.prog 94 = true := by kernel_rfl
theorem tSl50 : tySl Try.prog 50 3 = true := by kernel_rfl
theorem tA137 : tyA Try.prog 137 3 = true := by kernel_rfl
theorem tZ137 : zeroCells Try.prog 137 = some [.string ⟨#[]⟩, .int .i64 0, .int .i64 0] := by kernel_rfl
theorem tS137 : tyS Try.prog 137 3 = true := by kernel_rfl
theorem tF137_0 : tyF Try.prog 137 0 0 = true := by kernel_rfl
theorem tF137_1 : tyF Try.prog 137 1 1 = true := by kernel_rfl
theorem tF137_2 : tyF Try.prog 137 2 2 = true := by kernel_rfl
theorem fOk35 : fnOk Try.prog 35 = true := by kernel_rfl
theorem fOk129 : fnOk Try.prog 129 = true := by kernel_rfl
theorem tS40 : tyS Try.prog 40 1 = true := by kernel_rfl
theorem fOk88 : fnOk Try.prog 88 = true := by kernel_rfl
theorem fOk97 : fnOk Try.prog 97 = true := by kernel_rfl
theorem fOk36 : fnOk Try.prog 36 = true := by kernel_rfl
theorem tMap129 : tyMap Try.prog 129 9 137 = true := by kernel_rfl
theorem tZo137 : (Try.prog.info? 137).bind (·.zero) = some (.agg #[.string ⟨#[]⟩, .int .i64 0, .int .i64 0]) := by kernel_rfl
theorem fOk37 : fnOk Try.prog 37 = true := by kernel_rfl
theorem tZ52 : zeroCells Try.prog 52 = some [.string ⟨#[]⟩, .slice none 0 0, .slice none 0 0, .int .i64 0] := by kernel_rfl
theorem tPl52 : tyPlaces Try.prog 52 = some [(0, 1), (1, 1), (2, 1), (3, 1)] := by kernel_rfl
theorem tS52 : tyS Try.prog 52 4 = true := by kernel_rfl
theorem tEl50 : tyEl Try.prog 50 137 3 32 = true := by kernel_rfl
theorem fOk101 : fnOk Try.prog 101 = true := by kernel_rfl
theorem tS49 : tyS Try.prog 49 1 = true := by kernel_rfl
theorem fOk45 : fnOk Try.prog 45 = true := by kernel_rfl
theorem fOk46 : fnOk Try.prog 46 = true := by kernel_rfl
theorem tEqG137 : Try.prog.eqGuardType Try.prog.depth 137 = false := by kernel_rfl
theorem fOk137 : fnOk Try.prog 137 = true := by kernel_rfl
theorem fOk173 : fnOk Try.prog 173 = true := by kernel_rfl
theorem fOk186 : fnOk Try.prog 186 = true := by kernel_rfl
theorem fOk182 : fnOk Try.prog 182 = true := by kernel_rfl
theorem fOk174 : fnOk Try.prog 174 = true := by kernel_rfl
theorem fOk158 : fnOk Try.prog 158 = true := by kernel_rfl
theorem fOk151 : fnOk Try.prog 151 = true := by kernel_rfl
theorem fOk136 : fnOk Try.prog 136 = true := by kernel_rfl
theorem fOk102 : fnOk Try.prog 102 = true := by kernel_rfl
theorem fOk104 : fnOk Try.prog 104 = true := by kernel_rfl
theorem fOk139 : fnOk Try.prog 139 = true := by kernel_rfl
theorem fOk103 : fnOk Try.prog 103 = true := by kernel_rfl
theorem fOk47 : fnOk Try.prog 47 = true := by kernel_rfl
theorem fOk106 : fnOk Try.prog 106 = true := by kernel_rfl
theorem fOk107 : fnOk Try.prog 107 = true := by kernel_rfl
theorem fOk49 : fnOk Try.prog 49 = true := by kernel_rfl
end Go.Proofs.Ytkciogeafbbggaa
