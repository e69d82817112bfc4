/- Part of the proof: AHT. -/
import Derived.Test.YtiphmdpaajjdeaaGreatDoorHPvZ
import Derived.Test.YtiphmdpaajjdeaaGreatDoorHZA
import Derived.Lib.Repeat
import Derived.Lib.ItoaLen
import Derived.Test.YtiphmdpaajjdeaaGreatDoorHWA
import Derived.Test.YtiphmdpaajjdeaaGreatDoorHLM
import Derived.Test.YtiphmdpaajjdeaaGreatDoorProg
import Derived.KernelRfl
namespace Go.Proofs.YtiphmdpaajjdeaaGreatDoor
open Go Go.Pv
set_option linter.unusedVariables false
set_option maxRecDepth 100000
theorem mixed : Tryz.prog.follows .mixedOrders = true := by kernel_rfl
structure TExposure where
  Advisory : (List UInt8)
  Component : (List UInt8)
  Severity : Int
  deriving DecidableEq
structure TRelease where
  Version : (List UInt8)
  Day : Int
  Exposures : (List TExposure)
  deriving DecidableEq
structure TPublished where
  Advisory : (List UInt8)
  Day : Int
  Ended : Int
  deriving DecidableEq
structure TStory where
  Product : (List UInt8)
  Releases : (List TRelease)
  Known : (List TPublished)
  Until : Int
  deriving DecidableEq
structure Thistory_key where
  advisory : (List UInt8)
  component : (List UInt8)
  deriving DecidableEq
structure TWindow where
  Advisory : (List UInt8)
  Component : (List UInt8)
  Severity : Int
  From : Int
  To : Int
  Open : Bool
  deriving DecidableEq
structure Thistory_piece where
  x : TExposure
  from_ : Int
  to : Int
  deriving DecidableEq
def gl : Gl := []
def encI_i64 (x : Int) : List V := [(iV x)]
theorem imms_encI_i64 (x : Int) : Imms (encI_i64 x) := (.cons (Imm.con _) .nil)
theorem one_encI_i64 (x : Int) : (encI_i64 x).all oneV = true := rfl
instance : EI encI_i64 := ⟨imms_encI_i64, one_encI_i64⟩
def encTExposure (x : TExposure) : List V := [(sV x.Advisory), (sV x.Component), (iV x.Severity)]
theorem imms_encTExposure (x : TExposure) : Imms (encTExposure x) := (.cons (Imm.con _) (.cons (Imm.con _) (.cons (Imm.con _) .nil)))
theorem one_encTExposure (x : TExposure) : (encTExposure x).all oneV = true := rfl
instance : EI encTExposure := ⟨imms_encTExposure, one_encTExposure⟩
@[simp] theorem len_encTExposure (x : TExposure) : (encTExposure x).length = 3 := rfl
def encTRelease (x : TRelease) : List V := [(sV x.Version), (iV x.Day), (V.lst 3 (x.Exposures.map encTExposure))]
theorem imms_encTRelease (x : TRelease) : Imms (encTRelease x) := (.cons (Imm.con _) (.cons (Imm.con _) (.cons (Imm.lst _ _) .nil)))
theorem one_encTRelease (x : TRelease) : (encTRelease x).all oneV = true := rfl
instance : EI encTRelease := ⟨imms_encTRelease, one_encTRelease⟩
@[simp] theorem len_encTRelease (x : TRelease) : (encTRelease x).length = 3 := rfl
def encTPublished (x : TPublished) : List V := [(sV x.Advisory), (iV x.Day), (iV x.Ended)]
theorem imms_encTPublished (x : TPublished) : Imms (encTPublished x) := (.cons (Imm.con _) (.cons (Imm.con _) (.cons (Imm.con _) .nil)))
theorem one_encTPublished (x : TPublished) : (encTPublished x).all oneV = true := rfl
instance : EI encTPublished := ⟨imms_encTPublished, one_encTPublished⟩
@[simp] theorem len_encTPublished (x : TPublished) : (encTPublished x).length = 3 := rfl
def encTStory (x : TStory) : List V := [(sV x.Product), (V.lst 3 (x.Releases.map encTRelease)), (V.lst 3 (x.Known.map encTPublished)), (iV x.Until)]
theorem imms_encTStory (x : TStory) : Imms (encTStory x) := (.cons (Imm.con _) (.cons (Imm.lst _ _) (.cons (Imm.lst _ _) (.cons (Imm.con _) .nil))))
theorem one_encTStory (x : TStory) : (encTStory x).all oneV = true := rfl
instance : EI encTStory := ⟨imms_encTStory, one_encTStory⟩
@[simp] theorem len_encTStory (x : TStory) : (encTStory x).length = 4 := rfl
def encTWindow (x : TWindow) : List V := [(sV x.Advisory), (sV x.Component), (iV x.Severity), (iV x.From), (iV x.To), (bV x.Open)]
theorem imms_encTWindow (x : TWindow) : Imms (encTWindow x) := (.cons (Imm.con _) (.cons (Imm.con _) (.cons (Imm.con _) (.cons (Imm.con _) (.cons (Imm.con _) (.cons (Imm.con _) .nil))))))
theorem one_encTWindow (x : TWindow) : (encTWindow x).all oneV = true := rfl
instance : EI encTWindow := ⟨imms_encTWindow, one_encTWindow⟩
@[simp] theorem len_encTWindow (x : TWindow) : (encTWindow x).length = 6 := rfl
def encThistory_piece (x : Thistory_piece) : List V := [(sV x.x.Advisory), (sV x.x.Component), (iV x.x.Severity), (iV x.from_), (iV x.to)]
theorem imms_encThistory_piece (x : Thistory_piece) : Imms (encThistory_piece x) := (.cons (Imm.con _) (.cons (Imm.con _) (.cons (Imm.con _) (.cons (Imm.con _) (.cons (Imm.con _) .nil)))))
theorem one_encThistory_piece (x : Thistory_piece) : (encThistory_piece x).all oneV = true := rfl
instance : EI encThistory_piece := ⟨imms_encThistory_piece, one_encThistory_piece⟩
@[simp] theorem len_encThistory_piece (x : Thistory_piece) : (encThistory_piece x).length = 5 := rfl
def encThistory_key (x : Thistory_key) : List V := [(sV x.advisory), (sV x.component)]
theorem imms_encThistory_key (x : Thistory_key) : Imms (encThistory_key x) := (.cons (Imm.con _) (.cons (Imm.con _) .nil))
theorem one_encThistory_key (x : Thistory_key) : (encThistory_key x).all oneV = true := rfl
instance : EI encThistory_key := ⟨imms_encThistory_key, one_encThistory_key⟩
@[simp] theorem len_encThistory_key (x : Thistory_key) : (encThistory_key x).length = 2 := rfl
theorem eqp9 {d : Nat} : EqOk Tryz.prog (d + 1) 9 1 false (fun l => ∃ n, l = [.string n]) := eqOk_str (show Tryz.prog.underlying 9 = some (.string) by kernel_rfl) (show tyC Tryz.prog 9 = true by kernel_rfl)
def cv110 (x : Thistory_key) : List Value := [str x.advisory] ++ ([str x.component] ++ [])
theorem inj_cv110 (x y : Thistory_key) (h : cv110 x = cv110 y) : x = y := by
  obtain ⟨h0, h⟩ := List.append_inj h rfl
  obtain ⟨h1, h⟩ := List.append_inj h rfl
  obtain ⟨a0, a1⟩ := x
  obtain ⟨b0, b1⟩ := y
  obtain rfl : a0 = b0 := inj_str _ _ (List.cons.inj h0).1
  obtain rfl : a1 = b1 := inj_str _ _ (List.cons.inj h1).1
  rfl
def isAgg110 (v : Value) : Prop := ∃ x : Thistory_key, v = .agg (cv110 x).toArray
theorem inj_agg110 : ∀ a b : Thistory_key, (Value.agg (cv110 a).toArray) = .agg (cv110 b).toArray → a = b := fun a b h => inj_cv110 a b (by simpa using congrArg Array.toList (Value.agg.inj h))
theorem eqp110 {d : Nat} : EqOk Tryz.prog (d + 2) 110 2 true (fun l => ∃ x : Thistory_key, l = cv110 x) := (eqOk_struct (d := d + 1) (fs := [(Field.mk "advisory" 9 0 false "" "provender/history" 0), (Field.mk "component" 9 1 false "" "provender/history" 16)]) (by kernel_rfl) (by kernel_rfl) (by kernel_rfl) (by kernel_rfl) (eqF_cons eqp9 (by simp) rfl (by simp) (eqF_cons eqp9 (by simp) rfl (by simp) eqF_nil))).weaken (fun l ⟨x, hx⟩ => by subst hx; exact ⟨_, _, rfl, ⟨_, rfl⟩, ⟨_, _, rfl, ⟨_, rfl⟩, rfl⟩⟩)
theorem eqk110 : EqOk Tryz.prog 10000 110 2 true (fun l => ∃ x : Thistory_key, l = cv110 x) := eqp110 (d := 9998)
def encM9_4 (p : (List UInt8) × Bool) : Value × V := (str p.1, (bV p.2))
abbrev encM9_4_val (v : Bool) : V := (bV v)
theorem encM9_4_puts (xs : List ((List UInt8) × Bool)) (k : (List UInt8)) (v : Bool) : Puts (str k) (encM9_4_val v) (xs.map encM9_4) ((mput xs k v).map encM9_4) := puts_map (kv := fun k => str k) (ev := encM9_4_val) inj_str xs k v
theorem encM9_4_look (xs : List ((List UInt8) × Bool)) (k : (List UInt8)) : Look (str k) (xs.map encM9_4) ((mget xs k).map encM9_4_val) := look_map (kv := fun k => str k) (ev := encM9_4_val) inj_str xs k
instance : EM encM9_4 := ⟨fun _ => (Imm.con _)⟩
theorem encM9_4_good {xs : List ((List UInt8) × Bool)} : ∀ p, p ∈ xs.map encM9_4 → isStr p.1 := by
  intro p hp
  obtain ⟨x, _, rfl⟩ := List.mem_map.1 hp
  exact ⟨_, rfl⟩
def encM9_68 (p : (List UInt8) × TPublished) : Value × V := (str p.1, (V.agg [(sV p.2.Advisory), (iV p.2.Day), (iV p.2.Ended)]))
abbrev encM9_68_val (v : TPublished) : V := (V.agg [(sV v.Advisory), (iV v.Day), (iV v.Ended)])
theorem encM9_68_puts (xs : List ((List UInt8) × TPublished)) (k : (List UInt8)) (v : TPublished) : Puts (str k) (encM9_68_val v) (xs.map encM9_68) ((mput xs k v).map encM9_68) := puts_map (kv := fun k => str k) (ev := encM9_68_val) inj_str xs k v
theorem encM9_68_look (xs : List ((List UInt8) × TPublished)) (k : (List UInt8)) : Look (str k) (xs.map encM9_68) ((mget xs k).map encM9_68_val) := look_map (kv := fun k => str k) (ev := encM9_68_val) inj_str xs k
theorem encM9_68_imm {xs : List ((List UInt8) × TPublished)} : ∀ p, p ∈ xs.map encM9_68 → Imm p.2 := by
  intro p hp
  obtain ⟨x, _, rfl⟩ := List.mem_map.1 hp
  exact (Imm.agg (.cons (Imm.con _) (.cons (Imm.con _) (.cons (Imm.con _) .nil))))
instance : EM encM9_68 := ⟨fun _ => (Imm.agg (.cons (Imm.con _) (.cons (Imm.con _) (.cons (Imm.con _) .nil))))⟩
theorem encM9_68_good {xs : List ((List UInt8) × TPublished)} : ∀ p, p ∈ xs.map encM9_68 → isStr p.1 := by
  intro p hp
  obtain ⟨x, _, rfl⟩ := List.mem_map.1 hp
  exact ⟨_, rfl⟩
def encM110_3 (p : Thistory_key × Int) : Value × V := (.agg (cv110 p.1).toArray, (iV p.2))
abbrev encM110_3_val (v : Int) : V := (iV v)
theorem encM110_3_puts (xs : List (Thistory_key × Int)) (k : Thistory_key) (v : Int) : Puts (.agg (cv110 k).toArray) (encM110_3_val v) (xs.map encM110_3) ((mput xs k v).map encM110_3) := puts_map (kv := fun k => .agg (cv110 k).toArray) (ev := encM110_3_val) inj_agg110 xs k v
theorem encM110_3_look (xs : List (Thistory_key × Int)) (k : Thistory_key) : Look (.agg (cv110 k).toArray) (xs.map encM110_3) ((mget xs k).map encM110_3_val) := look_map (kv := fun k => .agg (cv110 k).toArray) (ev := encM110_3_val) inj_agg110 xs k
theorem encM110_3_imm {xs : List (Thistory_key × Int)} : ∀ p, p ∈ xs.map encM110_3 → Imm p.2 := by
  intro p hp
  obtain ⟨x, _, rfl⟩ := List.mem_map.1 hp
  exact (Imm.con _)
instance : EM encM110_3 := ⟨fun _ => (Imm.con _)⟩
theorem encM110_3_good {xs : List (Thistory_key × Int)} : ∀ p, p ∈ xs.map encM110_3 → (isAgg110) p.1 := by
  intro p hp
  obtain ⟨x, _, rfl⟩ := List.mem_map.1 hp
  exact ⟨_, rfl⟩
theorem tS25 : tyS Tryz.prog 25 4 = true := by kernel_rfl
theorem tA25 : tyA Tryz.prog 25 4 = true := by kernel_rfl
theorem tF25_0 : tyF Tryz.prog 25 0 0 = true := by kernel_rfl
theorem tC9 : tyC Tryz.prog 9 = true := by kernel_rfl
theorem tStr9 : tyStr Tryz.prog 9 = true := by kernel_rfl
theorem fOk77 : fnOk Tryz.prog 77 = true := by kernel_rfl
theorem fOk52 : fnOk Tryz.prog 52 = true := by kernel_rfl
theorem tF25_3 : tyF Tryz.prog 25 3 3 = true := by kernel_rfl
theorem tC3 : tyC Tryz.prog 3 = true := by kernel_rfl
theorem fOk27 : fnOk Tryz.prog 27 = true := by kernel_rfl
theorem tF25_1 : tyF Tryz.prog 25 1 1 = true := by kernel_rfl
theorem tC22 : tyC Tryz.prog 22 = true := by kernel_rfl
theorem tIsSl22 : tySlice Tryz.prog 22 = true := by kernel_rfl
theorem tF25_2 : tyF Tryz.prog 25 2 2 = true := by kernel_rfl
theorem tC23 : tyC Tryz.prog 23 = true := by kernel_rfl
theorem tIsSl23 : tySlice Tryz.prog 23 = true := by kernel_rfl
theorem tSl22 : tySl Tryz.prog 22 3 = true := by kernel_rfl
theorem tA42 : tyA Tryz.prog 42 3 = true := by kernel_rfl
theorem tZ42 : zeroCells Tryz.prog 42 = some [.string ⟨#[]⟩, .int .i64 0, .slice none 0 0] := by kernel_rfl
theorem tS42 : tyS Tryz.prog 42 3 = true := by kernel_rfl
theorem tF42_0 : tyF Tryz.prog 42 0 0 = true := by kernel_rfl
theorem tMap107 : tyMap Tryz.prog 107 9 4 = true := by kernel_rfl
theorem tKey9 : KeyT Tryz.prog 9 isStr := keyT_str (by kernel_rfl)
theorem tZo4 : (Tryz.prog.info? 4).bind (·.zero) = some (.bool false) := by kernel_rfl
theorem tF42_1 : tyF Tryz.prog 42 1 1 = true := by kernel_rfl
theorem tF42_2 : tyF Tryz.prog 42 2 2 = true := by kernel_rfl
theorem tC40 : tyC Tryz.prog 40 = true := by kernel_rfl
theorem tIsSl40 : tySlice Tryz.prog 40 = true := by kernel_rfl
theorem tSl40 : tySl Tryz.prog 40 3 = true := by kernel_rfl
theorem tA47 : tyA Tryz.prog 47 3 = true := by kernel_rfl
theorem tZ47 : zeroCells Tryz.prog 47 = some [.string ⟨#[]⟩, .string ⟨#[]⟩, .int .i64 0] := by kernel_rfl
theorem tS47 : tyS Tryz.prog 47 3 = true := by kernel_rfl
theorem tF47_0 : tyF Tryz.prog 47 0 0 = true := by kernel_rfl
theorem tF47_1 : tyF Tryz.prog 47 1 1 = true := by kernel_rfl
theorem tF47_2 : tyF Tryz.prog 47 2 2 = true := by kernel_rfl
theorem tZ110 : zeroCells Tryz.prog 110 = some [.string ⟨#[]⟩, .string ⟨#[]⟩] := by kernel_rfl
theorem tPl110 : tyPlaces Tryz.prog 110 = some [(0, 1), (1, 1)] := by kernel_rfl
theorem tS110 : tyS Tryz.prog 110 2 = true := by kernel_rfl
theorem tA110 : tyA Tryz.prog 110 2 = true := by kernel_rfl
theorem fOk54 : fnOk Tryz.prog 54 = true := by kernel_rfl
theorem tF110_0 : tyF Tryz.prog 110 0 0 = true := by kernel_rfl
theorem fOk93 : fnOk Tryz.prog 93 = true := by kernel_rfl
theorem fOk82 : fnOk Tryz.prog 82 = true := by kernel_rfl
theorem tF110_1 : tyF Tryz.prog 110 1 1 = true := by kernel_rfl
theorem tIsSl39 : tySlice Tryz.prog 39 = true := by kernel_rfl
theorem tSl39 : tySl Tryz.prog 39 1 = true := by kernel_rfl
theorem fOk81 : fnOk Tryz.prog 81 = true := by kernel_rfl
theorem tEl39 : tyEl Tryz.prog 39 3 1 8 = true := by kernel_rfl
theorem tZ3 : zeroCells Tryz.prog 3 = some [.int .i64 0] := by kernel_rfl
theorem fOk91 : fnOk Tryz.prog 91 = true := by kernel_rfl
theorem fOk78 : fnOk Tryz.prog 78 = true := by kernel_rfl
theorem fOk53 : fnOk Tryz.prog 53 = true := by kernel_rfl
theorem tSl23 : tySl Tryz.prog 23 3 = true := by kernel_rfl
theorem tA68 : tyA Tryz.prog 68 3 = true := by kernel_rfl
theorem tZ68 : zeroCells Tryz.prog 68 = some [.string ⟨#[]⟩, .int .i64 0, .int .i64 0] := by kernel_rfl
theorem tS68 : tyS Tryz.prog 68 3 = true := by kernel_rfl
theorem tF68_0 : tyF Tryz.prog 68 0 0 = true := by kernel_rfl
theorem tF68_1 : tyF Tryz.prog 68 1 1 = true := by kernel_rfl
theorem tF68_2 : tyF Tryz.prog 68 2 2 = true := by kernel_rfl
theorem fOk25 : fnOk Tryz.prog 25 = true := by kernel_rfl
theorem tMap132 : tyMap Tryz.prog 132 9 68 = true := by kernel_rfl
theorem tZo68 : (Tryz.prog.info? 68).bind (·.zero) = some (.agg #[.string ⟨#[]⟩, .int .i64 0, .int .i64 0]) := by kernel_rfl
theorem tZ88 : zeroCells Tryz.prog 88 = some [.string ⟨#[]⟩, .string ⟨#[]⟩, .int .i64 0, .int .i64 0, .int .i64 0] := by kernel_rfl
theorem tPl88 : tyPlaces Tryz.prog 88 = some [(0, 3), (3, 1), (4, 1)] := by kernel_rfl
theorem tS88 : tyS Tryz.prog 88 5 = true := by kernel_rfl
theorem tF88_2 : tyF Tryz.prog 88 2 4 = true := by kernel_rfl
theorem tS3 : tyS Tryz.prog 3 1 = true := by kernel_rfl
theorem tF88_1 : tyF Tryz.prog 88 1 3 = true := by kernel_rfl
theorem tA88 : tyA Tryz.prog 88 5 = true := by kernel_rfl
theorem tEl85 : tyEl Tryz.prog 85 88 5 56 = true := by kernel_rfl
theorem tIsSl85 : tySlice Tryz.prog 85 = true := by kernel_rfl
theorem fOk34 : fnOk Tryz.prog 34 = true := by kernel_rfl
theorem tSl85 : tySl Tryz.prog 85 5 = true := by kernel_rfl
theorem tF88_0 : tyF Tryz.prog 88 0 0 = true := by kernel_rfl
theorem tMap108 : tyMap Tryz.prog 108 110 3 = true := by kernel_rfl
theorem tKey110 : KeyT Tryz.prog 110 isAgg110 := keyT_agg eqk110 (by kernel_rfl) (fun v ⟨x, hx⟩ => ⟨_, ⟨x, rfl⟩, hx⟩)
theorem tZo3 : (Tryz.prog.info? 3).bind (·.zero) = some (.int .i64 0) := by kernel_rfl
theorem tIsSl26 : tySlice Tryz.prog 26 = true := by kernel_rfl
theorem tZ34 : zeroCells Tryz.prog 34 = some [.string ⟨#[]⟩, .string ⟨#[]⟩, .int .i64 0, .int .i64 0, .int .i64 0, .bool false] := by kernel_rfl
theorem tPl34 : tyPlaces Tryz.prog 34 = some [(0, 1), (1, 1), (2, 1), (3, 1), (4, 1), (5, 1)] := by kernel_rfl
theorem tEl26 : tyEl Tryz.prog 26 34 6 64 = true := by kernel_rfl
theorem tSl26 : tySl Tryz.prog 26 6 = true := by kernel_rfl
theorem tF34_4 : tyF Tryz.prog 34 4 4 = true := by kernel_rfl
theorem tF34_2 : tyF Tryz.prog 34 2 2 = true := by kernel_rfl
theorem tF34_5 : tyF Tryz.prog 34 5 5 = true := by kernel_rfl
theorem tS4 : tyS Tryz.prog 4 1 = true := by kernel_rfl
theorem fOk79 : fnOk Tryz.prog 79 = true := by kernel_rfl
theorem tA34 : tyA Tryz.prog 34 6 = true := by kernel_rfl
theorem tS34 : tyS Tryz.prog 34 6 = true := by kernel_rfl
theorem tF34_3 : tyF Tryz.prog 34 3 3 = true := by kernel_rfl
theorem fOk67 : fnOk Tryz.prog 67 = true := by kernel_rfl
theorem fOk36 : fnOk Tryz.prog 36 = true := by kernel_rfl
theorem tF34_0 : tyF Tryz.prog 34 0 0 = true := by kernel_rfl
theorem tF34_1 : tyF Tryz.prog 34 1 1 = true := by kernel_rfl
theorem fOk56 : fnOk Tryz.prog 56 = true := by kernel_rfl
theorem fOk107 : fnOk Tryz.prog 107 = true := by kernel_rfl
theorem tI161 : tyI Tryz.prog 161 .u64 = true := by kernel_rfl
theorem tUn3 : tyU Tryz.prog 3 = true := by kernel_rfl
theorem tI3 : tyI Tryz.prog 3 .i64 = true := by kernel_rfl
theorem tUn161 : tyU Tryz.prog 161 = true := by kernel_rfl
theorem fOk137 : fnOk Tryz.prog 137 = true := by kernel_rfl
theorem fOk122 : fnOk Tryz.prog 122 = true := by kernel_rfl
theorem fOk108 : fnOk Tryz.prog 108 = true := by kernel_rfl
theorem fOk92 : fnOk Tryz.prog 92 = true := by kernel_rfl
theorem fOk80 : fnOk Tryz.prog 80 = true := by kernel_rfl
theorem fOk55 : fnOk Tryz.prog 55 = true := by kernel_rfl
theorem fOk26 : fnOk Tryz.prog 26 = true := by kernel_rfl
theorem fOk5 : fnOk Tryz.prog 5 = true := by kernel_rfl
theorem tZ25 : zeroCells Tryz.prog 25 = some [.string ⟨#[]⟩, .slice none 0 0, .slice none 0 0, .int .i64 0] := by kernel_rfl
theorem tPl25 : tyPlaces Tryz.prog 25 = some [(0, 1), (1, 1), (2, 1), (3, 1)] := by kernel_rfl
theorem tEl23 : tyEl Tryz.prog 23 68 3 32 = true := by kernel_rfl
theorem fOk28 : fnOk Tryz.prog 28 = true := by kernel_rfl
theorem tEl40 : tyEl Tryz.prog 40 47 3 40 = true := by kernel_rfl
theorem fOk57 : fnOk Tryz.prog 57 = true := by kernel_rfl
theorem tS40 : tyS Tryz.prog 40 1 = true := by kernel_rfl
theorem fOk29 : fnOk Tryz.prog 29 = true := by kernel_rfl
theorem tS22 : tyS Tryz.prog 22 1 = true := by kernel_rfl
theorem tEl22 : tyEl Tryz.prog 22 42 3 48 = true := by kernel_rfl
theorem fOk6 : fnOk Tryz.prog 6 = true := by kernel_rfl
theorem fOk7 : fnOk Tryz.prog 7 = true := by kernel_rfl
theorem fOk8 : fnOk Tryz.prog 8 = true := by kernel_rfl
theorem fOk9 : fnOk Tryz.prog 9 = true := by kernel_rfl
theorem fOk32 : fnOk Tryz.prog 32 = true := by kernel_rfl
theorem fOk65 : fnOk Tryz.prog 65 = true := by kernel_rfl
theorem fOk35 : fnOk Tryz.prog 35 = true := by kernel_rfl
theorem fOk98 : fnOk Tryz.prog 98 = true := by kernel_rfl
theorem fOk129 : fnOk Tryz.prog 129 = true := by kernel_rfl
theorem fOk112 : fnOk Tryz.prog 112 = true := by kernel_rfl
theorem fOk99 : fnOk Tryz.prog 99 = true := by kernel_rfl
theorem fOk87 : fnOk Tryz.prog 87 = true := by kernel_rfl
theorem fOk66 : fnOk Tryz.prog 66 = true := by kernel_rfl
theorem fOk33 : fnOk Tryz.prog 33 = true := by kernel_rfl
theorem fOk10 : fnOk Tryz.prog 10 = true := by kernel_rfl
theorem tPl42 : tyPlaces Tryz.prog 42 = some [(0, 1), (1, 1), (2, 1)] := by kernel_rfl
theorem fOk37 : fnOk Tryz.prog 37 = true := by kernel_rfl
theorem fOk11 : fnOk Tryz.prog 11 = true := by kernel_rfl
theorem fOk13 : fnOk Tryz.prog 13 = true := by kernel_rfl
theorem fOk38 : fnOk Tryz.prog 38 = true := by kernel_rfl
theorem fOk12 : fnOk Tryz.prog 12 = true := by kernel_rfl
def tt : TT := [(3, [.C, .S 1, .U, .I .i64]), (4, [.S 1]), (5, [.Fn]), (6, [.Fn]), (7, [.Fn]), (8, [.Fn]), (9, [.C, .Str]), (10, [.Fn]), (11, [.Fn]), (13, [.Fn]), (22, [.C, .Sn, .Sl 3, .S 1]), (23, [.C, .Sn, .Sl 3, .El 68 3 32]), (25, [.S 4, .A 4, .F 0 0, .F 3 3, .F 1 1, .F 2 2, .Fn, .Z 4 [.string ⟨#[]⟩, .slice none 0 0, .slice none 0 0, .int .i64 0], .Pl [(0, 1), (1, 1), (2, 1), (3, 1)]]), (26, [.Sn, .El 34 6 64, .Sl 6, .Fn]), (27, [.Fn]), (28, [.Fn]), (29, [.Fn]), (32, [.Fn]), (33, [.Fn]), (34, [.Fn, .Z 6 [.string ⟨#[]⟩, .string ⟨#[]⟩, .int .i64 0, .int .i64 0, .int .i64 0, .bool false], .Pl [(0, 1), (1, 1), (2, 1), (3, 1), (4, 1), (5, 1)], .F 4 4, .F 2 2, .F 5 5, .A 6, .S 6, .F 3 3, .F 0 0, .F 1 1]), (35, [.Fn]), (36, [.Fn]), (37, [.Fn]), (38, [.Fn]), (39, [.Sn, .Sl 1]), (40, [.C, .Sn, .Sl 3, .El 47 3 40, .S 1]), (42, [.A 3, .Z 3 [.string ⟨#[]⟩, .int .i64 0, .slice none 0 0], .S 3, .F 0 0, .F 1 1, .F 2 2, .Pl [(0, 1), (1, 1), (2, 1)]]), (47, [.A 3, .Z 3 [.string ⟨#[]⟩, .string ⟨#[]⟩, .int .i64 0], .S 3, .F 0 0, .F 1 1, .F 2 2]), (52, [.Fn]), (53, [.Fn]), (54, [.Fn]), (56, [.Fn]), (57, [.Fn]), (67, [.Fn]), (68, [.A 3, .Z 3 [.string ⟨#[]⟩, .int .i64 0, .int .i64 0], .S 3, .F 0 0, .F 1 1, .F 2 2]), (77, [.Fn]), (78, [.Fn]), (81, [.Fn]), (82, [.Fn]), (85, [.El 88 5 56, .Sn, .Sl 5]), (88, [.Z 5 [.string ⟨#[]⟩, .string ⟨#[]⟩, .int .i64 0, .int .i64 0, .int .i64 0], .Pl [(0, 3), (3, 1), (4, 1)], .S 5, .F 2 4, .F 1 3, .A 5, .F 0 0]), (91, [.Fn]), (93, [.Fn]), (110, [.Z 2 [.string ⟨#[]⟩, .string ⟨#[]⟩], .Pl [(0, 1), (1, 1)], .S 2, .A 2, .F 0 0, .F 1 1]), (161, [.I .u64, .U])]
theorem ok : TTok Tryz.prog tt := tt_all ⟨⟨tC3, tS3, tUn3, tI3, trivial⟩, ⟨tS4, trivial⟩, ⟨fOk5, trivial⟩, ⟨fOk6, trivial⟩, ⟨fOk7, trivial⟩, ⟨fOk8, trivial⟩, ⟨tC9, tStr9, trivial⟩, ⟨fOk10, trivial⟩, ⟨fOk11, trivial⟩, ⟨fOk13, trivial⟩, ⟨tC22, tIsSl22, tSl22, tS22, trivial⟩, ⟨tC23, tIsSl23, tSl23, tEl23, trivial⟩, ⟨tS25, tA25, tF25_0, tF25_3, tF25_1, tF25_2, fOk25, ⟨tZ25, rfl⟩, tPl25, trivial⟩, ⟨tIsSl26, tEl26, tSl26, fOk26, trivial⟩, ⟨fOk27, trivial⟩, ⟨fOk28, trivial⟩, ⟨fOk29, trivial⟩, ⟨fOk32, trivial⟩, ⟨fOk33, trivial⟩, ⟨fOk34, ⟨tZ34, rfl⟩, tPl34, tF34_4, tF34_2, tF34_5, tA34, tS34, tF34_3, tF34_0, tF34_1, trivial⟩, ⟨fOk35, trivial⟩, ⟨fOk36, trivial⟩, ⟨fOk37, trivial⟩, ⟨fOk38, trivial⟩, ⟨tIsSl39, tSl39, trivial⟩, ⟨tC40, tIsSl40, tSl40, tEl40, tS40, trivial⟩, ⟨tA42, ⟨tZ42, rfl⟩, tS42, tF42_0, tF42_1, tF42_2, tPl42, trivial⟩, ⟨tA47, ⟨tZ47, rfl⟩, tS47, tF47_0, tF47_1, tF47_2, trivial⟩, ⟨fOk52, trivial⟩, ⟨fOk53, trivial⟩, ⟨fOk54, trivial⟩, ⟨fOk56, trivial⟩, ⟨fOk57, trivial⟩, ⟨fOk67, trivial⟩, ⟨tA68, ⟨tZ68, rfl⟩, tS68, tF68_0, tF68_1, tF68_2, trivial⟩, ⟨fOk77, trivial⟩, ⟨fOk78, trivial⟩, ⟨fOk81, trivial⟩, ⟨fOk82, trivial⟩, ⟨tEl85, tIsSl85, tSl85, trivial⟩, ⟨⟨tZ88, rfl⟩, tPl88, tS88, tF88_2, tF88_1, tA88, tF88_0, trivial⟩, ⟨fOk91, trivial⟩, ⟨fOk93, trivial⟩, ⟨⟨tZ110, rfl⟩, tPl110, tS110, tA110, tF110_0, tF110_1, trivial⟩, ⟨tI161, tUn161, trivial⟩, trivial⟩
instance {N : Nat} {w : World} {m : Mem} {o : Nat → Prop} {p : Nat} {l : Nat → Option (Option (Nat × Cap))} {g : Gl} {h : GlOk g m} : TC ⟨Tryz.prog, N, w, m, o, p, l, g, h⟩ tt := ⟨ok⟩
end Go.Proofs.YtiphmdpaajjdeaaGreatDoor
