/- Part of the proof: H3T, K, H3O. -/
import Derived.Test.YtcoppoeibjkinaaDoorLPvT
import Derived.Lib.Repeat
import Derived.Lib.ItoaLen
import Derived.Test.YtcoppoeibjkinaaDoorLLM
import Derived.Test.YtcoppoeibjkinaaDoorLDT
import Derived.Test.YtcoppoeibjkinaaDoorProg
import Derived.KernelRfl
import Derived.Test.YtcoppoeibjkinaaDoorLPvU
import Derived.WideKeyArgs
import Derived.Deep.Slices
import Derived.ProofKit
import Derived.OpenShut
import Derived.JoinedCond
namespace Go.Proofs.YtcoppoeibjkinaaDoor
open Go Go.Pv
set_option linter.unusedVariables false
set_option maxRecDepth 100000
variable {mx : Int}
theorem mixed : Tryd.prog.follows .mixedOrders = true := by kernel_rfl
structure TExposure where
 Advisory : (List UInt8)
 Component : (List UInt8)
 Severity : Int
 deriving DecidableEq
structure TRelease where
 Version : (List UInt8)
 Day : Int
 Exposures : (List TExposure)
 deriving DecidableEq
structure TPublished where
 Advisory : (List UInt8)
 Day : Int
 Ended : Int
 deriving DecidableEq
structure TStory where
 Product : (List UInt8)
 Releases : (List TRelease)
 Known : (List TPublished)
 Until : Int
 deriving DecidableEq
structure Thistory_key where
 advisory : (List UInt8)
 component : (List UInt8)
 deriving DecidableEq
structure TCalendar where
 Free : (List Int)
 Holidays : (List Int)
 deriving DecidableEq
structure Thistory_week where
 free : (Nat → Bool)
 work : Int
 holidays : (List Int)
def gl (mx : Int) : Gl := [(0, [V.con (.int .i64 mx)])]
def encI_i64 (x : Int) : List V := [(iV x)]
theorem imms_encI_i64 (x : Int) : Imms (encI_i64 x) := (.cons (Imm.con _) .nil)
theorem one_encI_i64 (x : Int) : (encI_i64 x).all oneV = true := rfl
instance : EI encI_i64 := ⟨imms_encI_i64, one_encI_i64⟩
def encS (x : (List UInt8)) : List V := [(sV x)]
theorem imms_encS (x : (List UInt8)) : Imms (encS x) := (.cons (Imm.con _) .nil)
theorem one_encS (x : (List UInt8)) : (encS x).all oneV = true := rfl
instance : EI encS := ⟨imms_encS, one_encS⟩
def encTExposure (x : TExposure) : List V := [(sV x.Advisory), (sV x.Component), (iV x.Severity)]
theorem imms_encTExposure (x : TExposure) : Imms (encTExposure x) := (.cons (Imm.con _) (.cons (Imm.con _) (.cons (Imm.con _) .nil)))
theorem one_encTExposure (x : TExposure) : (encTExposure x).all oneV = true := rfl
instance : EI encTExposure := ⟨imms_encTExposure, one_encTExposure⟩
@[simp] theorem len_encTExposure (x : TExposure) : (encTExposure x).length = 3 := rfl
def encTRelease (x : TRelease) : List V := [(sV x.Version), (iV x.Day), (V.lst 3 (x.Exposures.map encTExposure))]
theorem imms_encTRelease (x : TRelease) : Imms (encTRelease x) := (.cons (Imm.con _) (.cons (Imm.con _) (.cons (Imm.lst _ _) .nil)))
theorem one_encTRelease (x : TRelease) : (encTRelease x).all oneV = true := rfl
instance : EI encTRelease := ⟨imms_encTRelease, one_encTRelease⟩
@[simp] theorem len_encTRelease (x : TRelease) : (encTRelease x).length = 3 := rfl
def encTPublished (x : TPublished) : List V := [(sV x.Advisory), (iV x.Day), (iV x.Ended)]
theorem imms_encTPublished (x : TPublished) : Imms (encTPublished x) := (.cons (Imm.con _) (.cons (Imm.con _) (.cons (Imm.con _) .nil)))
theorem one_encTPublished (x : TPublished) : (encTPublished x).all oneV = true := rfl
instance : EI encTPublished := ⟨imms_encTPublished, one_encTPublished⟩
@[simp] theorem len_encTPublished (x : TPublished) : (encTPublished x).length = 3 := rfl
def encTStory (x : TStory) : List V := [(sV x.Product), (V.lst 3 (x.Releases.map encTRelease)), (V.lst 3 (x.Known.map encTPublished)), (iV x.Until)]
theorem imms_encTStory (x : TStory) : Imms (encTStory x) := (.cons (Imm.con _) (.cons (Imm.lst _ _) (.cons (Imm.lst _ _) (.cons (Imm.con _) .nil))))
theorem one_encTStory (x : TStory) : (encTStory x).all oneV = true := rfl
instance : EI encTStory := ⟨imms_encTStory, one_encTStory⟩
@[simp] theorem len_encTStory (x : TStory) : (encTStory x).length = 4 := rfl
def encTCalendar (x : TCalendar) : List V := [(V.lst 1 (x.Free.map encI_i64)), (V.lst 1 (x.Holidays.map encI_i64))]
theorem imms_encTCalendar (x : TCalendar) : Imms (encTCalendar x) := (.cons (Imm.lst _ _) (.cons (Imm.lst _ _) .nil))
theorem one_encTCalendar (x : TCalendar) : (encTCalendar x).all oneV = true := rfl
instance : EI encTCalendar := ⟨imms_encTCalendar, one_encTCalendar⟩
@[simp] theorem len_encTCalendar (x : TCalendar) : (encTCalendar x).length = 2 := rfl
def encThistory_key (x : Thistory_key) : List V := [(sV x.advisory), (sV x.component)]
theorem imms_encThistory_key (x : Thistory_key) : Imms (encThistory_key x) := (.cons (Imm.con _) (.cons (Imm.con _) .nil))
theorem one_encThistory_key (x : Thistory_key) : (encThistory_key x).all oneV = true := rfl
instance : EI encThistory_key := ⟨imms_encThistory_key, one_encThistory_key⟩
@[simp] theorem len_encThistory_key (x : Thistory_key) : (encThistory_key x).length = 2 := rfl
def dencTRelease (x : TRelease) : List V := [(sV x.Version), (iV x.Day), (V.dsl 66 3 (x.Exposures.map encTExposure))]
theorem und_dencTRelease : UndE dencTRelease encTRelease := fun x => (.cons (und_con _) (.cons (und_con _) (.cons (und_dsl _ _ imms_encTExposure _) .nil)))
@[simp] theorem len_dencTRelease (x : TRelease) : (dencTRelease x).length = 3 := rfl
instance : EK dencTRelease := ⟨fun x c hc => by
 obtain ⟨j, hj⟩ := List.getElem?_of_mem hc
 have hl := (List.getElem?_eq_some_iff.1 hj).1
 rw [(und_dencTRelease x).1] at hl
 exact ((und_dencTRelease x).2 j c _ hj (List.getElem?_eq_getElem hl)).2⟩
theorem eqp9 {d : Nat} : EqOk Tryd.prog (d + 1) 9 1 false (fun l => ∃ n, l = [.string n]) := eqOk_str (show Tryd.prog.underlying 9 = some (.string) by kernel_rfl) (show tyC Tryd.prog 9 = true by kernel_rfl)
theorem eqp3 {d : Nat} : EqOk Tryd.prog (d + 1) 3 1 false (fun l => ∃ n, l = [.int .i64 n]) := eqOk_int (show Tryd.prog.underlying 3 = some (.int .i64) by kernel_rfl) (show tyC Tryd.prog 3 = true by kernel_rfl)
def cv66 (x : TExposure) : List Value := [str x.Advisory] ++ ([str x.Component] ++ ([.int .i64 x.Severity] ++ []))
theorem inj_cv66 (x y : TExposure) (h : cv66 x = cv66 y) : x = y := by
 obtain ⟨h0, h⟩ := List.append_inj h rfl
 obtain ⟨h1, h⟩ := List.append_inj h rfl
 obtain ⟨h2, h⟩ := List.append_inj h rfl
 obtain ⟨a0, a1, a2⟩ := x
 obtain ⟨b0, b1, b2⟩ := y
 obtain rfl : a0 = b0 := inj_str _ _ (List.cons.inj h0).1
 obtain rfl : a1 = b1 := inj_str _ _ (List.cons.inj h1).1
 obtain rfl : a2 = b2 := inj_int _ _ (List.cons.inj h2).1
 rfl
theorem eqp66 {d : Nat} : EqOk Tryd.prog (d + 2) 66 3 true (fun l => ∃ x : TExposure, l = cv66 x) := (eqOk_struct (d := d + 1) (fs := [(Field.mk "Advisory" 9 0 false "" "" 0), (Field.mk "Component" 9 1 false "" "" 16), (Field.mk "Severity" 3 2 false "" "" 32)]) (by kernel_rfl) (by kernel_rfl) (by kernel_rfl) (by kernel_rfl) (eqF_cons eqp9 (by simp) rfl (by simp) (eqF_cons eqp9 (by simp) rfl (by simp) (eqF_cons eqp3 (by simp) rfl (by simp) eqF_nil)))).weaken (fun l ⟨x, hx⟩ => by subst hx; exact ⟨_, _, rfl, ⟨_, rfl⟩, ⟨_, _, rfl, ⟨_, rfl⟩, ⟨_, _, rfl, ⟨_, rfl⟩, rfl⟩⟩⟩)
theorem eqk66 : EqOk Tryd.prog 10000 66 3 true (fun l => ∃ x : TExposure, l = cv66 x) := eqp66 (d := 9998)
def cv51 (x : TPublished) : List Value := [str x.Advisory] ++ ([.int .i64 x.Day] ++ ([.int .i64 x.Ended] ++ []))
theorem inj_cv51 (x y : TPublished) (h : cv51 x = cv51 y) : x = y := by
 obtain ⟨h0, h⟩ := List.append_inj h rfl
 obtain ⟨h1, h⟩ := List.append_inj h rfl
 obtain ⟨h2, h⟩ := List.append_inj h rfl
 obtain ⟨a0, a1, a2⟩ := x
 obtain ⟨b0, b1, b2⟩ := y
 obtain rfl : a0 = b0 := inj_str _ _ (List.cons.inj h0).1
 obtain rfl : a1 = b1 := inj_int _ _ (List.cons.inj h1).1
 obtain rfl : a2 = b2 := inj_int _ _ (List.cons.inj h2).1
 rfl
theorem eqp51 {d : Nat} : EqOk Tryd.prog (d + 2) 51 3 true (fun l => ∃ x : TPublished, l = cv51 x) := (eqOk_struct (d := d + 1) (fs := [(Field.mk "Advisory" 9 0 false "" "" 0), (Field.mk "Day" 3 1 false "" "" 16), (Field.mk "Ended" 3 2 false "" "" 24)]) (by kernel_rfl) (by kernel_rfl) (by kernel_rfl) (by kernel_rfl) (eqF_cons eqp9 (by simp) rfl (by simp) (eqF_cons eqp3 (by simp) rfl (by simp) (eqF_cons eqp3 (by simp) rfl (by simp) eqF_nil)))).weaken (fun l ⟨x, hx⟩ => by subst hx; exact ⟨_, _, rfl, ⟨_, rfl⟩, ⟨_, _, rfl, ⟨_, rfl⟩, ⟨_, _, rfl, ⟨_, rfl⟩, rfl⟩⟩⟩)
theorem eqk51 : EqOk Tryd.prog 10000 51 3 true (fun l => ∃ x : TPublished, l = cv51 x) := eqp51 (d := 9998)
def encM9_4 (p : (List UInt8) × Bool) : Value × V := (str p.1, (bV p.2))
abbrev encM9_4_val (v : Bool) : V := (bV v)
theorem encM9_4_puts (xs : List ((List UInt8) × Bool)) (k : (List UInt8)) (v : Bool) : Puts (str k) (encM9_4_val v) (xs.map encM9_4) ((mput xs k v).map encM9_4) := puts_map (kv := fun k => str k) (ev := encM9_4_val) inj_str xs k v
theorem encM9_4_look (xs : List ((List UInt8) × Bool)) (k : (List UInt8)) : Look (str k) (xs.map encM9_4) ((mget xs k).map encM9_4_val) := look_map (kv := fun k => str k) (ev := encM9_4_val) inj_str xs k
instance : EM encM9_4 := ⟨fun _ => (Imm.con _)⟩
theorem encM9_4_good {xs : List ((List UInt8) × Bool)} : ∀ p, p ∈ xs.map encM9_4 → isStr p.1 := by
 intro p hp
 obtain ⟨x, _, rfl⟩ := List.mem_map.1 hp
 exact ⟨_, rfl⟩
theorem tZ25 : zeroCells Tryd.prog 25 = some [.string ⟨#[]⟩, .slice none 0 0, .slice none 0 0, .int .i64 0] := by kernel_rfl
theorem tStr9 : tyStr Tryd.prog 9 = true := by kernel_rfl
theorem tPl25 : tyPlaces Tryd.prog 25 = some [(0, 1), (1, 1), (2, 1), (3, 1)] := by kernel_rfl
theorem tS25 : tyS Tryd.prog 25 4 = true := by kernel_rfl
theorem tA25 : tyA Tryd.prog 25 4 = true := by kernel_rfl
theorem fOk11 : fnOk Tryd.prog 11 = true := by kernel_rfl
theorem tIsSl35 : tySlice Tryd.prog 35 = true := by kernel_rfl
theorem tSl35 : tySl Tryd.prog 35 1 = true := by kernel_rfl
theorem tC9 : tyC Tryd.prog 9 = true := by kernel_rfl
theorem tF25_2 : tyF Tryd.prog 25 2 2 = true := by kernel_rfl
theorem tC23 : tyC Tryd.prog 23 = true := by kernel_rfl
theorem tIsSl23 : tySlice Tryd.prog 23 = true := by kernel_rfl
theorem fOk28 : fnOk Tryd.prog 28 = true := by kernel_rfl
theorem fOk49 : fnOk Tryd.prog 49 = true := by kernel_rfl
theorem fOk29 : fnOk Tryd.prog 29 = true := by kernel_rfl
theorem tEl39 : tyEl Tryd.prog 39 3 1 8 = true := by kernel_rfl
theorem tZ3 : zeroCells Tryd.prog 3 = some [.int .i64 0] := by kernel_rfl
theorem tIsSl39 : tySlice Tryd.prog 39 = true := by kernel_rfl
theorem fOk13 : fnOk Tryd.prog 13 = true := by kernel_rfl
theorem tF25_1 : tyF Tryd.prog 25 1 1 = true := by kernel_rfl
theorem tC22 : tyC Tryd.prog 22 = true := by kernel_rfl
theorem tSl39 : tySl Tryd.prog 39 1 = true := by kernel_rfl
theorem tC3 : tyC Tryd.prog 3 = true := by kernel_rfl
theorem tZ47 : zeroCells Tryd.prog 47 = some [.string ⟨#[]⟩, .int .i64 0, .slice none 0 0] := by kernel_rfl
theorem tPl47 : tyPlaces Tryd.prog 47 = some [(0, 1), (1, 1), (2, 1)] := by kernel_rfl
theorem tS22 : tyS Tryd.prog 22 1 = true := by kernel_rfl
theorem tEl22 : tyEl Tryd.prog 22 47 3 48 = true := by kernel_rfl
theorem tIsSl22 : tySlice Tryd.prog 22 = true := by kernel_rfl
theorem tZ51 : zeroCells Tryd.prog 51 = some [.string ⟨#[]⟩, .int .i64 0, .int .i64 0] := by kernel_rfl
theorem tPl51 : tyPlaces Tryd.prog 51 = some [(0, 1), (1, 1), (2, 1)] := by kernel_rfl
theorem tS51 : tyS Tryd.prog 51 3 = true := by kernel_rfl
theorem tF51_2 : tyF Tryd.prog 51 2 2 = true := by kernel_rfl
theorem tS3 : tyS Tryd.prog 3 1 = true := by kernel_rfl
theorem tA51 : tyA Tryd.prog 51 3 = true := by kernel_rfl
theorem tS23 : tyS Tryd.prog 23 1 = true := by kernel_rfl
theorem tEl23 : tyEl Tryd.prog 23 51 3 32 = true := by kernel_rfl
theorem fOk27 : fnOk Tryd.prog 27 = true := by kernel_rfl
theorem tSl22 : tySl Tryd.prog 22 3 = true := by kernel_rfl
theorem tF47_2 : tyF Tryd.prog 47 2 2 = true := by kernel_rfl
theorem tZ66 : zeroCells Tryd.prog 66 = some [.string ⟨#[]⟩, .string ⟨#[]⟩, .int .i64 0] := by kernel_rfl
theorem tPl66 : tyPlaces Tryd.prog 66 = some [(0, 1), (1, 1), (2, 1)] := by kernel_rfl
theorem tC45 : tyC Tryd.prog 45 = true := by kernel_rfl
theorem tEl45 : tyEl Tryd.prog 45 66 3 40 = true := by kernel_rfl
theorem tIsSl45 : tySlice Tryd.prog 45 = true := by kernel_rfl
theorem tS45 : tyS Tryd.prog 45 1 = true := by kernel_rfl
theorem fOk12 : fnOk Tryd.prog 12 = true := by kernel_rfl
theorem tF25_0 : tyF Tryd.prog 25 0 0 = true := by kernel_rfl
theorem tS9 : tyS Tryd.prog 9 1 = true := by kernel_rfl
theorem tF25_3 : tyF Tryd.prog 25 3 3 = true := by kernel_rfl
theorem fOk30 : fnOk Tryd.prog 30 = true := by kernel_rfl
theorem fOk31 : fnOk Tryd.prog 31 = true := by kernel_rfl
theorem tA47 : tyA Tryd.prog 47 3 = true := by kernel_rfl
theorem tS47 : tyS Tryd.prog 47 3 = true := by kernel_rfl
theorem tF47_0 : tyF Tryd.prog 47 0 0 = true := by kernel_rfl
theorem tMap78 : tyMap Tryd.prog 78 9 4 = true := by kernel_rfl
theorem tKey9 : KeyT Tryd.prog 9 isStr := keyT_str (by kernel_rfl)
theorem tZo4 : (Tryd.prog.info? 4).bind (·.zero) = some (.bool false) := by kernel_rfl
theorem tF47_1 : tyF Tryd.prog 47 1 1 = true := by kernel_rfl
theorem tSl45 : tySl Tryd.prog 45 3 = true := by kernel_rfl
theorem tA66 : tyA Tryd.prog 66 3 = true := by kernel_rfl
theorem tS66 : tyS Tryd.prog 66 3 = true := by kernel_rfl
theorem tF66_0 : tyF Tryd.prog 66 0 0 = true := by kernel_rfl
theorem tF66_1 : tyF Tryd.prog 66 1 1 = true := by kernel_rfl
theorem tF66_2 : tyF Tryd.prog 66 2 2 = true := by kernel_rfl
theorem tZ106 : zeroCells Tryd.prog 106 = some [.string ⟨#[]⟩, .string ⟨#[]⟩] := by kernel_rfl
theorem tPl106 : tyPlaces Tryd.prog 106 = some [(0, 1), (1, 1)] := by kernel_rfl
theorem tS106 : tyS Tryd.prog 106 2 = true := by kernel_rfl
theorem tA106 : tyA Tryd.prog 106 2 = true := by kernel_rfl
theorem fOk64 : fnOk Tryd.prog 64 = true := by kernel_rfl
theorem tF106_0 : tyF Tryd.prog 106 0 0 = true := by kernel_rfl
theorem fOk96 : fnOk Tryd.prog 96 = true := by kernel_rfl
theorem fOk83 : fnOk Tryd.prog 83 = true := by kernel_rfl
theorem tF106_1 : tyF Tryd.prog 106 1 1 = true := by kernel_rfl
theorem fOk82 : fnOk Tryd.prog 82 = true := by kernel_rfl
theorem fOk63 : fnOk Tryd.prog 63 = true := by kernel_rfl
theorem fOk50 : fnOk Tryd.prog 50 = true := by kernel_rfl
theorem fOk32 : fnOk Tryd.prog 32 = true := by kernel_rfl
theorem tSl23 : tySl Tryd.prog 23 3 = true := by kernel_rfl
theorem tF51_0 : tyF Tryd.prog 51 0 0 = true := by kernel_rfl
theorem tF51_1 : tyF Tryd.prog 51 1 1 = true := by kernel_rfl
theorem fOk14 : fnOk Tryd.prog 14 = true := by kernel_rfl
theorem fOk5 : fnOk Tryd.prog 5 = true := by kernel_rfl
theorem fOk33 : fnOk Tryd.prog 33 = true := by kernel_rfl
theorem tI3 : tyI Tryd.prog 3 .i64 = true := by kernel_rfl
theorem tUn5 : tyU Tryd.prog 5 = true := by kernel_rfl
theorem fOk34 : fnOk Tryd.prog 34 = true := by kernel_rfl
theorem tB4 : tyB Tryd.prog 4 = true := by kernel_rfl
theorem fOk15 : fnOk Tryd.prog 15 = true := by kernel_rfl
theorem fOk35 : fnOk Tryd.prog 35 = true := by kernel_rfl
theorem fOk36 : fnOk Tryd.prog 36 = true := by kernel_rfl
theorem fOk51 : fnOk Tryd.prog 51 = true := by kernel_rfl
theorem fOk37 : fnOk Tryd.prog 37 = true := by kernel_rfl
theorem fOk38 : fnOk Tryd.prog 38 = true := by kernel_rfl
theorem fOk16 : fnOk Tryd.prog 16 = true := by kernel_rfl
theorem fOk6 : fnOk Tryd.prog 6 = true := by kernel_rfl
theorem tEqG66 : Tryd.prog.eqGuardType Tryd.prog.depth 66 = false := by kernel_rfl
theorem fOk39 : fnOk Tryd.prog 39 = true := by kernel_rfl
theorem fOk18 : fnOk Tryd.prog 18 = true := by kernel_rfl
theorem fOk17 : fnOk Tryd.prog 17 = true := by kernel_rfl
theorem tEqG51 : Tryd.prog.eqGuardType Tryd.prog.depth 51 = false := by kernel_rfl
theorem fOk19 : fnOk Tryd.prog 19 = true := by kernel_rfl
theorem fOk7 : fnOk Tryd.prog 7 = true := by kernel_rfl
theorem tZ55 : zeroCells Tryd.prog 55 = some [.slice none 0 0, .slice none 0 0] := by kernel_rfl
theorem tPl55 : tyPlaces Tryd.prog 55 = some [(0, 1), (1, 1)] := by kernel_rfl
theorem tS55 : tyS Tryd.prog 55 2 = true := by kernel_rfl
theorem tA55 : tyA Tryd.prog 55 2 = true := by kernel_rfl
theorem tF55_0 : tyF Tryd.prog 55 0 0 = true := by kernel_rfl
theorem tC39 : tyC Tryd.prog 39 = true := by kernel_rfl
theorem tF55_1 : tyF Tryd.prog 55 1 1 = true := by kernel_rfl
theorem fOk52 : fnOk Tryd.prog 52 = true := by kernel_rfl
theorem fOk40 : fnOk Tryd.prog 40 = true := by kernel_rfl
theorem tZ85 : zeroCells Tryd.prog 85 = some [.bool false, .bool false, .bool false, .bool false, .bool false, .bool false, .bool false, .int .i64 0, .slice none 0 0] := by kernel_rfl
theorem tPl85 : tyPlaces Tryd.prog 85 = some [(0, 7), (7, 1), (8, 1)] := by kernel_rfl
theorem tS85 : tyS Tryd.prog 85 9 = true := by kernel_rfl
theorem tF85_0 : tyF Tryd.prog 85 0 0 = true := by kernel_rfl
theorem tArr83 : tyArr Tryd.prog 83 7 1 = true := by kernel_rfl
theorem tS4 : tyS Tryd.prog 4 1 = true := by kernel_rfl
theorem tC4 : tyC Tryd.prog 4 = true := by kernel_rfl
theorem tF85_2 : tyF Tryd.prog 85 2 8 = true := by kernel_rfl
theorem tS39 : tyS Tryd.prog 39 1 = true := by kernel_rfl
theorem tA85 : tyA Tryd.prog 85 9 = true := by kernel_rfl
theorem fOk41 : fnOk Tryd.prog 41 = true := by kernel_rfl
theorem tF85_1 : tyF Tryd.prog 85 1 7 = true := by kernel_rfl
theorem tI108 : tyI Tryd.prog 108 .u64 = true := by kernel_rfl
theorem tUn3 : tyU Tryd.prog 3 = true := by kernel_rfl
theorem tUn108 : tyU Tryd.prog 108 = true := by kernel_rfl
theorem fOk84 : fnOk Tryd.prog 84 = true := by kernel_rfl
theorem fOk65 : fnOk Tryd.prog 65 = true := by kernel_rfl
theorem fOk66 : fnOk Tryd.prog 66 = true := by kernel_rfl
theorem fOk53 : fnOk Tryd.prog 53 = true := by kernel_rfl
theorem fOk42 : fnOk Tryd.prog 42 = true := by kernel_rfl
theorem fOk20 : fnOk Tryd.prog 20 = true := by kernel_rfl
theorem fOk8 : fnOk Tryd.prog 8 = true := by kernel_rfl
def tt : TT := [(3, [.C, .S 1, .I .i64, .U]), (4, [.B, .C]), (5, [.Fn, .U]), (6, [.Fn]), (7, [.Fn]), (8, [.Fn]), (9, [.Str, .C, .S 1]), (11, [.Fn]), (13, [.Fn]), (17, [.Fn]), (18, [.Fn]), (19, [.Fn]), (22, [.C, .S 1, .Sn, .Sl 3]), (23, [.C, .Sn, .S 1, .Sl 3]), (25, [.Z 4 [.string ⟨#[]⟩, .slice none 0 0, .slice none 0 0, .int .i64 0], .Pl [(0, 1), (1, 1), (2, 1), (3, 1)], .S 4, .A 4, .F 2 2, .F 1 1, .F 0 0, .F 3 3]), (28, [.Fn]), (29, [.Fn]), (30, [.Fn]), (31, [.Fn]), (32, [.Fn]), (33, [.Fn]), (34, [.Fn]), (35, [.Sn, .Sl 1, .Fn]), (36, [.Fn]), (37, [.Fn]), (38, [.Fn]), (39, [.El 3 1 8, .Sn, .Sl 1, .Fn, .C, .S 1]), (40, [.Fn]), (41, [.Fn]), (42, [.Fn]), (45, [.C, .Sn, .Sl 3]), (47, [.Z 3 [.string ⟨#[]⟩, .int .i64 0, .slice none 0 0], .Pl [(0, 1), (1, 1), (2, 1)], .F 2 2, .A 3, .S 3, .F 0 0, .F 1 1]), (49, [.Fn]), (50, [.Fn]), (51, [.Z 3 [.string ⟨#[]⟩, .int .i64 0, .int .i64 0], .Pl [(0, 1), (1, 1), (2, 1)], .S 3, .F 2 2, .A 3, .F 0 0, .F 1 1, .Fn]), (52, [.Fn]), (53, [.Fn]), (55, [.Z 2 [.slice none 0 0, .slice none 0 0], .Pl [(0, 1), (1, 1)], .S 2, .A 2, .F 0 0, .F 1 1]), (63, [.Fn]), (64, [.Fn]), (65, [.Fn]), (66, [.Z 3 [.string ⟨#[]⟩, .string ⟨#[]⟩, .int .i64 0], .Pl [(0, 1), (1, 1), (2, 1)], .A 3, .S 3, .F 0 0, .F 1 1, .F 2 2, .Fn]), (82, [.Fn]), (83, [.Fn, .Arr 7 1]), (84, [.Fn]), (85, [.Z 9 [.bool false, .bool false, .bool false, .bool false, .bool false, .bool false, .bool false, .int .i64 0, .slice none 0 0], .Pl [(0, 7), (7, 1), (8, 1)], .S 9, .F 0 0, .F 2 8, .A 9, .F 1 7]), (96, [.Fn]), (106, [.Z 2 [.string ⟨#[]⟩, .string ⟨#[]⟩], .Pl [(0, 1), (1, 1)], .S 2, .A 2, .F 0 0, .F 1 1]), (108, [.I .u64, .U])]
theorem ok : TTok Tryd.prog tt := tt_all ⟨⟨tC3, tS3, tI3, tUn3, trivial⟩, ⟨tB4, tC4, trivial⟩, ⟨fOk5, tUn5, trivial⟩, ⟨fOk6, trivial⟩, ⟨fOk7, trivial⟩, ⟨fOk8, trivial⟩, ⟨tStr9, tC9, tS9, trivial⟩, ⟨fOk11, trivial⟩, ⟨fOk13, trivial⟩, ⟨fOk17, trivial⟩, ⟨fOk18, trivial⟩, ⟨fOk19, trivial⟩, ⟨tC22, tS22, tIsSl22, tSl22, trivial⟩, ⟨tC23, tIsSl23, tS23, tSl23, trivial⟩, ⟨⟨tZ25, rfl⟩, tPl25, tS25, tA25, tF25_2, tF25_1, tF25_0, tF25_3, trivial⟩, ⟨fOk28, trivial⟩, ⟨fOk29, trivial⟩, ⟨fOk30, trivial⟩, ⟨fOk31, trivial⟩, ⟨fOk32, trivial⟩, ⟨fOk33, trivial⟩, ⟨fOk34, trivial⟩, ⟨tIsSl35, tSl35, fOk35, trivial⟩, ⟨fOk36, trivial⟩, ⟨fOk37, trivial⟩, ⟨fOk38, trivial⟩, ⟨tEl39, tIsSl39, tSl39, fOk39, tC39, tS39, trivial⟩, ⟨fOk40, trivial⟩, ⟨fOk41, trivial⟩, ⟨fOk42, trivial⟩, ⟨tC45, tIsSl45, tSl45, trivial⟩, ⟨⟨tZ47, rfl⟩, tPl47, tF47_2, tA47, tS47, tF47_0, tF47_1, trivial⟩, ⟨fOk49, trivial⟩, ⟨fOk50, trivial⟩, ⟨⟨tZ51, rfl⟩, tPl51, tS51, tF51_2, tA51, tF51_0, tF51_1, fOk51, trivial⟩, ⟨fOk52, trivial⟩, ⟨fOk53, trivial⟩, ⟨⟨tZ55, rfl⟩, tPl55, tS55, tA55, tF55_0, tF55_1, trivial⟩, ⟨fOk63, trivial⟩, ⟨fOk64, trivial⟩, ⟨fOk65, trivial⟩, ⟨⟨tZ66, rfl⟩, tPl66, tA66, tS66, tF66_0, tF66_1, tF66_2, fOk66, trivial⟩, ⟨fOk82, trivial⟩, ⟨fOk83, tArr83, trivial⟩, ⟨fOk84, trivial⟩, ⟨⟨tZ85, rfl⟩, tPl85, tS85, tF85_0, tF85_2, tA85, tF85_1, trivial⟩, ⟨fOk96, trivial⟩, ⟨⟨tZ106, rfl⟩, tPl106, tS106, tA106, tF106_0, tF106_1, trivial⟩, ⟨tI108, tUn108, trivial⟩, trivial⟩
instance {N : Nat} {w : World} {m : Mem} {o : Nat → Prop} {p : Nat} {l : Nat → Option (Option (Nat × Cap))} {g : Gl} {h : GlOk g m} : TC ⟨Tryd.prog, N, w, m, o, p, l, g, h⟩ tt := ⟨ok⟩
end Go.Proofs.YtcoppoeibjkinaaDoor
namespace Go.Pv
open Go Go.ChangeShapes Go.WideShapes
mutual
def bulk {H : Type} : DataW H → Nat
 | .lit (.string bytes) => bytes.length + 1
 | .lit _ => 1
 | .nil => 1
 | .ptr d => bulk d + 1
 | .slice elems spare => bulkAll elems + bulkAll spare + 1
 | .agg parts => bulkAll parts + 1
 | .iface _ d => bulk d + 1
 | .map entries => bulkEnts entries + 1
 | .held _ => 1
def bulkAll {H : Type} : List (DataW H) → Nat
 | [] => 0
 | d :: r => bulk d + bulkAll r
def bulkEnts {H : Type} : List (Lit × DataW H) → Nat
 | [] => 0
 | x :: r => bulkEnt x + bulkEnts r
def bulkEnt {H : Type} : Lit × DataW H → Nat
 | (.string bytes, d) => bytes.length + bulk d + 1
 | (_, d) => bulk d + 1
end
def memOf (w : World) : Mem := fun b => w.heap[b]?
def IRelL (m : Mem) (ds : List V) (cs : List Value) : Prop :=
 ds.length = cs.length ∧ ∀ (i : Nat) (c : V) (v : Value), ds[i]? = some c → cs[i]? = some v → IRel m c v
theorem IRelL.one {m : Mem} {d : V} {c : Value} (h : IRel m d c) : IRelL m [d] [c] :=
 ⟨rfl, fun i d' c' hd hc => by
  match i with
  | 0 => simp at hd hc; subst hd; subst hc; exact h
  | _ + 1 => simp at hd⟩
section
variable {P : Program} {t e : TypeId} {α β : Type}
def wOk {H : Type} (P : Program) (t : TypeId) (d : DataW H) : Prop := (d.weights P t).all (· ≤ reachBytes) = true
def wOks {H : Type} (P : Program) (ts : List TypeId) (ds : List (DataW H)) : Prop := (DataW.weightsEach P ts ds).all (· ≤ reachBytes) = true
theorem wOks_cons {H : Type} {P : Program} {t : TypeId} {ts : List TypeId} {d : DataW H} {ds : List (DataW H)} (h : wOks P (t :: ts) (d :: ds)) : wOk P t d ∧ wOks P ts ds := by
 unfold wOks wOk at *
 rw [DataW.weightsEach, List.all_append, Bool.and_eq_true] at h
 exact h
def Opens (P : Program) (t : TypeId) (e : α → List V) (sz : α → Nat) (ok : α → Prop) : Prop :=
 ∀ {H : Type} (enc : TypeId × Value → H) (w : World) (fuel : Nat) (cs : List Value) (x : DataW H × List MemPlace),
  DataW.trod enc P w 0 (fun _ => true) true fuel t cs = some x → wOk P t x.1 → ∃ a : α, IRelL (memOf w) (e a) cs ∧ sz a ≤ bulk x.1 ∧ ok a
theorem opens_stringW (ht : P.underlying t = some .string) : Opens P t (fun s : List UInt8 => [sV s]) (fun s => s.length + 1) (fun s => s.length ≤ 140737488351232) := by
 intro H enc w fuel cs x h hw
 obtain ⟨s, rfl, rfl, hs⟩ := DataW.trod_string ht h
 refine ⟨s.data.toList, IRelL.one ?_, by simp [bulk], ?_⟩
 ·have : str s.data.toList = .string s := by simp [str]
  unfold sV
  rw [this]
  exact .con _
 ·unfold wOk at hw
  rw [DataW.weights, List.all_cons, Bool.and_eq_true] at hw
  have := of_decide_eq_true hw.1
  unfold reachBytes at this
  simpa using this
def fieldsOf (P : Program) (t : TypeId) : Option (List (TypeId × Nat × Nat)) :=
 match P.underlying t with
 | some (.struct fs) => some (fs.toList.map fun f => (f.type, f.offset, P.cellsOf f.type))
 | _ => none
def OpensV (P : Program) (t : TypeId) (e : α → V) (sz : α → Nat) (ok : α → Prop) : Prop :=
 ∀ {H : Type} (enc : TypeId × Value → H) (w : World) (base : Nat) (v : Value) (d : DataW H) (p : List MemPlace),
  Value.okWide P w .any base t v → DataW.Trod enc P w 0 (fun _ => true) true t v d p → wOk P t d → ∃ a : α, IRel (memOf w) (e a) v ∧ sz a ≤ bulk d ∧ ok a
def cellKind (P : Program) (t : TypeId) : Bool :=
 match P.underlying t with
 | some (.int _) | some .bool | some .string | some (.slice _) => true
 | _ => false
theorem opensV_cell {e : α → V} {sz : α → Nat} {ok : α → Prop} (ht : cellKind P t = true) (h : Opens P t (fun a => [e a]) sz ok) : OpensV P t e sz ok := by
 intro H enc w base v d p hv ⟨n, hd⟩ hw
 obtain ⟨a, h1, h2, h3⟩ := h enc w n _ _ hd hw
 have hna : ∀ cs, v ≠ .agg cs := by
  rintro cs rfl
  unfold cellKind at ht
  unfold Value.okWide at hv
  split at ht <;> rename_i hu <;> first | exact absurd ht (by decide) | (simp only [hu, Cell.okWide, Cell.ok] at hv)
 have hc : v.cells.toList = [v] := by cases v <;> first | rfl | exact absurd rfl (hna _)
 rw [hc] at h1
 exact ⟨a, h1.2 0 _ _ rfl rfl, h2, h3⟩
theorem sameAt_of {w w' : World} (h : ∀ b, b < w.heap.size → w'.heap[b]? = w.heap[b]?) {p : MemPlace} (hp : p.block < w.heap.size) : w.sameAt w' p := by
 cases p with
 | cell b o => simp only [World.sameAt, World.cell?]; rw [h b hp]
 | map b => exact h b hp
theorem trodAll_stays {H : Type} {enc : TypeId × Value → H} (hl : laidOutB P = true) {w w' : World} {sp : Nat → Bool} (hh : ∀ b, b < w.heap.size → w'.heap[b]? = w.heap[b]?)
  (hs : ∀ b, b < w.heap.size → sp b = true) : ∀ {ts : List TypeId} {vs : List Value} {ds : List (DataW H)} {ps : List MemPlace},
  (ts.all fun t => P.readableRec t && decide (t < P.types.size)) = true → DataW.TrodAll enc P w 0 (fun _ => true) true ts vs ds ps → (∀ p ∈ ps, p.block < w.heap.size) → DataW.TrodAll enc P w' 0 sp true ts vs ds ps
 | [], [], [], _, _, h, _ => h
 | t :: ts, v :: vs, d :: ds, _, hr, ⟨p, q, h1, h2, e⟩, hlt => by
  subst e
  simp only [List.all_cons, Bool.and_eq_true, decide_eq_true_eq] at hr
  exact ⟨p, q, WideElems.Trod_stays hl hr.1.1 hr.1.2 h1 (fun x hx => sameAt_of hh (hlt x (List.mem_append_left _ hx))) (fun x hx => hs _ (hlt x (List.mem_append_left _ hx))),
   trodAll_stays hl hh hs (by simpa using hr.2) h2 (fun x hx => hlt x (List.mem_append_right _ hx)), rfl⟩
theorem kept_of {w w' : World} (hs : Same w w') (hh : ∀ b, b < w.heap.size → w'.heap[b]? = w.heap[b]?) (may : MemPlace → Prop) : w.keptBut w' may := by
 refine ⟨hs.os, hs.output, fun i hi => ?_⟩
 rw [hh i hi]
 split <;> first | exact ⟨rfl, rfl, rfl, fun _ _ => rfl⟩ | exact .inr ⟨rfl, rfl⟩ | rfl | skip
 all_goals simp_all
theorem law_post {H : Type} {enc : TypeId × Value → H} {f : Func} {s : ChangeSpec} {apart fresh handsOn : Bool} {w w' : World} {args : Array Value} {v : Value} {ds gs : List (DataW H)} {before : List MemPlace} {m m' : Mem} {tb : TypeId}
  (hl : laidOutB P = true) (hts : (f.params.toList.all fun t => P.readableRec t && decide (t < P.types.size)) = true) (hv : s.vars = []) (hfn : ∀ gs', gs' = [] → s.fn H (ds ++ gs') = { results := [.lit (.bool true)], args := ds })
  (hres : f.resultTypes = #[tb]) (hb : P.underlying tb = some .bool) (hW : DataW.Whole enc P f.params.toList s.vars apart w args.toList ds gs before) (h : IRel m' (bV true) v) (hg : Grew m m' w w') :
  s.post enc P f apart fresh handsOn false w args v w' := by
 have hW0 := hW
 obtain ⟨p, q, hA, hV, rfl, hfz, hnd⟩ := hW0
 cases h
 rw [hv] at hV
 cases gs with
 | cons _ _ => simp [DataW.TrodVars] at hV
 | nil =>
 have hq : q = [] := hV
 subst hq
 refine ⟨ds, [], p ++ [], [], p, [], hW, ?_, ?_, ?_, kept_of hg.same hg.heap _, fun h => by simp at h⟩
 ·rw [hfn _ rfl, hres]
  exact trodAll_cons_mk (RowKit.shut_bool hb _) trodAll_mk0
 ·rw [hfn _ rfl]
  exact trodAll_stays hl hg.heap (fun b hb => by simpa using hb) hts hA (DataW.TrodAll.lt hA)
 ·rw [hv, hfn _ rfl]
  rfl
theorem args_nil {H : Type} {enc : TypeId × Value → H} {w : World} {args : Array Value} {f : Func} {s : ChangeSpec} {apart : Bool} {ds gs : List (DataW H)} {before : List MemPlace}
  (hW : DataW.Whole enc P f.params.toList s.vars apart w args.toList ds gs before) : ∃ p, DataW.TrodAll enc P w 0 (fun _ => true) true f.params.toList args.toList ds p := by
 obtain ⟨p, q, hA, _⟩ := hW
 exact ⟨p, hA⟩
end
def factsA (P : Program) (f : FuncId) (fn : Func) (s : ChangeSpec) (c : OpenClaim) : Bool :=
 c.wf (OpenSpec.ofChange s) && laidOutB P && mapsRowed P &&
 fn.params.all (P.readableRec ·) && namedTie P c.named s.vars &&
 (c.stops == []) && (P.stops == []) && (c.knobs == []) && (P.stopKnobs == []) &&
 (c.inPlace == P.inPlace f) && (c.unfollowed == P.unfollowed f) && (c.recurses == P.recurses f) && (c.named == P.varsNamed f) &&
 (c.maps == (fn.params.toList ++ s.plain.varTypes P).any (P.mapsRec ·)) && (c.ifaces == (fn.params.toList ++ s.plain.varTypes P).any (P.ifacesRec ·)) && (c.mapsOut == P.mapsAmong fn.resultTypes.toList) &&
 (c.loops == (fn.params.toList ++ s.plain.varTypes P).any (P.loopsFrom ·)) && (c.wideKeys == (fn.params.toList ++ s.plain.varTypes P ++ fn.resultTypes.toList).any (P.wideKeysFrom ·)) &&
 s.vars.all (P.varReadable ·) && fn.resultTypes.all (fun t => P.readableRec t && decide (t < P.types.size)) && (c.ifacesOut == fn.resultTypes.toList.any (P.ifacesRec ·)) && (c.loopsOut == fn.resultTypes.toList.any (P.loopsFrom ·)) && (c.plainKeys == P.plainKeys) && c.shortTexts.isNone && P.stopsHeard
def factsB (P : Program) (c : OpenClaim) : Bool := P.mayEnter && (c.lifted == P.liftsFinal) && (P.make == some c.make)
def factsC (P : Program) (fn : Func) (s : ChangeSpec) (c : OpenClaim) : Bool :=
 (c.kinds == (if c.domain.isEmpty then [] else fn.params.toList.map fun t => match P.underlying t with | some (.int k) => some k | _ => none)) && (c.pinned == c.pinnedBy) &&
 (c.veiled == (fn.params.toList ++ s.plain.varTypes P ++ fn.resultTypes.toList).any (P.veiledRec ·)) && c.veiledFits P fn.params.toList (fn.params.toList ++ s.plain.varTypes P ++ fn.resultTypes.toList)
theorem facts_join {P : Program} {f : FuncId} {fn : Func} {s : ChangeSpec} {c : OpenClaim} (h1 : factsA P f fn s c = true) (h2 : factsB P c = true) (h3 : factsC P fn s c = true) : joinedFacts P f fn s c = true := by
 unfold factsA at h1
 unfold factsB at h2
 unfold factsC at h3
 have e : ∀ a b c d b1 b2 b3 c1 c2 c3 : Bool, a = true → (b1 && b2 && b3) = true → (b && c && d && c1) = true → (a && b1 && b2 && b3 && b && c && d && c1) = true := by
  intro a b c d b1 b2 b3 c1 c2 c3 h h' h''
  simp only [Bool.and_eq_true] at *
  simp_all
 exact e _ _ _ _ _ _ _ _ true true h1 h2 h3
end Go.Pv
namespace Go.Proofs.YtcoppoeibjkinaaDoor
open Go Go.Pv
set_option linter.unusedVariables false
set_option maxRecDepth 100000
theorem opens_9 : Opens Tryd.prog 9 (fun x => [sV x]) (fun x : (List UInt8) => (x.length + 1)) (fun x : (List UInt8) => (x.length ≤ 140737488351232)) := opens_stringW (show Tryd.prog.underlying 9 = some (.string) by kernel_rfl)
theorem opensV_9 : OpensV Tryd.prog 9 (fun x => sV x) (fun x : (List UInt8) => (x.length + 1)) (fun x : (List UInt8) => (x.length ≤ 140737488351232)) := opensV_cell (by kernel_rfl) opens_9
end Go.Proofs.YtcoppoeibjkinaaDoor
