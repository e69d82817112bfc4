/- Part of the proof: HT. -/
import Derived.Test.YtkciogeafbbggaaOPvZ
import Derived.Test.YtkciogeafbbggaaOZI
import Derived.Test.YtkciogeafbbggaaOWA
import Derived.Test.YtkciogeafbbggaaProg
import Derived.KernelRfl
namespace Go.Proofs.Ytkciogeafbbggaa
open Go Go.Pv
set_option linter.unusedVariables false
set_option maxRecDepth 100000
theorem mixed : Try.prog.follows .mixedOrders = true := by kernel_rfl
structure TCalendar where
  Free : (List Int)
  Holidays : (List Int)
  deriving DecidableEq
structure Thistory_week where
  free : (Nat → Bool)
  work : Int
  holidays : (List Int)
structure Tprovenderref11_calendar where
  free : (Nat → Bool)
  holidays : (List (Int × Bool))
structure TWindow where
  Advisory : (List UInt8)
  Component : (List UInt8)
  Severity : Int
  From : Int
  To : Int
  Open : Bool
  deriving DecidableEq
structure TTerm where
  Severity : Int
  Days : Int
  deriving DecidableEq
structure TExposure where
  Advisory : (List UInt8)
  Component : (List UInt8)
  Severity : Int
  deriving DecidableEq
structure TRelease where
  Version : (List UInt8)
  Day : Int
  Exposures : (List TExposure)
  deriving DecidableEq
structure Thistory_key where
  advisory : (List UInt8)
  component : (List UInt8)
  deriving DecidableEq
structure TPublished where
  Advisory : (List UInt8)
  Day : Int
  Ended : Int
  deriving DecidableEq
structure TStory where
  Product : (List UInt8)
  Releases : (List TRelease)
  Known : (List TPublished)
  Until : Int
  deriving DecidableEq
structure Thistory_piece where
  x : TExposure
  from_ : Int
  to : Int
  deriving DecidableEq
structure Tprovenderref11_view where
  s : TStory
  known : (List ((List UInt8) × TPublished))
  deriving DecidableEq
structure Tprovenderref11_stretch where
  x : TExposure
  from_ : Int
  to : Int
  deriving DecidableEq
structure TLate where
  Window : TWindow
  Due : Int
  WorkDays : Int
  deriving DecidableEq
def encI_i64 (x : Int) : List V := [(iV x)]
theorem imms_encI_i64 (x : Int) : Imms (encI_i64 x) := (.cons (Imm.con _) .nil)
theorem one_encI_i64 (x : Int) : (encI_i64 x).all oneV = true := rfl
instance : EI encI_i64 := ⟨imms_encI_i64, one_encI_i64⟩
def encTCalendar (x : TCalendar) : List V := [(V.lst 1 (x.Free.map encI_i64)), (V.lst 1 (x.Holidays.map encI_i64))]
theorem imms_encTCalendar (x : TCalendar) : Imms (encTCalendar x) := (.cons (Imm.lst _ _) (.cons (Imm.lst _ _) .nil))
theorem one_encTCalendar (x : TCalendar) : (encTCalendar x).all oneV = true := rfl
instance : EI encTCalendar := ⟨imms_encTCalendar, one_encTCalendar⟩
@[simp] theorem len_encTCalendar (x : TCalendar) : (encTCalendar x).length = 2 := rfl
def encTWindow (x : TWindow) : List V := [(sV x.Advisory), (sV x.Component), (iV x.Severity), (iV x.From), (iV x.To), (bV x.Open)]
theorem imms_encTWindow (x : TWindow) : Imms (encTWindow x) := (.cons (Imm.con _) (.cons (Imm.con _) (.cons (Imm.con _) (.cons (Imm.con _) (.cons (Imm.con _) (.cons (Imm.con _) .nil))))))
theorem one_encTWindow (x : TWindow) : (encTWindow x).all oneV = true := rfl
instance : EI encTWindow := ⟨imms_encTWindow, one_encTWindow⟩
@[simp] theorem len_encTWindow (x : TWindow) : (encTWindow x).length = 6 := rfl
def encTExposure (x : TExposure) : List V := [(sV x.Advisory), (sV x.Component), (iV x.Severity)]
theorem imms_encTExposure (x : TExposure) : Imms (encTExposure x) := (.cons (Imm.con _) (.cons (Imm.con _) (.cons (Imm.con _) .nil)))
theorem one_encTExposure (x : TExposure) : (encTExposure x).all oneV = true := rfl
instance : EI encTExposure := ⟨imms_encTExposure, one_encTExposure⟩
@[simp] theorem len_encTExposure (x : TExposure) : (encTExposure x).length = 3 := rfl
def encTRelease (x : TRelease) : List V := [(sV x.Version), (iV x.Day), (V.lst 3 (x.Exposures.map encTExposure))]
theorem imms_encTRelease (x : TRelease) : Imms (encTRelease x) := (.cons (Imm.con _) (.cons (Imm.con _) (.cons (Imm.lst _ _) .nil)))
theorem one_encTRelease (x : TRelease) : (encTRelease x).all oneV = true := rfl
instance : EI encTRelease := ⟨imms_encTRelease, one_encTRelease⟩
@[simp] theorem len_encTRelease (x : TRelease) : (encTRelease x).length = 3 := rfl
def encTPublished (x : TPublished) : List V := [(sV x.Advisory), (iV x.Day), (iV x.Ended)]
theorem imms_encTPublished (x : TPublished) : Imms (encTPublished x) := (.cons (Imm.con _) (.cons (Imm.con _) (.cons (Imm.con _) .nil)))
theorem one_encTPublished (x : TPublished) : (encTPublished x).all oneV = true := rfl
instance : EI encTPublished := ⟨imms_encTPublished, one_encTPublished⟩
@[simp] theorem len_encTPublished (x : TPublished) : (encTPublished x).length = 3 := rfl
def encTStory (x : TStory) : List V := [(sV x.Product), (V.lst 3 (x.Releases.map encTRelease)), (V.lst 3 (x.Known.map encTPublished)), (iV x.Until)]
theorem imms_encTStory (x : TStory) : Imms (encTStory x) := (.cons (Imm.con _) (.cons (Imm.lst _ _) (.cons (Imm.lst _ _) (.cons (Imm.con _) .nil))))
theorem one_encTStory (x : TStory) : (encTStory x).all oneV = true := rfl
instance : EI encTStory := ⟨imms_encTStory, one_encTStory⟩
@[simp] theorem len_encTStory (x : TStory) : (encTStory x).length = 4 := rfl
def encTLate (x : TLate) : List V := [(sV x.Window.Advisory), (sV x.Window.Component), (iV x.Window.Severity), (iV x.Window.From), (iV x.Window.To), (bV x.Window.Open), (iV x.Due), (iV x.WorkDays)]
theorem imms_encTLate (x : TLate) : Imms (encTLate x) := (.cons (Imm.con _) (.cons (Imm.con _) (.cons (Imm.con _) (.cons (Imm.con _) (.cons (Imm.con _) (.cons (Imm.con _) (.cons (Imm.con _) (.cons (Imm.con _) .nil))))))))
theorem one_encTLate (x : TLate) : (encTLate x).all oneV = true := rfl
instance : EI encTLate := ⟨imms_encTLate, one_encTLate⟩
@[simp] theorem len_encTLate (x : TLate) : (encTLate x).length = 8 := rfl
def encTTerm (x : TTerm) : List V := [(iV x.Severity), (iV x.Days)]
theorem imms_encTTerm (x : TTerm) : Imms (encTTerm x) := (.cons (Imm.con _) (.cons (Imm.con _) .nil))
theorem one_encTTerm (x : TTerm) : (encTTerm x).all oneV = true := rfl
instance : EI encTTerm := ⟨imms_encTTerm, one_encTTerm⟩
@[simp] theorem len_encTTerm (x : TTerm) : (encTTerm x).length = 2 := rfl
def encThistory_key (x : Thistory_key) : List V := [(sV x.advisory), (sV x.component)]
theorem imms_encThistory_key (x : Thistory_key) : Imms (encThistory_key x) := (.cons (Imm.con _) (.cons (Imm.con _) .nil))
theorem one_encThistory_key (x : Thistory_key) : (encThistory_key x).all oneV = true := rfl
instance : EI encThistory_key := ⟨imms_encThistory_key, one_encThistory_key⟩
@[simp] theorem len_encThistory_key (x : Thistory_key) : (encThistory_key x).length = 2 := rfl
def encThistory_piece (x : Thistory_piece) : List V := [(sV x.x.Advisory), (sV x.x.Component), (iV x.x.Severity), (iV x.from_), (iV x.to)]
theorem imms_encThistory_piece (x : Thistory_piece) : Imms (encThistory_piece x) := (.cons (Imm.con _) (.cons (Imm.con _) (.cons (Imm.con _) (.cons (Imm.con _) (.cons (Imm.con _) .nil)))))
theorem one_encThistory_piece (x : Thistory_piece) : (encThistory_piece x).all oneV = true := rfl
instance : EI encThistory_piece := ⟨imms_encThistory_piece, one_encThistory_piece⟩
@[simp] theorem len_encThistory_piece (x : Thistory_piece) : (encThistory_piece x).length = 5 := rfl
theorem eqp9 {d : Nat} : EqOk Try.prog (d + 1) 9 1 false (fun l => ∃ n, l = [.string n]) := eqOk_str (show Try.prog.underlying 9 = some (.string) by kernel_rfl) (show tyC Try.prog 9 = true by kernel_rfl)
def cv118 (x : Thistory_key) : List Value := [str x.advisory] ++ ([str x.component] ++ [])
theorem inj_cv118 (x y : Thistory_key) (h : cv118 x = cv118 y) : x = y := by
  obtain ⟨h0, h⟩ := List.append_inj h rfl
  obtain ⟨h1, h⟩ := List.append_inj h rfl
  obtain ⟨a0, a1⟩ := x
  obtain ⟨b0, b1⟩ := y
  obtain rfl : a0 = b0 := inj_str _ _ (List.cons.inj h0).1
  obtain rfl : a1 = b1 := inj_str _ _ (List.cons.inj h1).1
  rfl
def isAgg118 (v : Value) : Prop := ∃ x : Thistory_key, v = .agg (cv118 x).toArray
theorem inj_agg118 : ∀ a b : Thistory_key, (Value.agg (cv118 a).toArray) = .agg (cv118 b).toArray → a = b := fun a b h => inj_cv118 a b (by simpa using congrArg Array.toList (Value.agg.inj h))
theorem eqp118 {d : Nat} : EqOk Try.prog (d + 2) 118 2 true (fun l => ∃ x : Thistory_key, l = cv118 x) := (eqOk_struct (d := d + 1) (fs := [(Field.mk "advisory" 9 0 false "" "provender/history" 0), (Field.mk "component" 9 1 false "" "provender/history" 16)]) (by kernel_rfl) (by kernel_rfl) (by kernel_rfl) (by kernel_rfl) (eqF_cons eqp9 (by simp) rfl (by simp) (eqF_cons eqp9 (by simp) rfl (by simp) eqF_nil))).weaken (fun l ⟨x, hx⟩ => by subst hx; exact ⟨_, _, rfl, ⟨_, rfl⟩, ⟨_, _, rfl, ⟨_, rfl⟩, rfl⟩⟩)
theorem eqk118 : EqOk Try.prog 10000 118 2 true (fun l => ∃ x : Thistory_key, l = cv118 x) := eqp118 (d := 9998)
theorem eqp3 {d : Nat} : EqOk Try.prog (d + 1) 3 1 false (fun l => ∃ n, l = [.int .i64 n]) := eqOk_int (show Try.prog.underlying 3 = some (.int .i64) by kernel_rfl) (show tyC Try.prog 3 = true by kernel_rfl)
def cv47 (x : TExposure) : List Value := [str x.Advisory] ++ ([str x.Component] ++ ([.int .i64 x.Severity] ++ []))
theorem inj_cv47 (x y : TExposure) (h : cv47 x = cv47 y) : x = y := by
  obtain ⟨h0, h⟩ := List.append_inj h rfl
  obtain ⟨h1, h⟩ := List.append_inj h rfl
  obtain ⟨h2, h⟩ := List.append_inj h rfl
  obtain ⟨a0, a1, a2⟩ := x
  obtain ⟨b0, b1, b2⟩ := y
  obtain rfl : a0 = b0 := inj_str _ _ (List.cons.inj h0).1
  obtain rfl : a1 = b1 := inj_str _ _ (List.cons.inj h1).1
  obtain rfl : a2 = b2 := inj_int _ _ (List.cons.inj h2).1
  rfl
def isAgg47 (v : Value) : Prop := ∃ x : TExposure, v = .agg (cv47 x).toArray
theorem inj_agg47 : ∀ a b : TExposure, (Value.agg (cv47 a).toArray) = .agg (cv47 b).toArray → a = b := fun a b h => inj_cv47 a b (by simpa using congrArg Array.toList (Value.agg.inj h))
theorem eqp47 {d : Nat} : EqOk Try.prog (d + 2) 47 3 true (fun l => ∃ x : TExposure, l = cv47 x) := (eqOk_struct (d := d + 1) (fs := [(Field.mk "Advisory" 9 0 false "" "" 0), (Field.mk "Component" 9 1 false "" "" 16), (Field.mk "Severity" 3 2 false "" "" 32)]) (by kernel_rfl) (by kernel_rfl) (by kernel_rfl) (by kernel_rfl) (eqF_cons eqp9 (by simp) rfl (by simp) (eqF_cons eqp9 (by simp) rfl (by simp) (eqF_cons eqp3 (by simp) rfl (by simp) eqF_nil)))).weaken (fun l ⟨x, hx⟩ => by subst hx; exact ⟨_, _, rfl, ⟨_, rfl⟩, ⟨_, _, rfl, ⟨_, rfl⟩, ⟨_, _, rfl, ⟨_, rfl⟩, rfl⟩⟩⟩)
theorem eqk47 : EqOk Try.prog 10000 47 3 true (fun l => ∃ x : TExposure, l = cv47 x) := eqp47 (d := 9998)
theorem eqp4 {d : Nat} : EqOk Try.prog (d + 1) 4 1 false (fun l => ∃ n, l = [.bool n]) := eqOk_bool (show Try.prog.underlying 4 = some (.bool) by kernel_rfl) (show tyC Try.prog 4 = true by kernel_rfl)
def cv35 (x : TWindow) : List Value := [str x.Advisory] ++ ([str x.Component] ++ ([.int .i64 x.Severity] ++ ([.int .i64 x.From] ++ ([.int .i64 x.To] ++ ([.bool x.Open] ++ [])))))
theorem inj_cv35 (x y : TWindow) (h : cv35 x = cv35 y) : x = y := by
  obtain ⟨h0, h⟩ := List.append_inj h rfl
  obtain ⟨h1, h⟩ := List.append_inj h rfl
  obtain ⟨h2, h⟩ := List.append_inj h rfl
  obtain ⟨h3, h⟩ := List.append_inj h rfl
  obtain ⟨h4, h⟩ := List.append_inj h rfl
  obtain ⟨h5, h⟩ := List.append_inj h rfl
  obtain ⟨a0, a1, a2, a3, a4, a5⟩ := x
  obtain ⟨b0, b1, b2, b3, b4, b5⟩ := y
  obtain rfl : a0 = b0 := inj_str _ _ (List.cons.inj h0).1
  obtain rfl : a1 = b1 := inj_str _ _ (List.cons.inj h1).1
  obtain rfl : a2 = b2 := inj_int _ _ (List.cons.inj h2).1
  obtain rfl : a3 = b3 := inj_int _ _ (List.cons.inj h3).1
  obtain rfl : a4 = b4 := inj_int _ _ (List.cons.inj h4).1
  obtain rfl : a5 = b5 := inj_bool _ _ (List.cons.inj h5).1
  rfl
theorem eqp35 {d : Nat} : EqOk Try.prog (d + 2) 35 6 true (fun l => ∃ x : TWindow, l = cv35 x) := (eqOk_struct (d := d + 1) (fs := [(Field.mk "Advisory" 9 0 false "" "" 0), (Field.mk "Component" 9 1 false "" "" 16), (Field.mk "Severity" 3 2 false "" "" 32), (Field.mk "From" 3 3 false "" "" 40), (Field.mk "To" 3 4 false "" "" 48), (Field.mk "Open" 4 5 false "" "" 56)]) (by kernel_rfl) (by kernel_rfl) (by kernel_rfl) (by kernel_rfl) (eqF_cons eqp9 (by simp) rfl (by simp) (eqF_cons eqp9 (by simp) rfl (by simp) (eqF_cons eqp3 (by simp) rfl (by simp) (eqF_cons eqp3 (by simp) rfl (by simp) (eqF_cons eqp3 (by simp) rfl (by simp) (eqF_cons eqp4 (by simp) rfl (by simp) eqF_nil))))))).weaken (fun l ⟨x, hx⟩ => by subst hx; exact ⟨_, _, rfl, ⟨_, rfl⟩, ⟨_, _, rfl, ⟨_, rfl⟩, ⟨_, _, rfl, ⟨_, rfl⟩, ⟨_, _, rfl, ⟨_, rfl⟩, ⟨_, _, rfl, ⟨_, rfl⟩, ⟨_, _, rfl, ⟨_, rfl⟩, rfl⟩⟩⟩⟩⟩⟩)
theorem eqk35 : EqOk Try.prog 10000 35 6 true (fun l => ∃ x : TWindow, l = cv35 x) := eqp35 (d := 9998)
def cv78 (x : TLate) : List Value := (cv35 x.Window) ++ ([.int .i64 x.Due] ++ ([.int .i64 x.WorkDays] ++ []))
theorem inj_cv78 (x y : TLate) (h : cv78 x = cv78 y) : x = y := by
  obtain ⟨h0, h⟩ := List.append_inj h rfl
  obtain ⟨h1, h⟩ := List.append_inj h rfl
  obtain ⟨h2, h⟩ := List.append_inj h rfl
  obtain ⟨a0, a1, a2⟩ := x
  obtain ⟨b0, b1, b2⟩ := y
  obtain rfl : a0 = b0 := inj_cv35 _ _ h0
  obtain rfl : a1 = b1 := inj_int _ _ (List.cons.inj h1).1
  obtain rfl : a2 = b2 := inj_int _ _ (List.cons.inj h2).1
  rfl
theorem eqp78 {d : Nat} : EqOk Try.prog (d + 3) 78 8 true (fun l => ∃ x : TLate, l = cv78 x) := (eqOk_struct (d := d + 2) (fs := [(Field.mk "Window" 35 0 false "" "" 0), (Field.mk "Due" 3 6 false "" "" 64), (Field.mk "WorkDays" 3 7 false "" "" 72)]) (by kernel_rfl) (by kernel_rfl) (by kernel_rfl) (by kernel_rfl) (eqF_cons eqp35 (by simp) rfl (by simp) (eqF_cons eqp3 (by simp) rfl (by simp) (eqF_cons eqp3 (by simp) rfl (by simp) eqF_nil)))).weaken (fun l ⟨x, hx⟩ => by subst hx; exact ⟨_, _, rfl, ⟨_, rfl⟩, ⟨_, _, rfl, ⟨_, rfl⟩, ⟨_, _, rfl, ⟨_, rfl⟩, rfl⟩⟩⟩)
theorem eqk78 : EqOk Try.prog 10000 78 8 true (fun l => ∃ x : TLate, l = cv78 x) := eqp78 (d := 9997)
def encM9_137 (p : (List UInt8) × TPublished) : Value × V := (str p.1, (V.agg [(sV p.2.Advisory), (iV p.2.Day), (iV p.2.Ended)]))
abbrev encM9_137_val (v : TPublished) : V := (V.agg [(sV v.Advisory), (iV v.Day), (iV v.Ended)])
theorem encM9_137_puts (xs : List ((List UInt8) × TPublished)) (k : (List UInt8)) (v : TPublished) : Puts (str k) (encM9_137_val v) (xs.map encM9_137) ((mput xs k v).map encM9_137) := puts_map (kv := fun k => str k) (ev := encM9_137_val) inj_str xs k v
theorem encM9_137_look (xs : List ((List UInt8) × TPublished)) (k : (List UInt8)) : Look (str k) (xs.map encM9_137) ((mget xs k).map encM9_137_val) := look_map (kv := fun k => str k) (ev := encM9_137_val) inj_str xs k
theorem encM9_137_imm {xs : List ((List UInt8) × TPublished)} : ∀ p, p ∈ xs.map encM9_137 → Imm p.2 := by
  intro p hp
  obtain ⟨x, _, rfl⟩ := List.mem_map.1 hp
  exact (Imm.agg (.cons (Imm.con _) (.cons (Imm.con _) (.cons (Imm.con _) .nil))))
instance : EM encM9_137 := ⟨fun _ => (Imm.agg (.cons (Imm.con _) (.cons (Imm.con _) (.cons (Imm.con _) .nil))))⟩
theorem encM9_137_good {xs : List ((List UInt8) × TPublished)} : ∀ p, p ∈ xs.map encM9_137 → isStr p.1 := by
  intro p hp
  obtain ⟨x, _, rfl⟩ := List.mem_map.1 hp
  exact ⟨_, rfl⟩
def encTprovenderref11_view (x : Tprovenderref11_view) : List V := [(sV x.s.Product), (V.lst 3 (x.s.Releases.map encTRelease)), (V.lst 3 (x.s.Known.map encTPublished)), (iV x.s.Until), (V.imap (x.known.map encM9_137))]
theorem imms_encTprovenderref11_view (x : Tprovenderref11_view) : Imms (encTprovenderref11_view x) := (.cons (Imm.con _) (.cons (Imm.lst _ _) (.cons (Imm.lst _ _) (.cons (Imm.con _) (.cons (Imm.imap _) .nil)))))
theorem one_encTprovenderref11_view (x : Tprovenderref11_view) : (encTprovenderref11_view x).all oneV = true := rfl
instance : EI encTprovenderref11_view := ⟨imms_encTprovenderref11_view, one_encTprovenderref11_view⟩
@[simp] theorem len_encTprovenderref11_view (x : Tprovenderref11_view) : (encTprovenderref11_view x).length = 5 := rfl
def encTprovenderref11_stretch (x : Tprovenderref11_stretch) : List V := [(sV x.x.Advisory), (sV x.x.Component), (iV x.x.Severity), (iV x.from_), (iV x.to)]
theorem imms_encTprovenderref11_stretch (x : Tprovenderref11_stretch) : Imms (encTprovenderref11_stretch x) := (.cons (Imm.con _) (.cons (Imm.con _) (.cons (Imm.con _) (.cons (Imm.con _) (.cons (Imm.con _) .nil)))))
theorem one_encTprovenderref11_stretch (x : Tprovenderref11_stretch) : (encTprovenderref11_stretch x).all oneV = true := rfl
instance : EI encTprovenderref11_stretch := ⟨imms_encTprovenderref11_stretch, one_encTprovenderref11_stretch⟩
@[simp] theorem len_encTprovenderref11_stretch (x : Tprovenderref11_stretch) : (encTprovenderref11_stretch x).length = 5 := rfl
def encM3_4 (p : Int × Bool) : Value × V := (.int .i64 p.1, (bV p.2))
abbrev encM3_4_val (v : Bool) : V := (bV v)
theorem encM3_4_puts (xs : List (Int × Bool)) (k : Int) (v : Bool) : Puts (.int .i64 k) (encM3_4_val v) (xs.map encM3_4) ((mput xs k v).map encM3_4) := puts_map (kv := fun k => .int .i64 k) (ev := encM3_4_val) inj_int xs k v
theorem encM3_4_look (xs : List (Int × Bool)) (k : Int) : Look (.int .i64 k) (xs.map encM3_4) ((mget xs k).map encM3_4_val) := look_map (kv := fun k => .int .i64 k) (ev := encM3_4_val) inj_int xs k
theorem encM3_4_imm {xs : List (Int × Bool)} : ∀ p, p ∈ xs.map encM3_4 → Imm p.2 := by
  intro p hp
  obtain ⟨x, _, rfl⟩ := List.mem_map.1 hp
  exact (Imm.con _)
instance : EM encM3_4 := ⟨fun _ => (Imm.con _)⟩
theorem encM3_4_good {xs : List (Int × Bool)} : ∀ p, p ∈ xs.map encM3_4 → (isInt .i64) p.1 := by
  intro p hp
  obtain ⟨x, _, rfl⟩ := List.mem_map.1 hp
  exact ⟨_, rfl⟩
def encM9_4 (p : (List UInt8) × Bool) : Value × V := (str p.1, (bV p.2))
abbrev encM9_4_val (v : Bool) : V := (bV v)
theorem encM9_4_puts (xs : List ((List UInt8) × Bool)) (k : (List UInt8)) (v : Bool) : Puts (str k) (encM9_4_val v) (xs.map encM9_4) ((mput xs k v).map encM9_4) := puts_map (kv := fun k => str k) (ev := encM9_4_val) inj_str xs k v
theorem encM9_4_look (xs : List ((List UInt8) × Bool)) (k : (List UInt8)) : Look (str k) (xs.map encM9_4) ((mget xs k).map encM9_4_val) := look_map (kv := fun k => str k) (ev := encM9_4_val) inj_str xs k
instance : EM encM9_4 := ⟨fun _ => (Imm.con _)⟩
theorem encM9_4_good {xs : List ((List UInt8) × Bool)} : ∀ p, p ∈ xs.map encM9_4 → isStr p.1 := by
  intro p hp
  obtain ⟨x, _, rfl⟩ := List.mem_map.1 hp
  exact ⟨_, rfl⟩
def encM118_3 (p : Thistory_key × Int) : Value × V := (.agg (cv118 p.1).toArray, (iV p.2))
abbrev encM118_3_val (v : Int) : V := (iV v)
theorem encM118_3_puts (xs : List (Thistory_key × Int)) (k : Thistory_key) (v : Int) : Puts (.agg (cv118 k).toArray) (encM118_3_val v) (xs.map encM118_3) ((mput xs k v).map encM118_3) := puts_map (kv := fun k => .agg (cv118 k).toArray) (ev := encM118_3_val) inj_agg118 xs k v
theorem encM118_3_look (xs : List (Thistory_key × Int)) (k : Thistory_key) : Look (.agg (cv118 k).toArray) (xs.map encM118_3) ((mget xs k).map encM118_3_val) := look_map (kv := fun k => .agg (cv118 k).toArray) (ev := encM118_3_val) inj_agg118 xs k
theorem encM118_3_imm {xs : List (Thistory_key × Int)} : ∀ p, p ∈ xs.map encM118_3 → Imm p.2 := by
  intro p hp
  obtain ⟨x, _, rfl⟩ := List.mem_map.1 hp
  exact (Imm.con _)
instance : EM encM118_3 := ⟨fun _ => (Imm.con _)⟩
theorem encM118_3_good {xs : List (Thistory_key × Int)} : ∀ p, p ∈ xs.map encM118_3 → (isAgg118) p.1 := by
  intro p hp
  obtain ⟨x, _, rfl⟩ := List.mem_map.1 hp
  exact ⟨_, rfl⟩
def encM47_3 (p : TExposure × Int) : Value × V := (.agg (cv47 p.1).toArray, (iV p.2))
abbrev encM47_3_val (v : Int) : V := (iV v)
theorem encM47_3_puts (xs : List (TExposure × Int)) (k : TExposure) (v : Int) : Puts (.agg (cv47 k).toArray) (encM47_3_val v) (xs.map encM47_3) ((mput xs k v).map encM47_3) := puts_map (kv := fun k => .agg (cv47 k).toArray) (ev := encM47_3_val) inj_agg47 xs k v
theorem encM47_3_look (xs : List (TExposure × Int)) (k : TExposure) : Look (.agg (cv47 k).toArray) (xs.map encM47_3) ((mget xs k).map encM47_3_val) := look_map (kv := fun k => .agg (cv47 k).toArray) (ev := encM47_3_val) inj_agg47 xs k
theorem encM47_3_imm {xs : List (TExposure × Int)} : ∀ p, p ∈ xs.map encM47_3 → Imm p.2 := by
  intro p hp
  obtain ⟨x, _, rfl⟩ := List.mem_map.1 hp
  exact (Imm.con _)
instance : EM encM47_3 := ⟨fun _ => (Imm.con _)⟩
theorem encM47_3_good {xs : List (TExposure × Int)} : ∀ p, p ∈ xs.map encM47_3 → (isAgg47) p.1 := by
  intro p hp
  obtain ⟨x, _, rfl⟩ := List.mem_map.1 hp
  exact ⟨_, rfl⟩
theorem tS24 : tyS Try.prog 24 2 = true := by kernel_rfl
theorem tA24 : tyA Try.prog 24 2 = true := by kernel_rfl
theorem tF24_0 : tyF Try.prog 24 0 0 = true := by kernel_rfl
theorem tC22 : tyC Try.prog 22 = true := by kernel_rfl
theorem tIsSl22 : tySlice Try.prog 22 = true := by kernel_rfl
theorem tF24_1 : tyF Try.prog 24 1 1 = true := by kernel_rfl
theorem tSl22 : tySl Try.prog 22 1 = true := by kernel_rfl
theorem tC3 : tyC Try.prog 3 = true := by kernel_rfl
theorem fOk78 : fnOk Try.prog 78 = true := by kernel_rfl
theorem fOk21 : fnOk Try.prog 21 = true := by kernel_rfl
theorem fOk69 : fnOk Try.prog 69 = true := by kernel_rfl
theorem tZ101 : zeroCells Try.prog 101 = some [.bool false, .bool false, .bool false, .bool false, .bool false, .bool false, .bool false, .int .i64 0, .slice none 0 0] := by kernel_rfl
theorem tPl101 : tyPlaces Try.prog 101 = some [(0, 7), (7, 1), (8, 1)] := by kernel_rfl
theorem tS101 : tyS Try.prog 101 9 = true := by kernel_rfl
theorem tF101_0 : tyF Try.prog 101 0 0 = true := by kernel_rfl
theorem tArr99 : tyArr Try.prog 99 7 1 = true := by kernel_rfl
theorem tS4 : tyS Try.prog 4 1 = true := by kernel_rfl
theorem tC4 : tyC Try.prog 4 = true := by kernel_rfl
theorem tF101_2 : tyF Try.prog 101 2 8 = true := by kernel_rfl
theorem tEl22 : tyEl Try.prog 22 3 1 8 = true := by kernel_rfl
theorem tZ3 : zeroCells Try.prog 3 = some [.int .i64 0] := by kernel_rfl
theorem tS22 : tyS Try.prog 22 1 = true := by kernel_rfl
theorem tA101 : tyA Try.prog 101 9 = true := by kernel_rfl
theorem fOk70 : fnOk Try.prog 70 = true := by kernel_rfl
theorem tF101_1 : tyF Try.prog 101 1 7 = true := by kernel_rfl
theorem tI150 : tyI Try.prog 150 .u64 = true := by kernel_rfl
theorem tUn3 : tyU Try.prog 3 = true := by kernel_rfl
theorem tI3 : tyI Try.prog 3 .i64 = true := by kernel_rfl
theorem tUn150 : tyU Try.prog 150 = true := by kernel_rfl
theorem fOk140 : fnOk Try.prog 140 = true := by kernel_rfl
theorem fOk108 : fnOk Try.prog 108 = true := by kernel_rfl
theorem fOk109 : fnOk Try.prog 109 = true := by kernel_rfl
theorem fOk53 : fnOk Try.prog 53 = true := by kernel_rfl
theorem fOk71 : fnOk Try.prog 71 = true := by kernel_rfl
theorem fOk15 : fnOk Try.prog 15 = true := by kernel_rfl
theorem fOk22 : fnOk Try.prog 22 = true := by kernel_rfl
theorem fOk72 : fnOk Try.prog 72 = true := by kernel_rfl
theorem tZ106 : zeroCells Try.prog 106 = some [.bool false, .bool false, .bool false, .bool false, .bool false, .bool false, .bool false, .map none] := by kernel_rfl
theorem tPl106 : tyPlaces Try.prog 106 = some [(0, 7), (7, 1)] := by kernel_rfl
theorem tS106 : tyS Try.prog 106 8 = true := by kernel_rfl
theorem tF106_0 : tyF Try.prog 106 0 0 = true := by kernel_rfl
theorem tF106_1 : tyF Try.prog 106 1 7 = true := by kernel_rfl
theorem tC104 : tyC Try.prog 104 = true := by kernel_rfl
theorem tMap104 : tyMap Try.prog 104 3 4 = true := by kernel_rfl
theorem tKey3 : KeyT Try.prog 3 (isInt .i64) := keyT_int (by kernel_rfl)
theorem tA106 : tyA Try.prog 106 8 = true := by kernel_rfl
theorem fOk73 : fnOk Try.prog 73 = true := by kernel_rfl
theorem tZo4 : (Try.prog.info? 4).bind (·.zero) = some (.bool false) := by kernel_rfl
theorem fOk74 : fnOk Try.prog 74 = true := by kernel_rfl
theorem fOk16 : fnOk Try.prog 16 = true := by kernel_rfl
theorem fOk17 : fnOk Try.prog 17 = true := by kernel_rfl
theorem fOk75 : fnOk Try.prog 75 = true := by kernel_rfl
theorem fOk18 : fnOk Try.prog 18 = true := by kernel_rfl
theorem tS3 : tyS Try.prog 3 1 = true := by kernel_rfl
theorem fOk126 : fnOk Try.prog 126 = true := by kernel_rfl
theorem fOk125 : fnOk Try.prog 125 = true := by kernel_rfl
theorem fOk76 : fnOk Try.prog 76 = true := by kernel_rfl
theorem fOk19 : fnOk Try.prog 19 = true := by kernel_rfl
theorem fOk77 : fnOk Try.prog 77 = true := by kernel_rfl
theorem fOk20 : fnOk Try.prog 20 = true := by kernel_rfl
theorem tB4 : tyB Try.prog 4 = true := by kernel_rfl
theorem tZ24 : zeroCells Try.prog 24 = some [.slice none 0 0, .slice none 0 0] := by kernel_rfl
theorem tPl24 : tyPlaces Try.prog 24 = some [(0, 1), (1, 1)] := by kernel_rfl
theorem fOk23 : fnOk Try.prog 23 = true := by kernel_rfl
theorem tS35 : tyS Try.prog 35 6 = true := by kernel_rfl
theorem tA35 : tyA Try.prog 35 6 = true := by kernel_rfl
theorem tIsSl33 : tySlice Try.prog 33 = true := by kernel_rfl
theorem tSl33 : tySl Try.prog 33 2 = true := by kernel_rfl
theorem tA113 : tyA Try.prog 113 2 = true := by kernel_rfl
theorem tZ113 : zeroCells Try.prog 113 = some [.int .i64 0, .int .i64 0] := by kernel_rfl
theorem tS113 : tyS Try.prog 113 2 = true := by kernel_rfl
theorem tF113_0 : tyF Try.prog 113 0 0 = true := by kernel_rfl
theorem tF113_1 : tyF Try.prog 113 1 1 = true := by kernel_rfl
theorem fOk26 : fnOk Try.prog 26 = true := by kernel_rfl
theorem tF35_2 : tyF Try.prog 35 2 2 = true := by kernel_rfl
theorem tF35_3 : tyF Try.prog 35 3 3 = true := by kernel_rfl
theorem fOk79 : fnOk Try.prog 79 = true := by kernel_rfl
theorem fOk24 : fnOk Try.prog 24 = true := by kernel_rfl
theorem fOk27 : fnOk Try.prog 27 = true := by kernel_rfl
theorem tPl113 : tyPlaces Try.prog 113 = some [(0, 1), (1, 1)] := by kernel_rfl
theorem fOk80 : fnOk Try.prog 80 = true := by kernel_rfl
theorem fOk25 : fnOk Try.prog 25 = true := by kernel_rfl
theorem tS42 : tyS Try.prog 42 3 = true := by kernel_rfl
theorem tA42 : tyA Try.prog 42 3 = true := by kernel_rfl
theorem tEl49 : tyEl Try.prog 49 42 3 48 = true := by kernel_rfl
theorem tZ42 : zeroCells Try.prog 42 = some [.string ⟨#[]⟩, .int .i64 0, .slice none 0 0] := by kernel_rfl
theorem tIsSl49 : tySlice Try.prog 49 = true := by kernel_rfl
theorem tSl49 : tySl Try.prog 49 3 = true := by kernel_rfl
theorem tF42_0 : tyF Try.prog 42 0 0 = true := by kernel_rfl
theorem tC9 : tyC Try.prog 9 = true := by kernel_rfl
theorem tStr9 : tyStr Try.prog 9 = true := by kernel_rfl
theorem fOk131 : fnOk Try.prog 131 = true := by kernel_rfl
theorem fOk93 : fnOk Try.prog 93 = true := by kernel_rfl
theorem tF42_1 : tyF Try.prog 42 1 1 = true := by kernel_rfl
theorem tF42_2 : tyF Try.prog 42 2 2 = true := by kernel_rfl
theorem tC40 : tyC Try.prog 40 = true := by kernel_rfl
theorem tIsSl40 : tySlice Try.prog 40 = true := by kernel_rfl
theorem tSl40 : tySl Try.prog 40 3 = true := by kernel_rfl
theorem tA47 : tyA Try.prog 47 3 = true := by kernel_rfl
theorem tZ47 : zeroCells Try.prog 47 = some [.string ⟨#[]⟩, .string ⟨#[]⟩, .int .i64 0] := by kernel_rfl
theorem tS47 : tyS Try.prog 47 3 = true := by kernel_rfl
theorem tF47_0 : tyF Try.prog 47 0 0 = true := by kernel_rfl
theorem tF47_1 : tyF Try.prog 47 1 1 = true := by kernel_rfl
theorem tF47_2 : tyF Try.prog 47 2 2 = true := by kernel_rfl
theorem tZ118 : zeroCells Try.prog 118 = some [.string ⟨#[]⟩, .string ⟨#[]⟩] := by kernel_rfl
theorem tPl118 : tyPlaces Try.prog 118 = some [(0, 1), (1, 1)] := by kernel_rfl
theorem tS118 : tyS Try.prog 118 2 = true := by kernel_rfl
theorem tA118 : tyA Try.prog 118 2 = true := by kernel_rfl
theorem fOk84 : fnOk Try.prog 84 = true := by kernel_rfl
theorem tF118_0 : tyF Try.prog 118 0 0 = true := by kernel_rfl
theorem fOk152 : fnOk Try.prog 152 = true := by kernel_rfl
theorem fOk138 : fnOk Try.prog 138 = true := by kernel_rfl
theorem tF118_1 : tyF Try.prog 118 1 1 = true := by kernel_rfl
theorem fOk149 : fnOk Try.prog 149 = true := by kernel_rfl
theorem fOk146 : fnOk Try.prog 146 = true := by kernel_rfl
theorem fOk127 : fnOk Try.prog 127 = true := by kernel_rfl
theorem fOk81 : fnOk Try.prog 81 = true := by kernel_rfl
theorem fOk83 : fnOk Try.prog 83 = true := by kernel_rfl
theorem fOk100 : fnOk Try.prog 100 = true := by kernel_rfl
theorem fOk82 : fnOk Try.prog 82 = true := by kernel_rfl
theorem tEl40 : tyEl Try.prog 40 47 3 40 = true := by kernel_rfl
theorem fOk28 : fnOk Try.prog 28 = true := by kernel_rfl
theorem fOk95 : fnOk Try.prog 95 = true := by kernel_rfl
theorem fOk132 : fnOk Try.prog 132 = true := by kernel_rfl
theorem fOk96 : fnOk Try.prog 96 = true := by kernel_rfl
theorem fOk85 : fnOk Try.prog 85 = true := by kernel_rfl
theorem fOk128 : fnOk Try.prog 128 = true := by kernel_rfl
theorem fOk86 : fnOk Try.prog 86 = true := by kernel_rfl
theorem fOk29 : fnOk Try.prog 29 = true := by kernel_rfl
theorem fOk30 : fnOk Try.prog 30 = true := by kernel_rfl
theorem tS52 : tyS Try.prog 52 4 = true := by kernel_rfl
theorem tA52 : tyA Try.prog 52 4 = true := by kernel_rfl
theorem tF52_0 : tyF Try.prog 52 0 0 = true := by kernel_rfl
theorem tF52_3 : tyF Try.prog 52 3 3 = true := by kernel_rfl
theorem tF52_1 : tyF Try.prog 52 1 1 = true := by kernel_rfl
theorem tC49 : tyC Try.prog 49 = true := by kernel_rfl
theorem tF52_2 : tyF Try.prog 52 2 2 = true := by kernel_rfl
theorem tC50 : tyC Try.prog 50 = true := by kernel_rfl
theorem tIsSl50 : tySlice Try.prog 50 = true := by kernel_rfl
theorem tMap135 : tyMap Try.prog 135 9 4 = true := by kernel_rfl
theorem tKey9 : KeyT Try.prog 9 isStr := keyT_str (by kernel_rfl)
theorem fOk94 : fnOk Try.prog 94 = true := by kernel_rfl
theorem tSl50 : tySl Try.prog 50 3 = true := by kernel_rfl
theorem tA137 : tyA Try.prog 137 3 = true := by kernel_rfl
theorem tZ137 : zeroCells Try.prog 137 = some [.string ⟨#[]⟩, .int .i64 0, .int .i64 0] := by kernel_rfl
theorem tS137 : tyS Try.prog 137 3 = true := by kernel_rfl
theorem tF137_0 : tyF Try.prog 137 0 0 = true := by kernel_rfl
theorem tF137_1 : tyF Try.prog 137 1 1 = true := by kernel_rfl
theorem tF137_2 : tyF Try.prog 137 2 2 = true := by kernel_rfl
theorem fOk35 : fnOk Try.prog 35 = true := by kernel_rfl
theorem tPl42 : tyPlaces Try.prog 42 = some [(0, 1), (1, 1), (2, 1)] := by kernel_rfl
theorem fOk87 : fnOk Try.prog 87 = true := by kernel_rfl
theorem fOk129 : fnOk Try.prog 129 = true := by kernel_rfl
theorem tS40 : tyS Try.prog 40 1 = true := by kernel_rfl
theorem fOk88 : fnOk Try.prog 88 = true := by kernel_rfl
theorem fOk31 : fnOk Try.prog 31 = true := by kernel_rfl
theorem fOk97 : fnOk Try.prog 97 = true := by kernel_rfl
theorem fOk36 : fnOk Try.prog 36 = true := by kernel_rfl
theorem fOk89 : fnOk Try.prog 89 = true := by kernel_rfl
theorem fOk32 : fnOk Try.prog 32 = true := by kernel_rfl
theorem tMap129 : tyMap Try.prog 129 9 137 = true := by kernel_rfl
theorem tZo137 : (Try.prog.info? 137).bind (·.zero) = some (.agg #[.string ⟨#[]⟩, .int .i64 0, .int .i64 0]) := by kernel_rfl
theorem tZ128 : zeroCells Try.prog 128 = some [.string ⟨#[]⟩, .string ⟨#[]⟩, .int .i64 0, .int .i64 0, .int .i64 0] := by kernel_rfl
theorem tPl128 : tyPlaces Try.prog 128 = some [(0, 3), (3, 1), (4, 1)] := by kernel_rfl
theorem tS128 : tyS Try.prog 128 5 = true := by kernel_rfl
theorem tF128_2 : tyF Try.prog 128 2 4 = true := by kernel_rfl
theorem tF128_1 : tyF Try.prog 128 1 3 = true := by kernel_rfl
theorem tA128 : tyA Try.prog 128 5 = true := by kernel_rfl
theorem tEl125 : tyEl Try.prog 125 128 5 56 = true := by kernel_rfl
theorem tIsSl125 : tySlice Try.prog 125 = true := by kernel_rfl
theorem fOk90 : fnOk Try.prog 90 = true := by kernel_rfl
theorem tSl125 : tySl Try.prog 125 5 = true := by kernel_rfl
theorem tF128_0 : tyF Try.prog 128 0 0 = true := by kernel_rfl
theorem fOk33 : fnOk Try.prog 33 = true := by kernel_rfl
theorem tZ131 : zeroCells Try.prog 131 = some [.string ⟨#[]⟩, .slice none 0 0, .slice none 0 0, .int .i64 0, .map none] := by kernel_rfl
theorem tPl131 : tyPlaces Try.prog 131 = some [(0, 4), (4, 1)] := by kernel_rfl
theorem tS131 : tyS Try.prog 131 5 = true := by kernel_rfl
theorem tF131_1 : tyF Try.prog 131 1 4 = true := by kernel_rfl
theorem tC129 : tyC Try.prog 129 = true := by kernel_rfl
theorem tA131 : tyA Try.prog 131 5 = true := by kernel_rfl
theorem fOk91 : fnOk Try.prog 91 = true := by kernel_rfl
theorem tF131_0 : tyF Try.prog 131 0 0 = true := by kernel_rfl
theorem fOk130 : fnOk Try.prog 130 = true := by kernel_rfl
theorem fOk92 : fnOk Try.prog 92 = true := by kernel_rfl
theorem fOk34 : fnOk Try.prog 34 = true := by kernel_rfl
theorem fOk37 : fnOk Try.prog 37 = true := by kernel_rfl
theorem tMap172 : tyMap Try.prog 172 118 3 = true := by kernel_rfl
theorem tKey118 : KeyT Try.prog 118 isAgg118 := keyT_agg eqk118 (by kernel_rfl) (fun v ⟨x, hx⟩ => ⟨_, ⟨x, rfl⟩, hx⟩)
theorem tZo3 : (Try.prog.info? 3).bind (·.zero) = some (.int .i64 0) := by kernel_rfl
theorem tIsSl59 : tySlice Try.prog 59 = true := by kernel_rfl
theorem tZ35 : zeroCells Try.prog 35 = some [.string ⟨#[]⟩, .string ⟨#[]⟩, .int .i64 0, .int .i64 0, .int .i64 0, .bool false] := by kernel_rfl
theorem tPl35 : tyPlaces Try.prog 35 = some [(0, 1), (1, 1), (2, 1), (3, 1), (4, 1), (5, 1)] := by kernel_rfl
theorem tEl59 : tyEl Try.prog 59 35 6 64 = true := by kernel_rfl
theorem tSl59 : tySl Try.prog 59 6 = true := by kernel_rfl
theorem tF35_4 : tyF Try.prog 35 4 4 = true := by kernel_rfl
theorem tF35_5 : tyF Try.prog 35 5 5 = true := by kernel_rfl
theorem fOk147 : fnOk Try.prog 147 = true := by kernel_rfl
theorem fOk116 : fnOk Try.prog 116 = true := by kernel_rfl
theorem tF35_0 : tyF Try.prog 35 0 0 = true := by kernel_rfl
theorem tF35_1 : tyF Try.prog 35 1 1 = true := by kernel_rfl
theorem fOk134 : fnOk Try.prog 134 = true := by kernel_rfl
theorem fOk171 : fnOk Try.prog 171 = true := by kernel_rfl
theorem fOk185 : fnOk Try.prog 185 = true := by kernel_rfl
theorem fOk181 : fnOk Try.prog 181 = true := by kernel_rfl
theorem fOk172 : fnOk Try.prog 172 = true := by kernel_rfl
theorem fOk157 : fnOk Try.prog 157 = true := by kernel_rfl
theorem fOk148 : fnOk Try.prog 148 = true := by kernel_rfl
theorem fOk133 : fnOk Try.prog 133 = true := by kernel_rfl
theorem fOk98 : fnOk Try.prog 98 = true := by kernel_rfl
theorem fOk38 : fnOk Try.prog 38 = true := by kernel_rfl
theorem tZ162 : zeroCells Try.prog 162 = some [.string ⟨#[]⟩, .string ⟨#[]⟩, .int .i64 0, .int .i64 0, .int .i64 0] := by kernel_rfl
theorem tPl162 : tyPlaces Try.prog 162 = some [(0, 3), (3, 1), (4, 1)] := by kernel_rfl
theorem tEl159 : tyEl Try.prog 159 162 5 56 = true := by kernel_rfl
theorem tIsSl159 : tySlice Try.prog 159 = true := by kernel_rfl
theorem fOk118 : fnOk Try.prog 118 = true := by kernel_rfl
theorem tSl159 : tySl Try.prog 159 5 = true := by kernel_rfl
theorem tA162 : tyA Try.prog 162 5 = true := by kernel_rfl
theorem tS162 : tyS Try.prog 162 5 = true := by kernel_rfl
theorem tF162_0 : tyF Try.prog 162 0 0 = true := by kernel_rfl
theorem tMap175 : tyMap Try.prog 175 47 3 = true := by kernel_rfl
theorem tKey47 : KeyT Try.prog 47 isAgg47 := keyT_agg eqk47 (by kernel_rfl) (fun v ⟨x, hx⟩ => ⟨_, ⟨x, rfl⟩, hx⟩)
theorem tF162_1 : tyF Try.prog 162 1 3 = true := by kernel_rfl
theorem tF162_2 : tyF Try.prog 162 2 4 = true := by kernel_rfl
theorem fOk135 : fnOk Try.prog 135 = true := by kernel_rfl
theorem tPl47 : tyPlaces Try.prog 47 = some [(0, 1), (1, 1), (2, 1)] := by kernel_rfl
theorem fOk150 : fnOk Try.prog 150 = true := by kernel_rfl
theorem fOk99 : fnOk Try.prog 99 = true := by kernel_rfl
theorem fOk39 : fnOk Try.prog 39 = true := by kernel_rfl
theorem tEqG35 : Try.prog.eqGuardType Try.prog.depth 35 = false := by kernel_rfl
theorem fOk40 : fnOk Try.prog 40 = true := by kernel_rfl
theorem fOk41 : fnOk Try.prog 41 = true := by kernel_rfl
theorem fOk42 : fnOk Try.prog 42 = true := by kernel_rfl
theorem fOk44 : fnOk Try.prog 44 = true := by kernel_rfl
theorem tZ52 : zeroCells Try.prog 52 = some [.string ⟨#[]⟩, .slice none 0 0, .slice none 0 0, .int .i64 0] := by kernel_rfl
theorem tPl52 : tyPlaces Try.prog 52 = some [(0, 1), (1, 1), (2, 1), (3, 1)] := by kernel_rfl
theorem tEl50 : tyEl Try.prog 50 137 3 32 = true := by kernel_rfl
theorem fOk101 : fnOk Try.prog 101 = true := by kernel_rfl
theorem tS49 : tyS Try.prog 49 1 = true := by kernel_rfl
theorem fOk45 : fnOk Try.prog 45 = true := by kernel_rfl
theorem fOk46 : fnOk Try.prog 46 = true := by kernel_rfl
theorem fOk137 : fnOk Try.prog 137 = true := by kernel_rfl
theorem fOk102 : fnOk Try.prog 102 = true := by kernel_rfl
theorem fOk104 : fnOk Try.prog 104 = true := by kernel_rfl
theorem fOk139 : fnOk Try.prog 139 = true := by kernel_rfl
theorem fOk47 : fnOk Try.prog 47 = true := by kernel_rfl
theorem tIsSl147 : tySlice Try.prog 147 = true := by kernel_rfl
theorem tSl147 : tySl Try.prog 147 4 = true := by kernel_rfl
theorem fOk105 : fnOk Try.prog 105 = true := by kernel_rfl
theorem tS50 : tyS Try.prog 50 1 = true := by kernel_rfl
theorem fOk48 : fnOk Try.prog 48 = true := by kernel_rfl
theorem fOk106 : fnOk Try.prog 106 = true := by kernel_rfl
theorem fOk107 : fnOk Try.prog 107 = true := by kernel_rfl
theorem fOk49 : fnOk Try.prog 49 = true := by kernel_rfl
theorem tZ78 : zeroCells Try.prog 78 = some [.string ⟨#[]⟩, .string ⟨#[]⟩, .int .i64 0, .int .i64 0, .int .i64 0, .bool false, .int .i64 0, .int .i64 0] := by kernel_rfl
theorem tPl78 : tyPlaces Try.prog 78 = some [(0, 6), (6, 1), (7, 1)] := by kernel_rfl
theorem tEl73 : tyEl Try.prog 73 78 8 80 = true := by kernel_rfl
theorem tIsSl73 : tySlice Try.prog 73 = true := by kernel_rfl
theorem fOk50 : fnOk Try.prog 50 = true := by kernel_rfl
theorem fOk51 : fnOk Try.prog 51 = true := by kernel_rfl
theorem tSl73 : tySl Try.prog 73 8 = true := by kernel_rfl
theorem tA78 : tyA Try.prog 78 8 = true := by kernel_rfl
theorem tEqG78 : Try.prog.eqGuardType Try.prog.depth 78 = false := by kernel_rfl
theorem fOk52 : fnOk Try.prog 52 = true := by kernel_rfl
theorem fOk55 : fnOk Try.prog 55 = true := by kernel_rfl
theorem fOk54 : fnOk Try.prog 54 = true := by kernel_rfl
theorem tS78 : tyS Try.prog 78 8 = true := by kernel_rfl
theorem tF78_0 : tyF Try.prog 78 0 0 = true := by kernel_rfl
theorem tF78_1 : tyF Try.prog 78 1 6 = true := by kernel_rfl
theorem fOk57 : fnOk Try.prog 57 = true := by kernel_rfl
theorem fOk112 : fnOk Try.prog 112 = true := by kernel_rfl
theorem fOk56 : fnOk Try.prog 56 = true := by kernel_rfl
theorem fOk113 : fnOk Try.prog 113 = true := by kernel_rfl
theorem fOk115 : fnOk Try.prog 115 = true := by kernel_rfl
theorem fOk114 : fnOk Try.prog 114 = true := by kernel_rfl
theorem fOk58 : fnOk Try.prog 58 = true := by kernel_rfl
theorem fOk117 : fnOk Try.prog 117 = true := by kernel_rfl
theorem tSl158 : tySl Try.prog 158 1 = true := by kernel_rfl
theorem tIsSl158 : tySlice Try.prog 158 = true := by kernel_rfl
theorem fOk59 : fnOk Try.prog 59 = true := by kernel_rfl
theorem tZ96 : zeroCells Try.prog 96 = some [.int .i64 0, .int .i64 0, .int .i64 0, .int .i64 0, .int .i64 0] := by kernel_rfl
theorem tPl96 : tyPlaces Try.prog 96 = some [(0, 1), (1, 1), (2, 1), (3, 1), (4, 1)] := by kernel_rfl
theorem tS96 : tyS Try.prog 96 5 = true := by kernel_rfl
theorem tF96_1 : tyF Try.prog 96 1 1 = true := by kernel_rfl
theorem fOk119 : fnOk Try.prog 119 = true := by kernel_rfl
theorem tF96_2 : tyF Try.prog 96 2 2 = true := by kernel_rfl
theorem tF96_0 : tyF Try.prog 96 0 0 = true := by kernel_rfl
theorem tF96_3 : tyF Try.prog 96 3 3 = true := by kernel_rfl
theorem tF96_4 : tyF Try.prog 96 4 4 = true := by kernel_rfl
theorem tA96 : tyA Try.prog 96 5 = true := by kernel_rfl
theorem tEl87 : tyEl Try.prog 87 96 5 40 = true := by kernel_rfl
theorem tIsSl87 : tySlice Try.prog 87 = true := by kernel_rfl
theorem fOk60 : fnOk Try.prog 60 = true := by kernel_rfl
theorem fOk61 : fnOk Try.prog 61 = true := by kernel_rfl
theorem fOk120 : fnOk Try.prog 120 = true := by kernel_rfl
theorem fOk121 : fnOk Try.prog 121 = true := by kernel_rfl
theorem fOk62 : fnOk Try.prog 62 = true := by kernel_rfl
theorem fOk122 : fnOk Try.prog 122 = true := by kernel_rfl
theorem fOk145 : fnOk Try.prog 145 = true := by kernel_rfl
theorem fOk123 : fnOk Try.prog 123 = true := by kernel_rfl
theorem fOk63 : fnOk Try.prog 63 = true := by kernel_rfl
theorem fOk64 : fnOk Try.prog 64 = true := by kernel_rfl
theorem fOk65 : fnOk Try.prog 65 = true := by kernel_rfl
theorem fOk124 : fnOk Try.prog 124 = true := by kernel_rfl
theorem fOk66 : fnOk Try.prog 66 = true := by kernel_rfl
theorem fOk67 : fnOk Try.prog 67 = true := by kernel_rfl
theorem tSl87 : tySl Try.prog 87 5 = true := by kernel_rfl
theorem fOk68 : fnOk Try.prog 68 = true := by kernel_rfl
def tt : TT := [(3, [.C, .U, .I .i64, .S 1, .Z 1 [.int .i64 0]]), (4, [.C, .B, .S 1]), (9, [.C, .Str]), (15, [.Fn]), (16, [.Fn]), (17, [.Fn]), (18, [.Fn]), (19, [.Fn]), (20, [.Fn]), (21, [.Fn]), (22, [.C, .Sn, .Sl 1, .El 3 1 8, .S 1, .Fn]), (23, [.Fn]), (24, [.S 2, .A 2, .F 0 0, .F 1 1, .Z 2 [.slice none 0 0, .slice none 0 0], .Pl [(0, 1), (1, 1)], .Fn]), (25, [.Fn]), (26, [.Fn]), (27, [.Fn]), (28, [.Fn]), (29, [.Fn]), (30, [.Fn]), (31, [.Fn]), (32, [.Fn]), (33, [.Sn, .Sl 2, .Fn]), (34, [.Fn]), (35, [.S 6, .A 6, .F 2 2, .F 3 3, .Fn, .Z 6 [.string ⟨#[]⟩, .string ⟨#[]⟩, .int .i64 0, .int .i64 0, .int .i64 0, .bool false], .Pl [(0, 1), (1, 1), (2, 1), (3, 1), (4, 1), (5, 1)], .F 4 4, .F 5 5, .F 0 0, .F 1 1]), (36, [.Fn]), (37, [.Fn]), (38, [.Fn]), (39, [.Fn]), (40, [.C, .Sn, .Sl 3, .El 47 3 40, .S 1, .Fn]), (41, [.Fn]), (42, [.S 3, .A 3, .Z 3 [.string ⟨#[]⟩, .int .i64 0, .slice none 0 0], .F 0 0, .F 1 1, .F 2 2, .Pl [(0, 1), (1, 1), (2, 1)], .Fn]), (44, [.Fn]), (45, [.Fn]), (46, [.Fn]), (47, [.A 3, .Z 3 [.string ⟨#[]⟩, .string ⟨#[]⟩, .int .i64 0], .S 3, .F 0 0, .F 1 1, .F 2 2, .Pl [(0, 1), (1, 1), (2, 1)], .Fn]), (48, [.Fn]), (49, [.Sn, .Sl 3, .C, .S 1, .El 42 3 48, .Fn]), (50, [.C, .Sn, .Sl 3, .El 137 3 32, .S 1, .Fn]), (51, [.Fn]), (52, [.S 4, .A 4, .F 0 0, .F 3 3, .F 1 1, .F 2 2, .Z 4 [.string ⟨#[]⟩, .slice none 0 0, .slice none 0 0, .int .i64 0], .Pl [(0, 1), (1, 1), (2, 1), (3, 1)], .Fn]), (53, [.Fn]), (57, [.Fn]), (58, [.Fn]), (59, [.Sn, .El 35 6 64, .Sl 6, .Fn]), (60, [.Fn]), (61, [.Fn]), (62, [.Fn]), (63, [.Fn]), (64, [.Fn]), (65, [.Fn]), (66, [.Fn]), (67, [.Fn]), (68, [.Fn]), (69, [.Fn]), (70, [.Fn]), (71, [.Fn]), (72, [.Fn]), (73, [.Fn, .Sn, .Sl 8]), (74, [.Fn]), (75, [.Fn]), (76, [.Fn]), (77, [.Fn]), (78, [.Fn, .Z 8 [.string ⟨#[]⟩, .string ⟨#[]⟩, .int .i64 0, .int .i64 0, .int .i64 0, .bool false, .int .i64 0, .int .i64 0], .Pl [(0, 6), (6, 1), (7, 1)], .A 8, .S 8, .F 0 0, .F 1 6]), (79, [.Fn]), (80, [.Fn]), (81, [.Fn]), (82, [.Fn]), (83, [.Fn]), (84, [.Fn]), (85, [.Fn]), (86, [.Fn]), (87, [.Fn, .El 96 5 40, .Sn, .Sl 5]), (88, [.Fn]), (89, [.Fn]), (90, [.Fn]), (91, [.Fn]), (92, [.Fn]), (93, [.Fn]), (94, [.Fn]), (95, [.Fn]), (96, [.Fn, .Z 5 [.int .i64 0, .int .i64 0, .int .i64 0, .int .i64 0, .int .i64 0], .Pl [(0, 1), (1, 1), (2, 1), (3, 1), (4, 1)], .S 5, .F 1 1, .F 2 2, .F 0 0, .F 3 3, .F 4 4, .A 5]), (97, [.Fn]), (98, [.Fn]), (99, [.Arr 7 1, .Fn]), (100, [.Fn]), (101, [.Z 9 [.bool false, .bool false, .bool false, .bool false, .bool false, .bool false, .bool false, .int .i64 0, .slice none 0 0], .Pl [(0, 7), (7, 1), (8, 1)], .S 9, .F 0 0, .F 2 8, .A 9, .F 1 7, .Fn]), (102, [.Fn]), (104, [.C, .Fn]), (105, [.Fn]), (106, [.Z 8 [.bool false, .bool false, .bool false, .bool false, .bool false, .bool false, .bool false, .map none], .Pl [(0, 7), (7, 1)], .S 8, .F 0 0, .F 1 7, .A 8, .Fn]), (107, [.Fn]), (108, [.Fn]), (109, [.Fn]), (112, [.Fn]), (113, [.A 2, .Z 2 [.int .i64 0, .int .i64 0], .S 2, .F 0 0, .F 1 1, .Pl [(0, 1), (1, 1)], .Fn]), (114, [.Fn]), (115, [.Fn]), (116, [.Fn]), (117, [.Fn]), (118, [.Z 2 [.string ⟨#[]⟩, .string ⟨#[]⟩], .Pl [(0, 1), (1, 1)], .S 2, .A 2, .F 0 0, .F 1 1, .Fn]), (119, [.Fn]), (120, [.Fn]), (121, [.Fn]), (122, [.Fn]), (123, [.Fn]), (124, [.Fn]), (125, [.El 128 5 56, .Sn, .Sl 5]), (126, [.Fn]), (127, [.Fn]), (128, [.Fn, .Z 5 [.string ⟨#[]⟩, .string ⟨#[]⟩, .int .i64 0, .int .i64 0, .int .i64 0], .Pl [(0, 3), (3, 1), (4, 1)], .S 5, .F 2 4, .F 1 3, .A 5, .F 0 0]), (129, [.Fn, .C]), (130, [.Fn]), (131, [.Fn, .Z 5 [.string ⟨#[]⟩, .slice none 0 0, .slice none 0 0, .int .i64 0, .map none], .Pl [(0, 4), (4, 1)], .S 5, .F 1 4, .A 5, .F 0 0]), (132, [.Fn]), (134, [.Fn]), (135, [.Fn]), (137, [.A 3, .Z 3 [.string ⟨#[]⟩, .int .i64 0, .int .i64 0], .S 3, .F 0 0, .F 1 1, .F 2 2, .Fn]), (138, [.Fn]), (139, [.Fn]), (140, [.Fn]), (145, [.Fn]), (146, [.Fn]), (147, [.Sn, .Sl 4]), (149, [.Fn]), (150, [.I .u64, .U, .Fn]), (152, [.Fn]), (158, [.Sl 1, .Sn]), (159, [.El 162 5 56, .Sn, .Sl 5]), (162, [.Z 5 [.string ⟨#[]⟩, .string ⟨#[]⟩, .int .i64 0, .int .i64 0, .int .i64 0], .Pl [(0, 3), (3, 1), (4, 1)], .A 5, .S 5, .F 0 0, .F 1 3, .F 2 4])]
theorem ok : TTok Try.prog tt := tt_all ⟨⟨tC3, tUn3, tI3, tS3, ⟨tZ3, rfl⟩, trivial⟩, ⟨tC4, tB4, tS4, trivial⟩, ⟨tC9, tStr9, trivial⟩, ⟨fOk15, trivial⟩, ⟨fOk16, trivial⟩, ⟨fOk17, trivial⟩, ⟨fOk18, trivial⟩, ⟨fOk19, trivial⟩, ⟨fOk20, trivial⟩, ⟨fOk21, trivial⟩, ⟨tC22, tIsSl22, tSl22, tEl22, tS22, fOk22, trivial⟩, ⟨fOk23, trivial⟩, ⟨tS24, tA24, tF24_0, tF24_1, ⟨tZ24, rfl⟩, tPl24, fOk24, trivial⟩, ⟨fOk25, trivial⟩, ⟨fOk26, trivial⟩, ⟨fOk27, trivial⟩, ⟨fOk28, trivial⟩, ⟨fOk29, trivial⟩, ⟨fOk30, trivial⟩, ⟨fOk31, trivial⟩, ⟨fOk32, trivial⟩, ⟨tIsSl33, tSl33, fOk33, trivial⟩, ⟨fOk34, trivial⟩, ⟨tS35, tA35, tF35_2, tF35_3, fOk35, ⟨tZ35, rfl⟩, tPl35, tF35_4, tF35_5, tF35_0, tF35_1, trivial⟩, ⟨fOk36, trivial⟩, ⟨fOk37, trivial⟩, ⟨fOk38, trivial⟩, ⟨fOk39, trivial⟩, ⟨tC40, tIsSl40, tSl40, tEl40, tS40, fOk40, trivial⟩, ⟨fOk41, trivial⟩, ⟨tS42, tA42, ⟨tZ42, rfl⟩, tF42_0, tF42_1, tF42_2, tPl42, fOk42, trivial⟩, ⟨fOk44, trivial⟩, ⟨fOk45, trivial⟩, ⟨fOk46, trivial⟩, ⟨tA47, ⟨tZ47, rfl⟩, tS47, tF47_0, tF47_1, tF47_2, tPl47, fOk47, trivial⟩, ⟨fOk48, trivial⟩, ⟨tIsSl49, tSl49, tC49, tS49, tEl49, fOk49, trivial⟩, ⟨tC50, tIsSl50, tSl50, tEl50, tS50, fOk50, trivial⟩, ⟨fOk51, trivial⟩, ⟨tS52, tA52, tF52_0, tF52_3, tF52_1, tF52_2, ⟨tZ52, rfl⟩, tPl52, fOk52, trivial⟩, ⟨fOk53, trivial⟩, ⟨fOk57, trivial⟩, ⟨fOk58, trivial⟩, ⟨tIsSl59, tEl59, tSl59, fOk59, trivial⟩, ⟨fOk60, trivial⟩, ⟨fOk61, trivial⟩, ⟨fOk62, trivial⟩, ⟨fOk63, trivial⟩, ⟨fOk64, trivial⟩, ⟨fOk65, trivial⟩, ⟨fOk66, trivial⟩, ⟨fOk67, trivial⟩, ⟨fOk68, trivial⟩, ⟨fOk69, trivial⟩, ⟨fOk70, trivial⟩, ⟨fOk71, trivial⟩, ⟨fOk72, trivial⟩, ⟨fOk73, tIsSl73, tSl73, trivial⟩, ⟨fOk74, trivial⟩, ⟨fOk75, trivial⟩, ⟨fOk76, trivial⟩, ⟨fOk77, trivial⟩, ⟨fOk78, ⟨tZ78, rfl⟩, tPl78, tA78, tS78, tF78_0, tF78_1, trivial⟩, ⟨fOk79, trivial⟩, ⟨fOk80, trivial⟩, ⟨fOk81, trivial⟩, ⟨fOk82, trivial⟩, ⟨fOk83, trivial⟩, ⟨fOk84, trivial⟩, ⟨fOk85, trivial⟩, ⟨fOk86, trivial⟩, ⟨fOk87, tEl87, tIsSl87, tSl87, trivial⟩, ⟨fOk88, trivial⟩, ⟨fOk89, trivial⟩, ⟨fOk90, trivial⟩, ⟨fOk91, trivial⟩, ⟨fOk92, trivial⟩, ⟨fOk93, trivial⟩, ⟨fOk94, trivial⟩, ⟨fOk95, trivial⟩, ⟨fOk96, ⟨tZ96, rfl⟩, tPl96, tS96, tF96_1, tF96_2, tF96_0, tF96_3, tF96_4, tA96, trivial⟩, ⟨fOk97, trivial⟩, ⟨fOk98, trivial⟩, ⟨tArr99, fOk99, trivial⟩, ⟨fOk100, trivial⟩, ⟨⟨tZ101, rfl⟩, tPl101, tS101, tF101_0, tF101_2, tA101, tF101_1, fOk101, trivial⟩, ⟨fOk102, trivial⟩, ⟨tC104, fOk104, trivial⟩, ⟨fOk105, trivial⟩, ⟨⟨tZ106, rfl⟩, tPl106, tS106, tF106_0, tF106_1, tA106, fOk106, trivial⟩, ⟨fOk107, trivial⟩, ⟨fOk108, trivial⟩, ⟨fOk109, trivial⟩, ⟨fOk112, trivial⟩, ⟨tA113, ⟨tZ113, rfl⟩, tS113, tF113_0, tF113_1, tPl113, fOk113, trivial⟩, ⟨fOk114, trivial⟩, ⟨fOk115, trivial⟩, ⟨fOk116, trivial⟩, ⟨fOk117, trivial⟩, ⟨⟨tZ118, rfl⟩, tPl118, tS118, tA118, tF118_0, tF118_1, fOk118, trivial⟩, ⟨fOk119, trivial⟩, ⟨fOk120, trivial⟩, ⟨fOk121, trivial⟩, ⟨fOk122, trivial⟩, ⟨fOk123, trivial⟩, ⟨fOk124, trivial⟩, ⟨tEl125, tIsSl125, tSl125, trivial⟩, ⟨fOk126, trivial⟩, ⟨fOk127, trivial⟩, ⟨fOk128, ⟨tZ128, rfl⟩, tPl128, tS128, tF128_2, tF128_1, tA128, tF128_0, trivial⟩, ⟨fOk129, tC129, trivial⟩, ⟨fOk130, trivial⟩, ⟨fOk131, ⟨tZ131, rfl⟩, tPl131, tS131, tF131_1, tA131, tF131_0, trivial⟩, ⟨fOk132, trivial⟩, ⟨fOk134, trivial⟩, ⟨fOk135, trivial⟩, ⟨tA137, ⟨tZ137, rfl⟩, tS137, tF137_0, tF137_1, tF137_2, fOk137, trivial⟩, ⟨fOk138, trivial⟩, ⟨fOk139, trivial⟩, ⟨fOk140, trivial⟩, ⟨fOk145, trivial⟩, ⟨fOk146, trivial⟩, ⟨tIsSl147, tSl147, trivial⟩, ⟨fOk149, trivial⟩, ⟨tI150, tUn150, fOk150, trivial⟩, ⟨fOk152, trivial⟩, ⟨tSl158, tIsSl158, trivial⟩, ⟨tEl159, tIsSl159, tSl159, trivial⟩, ⟨⟨tZ162, rfl⟩, tPl162, tA162, tS162, tF162_0, tF162_1, tF162_2, trivial⟩, trivial⟩
instance {N : Nat} {w : World} {m : Mem} {o : Nat → Prop} {p : Nat} {l : Locs} : TC ⟨Try.prog, N, w, m, o, p, l⟩ tt := ⟨ok⟩
end Go.Proofs.Ytkciogeafbbggaa
