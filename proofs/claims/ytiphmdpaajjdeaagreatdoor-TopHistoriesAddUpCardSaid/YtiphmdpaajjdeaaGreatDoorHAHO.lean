/- Part of the proof: AHO. -/
import Derived.Test.YtiphmdpaajjdeaaGreatDoorHAHT
import Derived.Test.YtiphmdpaajjdeaaGreatDoorHPvK
import Derived.KernelRfl
namespace Go.Proofs.YtiphmdpaajjdeaaGreatDoor
open Go Go.Pv
set_option linter.unusedVariables false
set_option maxRecDepth 100000
theorem opens_9 : Opens Tryz.prog 9 (fun x => [sV x]) (fun x : (List UInt8) => (x.length + 1)) (fun x : (List UInt8) => (x.length ≤ 140737488351232)) := opens_stringW (show Tryz.prog.underlying 9 = some (.string) by kernel_rfl)
theorem opens_3 : Opens Tryz.prog 3 (fun x => [V.con (.int .i64 x)]) (fun x : Int => 1) (fun x : Int => ((IntKind.i64).min ≤ x ∧ x ≤ (IntKind.i64).max)) := opens_int (show Tryz.prog.underlying 3 = some (.int .i64) by kernel_rfl)
def szTExposure (x : TExposure) : Nat := (x.Advisory.length + 1) + ((x.Component.length + 1) + (1 + 0)) + 1
def okTExposure (x : TExposure) : Prop := (x.Advisory.length ≤ 140737488351232) ∧ ((x.Component.length ≤ 140737488351232) ∧ (((IntKind.i64).min ≤ x.Severity ∧ x.Severity ≤ (IntKind.i64).max) ∧ True))
theorem opens_47 : Opens Tryz.prog 47 encTExposure szTExposure okTExposure := opens_map (opens_struct (fs := [(9, 0, 1), (9, 1, 1), (3, 2, 1)]) (by kernel_rfl) (by kernel_rfl) (fopens_cons opens_9 (fopens_cons opens_9 (fopens_cons opens_3 fopens_nil)))) (fun p => TExposure.mk p.1 p.2.1 p.2.2.1) (fun _ => rfl) (fun _ => rfl) (fun _ h => h)
theorem opens_40 : Opens Tryz.prog 40 (fun l => [V.lst 3 (l.map encTExposure)]) (fun x : (List TExposure) => ((x.map (fun x : TExposure => (szTExposure x))).sum + 1)) (fun x : (List TExposure) => ((∀ a, a ∈ x → (fun x : TExposure => (okTExposure x)) a) ∧ x.length ≤ maxLen)) := opens_slice (show Tryz.prog.underlying 40 = some (.slice 47) by kernel_rfl) (by kernel_rfl) (by decide) opens_47
def szTRelease (x : TRelease) : Nat := (x.Version.length + 1) + (1 + (((x.Exposures.map (fun x : TExposure => (szTExposure x))).sum + 1) + 0)) + 1
def okTRelease (x : TRelease) : Prop := (x.Version.length ≤ 140737488351232) ∧ (((IntKind.i64).min ≤ x.Day ∧ x.Day ≤ (IntKind.i64).max) ∧ (((∀ a, a ∈ x.Exposures → (fun x : TExposure => (okTExposure x)) a) ∧ x.Exposures.length ≤ maxLen) ∧ True))
theorem opens_42 : Opens Tryz.prog 42 encTRelease szTRelease okTRelease := opens_map (opens_struct (fs := [(9, 0, 1), (3, 1, 1), (40, 2, 1)]) (by kernel_rfl) (by kernel_rfl) (fopens_cons opens_9 (fopens_cons opens_3 (fopens_cons opens_40 fopens_nil)))) (fun p => TRelease.mk p.1 p.2.1 p.2.2.1) (fun _ => rfl) (fun _ => rfl) (fun _ h => h)
theorem opens_22 : Opens Tryz.prog 22 (fun l => [V.lst 3 (l.map encTRelease)]) (fun x : (List TRelease) => ((x.map (fun x : TRelease => (szTRelease x))).sum + 1)) (fun x : (List TRelease) => ((∀ a, a ∈ x → (fun x : TRelease => (okTRelease x)) a) ∧ x.length ≤ maxLen)) := opens_slice (show Tryz.prog.underlying 22 = some (.slice 42) by kernel_rfl) (by kernel_rfl) (by decide) opens_42
def szTPublished (x : TPublished) : Nat := (x.Advisory.length + 1) + (1 + (1 + 0)) + 1
def okTPublished (x : TPublished) : Prop := (x.Advisory.length ≤ 140737488351232) ∧ (((IntKind.i64).min ≤ x.Day ∧ x.Day ≤ (IntKind.i64).max) ∧ (((IntKind.i64).min ≤ x.Ended ∧ x.Ended ≤ (IntKind.i64).max) ∧ True))
theorem opens_68 : Opens Tryz.prog 68 encTPublished szTPublished okTPublished := opens_map (opens_struct (fs := [(9, 0, 1), (3, 1, 1), (3, 2, 1)]) (by kernel_rfl) (by kernel_rfl) (fopens_cons opens_9 (fopens_cons opens_3 (fopens_cons opens_3 fopens_nil)))) (fun p => TPublished.mk p.1 p.2.1 p.2.2.1) (fun _ => rfl) (fun _ => rfl) (fun _ h => h)
theorem opens_23 : Opens Tryz.prog 23 (fun l => [V.lst 3 (l.map encTPublished)]) (fun x : (List TPublished) => ((x.map (fun x : TPublished => (szTPublished x))).sum + 1)) (fun x : (List TPublished) => ((∀ a, a ∈ x → (fun x : TPublished => (okTPublished x)) a) ∧ x.length ≤ maxLen)) := opens_slice (show Tryz.prog.underlying 23 = some (.slice 68) by kernel_rfl) (by kernel_rfl) (by decide) opens_68
def szTStory (x : TStory) : Nat := (x.Product.length + 1) + (((x.Releases.map (fun x : TRelease => (szTRelease x))).sum + 1) + (((x.Known.map (fun x : TPublished => (szTPublished x))).sum + 1) + (1 + 0))) + 1
def okTStory (x : TStory) : Prop := (x.Product.length ≤ 140737488351232) ∧ (((∀ a, a ∈ x.Releases → (fun x : TRelease => (okTRelease x)) a) ∧ x.Releases.length ≤ maxLen) ∧ (((∀ a, a ∈ x.Known → (fun x : TPublished => (okTPublished x)) a) ∧ x.Known.length ≤ maxLen) ∧ (((IntKind.i64).min ≤ x.Until ∧ x.Until ≤ (IntKind.i64).max) ∧ True)))
theorem opens_25 : Opens Tryz.prog 25 encTStory szTStory okTStory := opens_map (opens_struct (fs := [(9, 0, 1), (22, 1, 1), (23, 2, 1), (3, 3, 1)]) (by kernel_rfl) (by kernel_rfl) (fopens_cons opens_9 (fopens_cons opens_22 (fopens_cons opens_23 (fopens_cons opens_3 fopens_nil))))) (fun p => TStory.mk p.1 p.2.1 p.2.2.1 p.2.2.2.1) (fun _ => rfl) (fun _ => rfl) (fun _ h => h)
theorem opensV_25 : OpensV Tryz.prog 25 (fun x => V.agg (encTStory x)) szTStory okTStory := opensV_agg (fs := [(9, 0, 1), (22, 1, 1), (23, 2, 1), (3, 3, 1)]) (by kernel_rfl) opens_25
theorem opensV_3 : OpensV Tryz.prog 3 (fun x => V.con (.int .i64 x)) (fun x : Int => 1) (fun x : Int => ((IntKind.i64).min ≤ x ∧ x ≤ (IntKind.i64).max)) := opensV_cell (by kernel_rfl) opens_3
end Go.Proofs.YtiphmdpaajjdeaaGreatDoor
