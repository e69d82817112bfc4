/- Part of the proof: HO. -/
import Derived.Test.YtkciogeafbbggaaNHT
import Derived.Test.YtkciogeafbbggaaNPvK
import Derived.KernelRfl
namespace Go.Proofs.Ytkciogeafbbggaa
open Go Go.Pv
set_option linter.unusedVariables false
set_option maxRecDepth 100000
theorem opens_9 : Opens Try.prog 9 (fun x => [sV x]) (fun x : (List UInt8) => (x.length + 1)) (fun x : (List UInt8) => (x.length ≤ maxLen)) := opens_string (show Try.prog.underlying 9 = some (.string) by kernel_rfl)
theorem opens_3 : Opens Try.prog 3 (fun x => [V.con (.int .i64 x)]) (fun x : Int => 1) (fun x : Int => ((IntKind.i64).min ≤ x ∧ x ≤ (IntKind.i64).max)) := opens_int (show Try.prog.underlying 3 = some (.int .i64) by kernel_rfl)
def szTExposure (x : TExposure) : Nat := (x.Advisory.length + 1) + ((x.Component.length + 1) + (1 + 0)) + 1
def okTExposure (x : TExposure) : Prop := (x.Advisory.length ≤ maxLen) ∧ ((x.Component.length ≤ maxLen) ∧ (((IntKind.i64).min ≤ x.Severity ∧ x.Severity ≤ (IntKind.i64).max) ∧ True))
theorem opens_47 : Opens Try.prog 47 encTExposure szTExposure okTExposure := opens_map (opens_struct (fs := [(9, 0, 1), (9, 1, 1), (3, 2, 1)]) (by kernel_rfl) (by kernel_rfl) (fopens_cons opens_9 (fopens_cons opens_9 (fopens_cons opens_3 fopens_nil)))) (fun p => TExposure.mk p.1 p.2.1 p.2.2.1) (fun _ => rfl) (fun _ => rfl) (fun _ h => h)
theorem opens_40 : Opens Try.prog 40 (fun l => [V.lst 3 (l.map encTExposure)]) (fun x : (List TExposure) => ((x.map (fun x : TExposure => (szTExposure x))).sum + 1)) (fun x : (List TExposure) => ((∀ a, a ∈ x → (fun x : TExposure => (okTExposure x)) a) ∧ x.length ≤ maxLen)) := opens_slice (show Try.prog.underlying 40 = some (.slice 47) by kernel_rfl) (by kernel_rfl) (by decide) opens_47
def szTRelease (x : TRelease) : Nat := (x.Version.length + 1) + (1 + (((x.Exposures.map (fun x : TExposure => (szTExposure x))).sum + 1) + 0)) + 1
def okTRelease (x : TRelease) : Prop := (x.Version.length ≤ maxLen) ∧ (((IntKind.i64).min ≤ x.Day ∧ x.Day ≤ (IntKind.i64).max) ∧ (((∀ a, a ∈ x.Exposures → (fun x : TExposure => (okTExposure x)) a) ∧ x.Exposures.length ≤ maxLen) ∧ True))
theorem opens_42 : Opens Try.prog 42 encTRelease szTRelease okTRelease := opens_map (opens_struct (fs := [(9, 0, 1), (3, 1, 1), (40, 2, 1)]) (by kernel_rfl) (by kernel_rfl) (fopens_cons opens_9 (fopens_cons opens_3 (fopens_cons opens_40 fopens_nil)))) (fun p => TRelease.mk p.1 p.2.1 p.2.2.1) (fun _ => rfl) (fun _ => rfl) (fun _ h => h)
theorem opens_49 : Opens Try.prog 49 (fun l => [V.lst 3 (l.map encTRelease)]) (fun x : (List TRelease) => ((x.map (fun x : TRelease => (szTRelease x))).sum + 1)) (fun x : (List TRelease) => ((∀ a, a ∈ x → (fun x : TRelease => (okTRelease x)) a) ∧ x.length ≤ maxLen)) := opens_slice (show Try.prog.underlying 49 = some (.slice 42) by kernel_rfl) (by kernel_rfl) (by decide) opens_42
def szTPublished (x : TPublished) : Nat := (x.Advisory.length + 1) + (1 + (1 + 0)) + 1
def okTPublished (x : TPublished) : Prop := (x.Advisory.length ≤ maxLen) ∧ (((IntKind.i64).min ≤ x.Day ∧ x.Day ≤ (IntKind.i64).max) ∧ (((IntKind.i64).min ≤ x.Ended ∧ x.Ended ≤ (IntKind.i64).max) ∧ True))
theorem opens_137 : Opens Try.prog 137 encTPublished szTPublished okTPublished := opens_map (opens_struct (fs := [(9, 0, 1), (3, 1, 1), (3, 2, 1)]) (by kernel_rfl) (by kernel_rfl) (fopens_cons opens_9 (fopens_cons opens_3 (fopens_cons opens_3 fopens_nil)))) (fun p => TPublished.mk p.1 p.2.1 p.2.2.1) (fun _ => rfl) (fun _ => rfl) (fun _ h => h)
theorem opens_50 : Opens Try.prog 50 (fun l => [V.lst 3 (l.map encTPublished)]) (fun x : (List TPublished) => ((x.map (fun x : TPublished => (szTPublished x))).sum + 1)) (fun x : (List TPublished) => ((∀ a, a ∈ x → (fun x : TPublished => (okTPublished x)) a) ∧ x.length ≤ maxLen)) := opens_slice (show Try.prog.underlying 50 = some (.slice 137) by kernel_rfl) (by kernel_rfl) (by decide) opens_137
def szTStory (x : TStory) : Nat := (x.Product.length + 1) + (((x.Releases.map (fun x : TRelease => (szTRelease x))).sum + 1) + (((x.Known.map (fun x : TPublished => (szTPublished x))).sum + 1) + (1 + 0))) + 1
def okTStory (x : TStory) : Prop := (x.Product.length ≤ maxLen) ∧ (((∀ a, a ∈ x.Releases → (fun x : TRelease => (okTRelease x)) a) ∧ x.Releases.length ≤ maxLen) ∧ (((∀ a, a ∈ x.Known → (fun x : TPublished => (okTPublished x)) a) ∧ x.Known.length ≤ maxLen) ∧ (((IntKind.i64).min ≤ x.Until ∧ x.Until ≤ (IntKind.i64).max) ∧ True)))
theorem opens_52 : Opens Try.prog 52 encTStory szTStory okTStory := opens_map (opens_struct (fs := [(9, 0, 1), (49, 1, 1), (50, 2, 1), (3, 3, 1)]) (by kernel_rfl) (by kernel_rfl) (fopens_cons opens_9 (fopens_cons opens_49 (fopens_cons opens_50 (fopens_cons opens_3 fopens_nil))))) (fun p => TStory.mk p.1 p.2.1 p.2.2.1 p.2.2.2.1) (fun _ => rfl) (fun _ => rfl) (fun _ h => h)
theorem opensV_52 : OpensV Try.prog 52 (fun x => V.agg (encTStory x)) szTStory okTStory := opensV_agg (fs := [(9, 0, 1), (49, 1, 1), (50, 2, 1), (3, 3, 1)]) (by kernel_rfl) opens_52
theorem opensV_3 : OpensV Try.prog 3 (fun x => V.con (.int .i64 x)) (fun x : Int => 1) (fun x : Int => ((IntKind.i64).min ≤ x ∧ x ≤ (IntKind.i64).max)) := opensV_cell (by kernel_rfl) opens_3
end Go.Proofs.Ytkciogeafbbggaa
