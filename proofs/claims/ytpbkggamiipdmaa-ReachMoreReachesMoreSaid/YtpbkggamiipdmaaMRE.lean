/- Part of the proof: RE. -/
import Derived.Test.YtpbkggamiipdmaaMRT
namespace Go.Proofs.Ytpbkggamiipdmaa
open Go Go.Pv
def evxt : XT := []
theorem evxt_ok {gl : Gl} : XTok gl Try.prog evxt := by intro p hp; simp [evxt] at hp
theorem kmixed : Try.prog.follows .mixedOrders = true := by kernel_rfl
theorem told_run : evF evft evxt evtt evmt 3000 11 [] = some (.con (.bool true)) := by kernel_rfl
theorem told_pure {gl : Gl} : PureG gl Try.prog 11 [] (bV true) := evF_ok evft_ok evxt_ok evtt_ok evmt_ok kmixed told_run
end Go.Proofs.Ytpbkggamiipdmaa
