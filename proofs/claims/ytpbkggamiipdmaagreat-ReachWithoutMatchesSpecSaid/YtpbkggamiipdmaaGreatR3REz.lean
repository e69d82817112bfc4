/- Part of the proof: REz. -/
import Derived.Test.YtpbkggamiipdmaaGreatR3RTz
namespace Go.Proofs.YtpbkggamiipdmaaGreat
open Go Go.Pv
def evxt : XT := []
theorem evxt_ok {gl : Gl} : XTok gl Tryz.prog evxt := by intro p hp; simp [evxt] at hp
theorem kmixed : Tryz.prog.follows .mixedOrders = true := by kernel_rfl
theorem told_run : evF evft evxt evtt evmt 3000 14 [] = some (.con (.bool true)) := by kernel_rfl
theorem told_pure {gl : Gl} : PureG gl Tryz.prog 14 [] (bV true) := evF_ok evft_ok evxt_ok evtt_ok evmt_ok kmixed told_run
end Go.Proofs.YtpbkggamiipdmaaGreat
