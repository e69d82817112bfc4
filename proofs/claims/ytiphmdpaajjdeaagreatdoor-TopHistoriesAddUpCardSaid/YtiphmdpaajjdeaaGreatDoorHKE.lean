/- Part of the proof: KE. -/
import Derived.Test.YtiphmdpaajjdeaaGreatDoorHKX
namespace Go.Proofs.YtiphmdpaajjdeaaGreatDoor
open Go Go.Pv
theorem kmixed : Tryz.prog.follows .mixedOrders = true := by kernel_rfl
theorem told_run : evF evft evxt evtt evmt 3000 7 [] = some (.con (.bool true)) := by kernel_rfl
theorem told_pure {gl : Gl} : PureG gl Tryz.prog 7 [] (bV true) := evF_ok evft_ok evxt_ok evtt_ok evmt_ok kmixed told_run
end Go.Proofs.YtiphmdpaajjdeaaGreatDoor
