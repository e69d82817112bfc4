/- Part of the proof: AHWhy. -/
import Derived.Test.YtiphmdpaajjdeaaGreatDoorHAHWin
namespace Go.Proofs.YtiphmdpaajjdeaaGreatDoor
open Go Go.Pv
set_option linter.unusedVariables false
def inDay (day : Int) (w : TWindow) : Bool := decide (w.From ≤ day) && decide (day < w.To)
end Go.Proofs.YtiphmdpaajjdeaaGreatDoor
