/- Part of the proof: AHC. -/
import Derived.Test.YtiphmdpaajjdeaaGreatDoorHAHM
import Derived.Test.YtiphmdpaajjdeaaGreatDoorHAHO
import Derived.Test.YtiphmdpaajjdeaaGreatDoorHPvQ
namespace Go.Proofs.YtiphmdpaajjdeaaGreatDoor
open Go Go.Pv
set_option linter.unusedVariables false
def orr (e : Int) (k : Option Int) : Option Int := if e = 0 then k else some e
theorem orr_0 (k : Option Int) : orr 0 k = k := rfl
end Go.Proofs.YtiphmdpaajjdeaaGreatDoor
