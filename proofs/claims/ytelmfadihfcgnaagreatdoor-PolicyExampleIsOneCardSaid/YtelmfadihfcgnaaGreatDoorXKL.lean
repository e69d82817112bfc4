/- Part of the proof: KL. -/
import Derived.Test.YtelmfadihfcgnaaGreatDoorXC9PB
import Derived.OpenShut
import Derived.MakeChecks
set_option linter.unusedSimpArgs false

