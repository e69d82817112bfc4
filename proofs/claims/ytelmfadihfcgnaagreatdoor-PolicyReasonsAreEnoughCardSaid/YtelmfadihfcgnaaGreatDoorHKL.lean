/- Part of the proof. -/
import Derived.Test.YtelmfadihfcgnaaGreatDoorHD8PD
import Derived.MakeChecks
set_option linter.unusedSimpArgs false

