/- Part of the proof. -/
import Derived.Test.YtelmfadihfcgnaaGreatDoorFD7PB
import Derived.MakeChecks
set_option linter.unusedSimpArgs false

