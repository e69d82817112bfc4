/- Part of the proof: ZA. -/
import Derived.Test.YtiphmdpaajjdeaaGreatDoorHPvZ
import Derived.Laws.BytesArg
import Derived.Stop.BytesEq
import Derived.Lib.Repeat
import Derived.Lib.LaidTab
import Derived.Lib.ItoaNum
import Derived.Shelf.Strconv.Itoa3
