/- Part of the proof: A8H. -/
import Derived.Test.YtihfhmibfhkoeaaDoorPA8L
import Derived.Lib.ItoaLen
