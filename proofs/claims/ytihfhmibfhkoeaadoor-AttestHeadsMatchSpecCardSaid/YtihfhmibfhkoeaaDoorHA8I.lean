/- Part of the proof: A8I. -/
import Derived.Test.YtihfhmibfhkoeaaDoorHA8L
