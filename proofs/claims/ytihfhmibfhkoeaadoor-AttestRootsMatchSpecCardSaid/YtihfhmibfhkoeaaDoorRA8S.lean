/- Part of the proof: A8S. -/
import Derived.Test.YtihfhmibfhkoeaaDoorRA8R
