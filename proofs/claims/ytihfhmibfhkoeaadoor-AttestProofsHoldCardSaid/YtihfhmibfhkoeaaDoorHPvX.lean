/- The framework of walks over abstract values (own text), part X. -/
import Derived.Test.YtihfhmibfhkoeaaDoorHPvV
import Derived.Test.YtihfhmibfhkoeaaDoorHPvQ
