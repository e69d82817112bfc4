/- The framework of walks over abstract values (own text), part X. -/
import Derived.Test.YtiphmdpaajjdeaaGreatDoorGPvV
import Derived.Test.YtiphmdpaajjdeaaGreatDoorGPvQ
