/- Part of the proof: ATRep. -/
import Derived.Test.YtiphmdpaajjdeaaGreatDoorGKSh
