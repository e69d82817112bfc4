/- Part of the proof: HOpn. -/
import Derived.Test.YtkciogeafbbggaaJHChk
