/- Part of the proof: KX. -/
import Derived.Test.YtiphmdpaajjdeaaGreatDoorHKT
import Derived.Test.YtiphmdpaajjdeaaGreatDoorHKSh
namespace Go.Proofs.YtiphmdpaajjdeaaGreatDoor
open Go Go.Pv
def xIndexByte : List V → Option V
  | [.con (.string s), .con (.int .u8 c)] => some (.con (.int .i64 (Lib.indexByte s.data.toList c.toNat.toUInt8)))
  | _ => none
theorem xIndexByte_ok {gl : Gl} {avs : List V} {v : V} (h : xIndexByte avs = some v) : PureG gl Tryz.prog 142 avs v := by
  unfold xIndexByte at h
  split at h
  · rename_i s c
    simp only [Option.some.injEq] at h; subst h
    exact pure_same (l := [.string s, .int .u8 c]) (fun w => Go.Proofs.Tryz.strings_IndexByte s c w) (fun _ => .con _)
  · simp at h
def evxt : XT := [(142, xIndexByte)]
theorem evxt_ok {gl : Gl} : XTok gl Tryz.prog evxt := by
  intro p hp
  simp only [evxt, List.mem_cons, List.not_mem_nil, or_false] at hp
  subst hp
  exact ⟨by kernel_rfl, fun avs v h => xIndexByte_ok h⟩
end Go.Proofs.YtiphmdpaajjdeaaGreatDoor
