/- Clamp, by the program and by the reference: one list of 32 bytes, or none. -/
import Derived.Test.YthlhilfjbjamhaaBase
import Derived.Test.YthlhilfjbjamhaaPx36
import Derived.Test.YthlhilfjbjamhaaPx38
namespace Go.Proofs.Ythlhilfjbjamhaa.B
open Go.RowKit Go.Proofs.Ythlhilfjbjamhaa.P Go.Proofs.YthlhilfjbjamhaaW.PrintWords Go.Proofs.YthlhilfjbjamhaaW.PrintLast Go.Proofs.YthlhilfjbjamhaaW.PrintMore
def clampL (l : List Int) : List Int :=
  if l.length = 32 then (l.set 0 (Go.bits .and .u8 (rd l 0) 248)).set 31 (Go.bits .or .u8 (Go.bits .and .u8 (rd (l.set 0 (Go.bits .and .u8 (rd l 0) 248)) 31) 127) 64) else []
theorem clampL_length (l : List Int) : (clampL l).length ≤ 32 := by
  unfold clampL; split
  · simp; omega
  · simp
theorem specClamp (l : List Int) : spec_Clamp.f l = some (clampL l) := by
  unfold spec_Clamp.f clampL
  by_cases h : l.length = 32
  · have h1 : (l.length : Int) = 32 := by omega
    have h2 : ([] : List Int).length + l.length < 140737488355328 := by simp; omega
    simp only [if_pos h, if_pos h1, Option.bind_some, if_pos h2, List.nil_append]
    rw [if_pos (by omega), if_pos (by omega)]
    rfl
  · rw [if_neg h, if_neg (by omega)]
theorem implClamp (l : List Int) : impl_Clamp.f l = some (clampL l) := by
  unfold impl_Clamp.f clampL slices_Clone_byte_byte.f
  by_cases h : l.length = 32
  · have h1 : (l.length : Int) = 32 := by omega
    have h2 : l.length < 140737488355328 := by omega
    simp only [if_pos h, if_pos h1, Option.bind_some, if_pos h2]
    rw [if_pos (by omega), if_pos (by omega)]
    rfl
  · rw [if_neg h, if_neg (by omega)]
end Go.Proofs.Ythlhilfjbjamhaa.B
