/- FnExactClamp: of every list of bytes both answers are one; the list is not changed, and it does not share what is answered. -/
import Derived.Test.YthlhilfjbjamhaaPx39
import Derived.Test.YthlhilfjbjamhaaLawBytes
import Derived.Test.YthlhilfjbjamhaaFClamp
namespace Go.Proofs.Ythlhilfjbjamhaa.Pure
open Go.RowKit Go.Proofs.Ythlhilfjbjamhaa.P Go.Proofs.Ythlhilfjbjamhaa.B Go.Proofs.YthlhilfjbjamhaaW.PrintWords Go.Proofs.YthlhilfjbjamhaaW.PrintLast Go.Proofs.YthlhilfjbjamhaaW.PrintMore
theorem FnExactClamp : laws_FnExactClamp.Pure := by
  intro a _ _ _
  refine ⟨a.length + 90, ?_⟩
  unfold laws_FnExactClamp.f
  by_cases h0 : (a.length : Int) > 1048576
  · rw [if_pos h0]
  · rw [if_neg h0]
    have hl := clampL_length a
    have e : ¬ ((1 : Int) + (a.length : Int) < 0) := by omega
    have e2 : ¬ ((1 : Int) + ((clampL a).length : Int) < 0) := by omega
    simp (disch := omega) only [toByteS, specClamp, implClamp, eqByteS_same, markByteS, Option.bind_some, if_true, e, if_false, Bool.not_true]
    rw [laws_FnExactClamp.j0, if_neg (by decide)]
    simp (disch := omega) only [toByteS, implClamp, eqByteS_same, markByteS, heldByteS, Option.bind_some, if_true, e2, if_false]
end Go.Proofs.Ythlhilfjbjamhaa.Pure
