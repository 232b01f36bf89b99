/- FnExactHex: of every list of bytes both texts are one, and the list is not changed. -/
import Derived.Test.YthlhilfjbjamhaaPx21
import Derived.Test.YthlhilfjbjamhaaLawBytes
import Derived.Test.YthlhilfjbjamhaaFHex
namespace Go.Proofs.Ythlhilfjbjamhaa.Pure
open Go.RowKit Go.Proofs.Ythlhilfjbjamhaa.P Go.Proofs.Ythlhilfjbjamhaa.B Go.Proofs.YthlhilfjbjamhaaW.PrintWords Go.Proofs.YthlhilfjbjamhaaW.PrintLast Go.Proofs.YthlhilfjbjamhaaW.PrintMore
theorem FnExactHex : laws_FnExactHex.Pure := by
  intro a _ _ hw
  have hw8 := wf8 hw
  refine ⟨a.length + 9, ?_⟩
  unfold laws_FnExactHex.f
  by_cases h0 : (a.length : Int) > 1048576
  · rw [if_pos h0]
  · rw [if_neg h0]
    have s := specHex a hw8 (by omega) (a.length + 9) (by omega)
    have i := implHex a hw8 (by omega) (a.length + 9) (by omega)
    simp (disch := omega) only [toByteS, s, i, eqByteS_same, Option.bind_some, if_true]
end Go.Proofs.Ythlhilfjbjamhaa.Pure
