/- FnExactSame: of every two lists of bytes both answers are one, and neither list is changed. -/
import Derived.Test.YthlhilfjbjamhaaPx18
import Derived.Test.YthlhilfjbjamhaaLawBytes
namespace Go.Proofs.Ythlhilfjbjamhaa.Pure
open Go.RowKit Go.Proofs.Ythlhilfjbjamhaa.P Go.Proofs.Ythlhilfjbjamhaa.B Go.Proofs.YthlhilfjbjamhaaW.PrintWords Go.Proofs.YthlhilfjbjamhaaW.PrintLast Go.Proofs.YthlhilfjbjamhaaW.PrintMore
theorem FnExactSame : laws_FnExactSame.Pure := by
  intro a b _ _ _ _ _ _
  refine ⟨a.length + b.length + 9, ?_⟩
  unfold laws_FnExactSame.f spec_Same.f impl_Same.f bytes_Equal.f
  by_cases h0 : (a.length : Int) > 1048576
  · rw [if_pos h0]
  · rw [if_neg h0]
    by_cases h1 : (b.length : Int) > 1048576
    · rw [if_pos h1]
    · rw [if_neg h1]
      simp (disch := omega) only [toByteS, eqByteS_same, Option.bind_some, bne_self_eq_false, Bool.false_eq_true, if_false, if_true]
end Go.Proofs.Ythlhilfjbjamhaa.Pure
