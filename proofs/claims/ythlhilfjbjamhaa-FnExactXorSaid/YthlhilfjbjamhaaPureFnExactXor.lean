/- FnExactXor: of every two lists of bytes both answers are one; neither list is changed, and none shares what is answered. -/
import Derived.Test.YthlhilfjbjamhaaPx32
import Derived.Test.YthlhilfjbjamhaaLawBytes
import Derived.Test.YthlhilfjbjamhaaFXor
namespace Go.Proofs.Ythlhilfjbjamhaa.Pure
open Go.RowKit Go.Proofs.Ythlhilfjbjamhaa.P Go.Proofs.Ythlhilfjbjamhaa.B Go.Proofs.YthlhilfjbjamhaaW.PrintWords Go.Proofs.YthlhilfjbjamhaaW.PrintLast Go.Proofs.YthlhilfjbjamhaaW.PrintMore
theorem FnExactXor : laws_FnExactXor.Pure := by
  intro a b _ _ _ _ _ _
  refine ⟨a.length + b.length + 9, ?_⟩
  unfold laws_FnExactXor.f
  by_cases h0 : (a.length : Int) > 1048576
  · rw [if_pos h0]
  · rw [if_neg h0]
    by_cases h1 : (b.length : Int) > 1048576
    · rw [if_pos h1]
    · rw [if_neg h1]
      have hl := xorL_length a b
      have e : ¬ ((1 : Int) + (a.length : Int) + (b.length : Int) < 0) := by omega
      have e2 : ¬ ((1 : Int) + ((xorL a b).length : Int) < 0) := by omega
      simp (disch := omega) only [toByteS, specXor, implXor, eqByteS_same, markByteS, Option.bind_some, if_true, e, if_false, Bool.not_true]
      rw [laws_FnExactXor.j0, if_neg (by decide)]
      simp (disch := omega) only [toByteS, implXor, eqByteS_same, markByteS, heldByteS, Option.bind_some, if_true, e2, if_false]
end Go.Proofs.Ythlhilfjbjamhaa.Pure
