/- FnExactPadded: of every argument both answers are one; what comes in is not changed, and no two calls share what is answered. -/
import Derived.Test.YtlkgffeanjigjaaPx60
import Derived.Test.YtlkgffeanjigjaaLawBytes
import Derived.Test.YtlkgffeanjigjaaFPadded
namespace Go.Proofs.Ytlkgffeanjigjaa.Pure
open Go.RowKit Go.Proofs.Ytlkgffeanjigjaa.P Go.Proofs.Ytlkgffeanjigjaa.B Go.Proofs.YtlkgffeanjigjaaW.PrintWords Go.Proofs.YtlkgffeanjigjaaW.PrintLast Go.Proofs.YtlkgffeanjigjaaW.PrintMore
theorem FnExactPadded : laws_FnExactPadded.Pure := by
  intro a _ _ _
  refine ⟨a.length + 999, ?_⟩
  unfold laws_FnExactPadded.f
  by_cases h0 : (a.length : Int) > 1048576
  · rw [if_pos h0]
  · rw [if_neg h0]
    have hl : (paddedL a).length ≤ 300 := by exact paddedL_length a
    have s := specPadded a (a.length + 999) (by omega)
    have i := implPadded a (a.length + 999) (by omega)
    have e : ¬ ((1 : Int) + (a.length : Int) < 0) := by omega
    have e2 : ¬ ((1 : Int) + ((paddedL a).length : Int) < 0) := by omega
    simp (disch := omega) only [toByteS, s, i, eqByteS_same, eqByteS_same, markByteS, Option.bind_some, if_true, e, if_false, Bool.not_true]
    rw [laws_FnExactPadded.j0, if_neg (by decide)]
    have i2 := implPadded a (a.length + 998) (by omega)
    simp (disch := omega) only [toByteS, i2, eqByteS_same, markByteS, heldByteS, Option.bind_some, if_true, e2, if_false]
end Go.Proofs.Ytlkgffeanjigjaa.Pure
