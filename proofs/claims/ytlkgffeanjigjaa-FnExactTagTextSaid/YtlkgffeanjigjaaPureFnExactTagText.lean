/- FnExactTagText: of every two lists both answers are one; no list is changed, and no two calls share what is answered. -/
import Derived.Test.YtlkgffeanjigjaaPx39
import Derived.Test.YtlkgffeanjigjaaLawBytes
import Derived.Test.YtlkgffeanjigjaaFTagText
namespace Go.Proofs.Ytlkgffeanjigjaa.Pure
open Go.RowKit Go.Proofs.Ytlkgffeanjigjaa.P Go.Proofs.Ytlkgffeanjigjaa.B Go.Proofs.YtlkgffeanjigjaaW.PrintWords Go.Proofs.YtlkgffeanjigjaaW.PrintLast Go.Proofs.YtlkgffeanjigjaaW.PrintMore
theorem FnExactTagText : laws_FnExactTagText.Pure := by
  intro a b _ _ _ _ _ _
  refine ⟨a.length + b.length + 99, ?_⟩
  unfold laws_FnExactTagText.f
  by_cases h0 : (a.length : Int) > 1048576
  · rw [if_pos h0]
  · rw [if_neg h0]
    by_cases h1 : (b.length : Int) > 1048576
    · rw [if_pos h1]
    · rw [if_neg h1]
      have hl := tagTextL_length a b
      have e : ¬ ((1 : Int) + (a.length : Int) + (b.length : Int) < 0) := by omega
      have e2 : ¬ ((1 : Int) + ((tagTextL a b).length : Int) < 0) := by omega
      simp (disch := omega) only [toByteS, specTagText, implTagText, eqByteS_same, markByteS, Option.bind_some, if_true, e, if_false, Bool.not_true]
      rw [laws_FnExactTagText.j0, if_neg (by decide)]
      simp (disch := omega) only [toByteS, implTagText, eqByteS_same, markByteS, heldByteS, Option.bind_some, if_true, e2, if_false]
end Go.Proofs.Ytlkgffeanjigjaa.Pure
