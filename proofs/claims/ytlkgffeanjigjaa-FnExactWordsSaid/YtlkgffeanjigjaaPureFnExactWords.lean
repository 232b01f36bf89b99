/- FnExactWords: of every argument both answers are one; what comes in is not changed, and no two calls share what is answered. -/
import Derived.Test.YtlkgffeanjigjaaPx18
import Derived.Test.YtlkgffeanjigjaaLawBytes
import Derived.Test.YtlkgffeanjigjaaLawInts
import Derived.Test.YtlkgffeanjigjaaFWords
namespace Go.Proofs.Ytlkgffeanjigjaa.Pure
open Go.RowKit Go.Proofs.Ytlkgffeanjigjaa.P Go.Proofs.Ytlkgffeanjigjaa.B Go.Proofs.YtlkgffeanjigjaaW.PrintWords Go.Proofs.YtlkgffeanjigjaaW.PrintLast Go.Proofs.YtlkgffeanjigjaaW.PrintMore
theorem FnExactWords : laws_FnExactWords.Pure := by
  intro a big _ _ _
  refine ⟨a.length + 9, ?_⟩
  unfold laws_FnExactWords.f
  by_cases h0 : (a.length : Int) > 1048576
  · rw [if_pos h0]
  · rw [if_neg h0]
    have hl : (wordsL big a).length ≤ a.length := by rw [wordsL_length]; omega
    have s := specWords a big (by omega) (a.length + 9) (by omega)
    have i := implWords a big (by omega) (a.length + 9) (by omega)
    have e : ¬ ((1 : Int) + (a.length : Int) < 0) := by omega
    have e2 : ¬ ((1 : Int) + ((wordsL big a).length : Int) < 0) := by omega
    simp (disch := omega) only [toByteS, s, i, eqIntS_same, eqByteS_same, markByteS, Option.bind_some, if_true, e, if_false, Bool.not_true]
    rw [laws_FnExactWords.j0, if_neg (by decide)]
    have i2 := implWords a big (by omega) (a.length + 8) (by omega)
    simp (disch := omega) only [toByteS, i2, eqIntS_same, markIntS, heldIntS, Option.bind_some, if_true, e2, if_false]
end Go.Proofs.Ytlkgffeanjigjaa.Pure
