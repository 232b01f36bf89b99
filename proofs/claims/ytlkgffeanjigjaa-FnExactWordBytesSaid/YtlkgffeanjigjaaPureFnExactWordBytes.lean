/- FnExactWordBytes: of every argument both answers are one; what comes in is not changed, and no two calls share what is answered. -/
import Derived.Test.YtlkgffeanjigjaaPx31
import Derived.Test.YtlkgffeanjigjaaLawBytes
import Derived.Test.YtlkgffeanjigjaaLawInts
import Derived.Test.YtlkgffeanjigjaaFWordBytes
namespace Go.Proofs.Ytlkgffeanjigjaa.Pure
open Go.RowKit Go.Proofs.Ytlkgffeanjigjaa.P Go.Proofs.Ytlkgffeanjigjaa.B Go.Proofs.YtlkgffeanjigjaaW.PrintWords Go.Proofs.YtlkgffeanjigjaaW.PrintLast Go.Proofs.YtlkgffeanjigjaaW.PrintMore
theorem FnExactWordBytes : laws_FnExactWordBytes.Pure := by
  intro a big _ _ _
  refine ⟨5 * a.length + 99, ?_⟩
  unfold laws_FnExactWordBytes.f
  by_cases h0 : (a.length : Int) > 1048576
  · rw [if_pos h0]
  · rw [if_neg h0]
    have hl : (wordBytesL big a).length ≤ 4 * a.length := by rw [wordBytesL_length]; omega
    have s := specWordBytes a big (by omega) (5 * a.length + 99) (by omega)
    have i := implWordBytes a big (by omega) (5 * a.length + 99) (by omega)
    have e : ¬ ((1 : Int) + (a.length : Int) < 0) := by omega
    have e2 : ¬ ((1 : Int) + ((wordBytesL big a).length : Int) < 0) := by omega
    simp (disch := omega) only [toIntS, s, i, eqByteS_same, eqIntS_same, markIntS, Option.bind_some, if_true, e, if_false, Bool.not_true]
    rw [laws_FnExactWordBytes.j0, if_neg (by decide)]
    have i2 := implWordBytes a big (by omega) (5 * a.length + 98) (by omega)
    simp (disch := omega) only [toIntS, i2, eqByteS_same, markByteS, heldByteS, Option.bind_some, if_true, e2, if_false]
end Go.Proofs.Ytlkgffeanjigjaa.Pure
