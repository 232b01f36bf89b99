/- FnExactHashPad: of every argument both answers are one; what comes in is not changed, and no two calls share what is answered. -/
import Derived.Test.YtlkgffeanjigjaaPx42
import Derived.Test.YtlkgffeanjigjaaLawBytes
import Derived.Test.YtlkgffeanjigjaaFHashPad
namespace Go.Proofs.Ytlkgffeanjigjaa.Pure
open Go.RowKit Go.Proofs.Ytlkgffeanjigjaa.P Go.Proofs.Ytlkgffeanjigjaa.B Go.Proofs.YtlkgffeanjigjaaW.PrintWords Go.Proofs.YtlkgffeanjigjaaW.PrintLast Go.Proofs.YtlkgffeanjigjaaW.PrintMore
theorem FnExactHashPad : laws_FnExactHashPad.Pure := by
  intro a _ _ _
  refine ⟨a.length + 5000, ?_⟩
  unfold laws_FnExactHashPad.f
  by_cases h0 : (a.length : Int) > 1048576
  · rw [if_pos h0]
  · rw [if_neg h0]
    have hl : (hashPadL a).length ≤ 4100 := by exact hashPadL_length a
    have s := specHashPad a (a.length + 5000) (by omega)
    have i := implHashPad a (a.length + 5000) (by omega)
    have e : ¬ ((1 : Int) + (a.length : Int) < 0) := by omega
    have e2 : ¬ ((1 : Int) + ((hashPadL a).length : Int) < 0) := by omega
    simp (disch := omega) only [toByteS, s, i, eqByteS_same, eqByteS_same, markByteS, Option.bind_some, if_true, e, if_false, Bool.not_true]
    rw [laws_FnExactHashPad.j0, if_neg (by decide)]
    have i2 := implHashPad a (a.length + 4999) (by omega)
    simp (disch := omega) only [toByteS, i2, eqByteS_same, markByteS, heldByteS, Option.bind_some, if_true, e2, if_false]
end Go.Proofs.Ytlkgffeanjigjaa.Pure
