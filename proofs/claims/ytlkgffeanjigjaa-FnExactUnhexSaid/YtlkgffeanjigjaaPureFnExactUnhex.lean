/- FnExactUnhex: of every text both answers are one, and no two calls share what is answered. -/
import Derived.Test.YtlkgffeanjigjaaPx10
import Derived.Test.YtlkgffeanjigjaaLawBytes
import Derived.Test.YtlkgffeanjigjaaFUnhex
namespace Go.Proofs.Ytlkgffeanjigjaa.Pure
open Go.RowKit Go.Proofs.Ytlkgffeanjigjaa.P Go.Proofs.Ytlkgffeanjigjaa.B Go.Proofs.YtlkgffeanjigjaaW.PrintWords Go.Proofs.YtlkgffeanjigjaaW.PrintLast Go.Proofs.YtlkgffeanjigjaaW.PrintMore
theorem FnExactUnhex : laws_FnExactUnhex.Pure := by
  intro a _
  refine ⟨a.size + 9, ?_⟩
  unfold laws_FnExactUnhex.f
  by_cases h0 : (a.size : Int) > 1048576
  · rw [if_pos h0]
  · rw [if_neg h0]
    obtain ⟨r, hl, hr⟩ := unhex a (by omega)
    have s := (hr (a.size + 9) (by omega)).1
    have i := (hr (a.size + 9) (by omega)).2
    have i2 := (hr (a.size + 8) (by omega)).2
    have e2 : ¬ ((1 : Int) + (r.1.length : Int) < 0) := by omega
    simp (disch := omega) only [s, i, eqByteS_same, Option.bind_some, if_true, bne_self_eq_false]
    rw [laws_FnExactUnhex.j0, if_neg (by decide)]
    simp (disch := omega) only [i2, eqByteS_same, markByteS, heldByteS, Option.bind_some, if_true, e2, if_false, bne_self_eq_false]
    rw [laws_FnExactUnhex.j1, if_neg (by decide)]
    simp (disch := omega) only [heldByteS, Option.bind_some, if_true, e2, if_false]
end Go.Proofs.Ytlkgffeanjigjaa.Pure
