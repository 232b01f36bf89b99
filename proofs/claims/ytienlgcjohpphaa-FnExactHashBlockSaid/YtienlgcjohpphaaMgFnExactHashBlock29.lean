import Derived.Test.YtienlgcjohpphaaMgFnExactHashBlock17
import Derived.Test.YtienlgcjohpphaaMgFnExactHashBlock18
import Derived.Test.YtienlgcjohpphaaMgFnExactHashBlock19
import Derived.Test.YtienlgcjohpphaaMgFnExactHashBlock28
/- FnExactHashBlock: of every two lists both answers are one; no list is changed, and no two calls share what is answered. -/
namespace Go.Proofs.Ytienlgcjohpphaa.Pure
open Go.RowKit Go.Proofs.Ytienlgcjohpphaa.P Go.Proofs.Ytienlgcjohpphaa.B Go.Proofs.YtienlgcjohpphaaW.PrintWords Go.Proofs.YtienlgcjohpphaaW.PrintLast Go.Proofs.YtienlgcjohpphaaW.PrintMore
theorem FnExactHashBlock : laws_FnExactHashBlock.Pure := by
  intro a b _ _ _ _ _ hw
  have hw8 := wf8 hw
  refine ⟨a.length + b.length + 999, ?_⟩
  unfold laws_FnExactHashBlock.f
  by_cases h0 : (a.length : Int) > 1048576
  · rw [if_pos h0]
  · rw [if_neg h0]
    by_cases h1 : (b.length : Int) > 1048576
    · rw [if_pos h1]
    · rw [if_neg h1]
      have hl := hashBlockL_length a b
      have s := specHashBlock a b hw8 (a.length + b.length + 999) (by omega)
      have i := implHashBlock a b (a.length + b.length + 999) (by omega)
      have i2 := implHashBlock a b (a.length + b.length + 998) (by omega)
      have e : ¬ ((1 : Int) + (a.length : Int) + (b.length : Int) < 0) := by omega
      have e2 : ¬ ((1 : Int) + ((hashBlockL a b).length : Int) < 0) := by omega
      simp (disch := omega) only [toByteS, toIntS, s, i, eqByteS_same, eqIntS_same, markByteS, markIntS, Option.bind_some, if_true, e, if_false, Bool.not_true]
      rw [laws_FnExactHashBlock.j0, if_neg (by decide)]
      simp (disch := omega) only [toByteS, toIntS, i2, eqIntS_same, markIntS, heldIntS, Option.bind_some, if_true, e2, if_false]
end Go.Proofs.Ytienlgcjohpphaa.Pure
