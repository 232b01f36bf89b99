/- FnExactLittle: of every two numbers both answers are one, and no two calls share what is answered. -/
import Derived.Test.YthlhilfjbjamhaaPx35
import Derived.Test.YthlhilfjbjamhaaLawBytes
import Derived.Test.YthlhilfjbjamhaaFLittle
namespace Go.Proofs.Ythlhilfjbjamhaa.Pure
open Go.RowKit Go.Proofs.Ythlhilfjbjamhaa.P Go.Proofs.Ythlhilfjbjamhaa.B Go.Proofs.YthlhilfjbjamhaaW.PrintWords Go.Proofs.YthlhilfjbjamhaaW.PrintLast Go.Proofs.YthlhilfjbjamhaaW.PrintMore
theorem FnExactLittle : laws_FnExactLittle.Pure := by
  intro n m _ _
  refine ⟨60, ?_⟩
  have hl := leL_length n m
  have e2 : ¬ ((1 : Int) + ((leL n m).length : Int) < 0) := by omega
  unfold laws_FnExactLittle.f
  simp (disch := omega) only [specLittle, implLittle, eqByteS_same, markByteS, heldByteS, Option.bind_some, if_true, e2, if_false]
end Go.Proofs.Ythlhilfjbjamhaa.Pure
