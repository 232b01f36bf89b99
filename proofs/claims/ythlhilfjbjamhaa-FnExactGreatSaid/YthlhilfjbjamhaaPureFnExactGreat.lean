/- FnExactGreat: of every two numbers both answers are one, and no two calls share what is answered. -/
import Derived.Test.YthlhilfjbjamhaaPx50
import Derived.Test.YthlhilfjbjamhaaLawBytes
import Derived.Test.YthlhilfjbjamhaaFGreat
namespace Go.Proofs.Ythlhilfjbjamhaa.Pure
open Go.RowKit Go.Proofs.Ythlhilfjbjamhaa.P Go.Proofs.Ythlhilfjbjamhaa.B Go.Proofs.YthlhilfjbjamhaaW.PrintWords Go.Proofs.YthlhilfjbjamhaaW.PrintLast Go.Proofs.YthlhilfjbjamhaaW.PrintMore
theorem FnExactGreat : laws_FnExactGreat.Pure := by
  intro n m _ _
  refine ⟨60, ?_⟩
  have hl : (leL n m).reverse.length ≤ 8 := by rw [List.length_reverse]; exact leL_length n m
  have e2 : ¬ ((1 : Int) + ((leL n m).reverse.length : Int) < 0) := by omega
  unfold laws_FnExactGreat.f
  simp (disch := omega) only [specGreat, implGreat, eqByteS_same, markByteS, heldByteS, Option.bind_some, if_true, e2, if_false]
end Go.Proofs.Ythlhilfjbjamhaa.Pure
