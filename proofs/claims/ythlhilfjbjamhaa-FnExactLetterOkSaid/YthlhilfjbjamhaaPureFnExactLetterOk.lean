/- FnExactLetterOk: of every letter both answers are one, and it is not changed. -/
import Derived.Test.YthlhilfjbjamhaaStmFnExactLetterOk
import Derived.Test.YthlhilfjbjamhaaLawLetter
import Derived.Test.YthlhilfjbjamhaaFLetterOk
namespace Go.Proofs.Ythlhilfjbjamhaa.Pure
open Go.RowKit Go.Proofs.Ythlhilfjbjamhaa.P Go.Proofs.Ythlhilfjbjamhaa.B Go.Proofs.YthlhilfjbjamhaaW.PrintWords Go.Proofs.YthlhilfjbjamhaaW.PrintLast Go.Proofs.YthlhilfjbjamhaaW.PrintMore
theorem FnExactLetterOk : laws_FnExactLetterOk.Pure := by
  intro e l m _ hl hm
  refine ⟨l.length + m.length + 9, ?_⟩
  unfold laws_FnExactLetterOk.f
  rcases szLetter e l m hl.1 hm.1 with h | ⟨h, hs⟩
  · rw [h]; rfl
  · rw [h]
    simp only [Option.bind_some]
    rw [if_neg (by omega)]
    simp (disch := omega) only [toLetter, specLetterOk, implLetterOk, eqLetter_same, Option.bind_some, bne_self_eq_false, Bool.false_eq_true, if_false, if_true]
end Go.Proofs.Ythlhilfjbjamhaa.Pure
