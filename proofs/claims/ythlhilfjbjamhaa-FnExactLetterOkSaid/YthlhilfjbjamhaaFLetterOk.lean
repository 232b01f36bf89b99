/- LetterOk, by the program and by the reference: one answer; for every letter. -/
import Derived.Test.YthlhilfjbjamhaaFIn
import Derived.Test.YthlhilfjbjamhaaPx42
import Derived.Test.YthlhilfjbjamhaaPx44
namespace Go.Proofs.Ythlhilfjbjamhaa.B
open Go.RowKit Go.Proofs.Ythlhilfjbjamhaa.P Go.Proofs.YthlhilfjbjamhaaW.PrintWords Go.Proofs.YthlhilfjbjamhaaW.PrintLast Go.Proofs.YthlhilfjbjamhaaW.PrintMore
def letterOk (e : Int) (l m : List Int) : Bool := decide (0 ≤ e ∧ e ≤ 65535 ∧ l.length = 32 ∧ 16 ≤ m.length ∧ m.length ≤ 1516)
theorem specLetterOk (e : Int) (l m : List Int) : spec_LetterOk.f e l m = some (letterOk e l m) := by
  unfold spec_LetterOk.f letterOk
  simp only [specIn, Option.bind_some, decide_eq_true_eq]
  by_cases h1 : 0 ≤ e ∧ e ≤ 65535
  · rw [if_pos h1]
    by_cases h2 : (l.length : Int) = 32
    · rw [if_pos h2]; congr 1; apply decide_eq_decide.2; omega
    · rw [if_neg h2]; congr 1; symm; apply decide_eq_false; omega
  · rw [if_neg h1]; congr 1; symm; apply decide_eq_false; omega
theorem implLetterOk (e : Int) (l m : List Int) : impl_LetterOk.f e l m = some (letterOk e l m) := by
  rw [← specLetterOk e l m]; rfl
end Go.Proofs.Ythlhilfjbjamhaa.B
