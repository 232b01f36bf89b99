/- 'from lo to hi', by the program and by the reference; for every three numbers. -/
import Derived.Test.YthlhilfjbjamhaaBase
import Derived.Test.YthlhilfjbjamhaaPx5
import Derived.Test.YthlhilfjbjamhaaPx7
namespace Go.Proofs.Ythlhilfjbjamhaa.B
open Go.RowKit Go.Proofs.Ythlhilfjbjamhaa.P Go.Proofs.YthlhilfjbjamhaaW.PrintWords Go.Proofs.YthlhilfjbjamhaaW.PrintLast Go.Proofs.YthlhilfjbjamhaaW.PrintMore
theorem specIn (a b c : Int) : spec_l1In.f a b c = some (decide (b ≤ a ∧ a ≤ c)) := by
  unfold spec_l1In.f
  by_cases h : a ≥ b
  · rw [if_pos h]; simp [show b ≤ a from h]
  · rw [if_neg h]; simp [show ¬ b ≤ a from h]
theorem implIn (a b c : Int) : impl_in.f a b c = some (decide (b ≤ a ∧ a ≤ c)) := specIn a b c
end Go.Proofs.Ythlhilfjbjamhaa.B
