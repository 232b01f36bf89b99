/- FnExactCurrent: for every two numbers both answers are one. -/
import Derived.Test.YthlhilfjbjamhaaPx9
import Derived.Test.YthlhilfjbjamhaaBits
namespace Go.Proofs.Ythlhilfjbjamhaa.Pure
open Go.RowKit Go.Proofs.Ythlhilfjbjamhaa.P Go.Proofs.Ythlhilfjbjamhaa.B Go.Proofs.YthlhilfjbjamhaaW.PrintWords Go.Proofs.YthlhilfjbjamhaaW.PrintLast Go.Proofs.YthlhilfjbjamhaaW.PrintMore
theorem in_same (a b c : Int) : spec_l1In.f a b c = impl_in.f a b c := rfl
theorem in_some (a b c : Int) : impl_in.f a b c = some (decide (b ≤ a ∧ a ≤ c)) := by
  unfold impl_in.f
  by_cases h : a ≥ b
  · rw [if_pos h]; simp [show b ≤ a from h]
  · rw [if_neg h]; simp [show ¬ b ≤ a from h]
theorem FnExactCurrent : laws_FnExactCurrent.Pure := by
  intro a b _ _
  have e : spec_Current.f a b = impl_Current.f a b := rfl
  have s : ∃ r, impl_Current.f a b = some r := by
    unfold impl_Current.f
    simp only [in_some, Option.bind_some]
    repeat' split
    all_goals exact ⟨_, rfl⟩
  obtain ⟨r, hr⟩ := s
  unfold laws_FnExactCurrent.f
  rw [e, hr]
  simp
end Go.Proofs.Ythlhilfjbjamhaa.Pure
