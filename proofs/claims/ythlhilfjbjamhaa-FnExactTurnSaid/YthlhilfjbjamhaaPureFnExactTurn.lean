/- FnExactTurn: for every two numbers both turned words are one. -/
import Derived.Test.YthlhilfjbjamhaaPx12
import Derived.Test.YthlhilfjbjamhaaBits
namespace Go.Proofs.Ythlhilfjbjamhaa.Pure
open Go.RowKit Go.Proofs.Ythlhilfjbjamhaa.P Go.Proofs.Ythlhilfjbjamhaa.B Go.Proofs.YthlhilfjbjamhaaW.PrintWords Go.Proofs.YthlhilfjbjamhaaW.PrintLast Go.Proofs.YthlhilfjbjamhaaW.PrintMore
theorem FnExactTurn : laws_FnExactTurn.Pure := by
  intro a b _ _
  have e : spec_Turn.f a b = impl_Turn.f a b := rfl
  have s : ∃ r, impl_Turn.f a b = some r := by
    unfold impl_Turn.f impl_Word.f
    simp only [Option.bind_some, i64_and31]
    rw [if_pos (by omega), wrap_eq _ (by omega) (by omega), if_pos (by omega)]
    exact ⟨_, rfl⟩
  obtain ⟨r, hr⟩ := s
  unfold laws_FnExactTurn.f
  rw [e, hr]
  simp
end Go.Proofs.Ythlhilfjbjamhaa.Pure
