/- FnExactHashStart: both lists of eight numbers are one; what is written into the one does not show in the other. -/
import Derived.Test.YthlhilfjbjamhaaPx27
import Derived.Test.YthlhilfjbjamhaaLawInts
namespace Go.Proofs.Ythlhilfjbjamhaa.Pure
open Go.RowKit Go.Proofs.Ythlhilfjbjamhaa.P Go.Proofs.Ythlhilfjbjamhaa.B Go.Proofs.YthlhilfjbjamhaaW.PrintWords Go.Proofs.YthlhilfjbjamhaaW.PrintLast Go.Proofs.YthlhilfjbjamhaaW.PrintMore
theorem FnExactHashStart : laws_FnExactHashStart.Pure := by
  refine ⟨100, ?_⟩
  unfold laws_FnExactHashStart.f spec_HashStart.f impl_HashStart.f
  simp only [Option.bind_some]
  rw [eqIntS_same _ (by decide) 100 (by decide), markIntS _ 1 (by decide) (by decide) (by decide) 100 (by decide)]
  simp only [Option.bind_some, if_true]
  rw [heldIntS _ 1 (by decide) (by decide) (by decide) 100 (by decide)]
  simp
end Go.Proofs.Ythlhilfjbjamhaa.Pure
