/- FnExactWord: for every number both words are one. -/
import Derived.Test.YthlhilfjbjamhaaPx4
import Derived.Test.YthlhilfjbjamhaaBits
namespace Go.Proofs.Ythlhilfjbjamhaa.Pure
open Go.RowKit Go.Proofs.Ythlhilfjbjamhaa.P Go.Proofs.Ythlhilfjbjamhaa.B Go.Proofs.YthlhilfjbjamhaaW.PrintWords Go.Proofs.YthlhilfjbjamhaaW.PrintLast Go.Proofs.YthlhilfjbjamhaaW.PrintMore
theorem FnExactWord : laws_FnExactWord.Pure := by
  intro a _
  simp [laws_FnExactWord.f, spec_Word.f, impl_Word.f]
end Go.Proofs.Ythlhilfjbjamhaa.Pure
