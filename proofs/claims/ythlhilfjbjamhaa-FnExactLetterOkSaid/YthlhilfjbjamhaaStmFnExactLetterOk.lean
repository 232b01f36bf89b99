-- Written by a program of this session (wip/drive.py) over the kit's print.
import Derived.Test.YthlhilfjbjamhaaPx46
import Derived.Test.YthlhilfjbjamhaaOpens
namespace Go.Proofs.Ythlhilfjbjamhaa.P
open Go.RowKit Go.Proofs.YthlhilfjbjamhaaW.PrintWords
def good40 (x : S40) : Prop := (Lit.int .i64 x.f0).wf = true ∧ (x.f1.length ≤ maxLen ∧ ∀ y_ ∈ x.f1, (Lit.int .u8 y_).wf = true) ∧ (x.f2.length ≤ maxLen ∧ ∀ y_ ∈ x.f2, (Lit.int .u8 y_).wf = true)
/-- The one pure statement of laws_FnExactLetterOk. -/
def laws_FnExactLetterOk.Pure : Prop := ∀ (a0_0 : Int) (l0_1 : List Int) (l0_2 : List Int), (Lit.int .i64 a0_0).wf = true → (l0_1.length ≤ maxLen ∧ ∀ y_ ∈ l0_1, (Lit.int .u8 y_).wf = true) → (l0_2.length ≤ maxLen ∧ ∀ y_ ∈ l0_2, (Lit.int .u8 y_).wf = true) → ∃ k, laws_FnExactLetterOk.f k a0_0 l0_1 l0_2 = some true
end Go.Proofs.Ythlhilfjbjamhaa.P
