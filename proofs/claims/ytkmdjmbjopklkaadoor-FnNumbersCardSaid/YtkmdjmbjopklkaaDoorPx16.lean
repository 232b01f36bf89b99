-- Written by a program of this session (wip/drive.py) over the kit's print.
import Derived.Test.YtkmdjmbjopklkaaDoorZWalk
import Derived.Test.YtkmdjmbjopklkaaDoorPx0
namespace Go.Proofs.YtkmdjmbjopklkaaDoor.P
open Go.RowKit Go.Proofs.YtkmdjmbjopklkaaDoorW.PrintWords Go.Proofs.YtkmdjmbjopklkaaDoorW.PrintLast Go.Proofs.YtkmdjmbjopklkaaDoorW.PrintMore
attribute [local go_sem] max2_int min2_int max_two min_two max_three min_three max_four min_four   -- for this text's walks alone
set_option linter.unusedVariables false
set_option linter.unusedSimpArgs false

/-! ### impl_Digits: function 8 (by hand) -/
def impl_Digits.f (a0 : Int) : Option ByteArray := if -9223372036854775808 ≤ a0 ∧ a0 ≤ 9223372036854775807 then some ⟨(Lib.itoa a0).toArray⟩ else none
theorem impl_Digits.calls (a0 : Int) (r : ByteArray) (w : World) (h : impl_Digits.f a0 = some r) (hm : Wf w := by exact Wf.below (by repeat (first | (with_reducible first | exact HB.out | apply below_alloc | apply pw_below_drewN | apply below_drew1) | exact HB.out)) HM.out) :
    Calls Tryd.prog 8 #[.int .i64 a0] w fun e w' => e = .returned (.string r) ∧ Below w.heap.size w w' := by
  unfold impl_Digits.f at h
  by_cases c : -9223372036854775808 ≤ a0 ∧ a0 ≤ 9223372036854775807
  · rw [if_pos c] at h
    obtain rfl := Option.some.inj h
    exact digits_walk a0 c.1 c.2 w hm.tab
  · rw [if_neg c] at h
    cases h


end Go.Proofs.YtkmdjmbjopklkaaDoor.P
