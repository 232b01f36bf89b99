-- Written by a program of this session (wip/drive.py) over the kit's print.
import Derived.Test.YtkmdjmbjopklkaaDoorZWalk
import Derived.Test.YtkmdjmbjopklkaaDoorPx0
namespace Go.Proofs.YtkmdjmbjopklkaaDoor.P
open Go.RowKit Go.Proofs.YtkmdjmbjopklkaaDoorW.PrintWords Go.Proofs.YtkmdjmbjopklkaaDoorW.PrintLast Go.Proofs.YtkmdjmbjopklkaaDoorW.PrintMore
attribute [local go_sem] max2_int min2_int max_two min_two max_three min_three max_four min_four   -- for this text's walks alone
set_option linter.unusedVariables false
set_option linter.unusedSimpArgs false

/-! ### impl_Split: function 12 (by hand) -/
def impl_Split.f (a0 : ByteArray) (a1 : Int) : Option (List ByteArray) := if a0.size ≤ 1048576 ∧ 0 ≤ a1 ∧ a1 ≤ 255 then some (Lib.splitB (B.ba [UInt8.ofNat a1.toNat]) 0 (Lib.countB a0 (B.ba [UInt8.ofNat a1.toNat])) a0) else none
theorem impl_Split.calls (a0 : ByteArray) (a1 : Int) (r : List ByteArray) (w : World) (h : impl_Split.f a0 a1 = some r) (hm : Wf w := by exact Wf.below (by repeat (first | (with_reducible first | exact HB.out | apply below_alloc | apply pw_below_drewN | apply below_drew1) | exact HB.out)) HM.out) :
    Calls Tryd.prog 12 #[.string a0, .int .u8 a1] w fun e w' => ∃ v0_ : Value, e = .returned (v0_) ∧ Kd.R Kd.string 9 w' w.heap.size (fun _ => True) v0_ r ∧ Below w.heap.size w w' := by
  unfold impl_Split.f at h
  by_cases c : a0.size ≤ 1048576 ∧ 0 ≤ a1 ∧ a1 ≤ 255
  · rw [if_pos c] at h
    obtain rfl := Option.some.inj h
    obtain ⟨m, h1⟩ := hm.len
    exact impl_split a0 a1 (UInt8.ofNat a1.toNat) (by rw [UInt8.toNat_ofNat_of_lt' (by show a1.toNat < 256; omega)]; omega) m c.1 w h1
  · rw [if_neg c] at h
    cases h


end Go.Proofs.YtkmdjmbjopklkaaDoor.P
