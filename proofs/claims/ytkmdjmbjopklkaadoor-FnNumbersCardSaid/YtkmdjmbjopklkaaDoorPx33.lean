-- Written by a program of this session (wip/drive.py) over the kit's print.
import Derived.Test.YtkmdjmbjopklkaaDoorZWalk
import Derived.Test.YtkmdjmbjopklkaaDoorPx0
import Derived.Test.YtkmdjmbjopklkaaDoorPx32
namespace Go.Proofs.YtkmdjmbjopklkaaDoor.P
open Go.RowKit Go.Proofs.YtkmdjmbjopklkaaDoorW.PrintWords Go.Proofs.YtkmdjmbjopklkaaDoorW.PrintLast Go.Proofs.YtkmdjmbjopklkaaDoorW.PrintMore
attribute [local go_sem] max2_int min2_int max_two min_two max_three min_three max_four min_four   -- for this text's walks alone
set_option linter.unusedVariables false
set_option linter.unusedSimpArgs false

/-! ### impl_Number: function 10 (by hand) -/
/-- Whether the two texts are told apart by the walk. -/
def impl_Number.f (a0 : ByteArray) : Option (Int × Bool) :=
  if a0.size ≤ 18 then
    match Lib.atoi a0.data.toList with
    | some n => if 0 ≤ n ∧ n ≤ 999999 then (if a0 = ⟨(Lib.itoa n).toArray⟩ then some (n, true) else if (a0.toList == (⟨(Lib.itoa n).toArray⟩ : ByteArray).toList) = false then some (0, false) else none) else some (0, false)
    | none => some (0, false)
  else none
theorem impl_Number.calls (a0 : ByteArray) (r1 : Int) (r2 : Bool) (w : World) (h : impl_Number.f a0 = some (r1, r2)) (hm : Wf w := by exact Wf.below (by repeat (first | (with_reducible first | exact HB.out | apply below_alloc | apply pw_below_drewN | apply below_drew1) | exact HB.out)) HM.out) :
    Calls Tryd.prog 10 #[.string a0] w fun e w' => e = .returned (.tuple #[.int .i64 r1, .bool r2]) ∧ Below w.heap.size w w' := by
  unfold impl_Number.f at h
  by_cases c : a0.size ≤ 18
  · rw [if_pos c] at h
    cases ha : Lib.atoi a0.data.toList with
    | none =>
      rw [ha] at h
      obtain ⟨rfl, rfl⟩ := Prod.mk.inj (Option.some.inj h)
      obtain ⟨ev, h1, h2⟩ := hm.err
      exact number_fail a0 c ha ev w h1 h2
    | some n =>
      rw [ha] at h
      simp only at h
      by_cases c1 : 0 ≤ n ∧ n ≤ 999999
      · rw [if_pos c1] at h
        by_cases c2 : a0 = ⟨(Lib.itoa n).toArray⟩
        · rw [if_pos c2] at h
          obtain ⟨rfl, rfl⟩ := Prod.mk.inj (Option.some.inj h)
          exact number_in a0 n c ha c1.1 c1.2 true (.inl ⟨rfl, c2⟩) w hm.tab
        · rw [if_neg c2] at h
          by_cases c3 : (a0.toList == (⟨(Lib.itoa n).toArray⟩ : ByteArray).toList) = false
          · rw [if_pos c3] at h
            obtain ⟨rfl, rfl⟩ := Prod.mk.inj (Option.some.inj h)
            exact number_in a0 n c ha c1.1 c1.2 false (.inr ⟨rfl, c3⟩) w hm.tab
          · rw [if_neg c3] at h
            cases h
      · rw [if_neg c1] at h
        obtain ⟨rfl, rfl⟩ := Prod.mk.inj (Option.some.inj h)
        refine number_out a0 n c ha ?_ w
        unfold impl_in.f
        by_cases c4 : n ≥ 0
        · rw [if_pos c4, decide_eq_false (by omega)]
        · rw [if_neg c4]
  · rw [if_neg c] at h
    cases h


end Go.Proofs.YtkmdjmbjopklkaaDoor.P
