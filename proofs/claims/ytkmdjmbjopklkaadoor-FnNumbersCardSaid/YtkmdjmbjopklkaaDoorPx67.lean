-- Written by a program of this session (wip/drive.py) over the kit's print.
import Derived.Test.YtkmdjmbjopklkaaDoorPx0
import Derived.Test.YtkmdjmbjopklkaaDoorPx1
import Derived.Test.YtkmdjmbjopklkaaDoorPx16
import Derived.Test.YtkmdjmbjopklkaaDoorPx18
import Derived.Test.YtkmdjmbjopklkaaDoorPx33
import Derived.Test.YtkmdjmbjopklkaaDoorPx35
import Derived.Test.YtkmdjmbjopklkaaDoorPx52
import Derived.Test.YtkmdjmbjopklkaaDoorPx58
import Derived.Test.YtkmdjmbjopklkaaDoorPx63
import Derived.Test.YtkmdjmbjopklkaaDoorPx65
import Derived.Test.YtkmdjmbjopklkaaDoorPx66
namespace Go.Proofs.YtkmdjmbjopklkaaDoor.P
open Go.RowKit Go.Proofs.YtkmdjmbjopklkaaDoorW.PrintWords Go.Proofs.YtkmdjmbjopklkaaDoorW.PrintLast Go.Proofs.YtkmdjmbjopklkaaDoorW.PrintMore
attribute [local go_sem] max2_int min2_int max_two min_two max_three min_three max_four min_four   -- for this text's walks alone
set_option linter.unusedVariables false
set_option linter.unusedSimpArgs false

/-! ### laws_FnNumbers: function 6 -/
mutual
def laws_FnNumbers.j0 : Nat → ByteArray → Int → List ByteArray → Bool → Option (Bool)
  | 0, _, _, _, _ => none
  | k + 1, x9, x10, x11, x61 => if x61 = true then (none) else (laws_FnNumbers.l0 k x9 x10 x11 (⟨#[]⟩ : ByteArray) 0)
def laws_FnNumbers.l0 : Nat → ByteArray → Int → List ByteArray → ByteArray → Int → Option (Bool)
  | 0, _, _, _, _, _ => none
  | k + 1, x9, x10, x11, x12, x13 => if x13 < (x11.length : Int) then (if x13 > 0 then ((some (([x10] : List Int) : List Int)).bind fun y262 => (if x12.size + (strOfNums y262).size ≤ 9223372036854775807 then (if 0 ≤ x13 then (if (x12 ++ (strOfNums y262)).size + (rdOf ByteArray.empty x11 x13).size ≤ 9223372036854775807 then (laws_FnNumbers.l0 k x9 x10 x11 ((x12 ++ (strOfNums y262)) ++ (rdOf ByteArray.empty x11 x13)) (wrap64 (x13 + 1))) else (none)) else (none)) else (none))) else (if 0 ≤ x13 then (if x12.size + (rdOf ByteArray.empty x11 x13).size ≤ 9223372036854775807 then (laws_FnNumbers.l0 k x9 x10 x11 (x12 ++ (rdOf ByteArray.empty x11 x13)) (wrap64 (x13 + 1))) else (none)) else (none))) else (if x12.toList = x9.toList then ((spec_Split.f k x9 x10).bind fun t267 => (some ((x11.length : Int) == (t267.length : Int)))) else (none))
end
def laws_FnNumbers.f (k : Nat) (l0 : List Int) : Option (Bool) := (laws_big.f l0).bind fun t247 => (if t247 = true then (some true) else ((spec_DrawDigits.f k l0).bind fun t248 => ((spec_DrawNumber.f k l0).bind fun t249 => ((impl_Number.f t249).bind fun bt250 => ((spec_Number.f k t249).bind fun bt252 => ((spec_DrawSplit.f k l0).bind fun bt254 => ((impl_Split.f bt254.1 bt254.2).bind fun t256 => ((impl_Digits.f t248).bind fun t259 => ((spec_Digits.f k t248).bind fun t260 => (if t259.toList = t260.toList then (if bt250.1 = bt252.1 then (if (bt250.2 != bt252.2) = true then (none) else (if bt250.2 = true then ((impl_Digits.f bt250.1).bind fun t261 => (laws_FnNumbers.j0 k bt254.1 bt254.2 t256 (t261.toList != t249.toList))) else (laws_FnNumbers.j0 k bt254.1 bt254.2 t256 false))) else (none)) else (none)))))))))))
theorem laws_FnNumbers.mono_l : ∀ k, (∀ y0 y1 y2 y3, LeO (laws_FnNumbers.j0 k y0 y1 y2 y3) (laws_FnNumbers.j0 (k + 1) y0 y1 y2 y3)) ∧ (∀ y0 y1 y2 y3 y4, LeO (laws_FnNumbers.l0 k y0 y1 y2 y3 y4) (laws_FnNumbers.l0 (k + 1) y0 y1 y2 y3 y4))
  | 0 => ⟨fun _ _ _ _ r h => by simp [laws_FnNumbers.j0] at h, fun _ _ _ _ _ r h => by simp [laws_FnNumbers.l0] at h⟩
  | k + 1 => by
    obtain ⟨ih0, ih1⟩ := laws_FnNumbers.mono_l k
    refine ⟨?_, ?_⟩
    · intro y0 y1 y2 y3
      unfold laws_FnNumbers.j0
      repeat' first
      | (with_reducible exact ih0 _ _ _ _)
      | (with_reducible exact ih1 _ _ _ _ _)
      | (with_reducible exact spec_Digits.mono _ _)
      | (with_reducible exact spec_DrawDigits.mono _ _)
      | (with_reducible exact spec_DrawNumber.mono _ _)
      | (with_reducible exact spec_DrawSplit.mono _ _)
      | (with_reducible exact spec_Number.mono _ _)
      | (with_reducible exact spec_Split.mono _ _ _)
      | (with_reducible exact LeO.refl _)
      | (with_reducible exact LeO.none _)
      | (with_reducible refine LeO.ite ?_ ?_)
      | (with_reducible refine LeO.bind ?_ (fun _ => ?_))
      | exact ih0 _ _ _ _
      | exact ih1 _ _ _ _ _
      | exact spec_Digits.mono _ _
      | exact spec_DrawDigits.mono _ _
      | exact spec_DrawNumber.mono _ _
      | exact spec_DrawSplit.mono _ _
      | exact spec_Number.mono _ _
      | exact spec_Split.mono _ _ _
      | exact LeO.none _
      | refine LeO.ite ?_ ?_
      | refine LeO.bind ?_ (fun _ => ?_)
    · intro y0 y1 y2 y3 y4
      unfold laws_FnNumbers.l0
      repeat' first
      | (with_reducible exact ih0 _ _ _ _)
      | (with_reducible exact ih1 _ _ _ _ _)
      | (with_reducible exact spec_Digits.mono _ _)
      | (with_reducible exact spec_DrawDigits.mono _ _)
      | (with_reducible exact spec_DrawNumber.mono _ _)
      | (with_reducible exact spec_DrawSplit.mono _ _)
      | (with_reducible exact spec_Number.mono _ _)
      | (with_reducible exact spec_Split.mono _ _ _)
      | (with_reducible exact LeO.refl _)
      | (with_reducible exact LeO.none _)
      | (with_reducible refine LeO.ite ?_ ?_)
      | (with_reducible refine LeO.bind ?_ (fun _ => ?_))
      | exact ih0 _ _ _ _
      | exact ih1 _ _ _ _ _
      | exact spec_Digits.mono _ _
      | exact spec_DrawDigits.mono _ _
      | exact spec_DrawNumber.mono _ _
      | exact spec_DrawSplit.mono _ _
      | exact spec_Number.mono _ _
      | exact spec_Split.mono _ _ _
      | exact LeO.none _
      | refine LeO.ite ?_ ?_
      | refine LeO.bind ?_ (fun _ => ?_)
theorem laws_FnNumbers.mono : ∀ a0 k, LeO (laws_FnNumbers.f k a0) (laws_FnNumbers.f (k + 1) a0) := by
  intro a0 k
  obtain ⟨ih0, ih1⟩ := laws_FnNumbers.mono_l k
  unfold laws_FnNumbers.f
  repeat' first
      | (with_reducible exact ih0 _ _ _ _)
      | (with_reducible exact ih1 _ _ _ _ _)
      | (with_reducible exact spec_Digits.mono _ _)
      | (with_reducible exact spec_DrawDigits.mono _ _)
      | (with_reducible exact spec_DrawNumber.mono _ _)
      | (with_reducible exact spec_DrawSplit.mono _ _)
      | (with_reducible exact spec_Number.mono _ _)
      | (with_reducible exact spec_Split.mono _ _ _)
      | (with_reducible exact LeO.refl _)
      | (with_reducible exact LeO.none _)
      | (with_reducible refine LeO.ite ?_ ?_)
      | (with_reducible refine LeO.bind ?_ (fun _ => ?_))
      | exact ih0 _ _ _ _
      | exact ih1 _ _ _ _ _
      | exact spec_Digits.mono _ _
      | exact spec_DrawDigits.mono _ _
      | exact spec_DrawNumber.mono _ _
      | exact spec_DrawSplit.mono _ _
      | exact spec_Number.mono _ _
      | exact spec_Split.mono _ _ _
      | exact LeO.none _
      | refine LeO.ite ?_ ?_
      | refine LeO.bind ?_ (fun _ => ?_)
set_option maxHeartbeats 8000000 in
set_option maxRecDepth 100000 in
theorem laws_FnNumbers.calls (k : Nat) (A0 : Option Addr) (c0 : Nat) (l0 : List Int) (r : Bool) (w : World) (hr0 : Kd.C (Kd.int .u8) w A0 l0.length l0) (hc0 : l0.length ≤ c0) (h : laws_FnNumbers.f k l0 = some r) (hm : Wf w) :
    Calls Tryd.prog 6 #[.slice A0 l0.length c0] w fun e w' => e = .returned (.bool r) ∧ Below w.heap.size w w' := by
  have HM := Aside0.mk hm
  clear hm
  have HR0 := Aside0.mk hr0
  have HC0 := Aside0.mk hc0
  clear hr0 hc0
  have HB := Aside0.mk (Below.refl w.heap.size w)
  have H : ((laws_big.f l0).bind fun t247 => (if t247 = true then (some true) else ((spec_DrawDigits.f k l0).bind fun t248 => ((spec_DrawNumber.f k l0).bind fun t249 => ((impl_Number.f t249).bind fun bt250 => ((spec_Number.f k t249).bind fun bt252 => ((spec_DrawSplit.f k l0).bind fun bt254 => ((impl_Split.f bt254.1 bt254.2).bind fun t256 => ((impl_Digits.f t248).bind fun t259 => ((spec_Digits.f k t248).bind fun t260 => (if t259.toList = t260.toList then (if bt250.1 = bt252.1 then (if (bt250.2 != bt252.2) = true then (none) else (if bt250.2 = true then ((impl_Digits.f bt250.1).bind fun t261 => (laws_FnNumbers.j0 k bt254.1 bt254.2 t256 (t261.toList != t249.toList))) else (laws_FnNumbers.j0 k bt254.1 bt254.2 t256 false))) else (none)) else (none)))))))))))) = some r := h
  clear h
  replace H := Option.bind_eq_some_iff.mp H
  obtain ⟨t247, A20, H⟩ := H
  replace H : (if t247 = true then (some true) else ((spec_DrawDigits.f k l0).bind fun t248 => ((spec_DrawNumber.f k l0).bind fun t249 => ((impl_Number.f t249).bind fun bt250 => ((spec_Number.f k t249).bind fun bt252 => ((spec_DrawSplit.f k l0).bind fun bt254 => ((impl_Split.f bt254.1 bt254.2).bind fun t256 => ((impl_Digits.f t248).bind fun t259 => ((spec_Digits.f k t248).bind fun t260 => (if t259.toList = t260.toList then (if bt250.1 = bt252.1 then (if (bt250.2 != bt252.2) = true then (none) else (if bt250.2 = true then ((impl_Digits.f bt250.1).bind fun t261 => (laws_FnNumbers.j0 k bt254.1 bt254.2 t256 (t261.toList != t249.toList))) else (laws_FnNumbers.j0 k bt254.1 bt254.2 t256 false))) else (none)) else (none))))))))))) = some r := H
  have A2 := Aside0.mk A20
  clear A20
  by_cases c3 : t247 = true
  · subst c3
    have H1 : (some true) = some r := by rw [if_pos rfl] at H; exact H
    clear H
    have H := H1
    clear H1
    obtain rfl := Option.some.inj H
    go_enter Tryd.func6, Tryd.ntmps6
    go_wp2_with (first | ((with_reducible refine gate_callee (f := 16) rfl ?_); refine goesL_ (some 15) rfl rfl Tryd.func16 (by kernel_rfl) rfl #[.slice A0 l0.length c0] rfl (by (try simp only [List.map_toArray, List.map_cons, List.map_nil]); first | done | rfl | (simp only [List.length_drop, List.length_take]; rfl) | (simp only [List.length_drop, List.length_take]; rw [Nat.min_eq_left (Int.toNat_le.mpr (of_eq_true (by assumption)))])) ?_; (with_reducible refine (laws_big.calls _ _ l0 true _ ?side1 ?side2 A2.out).mono ?_); (case side1 => repeat (first | exact HR0.out | (with_reducible refine Kd.C_alloc ?_ _) | (with_reducible refine Kd.C_drewN ?_ _) | (with_reducible refine Kd.C_drew ?_))); (case side2 => exact HC0.out); rintro e w' ⟨rfl, ⟨nd, rfl⟩⟩; refine ⟨_, rfl, ?_⟩))
    go_ret
    exact ⟨by first | rfl | (simp [errW_none, errW_some] <;> rfl) | (simp [*, errW_none, errW_some] <;> rfl), by repeat (first | (with_reducible first | exact HB.out | apply below_alloc | apply pw_below_drewN | apply below_drew1) | exact HB.out)⟩
  · replace c3 := Bool.eq_false_iff.mpr c3
    subst c3
    have H1 : ((spec_DrawDigits.f k l0).bind fun t248 => ((spec_DrawNumber.f k l0).bind fun t249 => ((impl_Number.f t249).bind fun bt250 => ((spec_Number.f k t249).bind fun bt252 => ((spec_DrawSplit.f k l0).bind fun bt254 => ((impl_Split.f bt254.1 bt254.2).bind fun t256 => ((impl_Digits.f t248).bind fun t259 => ((spec_Digits.f k t248).bind fun t260 => (if t259.toList = t260.toList then (if bt250.1 = bt252.1 then (if (bt250.2 != bt252.2) = true then (none) else (if bt250.2 = true then ((impl_Digits.f bt250.1).bind fun t261 => (laws_FnNumbers.j0 k bt254.1 bt254.2 t256 (t261.toList != t249.toList))) else (laws_FnNumbers.j0 k bt254.1 bt254.2 t256 false))) else (none)) else (none)))))))))) = some r := by rw [if_neg (show ¬ (false = true) by decide)] at H; exact H
    clear H
    have H := H1
    clear H1
    replace H := Option.bind_eq_some_iff.mp H
    obtain ⟨t248, A40, H⟩ := H
    replace H : ((spec_DrawNumber.f k l0).bind fun t249 => ((impl_Number.f t249).bind fun bt250 => ((spec_Number.f k t249).bind fun bt252 => ((spec_DrawSplit.f k l0).bind fun bt254 => ((impl_Split.f bt254.1 bt254.2).bind fun t256 => ((impl_Digits.f t248).bind fun t259 => ((spec_Digits.f k t248).bind fun t260 => (if t259.toList = t260.toList then (if bt250.1 = bt252.1 then (if (bt250.2 != bt252.2) = true then (none) else (if bt250.2 = true then ((impl_Digits.f bt250.1).bind fun t261 => (laws_FnNumbers.j0 k bt254.1 bt254.2 t256 (t261.toList != t249.toList))) else (laws_FnNumbers.j0 k bt254.1 bt254.2 t256 false))) else (none)) else (none))))))))) = some r := H
    have A4 := Aside0.mk A40
    clear A40
    replace H := Option.bind_eq_some_iff.mp H
    obtain ⟨t249, A50, H⟩ := H
    replace H : ((impl_Number.f t249).bind fun bt250 => ((spec_Number.f k t249).bind fun bt252 => ((spec_DrawSplit.f k l0).bind fun bt254 => ((impl_Split.f bt254.1 bt254.2).bind fun t256 => ((impl_Digits.f t248).bind fun t259 => ((spec_Digits.f k t248).bind fun t260 => (if t259.toList = t260.toList then (if bt250.1 = bt252.1 then (if (bt250.2 != bt252.2) = true then (none) else (if bt250.2 = true then ((impl_Digits.f bt250.1).bind fun t261 => (laws_FnNumbers.j0 k bt254.1 bt254.2 t256 (t261.toList != t249.toList))) else (laws_FnNumbers.j0 k bt254.1 bt254.2 t256 false))) else (none)) else (none)))))))) = some r := H
    have A5 := Aside0.mk A50
    clear A50
    replace H := Option.bind_eq_some_iff.mp H
    obtain ⟨⟨t250, t251⟩, A60, H⟩ := H
    replace H : ((spec_Number.f k t249).bind fun bt252 => ((spec_DrawSplit.f k l0).bind fun bt254 => ((impl_Split.f bt254.1 bt254.2).bind fun t256 => ((impl_Digits.f t248).bind fun t259 => ((spec_Digits.f k t248).bind fun t260 => (if t259.toList = t260.toList then (if t250 = bt252.1 then (if (t251 != bt252.2) = true then (none) else (if t251 = true then ((impl_Digits.f t250).bind fun t261 => (laws_FnNumbers.j0 k bt254.1 bt254.2 t256 (t261.toList != t249.toList))) else (laws_FnNumbers.j0 k bt254.1 bt254.2 t256 false))) else (none)) else (none))))))) = some r := H
    have A6 := Aside0.mk A60
    clear A60
    replace H := Option.bind_eq_some_iff.mp H
    obtain ⟨⟨t252, t253⟩, A70, H⟩ := H
    replace H : ((spec_DrawSplit.f k l0).bind fun bt254 => ((impl_Split.f bt254.1 bt254.2).bind fun t256 => ((impl_Digits.f t248).bind fun t259 => ((spec_Digits.f k t248).bind fun t260 => (if t259.toList = t260.toList then (if t250 = t252 then (if (t251 != t253) = true then (none) else (if t251 = true then ((impl_Digits.f t250).bind fun t261 => (laws_FnNumbers.j0 k bt254.1 bt254.2 t256 (t261.toList != t249.toList))) else (laws_FnNumbers.j0 k bt254.1 bt254.2 t256 false))) else (none)) else (none)))))) = some r := H
    have A7 := Aside0.mk A70
    clear A70
    replace H := Option.bind_eq_some_iff.mp H
    obtain ⟨⟨t254, t255⟩, A80, H⟩ := H
    replace H : ((impl_Split.f t254 t255).bind fun t256 => ((impl_Digits.f t248).bind fun t259 => ((spec_Digits.f k t248).bind fun t260 => (if t259.toList = t260.toList then (if t250 = t252 then (if (t251 != t253) = true then (none) else (if t251 = true then ((impl_Digits.f t250).bind fun t261 => (laws_FnNumbers.j0 k t254 t255 t256 (t261.toList != t249.toList))) else (laws_FnNumbers.j0 k t254 t255 t256 false))) else (none)) else (none))))) = some r := H
    have A8 := Aside0.mk A80
    clear A80
    replace H := Option.bind_eq_some_iff.mp H
    obtain ⟨t256, A90, H⟩ := H
    replace H : ((impl_Digits.f t248).bind fun t259 => ((spec_Digits.f k t248).bind fun t260 => (if t259.toList = t260.toList then (if t250 = t252 then (if (t251 != t253) = true then (none) else (if t251 = true then ((impl_Digits.f t250).bind fun t261 => (laws_FnNumbers.j0 k t254 t255 t256 (t261.toList != t249.toList))) else (laws_FnNumbers.j0 k t254 t255 t256 false))) else (none)) else (none)))) = some r := H
    have A9 := Aside0.mk A90
    clear A90
    have HC10 := Aside0.mk H
    clear H
    go_enter Tryd.func6, Tryd.ntmps6
    go_upto_region 9 with (first | ((with_reducible refine gate_callee (f := 16) rfl ?_); refine goesL_ (some 15) rfl rfl Tryd.func16 (by kernel_rfl) rfl #[.slice A0 l0.length c0] rfl (by (try simp only [List.map_toArray, List.map_cons, List.map_nil]); first | done | rfl | (simp only [List.length_drop, List.length_take]; rfl) | (simp only [List.length_drop, List.length_take]; rw [Nat.min_eq_left (Int.toNat_le.mpr (of_eq_true (by assumption)))])) ?_; (with_reducible refine (laws_big.calls _ _ l0 false _ ?side1 ?side2 A2.out).mono ?_); (case side1 => repeat (first | exact HR0.out | (with_reducible refine Kd.C_alloc ?_ _) | (with_reducible refine Kd.C_drewN ?_ _) | (with_reducible refine Kd.C_drew ?_))); (case side2 => exact HC0.out); rintro e w' ⟨rfl, ⟨nd, rfl⟩⟩; refine ⟨_, rfl, ?_⟩) | ((with_reducible refine gate_callee (f := 17) rfl ?_); refine goesL_ (some 17) rfl rfl Tryd.func17 (by kernel_rfl) rfl #[.slice A0 l0.length c0] rfl (by (try simp only [List.map_toArray, List.map_cons, List.map_nil]); first | done | rfl | (simp only [List.length_drop, List.length_take]; rfl) | (simp only [List.length_drop, List.length_take]; rw [Nat.min_eq_left (Int.toNat_le.mpr (of_eq_true (by assumption)))])) ?_; (with_reducible refine (spec_DrawDigits.calls k _ _ l0 t248 _ ?side1 ?side2 A4.out).mono ?_); (case side1 => repeat (first | exact HR0.out | (with_reducible refine Kd.C_alloc ?_ _) | (with_reducible refine Kd.C_drewN ?_ _) | (with_reducible refine Kd.C_drew ?_))); (case side2 => exact HC0.out); rintro e w11 ⟨rfl, hb⟩; refine ⟨_, rfl, ?_⟩; have n0_ := Aside0.mk (below_step (by repeat (first | (with_reducible first | exact HB.out | apply below_alloc | apply pw_below_drewN | apply below_drew1) | exact HB.out)) hb); clear HB; have HB := n0_; clear n0_; (try clear hb); (try clear hb2); (try clear hk); (try clear hi)) | ((with_reducible refine gate_callee (f := 18) rfl ?_); refine goesL_ (some 19) rfl rfl Tryd.func18 (by kernel_rfl) rfl #[.slice A0 l0.length c0] rfl (by (try simp only [List.map_toArray, List.map_cons, List.map_nil]); first | done | rfl | (simp only [List.length_drop, List.length_take]; rfl) | (simp only [List.length_drop, List.length_take]; rw [Nat.min_eq_left (Int.toNat_le.mpr (of_eq_true (by assumption)))])) ?_; (with_reducible refine (spec_DrawNumber.calls k _ _ l0 t249 _ ?side1 ?side2 A5.out).mono ?_); (case side1 => repeat (first | exact (Kd.C_below HR0.out HB.out) | (with_reducible refine Kd.C_alloc ?_ _) | (with_reducible refine Kd.C_drewN ?_ _) | (with_reducible refine Kd.C_drew ?_))); (case side2 => exact HC0.out); rintro e w12 ⟨rfl, hb⟩; refine ⟨_, rfl, ?_⟩; have n0_ := Aside0.mk (below_step (by repeat (first | (with_reducible first | exact HB.out | apply below_alloc | apply pw_below_drewN | apply below_drew1) | exact HB.out)) hb); clear HB; have HB := n0_; clear n0_; (try clear hb); (try clear hb2); (try clear hk); (try clear hi)) | ((with_reducible refine gate_callee (f := 10) rfl ?_); refine goesL_ (some 22) rfl rfl Tryd.func10 (by kernel_rfl) rfl #[.string t249] rfl (by (try simp only [List.map_toArray, List.map_cons, List.map_nil]); first | done | rfl | (simp only [List.length_drop, List.length_take]; rfl) | (simp only [List.length_drop, List.length_take]; rw [Nat.min_eq_left (Int.toNat_le.mpr (of_eq_true (by assumption)))])) ?_; (with_reducible refine (impl_Number.calls t249 t250 t251 _ A6.out).mono ?_); rintro e w13 ⟨rfl, hb⟩; refine ⟨_, rfl, ?_⟩; have n0_ := Aside0.mk (below_step (by repeat (first | (with_reducible first | exact HB.out | apply below_alloc | apply pw_below_drewN | apply below_drew1) | exact HB.out)) hb); clear HB; have HB := n0_; clear n0_; (try clear hb); (try clear hb2); (try clear hk); (try clear hi)) | ((with_reducible refine gate_callee (f := 9) rfl ?_); refine goesL_ (some 27) rfl rfl Tryd.func9 (by kernel_rfl) rfl #[.string t249] rfl (by (try simp only [List.map_toArray, List.map_cons, List.map_nil]); first | done | rfl | (simp only [List.length_drop, List.length_take]; rfl) | (simp only [List.length_drop, List.length_take]; rw [Nat.min_eq_left (Int.toNat_le.mpr (of_eq_true (by assumption)))])) ?_; (with_reducible refine (spec_Number.calls k t249 t252 t253 _ A7.out).mono ?_); rintro e w14 ⟨rfl, hb⟩; refine ⟨_, rfl, ?_⟩; have n0_ := Aside0.mk (below_step (by repeat (first | (with_reducible first | exact HB.out | apply below_alloc | apply pw_below_drewN | apply below_drew1) | exact HB.out)) hb); clear HB; have HB := n0_; clear n0_; (try clear hb); (try clear hb2); (try clear hk); (try clear hi)) | ((with_reducible refine gate_callee (f := 19) rfl ?_); refine goesL_ (some 32) rfl rfl Tryd.func19 (by kernel_rfl) rfl #[.slice A0 l0.length c0] rfl (by (try simp only [List.map_toArray, List.map_cons, List.map_nil]); first | done | rfl | (simp only [List.length_drop, List.length_take]; rfl) | (simp only [List.length_drop, List.length_take]; rw [Nat.min_eq_left (Int.toNat_le.mpr (of_eq_true (by assumption)))])) ?_; (with_reducible refine (spec_DrawSplit.calls k _ _ l0 t254 t255 _ ?side1 ?side2 A8.out).mono ?_); (case side1 => repeat (first | exact (Kd.C_below HR0.out HB.out) | (with_reducible refine Kd.C_alloc ?_ _) | (with_reducible refine Kd.C_drewN ?_ _) | (with_reducible refine Kd.C_drew ?_))); (case side2 => exact HC0.out); rintro e w15 ⟨rfl, hb⟩; refine ⟨_, rfl, ?_⟩; have n0_ := Aside0.mk (below_step (by repeat (first | (with_reducible first | exact HB.out | apply below_alloc | apply pw_below_drewN | apply below_drew1) | exact HB.out)) hb); clear HB; have HB := n0_; clear n0_; (try clear hb); (try clear hb2); (try clear hk); (try clear hi)) | ((with_reducible refine gate_callee (f := 12) rfl ?_); refine goesL_ (some 37) rfl rfl Tryd.func12 (by kernel_rfl) rfl #[.string t254, .int .u8 t255] rfl (by (try simp only [List.map_toArray, List.map_cons, List.map_nil]); first | done | rfl | (simp only [List.length_drop, List.length_take]; rfl) | (simp only [List.length_drop, List.length_take]; rw [Nat.min_eq_left (Int.toNat_le.mpr (of_eq_true (by assumption)))])) ?_; (with_reducible refine (impl_Split.calls t254 t255 t256 _ A9.out).mono ?_); rintro e w16 ⟨v257, rfl, ho0, hb⟩; refine ⟨_, rfl, ?_⟩; have n0_ := Aside0.mk (Kd.R_lower ho0 (below_size (by repeat (first | (with_reducible first | exact HB.out | apply below_alloc | apply pw_below_drewN | apply below_drew1) | exact HB.out)))); have n1_ := Aside0.mk (below_step (by repeat (first | (with_reducible first | exact HB.out | apply below_alloc | apply pw_below_drewN | apply below_drew1) | exact HB.out)) hb); clear HB; have HO258 := n0_; have HB := n1_; clear n0_ n1_; (try clear hb); (try clear hb2); (try clear hk); (try clear hi); (try clear ho0)))
    (try simp only [Act.put, List.setIfInBounds_toArray, List.set_cons_zero, List.set_cons_succ])
    go_cut [61] (fun v61 wc => ∃ (kq : Nat) (x61_9 : Bool), v61 = .bool x61_9 ∧ Aside0 (laws_FnNumbers.j0 kq t254 t255 t256 x61_9 = some r) ∧ Aside0 (kq ≤ k) ∧ Aside0 (Kd.R Kd.string 9 wc w.heap.size (fun _ => True) v257 t256) ∧ Aside0 (Below w.heap.size w wc))
    case first =>
      have H := HC10.out
      clear HC10
      replace H := Option.bind_eq_some_iff.mp H
      obtain ⟨t259, A170, H⟩ := H
      replace H : ((spec_Digits.f k t248).bind fun t260 => (if t259.toList = t260.toList then (if t250 = t252 then (if (t251 != t253) = true then (none) else (if t251 = true then ((impl_Digits.f t250).bind fun t261 => (laws_FnNumbers.j0 k t254 t255 t256 (t261.toList != t249.toList))) else (laws_FnNumbers.j0 k t254 t255 t256 false))) else (none)) else (none))) = some r := H
      have A17 := Aside0.mk A170
      clear A170
      replace H := Option.bind_eq_some_iff.mp H
      obtain ⟨t260, A180, H⟩ := H
      replace H : (if t259.toList = t260.toList then (if t250 = t252 then (if (t251 != t253) = true then (none) else (if t251 = true then ((impl_Digits.f t250).bind fun t261 => (laws_FnNumbers.j0 k t254 t255 t256 (t261.toList != t249.toList))) else (laws_FnNumbers.j0 k t254 t255 t256 false))) else (none)) else (none)) = some r := H
      have A18 := Aside0.mk A180
      clear A180
      by_cases c19 : t259.toList = t260.toList
      · rw [if_pos c19] at H
        have c19b0 : (t259.toList == t260.toList) = true := beq_iff_eq.mpr c19
        have c19b1 : (t259.toList != t260.toList) = false := bne_eq_false_iff_eq.mpr c19
        clear c19
        (first | rw [c19b0] | (simp only [i64_w, i32_w]; rw [c19b0]) | skip)
        by_cases c20 : t250 = t252
        · rw [if_pos c20] at H
          have c20b0 : (t250 == t252) = true := beq_iff_eq.mpr c20
          have c20b1 : (t250 != t252) = false := bne_eq_false_iff_eq.mpr c20
          clear c20
          by_cases c21 : (t251 != t253) = true
          · rw [if_pos c21] at H
            exact absurd H (by simp)
          · rw [if_neg c21] at H
            have c21b0 : (t251 != t253) = false := by simpa using c21
            (try (have c21b1 : decide (t251 = t253) = true := by simpa using c21))
            (try (have c21b2 : (t251 == t253) = true := by simpa using c21))
            clear c21
            by_cases c22 : t251 = true
            · subst c22
              have H1 : ((impl_Digits.f t250).bind fun t261 => (laws_FnNumbers.j0 k t254 t255 t256 (t261.toList != t249.toList))) = some r := by rw [if_pos rfl] at H; exact H
              clear H
              have H := H1
              clear H1
              replace H := Option.bind_eq_some_iff.mp H
              obtain ⟨t261, A230, H⟩ := H
              replace H : (laws_FnNumbers.j0 k t254 t255 t256 (t261.toList != t249.toList)) = some r := H
              have A23 := Aside0.mk A230
              clear A230
              have H' := Aside0.mk H
              clear H
              go_wp2_with (first | ((with_reducible refine gate_callee (f := 8) rfl ?_); refine goesL_ (some 39) rfl rfl Tryd.func8 (by kernel_rfl) rfl #[.int .i64 t248] rfl (by (try simp only [List.map_toArray, List.map_cons, List.map_nil]); first | done | rfl | (simp only [List.length_drop, List.length_take]; rfl) | (simp only [List.length_drop, List.length_take]; rw [Nat.min_eq_left (Int.toNat_le.mpr (of_eq_true (by assumption)))])) ?_; (with_reducible refine (impl_Digits.calls t248 t259 _ A17.out).mono ?_); rintro e w24 ⟨rfl, hb⟩; refine ⟨_, rfl, ?_⟩; have n0_ := Aside0.mk (Kd.R_below (by (with_reducible repeat (first | apply Kd.R_alloc | apply Kd.R_drewN | apply Kd.R_drew)); exact HO258.out) hb); have n1_ := Aside0.mk (below_step (by repeat (first | (with_reducible first | exact HB.out | apply below_alloc | apply pw_below_drewN | apply below_drew1) | exact HB.out)) hb); clear HO258; clear HB; have HO258 := n0_; have HB := n1_; clear n0_ n1_; (try clear hb); (try clear hb2); (try clear hk); (try clear hi)) | ((with_reducible refine gate_callee (f := 7) rfl ?_); refine goesL_ (some 41) rfl rfl Tryd.func7 (by kernel_rfl) rfl #[.int .i64 t248] rfl (by (try simp only [List.map_toArray, List.map_cons, List.map_nil]); first | done | rfl | (simp only [List.length_drop, List.length_take]; rfl) | (simp only [List.length_drop, List.length_take]; rw [Nat.min_eq_left (Int.toNat_le.mpr (of_eq_true (by assumption)))])) ?_; (with_reducible refine (spec_Digits.calls k t248 t260 _ A18.out).mono ?_); rintro e w25 ⟨rfl, hb⟩; refine ⟨_, rfl, ?_⟩; have n0_ := Aside0.mk (Kd.R_below (by (with_reducible repeat (first | apply Kd.R_alloc | apply Kd.R_drewN | apply Kd.R_drew)); exact HO258.out) hb); have n1_ := Aside0.mk (below_step (by repeat (first | (with_reducible first | exact HB.out | apply below_alloc | apply pw_below_drewN | apply below_drew1) | exact HB.out)) hb); clear HO258; clear HB; have HO258 := n0_; have HB := n1_; clear n0_ n1_; (try clear hb); (try clear hb2); (try clear hk); (try clear hi)) | (go_at_call 8; (with_reducible refine (impl_Digits.calls t250 t261 _ A23.out).mono ?_); rintro e w26 ⟨rfl, hb⟩; have n0_ := Aside0.mk (Kd.R_below (by (with_reducible repeat (first | apply Kd.R_alloc | apply Kd.R_drewN | apply Kd.R_drew)); exact HO258.out) hb); have n1_ := Aside0.mk (below_step (by repeat (first | (with_reducible first | exact HB.out | apply below_alloc | apply pw_below_drewN | apply below_drew1) | exact HB.out)) hb); clear HO258; clear HB; have HO258 := n0_; have HB := n1_; clear n0_ n1_; (try clear hb); (try clear hb2); (try clear hk); (try clear hi)))
              go_meet
              case rel => exact ⟨_, ((t261.toList != t249.toList)), (by first | rfl | (simp; done) | (simp [*]; done)), H', ⟨by first | omega | exact Nat.le_refl _⟩, ⟨by (with_reducible repeat (first | apply Kd.R_alloc | apply Kd.R_drewN | apply Kd.R_drew)); exact HO258.out⟩, ⟨by repeat (first | (with_reducible first | exact HB.out | apply below_alloc | apply pw_below_drewN | apply below_drew1) | exact HB.out)⟩⟩
            · replace c22 := Bool.eq_false_iff.mpr c22
              subst c22
              have H1 : (laws_FnNumbers.j0 k t254 t255 t256 false) = some r := by rw [if_neg (show ¬ (false = true) by decide)] at H; exact H
              clear H
              have H := H1
              clear H1
              have H' := Aside0.mk H
              clear H
              go_wp2_with (first | ((with_reducible refine gate_callee (f := 8) rfl ?_); refine goesL_ (some 39) rfl rfl Tryd.func8 (by kernel_rfl) rfl #[.int .i64 t248] rfl (by (try simp only [List.map_toArray, List.map_cons, List.map_nil]); first | done | rfl | (simp only [List.length_drop, List.length_take]; rfl) | (simp only [List.length_drop, List.length_take]; rw [Nat.min_eq_left (Int.toNat_le.mpr (of_eq_true (by assumption)))])) ?_; (with_reducible refine (impl_Digits.calls t248 t259 _ A17.out).mono ?_); rintro e w27 ⟨rfl, hb⟩; refine ⟨_, rfl, ?_⟩; have n0_ := Aside0.mk (Kd.R_below (by (with_reducible repeat (first | apply Kd.R_alloc | apply Kd.R_drewN | apply Kd.R_drew)); exact HO258.out) hb); have n1_ := Aside0.mk (below_step (by repeat (first | (with_reducible first | exact HB.out | apply below_alloc | apply pw_below_drewN | apply below_drew1) | exact HB.out)) hb); clear HO258; clear HB; have HO258 := n0_; have HB := n1_; clear n0_ n1_; (try clear hb); (try clear hb2); (try clear hk); (try clear hi)) | ((with_reducible refine gate_callee (f := 7) rfl ?_); refine goesL_ (some 41) rfl rfl Tryd.func7 (by kernel_rfl) rfl #[.int .i64 t248] rfl (by (try simp only [List.map_toArray, List.map_cons, List.map_nil]); first | done | rfl | (simp only [List.length_drop, List.length_take]; rfl) | (simp only [List.length_drop, List.length_take]; rw [Nat.min_eq_left (Int.toNat_le.mpr (of_eq_true (by assumption)))])) ?_; (with_reducible refine (spec_Digits.calls k t248 t260 _ A18.out).mono ?_); rintro e w28 ⟨rfl, hb⟩; refine ⟨_, rfl, ?_⟩; have n0_ := Aside0.mk (Kd.R_below (by (with_reducible repeat (first | apply Kd.R_alloc | apply Kd.R_drewN | apply Kd.R_drew)); exact HO258.out) hb); have n1_ := Aside0.mk (below_step (by repeat (first | (with_reducible first | exact HB.out | apply below_alloc | apply pw_below_drewN | apply below_drew1) | exact HB.out)) hb); clear HO258; clear HB; have HO258 := n0_; have HB := n1_; clear n0_ n1_; (try clear hb); (try clear hb2); (try clear hk); (try clear hi)))
              go_meet
              case rel => exact ⟨_, (false), (by first | rfl | (simp; done) | (simp [*]; done)), H', ⟨by first | omega | exact Nat.le_refl _⟩, ⟨by (with_reducible repeat (first | apply Kd.R_alloc | apply Kd.R_drewN | apply Kd.R_drew)); exact HO258.out⟩, ⟨by repeat (first | (with_reducible first | exact HB.out | apply below_alloc | apply pw_below_drewN | apply below_drew1) | exact HB.out)⟩⟩
        · rw [if_neg c20] at H
          exact absurd H (by simp)
      · rw [if_neg c19] at H
        exact absurd H (by simp)
    case rest =>
      clear HC10
      try clear c1
      try clear c2
      try clear p2
      try clear c3
      try clear c6
      try clear c7
      try clear c8
      try clear c9
      try clear c10
      try clear c12
      try clear c16
      try clear c17
      try clear c18
      try clear c19
      try clear c19b0
      try clear c19b1
      try clear c20
      try clear c20b0
      try clear c20b1
      try clear c21
      try clear c21b0
      try clear c21b1
      try clear c21b2
      try clear c22
      obtain ⟨kq, x61_9, rfl, HA, HJ9, HO_11, HB⟩ := hcut
      cases kq with
      | zero => exact absurd HA.out (by simp [laws_FnNumbers.j0])
      | succ kj9 =>
        have H := HA.out
        clear HA
        simp only [laws_FnNumbers.j0] at H
        by_cases c29 : x61_9 = true
        · subst c29
          have H1 : (none) = some r := by rw [if_pos rfl] at H; exact H
          clear H
          have H := H1
          clear H1
          exact absurd H (by simp)
        · replace c29 := Bool.eq_false_iff.mpr c29
          subst c29
          have H1 : (laws_FnNumbers.l0 kj9 t254 t255 t256 (⟨#[]⟩ : ByteArray) 0) = some r := by rw [if_neg (show ¬ (false = true) by decide)] at H; exact H
          clear H
          have H := H1
          clear H1
          have H' := Aside0.mk H
          clear H
          go_wp2
          go_loopg [12, 13] kj9 (fun kq v12 v13 w' => ∃ (x12_2 : ByteArray) (x13_2 : Int), v12 = .string x12_2 ∧ v13 = .int .i64 x13_2 ∧ Aside0 (laws_FnNumbers.l0 kq t254 t255 t256 x12_2 x13_2 = some r) ∧ Aside0 (kq ≤ kj9) ∧ Aside0 (Kd.R Kd.string 9 w' w.heap.size (fun _ => True) v257 t256) ∧ Aside0 (Below w.heap.size w w'))
          case atStart => exact ⟨((⟨#[]⟩ : ByteArray)), (0), (by first | rfl | (simp; done) | (simp [*]; done)), (by first | rfl | (simp; done) | (simp [*]; done)), H', ⟨Nat.le_refl _⟩, ⟨by (with_reducible repeat (first | apply Kd.R_alloc | apply Kd.R_drewN | apply Kd.R_drew)); exact HO_11.out⟩, ⟨by repeat (first | (with_reducible first | exact HB.out | apply below_alloc | apply pw_below_drewN | apply below_drew1) | exact HB.out)⟩⟩
          case round =>
            clear H'
            try clear c1
            try clear c2
            try clear p2
            try clear c3
            try clear c6
            try clear c7
            try clear c8
            try clear c9
            try clear c10
            try clear c12
            try clear c16
            try clear c17
            try clear c18
            try clear c19
            try clear c19b0
            try clear c19b1
            try clear c20
            try clear c20b0
            try clear c20b1
            try clear c21
            try clear c21b0
            try clear c21b1
            try clear c21b2
            try clear c22
            try clear c29
            try clear p2
            obtain ⟨x12_2, x13_2, rfl, rfl, HA, HK2, HO_11, HB⟩ := hrel
            cases gk with
            | zero => exact absurd HA.out (by simp [laws_FnNumbers.l0])
            | succ k2 =>
              have H := HA.out
              clear HA
              simp only [laws_FnNumbers.l0] at H
              by_cases c30 : x13_2 < (t256.length : Int)
              · rw [if_pos c30] at H
                have c30b0 : decide (x13_2 < (t256.length : Int)) = true := decide_eq_true c30
                clear c30
                by_cases c31 : x13_2 > 0
                · rw [if_pos c31] at H
                  have c31b0 : decide (0 < x13_2) = true := decide_eq_true c31
                  clear c31
                  obtain ⟨y262, hy262⟩ : ∃ y_ : List Int, y_ = (([t255] : List Int)) := ⟨_, rfl⟩
                  replace H : (if x12_2.size + (strOfNums y262).size ≤ 9223372036854775807 then (if 0 ≤ x13_2 then (if (x12_2 ++ (strOfNums y262)).size + (rdOf ByteArray.empty t256 x13_2).size ≤ 9223372036854775807 then (laws_FnNumbers.l0 k2 t254 t255 t256 ((x12_2 ++ (strOfNums y262)) ++ (rdOf ByteArray.empty t256 x13_2)) (wrap64 (x13_2 + 1))) else (none)) else (none)) else (none)) = some r := by first | (rw [hy262]; with_reducible exact H) | (have H2_ := (Option.bind_some _ _).symm.trans H; rw [hy262]; with_reducible exact H2_) | (have H2_ := (Option.bind_some _ _).symm.trans H; with_reducible exact H2_) | with_reducible exact H | (rw [hy262]; exact H) | exact H
                  have Ny262 := Aside0.mk hy262
                  clear hy262
                  by_cases c32 : x12_2.size + (strOfNums y262).size ≤ 9223372036854775807
                  · rw [if_pos c32] at H
                    have c32b0 := eq_true c32
                    have c32b1 : decide (x12_2.size + (strOfNums y262).size ≤ 9223372036854775807) = true := decide_eq_true c32
                    try have c32b2 : (9223372036854775807 < x12_2.size + (strOfNums y262).size) = False := eq_false (Nat.not_lt.2 c32)
                    by_cases c33 : 0 ≤ x13_2
                    · rw [if_pos c33] at H
                      have c33b0 : decide (0 ≤ x13_2) = true := decide_eq_true c33
                      clear c33
                      by_cases c34 : (x12_2 ++ (strOfNums y262)).size + (rdOf ByteArray.empty t256 x13_2).size ≤ 9223372036854775807
                      · rw [if_pos c34] at H
                        have c34b0 := eq_true c34
                        have c34b1 : decide ((x12_2 ++ (strOfNums y262)).size + (rdOf ByteArray.empty t256 x13_2).size ≤ 9223372036854775807) = true := decide_eq_true c34
                        try have c34b2 : (9223372036854775807 < (x12_2 ++ (strOfNums y262)).size + (rdOf ByteArray.empty t256 x13_2).size) = False := eq_false (Nat.not_lt.2 c34)
                        have H' := Aside0.mk H
                        clear H
                        obtain ⟨Ao35, co35, eo35⟩ := Kd.R_slice HO_11.out
                        subst eo35
                        go_wp2_with (first | ((with_reducible refine gate_dst (N := 72) rfl ?_); (try (refine gate_guard (by rfl) ?_; dsimp only)); refine Kd.R_lit (Kd.int .u8) _ 5 ?hg (N := 72) ?hd (xs := ([t255] : List Int)) (inner := [.int .u8 t255]) (ok := fun _ => True) (okp := fun _ => True) ?hr ?hp (fun _ hk => hk) trivial (Below.refl _ _) (Nat.le_refl _) (by simp) ?_; (case hd => rfl); (case hg => rfl); (case hr => first | (go_simp; done) | (go_simp; rfl)); (case hp => exact (Reps.one (show Kd.M (Kd.int .u8) _ _ _ t255 [.int .u8 t255] from rfl) (Reps.none _ _))); intro v263 w36 ho37 hb hg_ hnew_; clear hg_ hnew_; (first | rw [← Ny262.out] at ho37 | (simp only [Int.reduceToNat] at ho37; rw [← Ny262.out] at ho37)); have n0_ := Aside0.mk (Kd.R_below (by (with_reducible repeat (first | apply Kd.R_alloc | apply Kd.R_drewN | apply Kd.R_drew)); exact HO_11.out) hb); have n1_ := Aside0.mk (Kd.R_lower ho37 (below_size (by repeat (first | (with_reducible first | exact HB.out | apply below_alloc | apply pw_below_drewN | apply below_drew1) | exact HB.out)))); have n2_ := Aside0.mk (below_step (by repeat (first | (with_reducible first | exact HB.out | apply below_alloc | apply pw_below_drewN | apply below_drew1) | exact HB.out)) hb); clear HO_11; clear HB; have HO_11 := n0_; have HO264 := n1_; have HB := n2_; clear n0_ n1_ n2_; clear hb ho37; have hcv38 := own_string (P := Tryd.prog) Tryd.underlying32 Tryd.underlying5 Tryd.underlying9 (Kd.own_of_R HO264.out); have p265 : 0 ≤ (x13_2 : Int) := of_decide_eq_true (by first | (with_reducible assumption) | assumption); have q265 : x13_2 < (t256.length : Int) := of_decide_eq_true (by first | (with_reducible assumption) | assumption); obtain ⟨ad265, e265, hx265_0⟩ := Kd.at_string (Kd.R_reads' HO_11.out).2.2 x13_2 p265 q265; cases e265; replace p265 := eq_true p265; replace q265 := eq_true q265))
                        go_roundg k2
                        case measure => have := HJ9.out; have := HK2.out; omega
                        case rel => exact ⟨((x12_2 ++ (strOfNums y262)) ++ (rdOf ByteArray.empty t256 x13_2)), (wrap64 (x13_2 + 1)), (by first | rfl | (simp; done) | (simp [*]; done)), (by first | rfl | (simp; done) | (simp [*]; done)), H', ⟨by have := HJ9.out; have := HK2.out; omega⟩, ⟨by (with_reducible repeat (first | apply Kd.R_alloc | apply Kd.R_drewN | apply Kd.R_drew)); exact HO_11.out⟩, ⟨by repeat (first | (with_reducible first | exact HB.out | apply below_alloc | apply pw_below_drewN | apply below_drew1) | exact HB.out)⟩⟩
                      · rw [if_neg c34] at H
                        exact absurd H (by simp)
                    · rw [if_neg c33] at H
                      exact absurd H (by simp)
                  · rw [if_neg c32] at H
                    exact absurd H (by simp)
                · rw [if_neg c31] at H
                  have c31b0 : decide (0 < x13_2) = false := decide_eq_false c31
                  clear c31
                  by_cases c39 : 0 ≤ x13_2
                  · rw [if_pos c39] at H
                    have c39b0 : decide (0 ≤ x13_2) = true := decide_eq_true c39
                    clear c39
                    by_cases c40 : x12_2.size + (rdOf ByteArray.empty t256 x13_2).size ≤ 9223372036854775807
                    · rw [if_pos c40] at H
                      have c40b0 := eq_true c40
                      have c40b1 : decide (x12_2.size + (rdOf ByteArray.empty t256 x13_2).size ≤ 9223372036854775807) = true := decide_eq_true c40
                      try have c40b2 : (9223372036854775807 < x12_2.size + (rdOf ByteArray.empty t256 x13_2).size) = False := eq_false (Nat.not_lt.2 c40)
                      have H' := Aside0.mk H
                      clear H
                      obtain ⟨Ao41, co41, eo41⟩ := Kd.R_slice HO_11.out
                      subst eo41
                      have p266 : 0 ≤ (x13_2 : Int) := of_decide_eq_true (by first | (with_reducible assumption) | assumption)
                      have q266 : x13_2 < (t256.length : Int) := of_decide_eq_true (by first | (with_reducible assumption) | assumption)
                      obtain ⟨ad266, e266, hx266_0⟩ := Kd.at_string (Kd.R_reads' HO_11.out).2.2 x13_2 p266 q266
                      cases e266
                      replace p266 := eq_true p266
                      replace q266 := eq_true q266
                      go_wp2
                      go_roundg k2
                      case measure => have := HJ9.out; have := HK2.out; omega
                      case rel => exact ⟨(x12_2 ++ (rdOf ByteArray.empty t256 x13_2)), (wrap64 (x13_2 + 1)), (by first | rfl | (simp; done) | (simp [*]; done)), (by first | rfl | (simp; done) | (simp [*]; done)), H', ⟨by have := HJ9.out; have := HK2.out; omega⟩, ⟨by (with_reducible repeat (first | apply Kd.R_alloc | apply Kd.R_drewN | apply Kd.R_drew)); exact HO_11.out⟩, ⟨by repeat (first | (with_reducible first | exact HB.out | apply below_alloc | apply pw_below_drewN | apply below_drew1) | exact HB.out)⟩⟩
                    · rw [if_neg c40] at H
                      exact absurd H (by simp)
                  · rw [if_neg c39] at H
                    exact absurd H (by simp)
              · rw [if_neg c30] at H
                have c30b0 : decide (x13_2 < (t256.length : Int)) = false := decide_eq_false c30
                clear c30
                by_cases c42 : x12_2.toList = t254.toList
                · rw [if_pos c42] at H
                  have c42b0 : (x12_2.toList == t254.toList) = true := beq_iff_eq.mpr c42
                  have c42b1 : (x12_2.toList != t254.toList) = false := bne_eq_false_iff_eq.mpr c42
                  clear c42
                  replace H := Option.bind_eq_some_iff.mp H
                  obtain ⟨t267, A430, H⟩ := H
                  replace H : (some ((t256.length : Int) == (t267.length : Int))) = some r := H
                  have A43 := Aside0.mk A430
                  clear A430
                  obtain rfl := Option.some.inj H
                  obtain ⟨Ao44, co44, eo44⟩ := Kd.R_slice HO_11.out
                  subst eo44
                  go_wp2_with (first | (go_at_call 11; (with_reducible refine (spec_Split.calls k2 t254 t255 t267 _ A43.out).mono ?_); rintro e w45 ⟨v268, rfl, ho0, hb⟩; have n0_ := Aside0.mk (Kd.R_elder' (by (with_reducible repeat (first | apply Kd.R_alloc | apply Kd.R_drewN | apply Kd.R_drew)); exact HO_11.out) (Kd.R_base ho0) hb); have n1_ := Aside0.mk (Kd.R_lower (Kd.R_new' ho0 (Kd.R_lt (by (with_reducible repeat (first | apply Kd.R_alloc | apply Kd.R_drewN | apply Kd.R_drew)); exact HO_11.out))) (below_size (by repeat (first | (with_reducible first | exact HB.out | apply below_alloc | apply pw_below_drewN | apply below_drew1) | exact HB.out)))); have n2_ := Aside0.mk (below_step (by repeat (first | (with_reducible first | exact HB.out | apply below_alloc | apply pw_below_drewN | apply below_drew1) | exact HB.out)) hb); clear HO_11; clear HB; have HO_11 := n0_; have HO269 := n1_; have HB := n2_; clear n0_ n1_ n2_; (try clear hb); (try clear hb2); (try clear hk); (try clear hi); (try clear ho0); obtain ⟨Ao46, co46, eo46⟩ := Kd.R_slice HO269.out; subst eo46))
                  go_ret
                  exact ⟨by first | rfl | (simp [errW_none, errW_some] <;> rfl) | (simp [*, errW_none, errW_some] <;> rfl), by repeat (first | (with_reducible first | exact HB.out | apply below_alloc | apply pw_below_drewN | apply below_drew1) | exact HB.out)⟩
                · rw [if_neg c42] at H
                  exact absurd H (by simp)

/-- THE ONE PURE STATEMENT of laws_FnNumbers: yours. -/
def laws_FnNumbers.Pure : Prop := ∀ (l0 : List Int), l0.length ≤ maxLen → l0.length * 1 ≤ 140737488351232 → (∀ x ∈ l0, (Lit.int .u8 x).wf = true) → ∃ k, laws_FnNumbers.f k l0 = some true
end Go.Proofs.YtkmdjmbjopklkaaDoor.P
