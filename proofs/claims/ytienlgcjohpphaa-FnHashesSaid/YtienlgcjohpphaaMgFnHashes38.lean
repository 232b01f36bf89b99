import Derived.Test.YtienlgcjohpphaaMgFnHashes5
import Derived.Test.YtienlgcjohpphaaMgFnHashes20
import Derived.Test.YtienlgcjohpphaaMgFnHashes30
import Derived.Test.YtienlgcjohpphaaMgFnHashes31
import Derived.Test.YtienlgcjohpphaaMgFnHashes34
import Derived.Test.YtienlgcjohpphaaMgFnHashes35
import Derived.Test.YtienlgcjohpphaaMgFnHashes37
-- Written by a program of this session (wip/drive.py) over the kit's print.
namespace Go.Proofs.Ytienlgcjohpphaa.P
open Go.RowKit Go.Proofs.YtienlgcjohpphaaW.PrintWords Go.Proofs.YtienlgcjohpphaaW.PrintLast Go.Proofs.YtienlgcjohpphaaW.PrintMore
attribute [local go_sem] max2_int min2_int max_two min_two max_three min_three max_four min_four   -- for this text's walks alone
set_option linter.unusedVariables false
set_option linter.unusedSimpArgs false

/-! ### spec_DrawHashBlock: function 30 -/
def spec_DrawHashBlock.j0 : Nat → List Int → List Int → Int → Int → Option (List Int × List Int)
 | 0, _, _, _, _ => none
 | k + 1, x5, x632000, x632001, x632002 => (spec_l1Once.f x632000 x632001 x632002 12).bind fun bt645 => (if bt645.1 = true then (if 7 ≤ (x5.length : Int) then ((spec_l1DrawNear.f k x632000 bt645.2.1 bt645.2.2 64).bind fun bt651 => (some ((x5.take (7 : Int).toNat), bt651.1))) else (none)) else ((spec_l1DrawNear.f k x632000 bt645.2.1 bt645.2.2 64).bind fun bt656 => (some (x5, bt656.1))))
def spec_DrawHashBlock.f (k : Nat) (l0 : List Int) : Option (List Int × List Int) := (spec_l1New.f k l0).bind fun bt628 => ((spec_HashStart.f).bind fun t632 => ((spec_l1Once.f bt628.1 bt628.2.1 bt628.2.2 4).bind fun bt635 => (if bt635.1 = true then ((spec_l1Below.f bt628.1 bt635.2.1 bt635.2.2 8).bind fun bt638 => ((spec_l2DrawNum.f bt628.1 bt638.2.1 bt638.2.2).bind fun bt641 => (if 0 ≤ bt638.1 then (if bt638.1 < (t632.length : Int) then (spec_DrawHashBlock.j0 k (t632.set (bt638.1 : Int).toNat bt641.1) bt628.1 bt641.2.1 bt641.2.2) else (none)) else (none)))) else (spec_DrawHashBlock.j0 k t632 bt628.1 bt635.2.1 bt635.2.2))))
theorem spec_DrawHashBlock.mono_l : ∀ k, (∀ y0 y1 y2 y3, LeO (spec_DrawHashBlock.j0 k y0 y1 y2 y3) (spec_DrawHashBlock.j0 (k + 1) y0 y1 y2 y3))
 | 0 => fun _ _ _ _ r h => by simp [spec_DrawHashBlock.j0] at h
 | k + 1 => by
  have ih0 := spec_DrawHashBlock.mono_l k
  ·intro y0 y1 y2 y3
   unfold spec_DrawHashBlock.j0
   repeat' first
   | (with_reducible exact ih0 _ _ _ _)
   | (with_reducible exact spec_l1DrawNear.mono _ _ _ _ _)
   | (with_reducible exact spec_l1New.mono _ _)
   | (with_reducible exact LeO.refl _)
   | (with_reducible exact LeO.none _)
   | (with_reducible refine LeO.ite ?_ ?_)
   | (with_reducible refine LeO.bind ?_ (fun _ => ?_))
   | exact ih0 _ _ _ _
   | exact spec_l1DrawNear.mono _ _ _ _ _
   | exact spec_l1New.mono _ _
   | exact LeO.none _
   | refine LeO.ite ?_ ?_
   | refine LeO.bind ?_ (fun _ => ?_)
theorem spec_DrawHashBlock.mono : ∀ a0 k, LeO (spec_DrawHashBlock.f k a0) (spec_DrawHashBlock.f (k + 1) a0) := by
 intro a0 k
 have ih0 := spec_DrawHashBlock.mono_l k
 unfold spec_DrawHashBlock.f
 repeat' first
   | (with_reducible exact ih0 _ _ _ _)
   | (with_reducible exact spec_l1DrawNear.mono _ _ _ _ _)
   | (with_reducible exact spec_l1New.mono _ _)
   | (with_reducible exact LeO.refl _)
   | (with_reducible exact LeO.none _)
   | (with_reducible refine LeO.ite ?_ ?_)
   | (with_reducible refine LeO.bind ?_ (fun _ => ?_))
   | exact ih0 _ _ _ _
   | exact spec_l1DrawNear.mono _ _ _ _ _
   | exact spec_l1New.mono _ _
   | exact LeO.none _
   | refine LeO.ite ?_ ?_
   | refine LeO.bind ?_ (fun _ => ?_)
set_option maxHeartbeats 8000000 in
set_option maxRecDepth 100000 in
theorem spec_DrawHashBlock.calls (k : Nat) (A0 : Option Addr) (c0 : Nat) (l0 : List Int) (r1 : List Int) (r2 : List Int) (w : World) (hr0 : Kd.C (Kd.int .u8) w A0 l0.length l0) (hc0 : l0.length ≤ c0) (h : spec_DrawHashBlock.f k l0 = some (r1, r2)) :
  Calls Try.prog 30 #[.slice A0 l0.length c0] w fun e w' => ∃ v0_ v1_ : Value, e = .returned (.tuple #[v0_, v1_]) ∧ Kd.R (Kd.int .i64) 3 w' w.heap.size (fun _ => True) v0_ r1 ∧ Kd.R (Kd.int .u8) 5 w' w.heap.size (fun _ => True) v1_ r2 ∧ Below w.heap.size w w' := by
 have HR0 := Aside0.mk hr0
 have HC0 := Aside0.mk hc0
 clear hr0 hc0
 have HB := Aside0.mk (Below.refl w.heap.size w)
 have H : ((spec_l1New.f k l0).bind fun bt628 => ((spec_HashStart.f).bind fun t632 => ((spec_l1Once.f bt628.1 bt628.2.1 bt628.2.2 4).bind fun bt635 => (if bt635.1 = true then ((spec_l1Below.f bt628.1 bt635.2.1 bt635.2.2 8).bind fun bt638 => ((spec_l2DrawNum.f bt628.1 bt638.2.1 bt638.2.2).bind fun bt641 => (if 0 ≤ bt638.1 then (if bt638.1 < (t632.length : Int) then (spec_DrawHashBlock.j0 k (t632.set (bt638.1 : Int).toNat bt641.1) bt628.1 bt641.2.1 bt641.2.2) else (none)) else (none)))) else (spec_DrawHashBlock.j0 k t632 bt628.1 bt635.2.1 bt635.2.2))))) = some (r1, r2) := h
 clear h
 replace H := Option.bind_eq_some_iff.mp H
 obtain ⟨⟨t628, t629, t630⟩, A20, H⟩ := H
 replace H : ((spec_HashStart.f).bind fun t632 => ((spec_l1Once.f t628 t629 t630 4).bind fun bt635 => (if bt635.1 = true then ((spec_l1Below.f t628 bt635.2.1 bt635.2.2 8).bind fun bt638 => ((spec_l2DrawNum.f t628 bt638.2.1 bt638.2.2).bind fun bt641 => (if 0 ≤ bt638.1 then (if bt638.1 < (t632.length : Int) then (spec_DrawHashBlock.j0 k (t632.set (bt638.1 : Int).toNat bt641.1) t628 bt641.2.1 bt641.2.2) else (none)) else (none)))) else (spec_DrawHashBlock.j0 k t632 t628 bt635.2.1 bt635.2.2)))) = some (r1, r2) := H
 have A2 := Aside0.mk A20
 clear A20
 replace H := Option.bind_eq_some_iff.mp H
 obtain ⟨t632, A30, H⟩ := H
 replace H : ((spec_l1Once.f t628 t629 t630 4).bind fun bt635 => (if bt635.1 = true then ((spec_l1Below.f t628 bt635.2.1 bt635.2.2 8).bind fun bt638 => ((spec_l2DrawNum.f t628 bt638.2.1 bt638.2.2).bind fun bt641 => (if 0 ≤ bt638.1 then (if bt638.1 < (t632.length : Int) then (spec_DrawHashBlock.j0 k (t632.set (bt638.1 : Int).toNat bt641.1) t628 bt641.2.1 bt641.2.2) else (none)) else (none)))) else (spec_DrawHashBlock.j0 k t632 t628 bt635.2.1 bt635.2.2))) = some (r1, r2) := H
 have A3 := Aside0.mk A30
 clear A30
 replace H := Option.bind_eq_some_iff.mp H
 obtain ⟨⟨t635, t636, t637⟩, A40, H⟩ := H
 replace H : (if t635 = true then ((spec_l1Below.f t628 t636 t637 8).bind fun bt638 => ((spec_l2DrawNum.f t628 bt638.2.1 bt638.2.2).bind fun bt641 => (if 0 ≤ bt638.1 then (if bt638.1 < (t632.length : Int) then (spec_DrawHashBlock.j0 k (t632.set (bt638.1 : Int).toNat bt641.1) t628 bt641.2.1 bt641.2.2) else (none)) else (none)))) else (spec_DrawHashBlock.j0 k t632 t628 t636 t637)) = some (r1, r2) := H
 have A4 := Aside0.mk A40
 clear A40
 have HC5 := Aside0.mk H
 clear H
 go_enter Try.func30, Try.ntmps30
 go_upto_if 10 with (first | ((with_reducible refine gate_callee (f := 78) rfl ?_); refine goesL_ (some 7) rfl rfl Try.func78 (by kernel_rfl) rfl #[.slice A0 l0.length c0] rfl (by (try simp only [List.map_toArray, List.map_cons, List.map_nil]); first | done | rfl | (simp only [List.length_drop, List.length_take]; rfl) | (simp only [List.length_drop, List.length_take]; rw [Nat.min_eq_left (Int.toNat_le.mpr (of_eq_true (by assumption)))])) ?_; (with_reducible refine (spec_l1New.calls k _ _ l0 t628 t629 t630 w _ ?side1 ?side2 ?side3 A2.out).mono ?_); (case side1 => repeat (first | (with_reducible first | exact HB.out | apply below_alloc | apply pw_below_drewN | apply below_drew1) | exact HB.out)); (case side2 => exact HR0.out); (case side3 => exact HC0.out); rintro e w6 ⟨g631, rfl, hi, hb, hb2⟩; refine ⟨_, rfl, ?_⟩; have n0_ := Aside0.mk (hb); have n1_ := Aside0.mk (hi); clear HB; have HB := n0_; have HI631 := n1_; clear n0_ n1_; (try clear hb); (try clear hb2); (try clear hk); (try clear hi)) | ((with_reducible refine gate_callee (f := 75) rfl ?_); refine goesL_ (some 8) rfl rfl Try.func75 (by kernel_rfl) rfl #[] rfl (by (try simp only [List.map_toArray, List.map_cons, List.map_nil]); first | done | rfl | (simp only [List.length_drop, List.length_take]; rfl) | (simp only [List.length_drop, List.length_take]; rw [Nat.min_eq_left (Int.toNat_le.mpr (of_eq_true (by assumption)))])) ?_; (with_reducible refine (spec_HashStart.calls  t632 _ A3.out).mono ?_); rintro e w7 ⟨v633, rfl, ho0, hb⟩; refine ⟨_, rfl, ?_⟩; have n0_ := Aside0.mk (Kd.R_lower ho0 (below_size (by repeat (first | (with_reducible first | exact HB.out | apply below_alloc | apply pw_below_drewN | apply below_drew1 | refine below_set ?_ (IsS85.ge HI631.out)) | exact HB.out)))); have n1_ := Aside0.mk (IsS85.below (by repeat (first | (with_reducible first | exact HI631.out | apply IsS85.alloc | apply IsS85.drewN | apply IsS85.drew | apply IsS85.set_1 | apply IsS85.set_2) | exact HI631.out)) hb); have n2_ := Aside0.mk (below_step (by repeat (first | (with_reducible first | exact HB.out | apply below_alloc | apply pw_below_drewN | apply below_drew1 | refine below_set ?_ (IsS85.ge HI631.out)) | exact HB.out)) hb); clear HI631; clear HB; have HO634 := n0_; have HI631 := n1_; have HB := n2_; clear n0_ n1_ n2_; (try clear hb); (try clear hb2); (try clear hk); (try clear hi); (try clear ho0)) | ((with_reducible refine gate_callee (f := 81) rfl ?_); refine goesL_ (some 10) rfl rfl Try.func81 (by kernel_rfl) rfl #[.pointer (some ⟨g631, 0, none⟩), .int .i64 4] rfl (by (try simp only [List.map_toArray, List.map_cons, List.map_nil]); first | done | rfl | (simp only [List.length_drop, List.length_take]; rfl) | (simp only [List.length_drop, List.length_take]; rw [Nat.min_eq_left (Int.toNat_le.mpr (of_eq_true (by assumption)))])) ?_; (with_reducible refine (spec_l1Once.calls g631 t628 t629 t630 4 t635 t636 t637 w _ ?side1 ?side2 A4.out).mono ?_); (case side1 => repeat (first | (with_reducible first | exact HI631.out | apply IsS85.alloc | apply IsS85.drewN | apply IsS85.drew | apply IsS85.set_1 | apply IsS85.set_2) | exact HI631.out)); (case side2 => repeat (first | (with_reducible first | exact HB.out | apply below_alloc | apply pw_below_drewN | apply below_drew1 | refine below_set ?_ (IsS85.ge HI631.out)) | exact HB.out)); rintro e w8 ⟨rfl, hi, hb, hk⟩; refine ⟨_, rfl, ?_⟩; have n0_ := Aside0.mk (Kd.R_mono (Kd.R_keep (IsS85.apart (show IsS85 w _ g631 t628 t629 t630 from by repeat (first | (with_reducible first | exact HI631.out | apply IsS85.alloc | apply IsS85.drewN | apply IsS85.drew | apply IsS85.set_1 | apply IsS85.set_2) | exact HI631.out)) (by (with_reducible repeat (first | apply Kd.R_alloc | apply Kd.R_drewN | apply Kd.R_drew)); exact HO634.out) (by decide)) hk (fun _ h => h.2)) (fun _ h => h.1)); have n1_ := Aside0.mk (hb); have n2_ := Aside0.mk (hi); clear HO634; clear HB; clear HI631; have HO634 := n0_; have HB := n1_; have HI631 := n2_; clear n0_ n1_ n2_; (try clear hb); (try clear hb2); (try clear hk); (try clear hi)))
 (try simp only [Act.put, List.setIfInBounds_toArray, List.set_cons_zero, List.set_cons_succ])
 go_cut [] (fun wc => ∃ (kq : Nat) (x5_4 : List Int) (x632001_4 : Int) (x632002_4 : Int), Aside0 (spec_DrawHashBlock.j0 kq x5_4 t628 x632001_4 x632002_4 = some (r1, r2)) ∧ Aside0 (kq ≤ k) ∧ Aside0 (Kd.R (Kd.int .i64) 3 wc w.heap.size (fun _ => True) v633 x5_4) ∧ Aside0 (IsS85 w wc g631 t628 x632001_4 x632002_4) ∧ Aside0 (Below w.heap.size w wc))
 case first =>
  have H := HC5.out
  clear HC5
  by_cases c9 : t635 = true
  ·subst c9
   have H1 : ((spec_l1Below.f t628 t636 t637 8).bind fun bt638 => ((spec_l2DrawNum.f t628 bt638.2.1 bt638.2.2).bind fun bt641 => (if 0 ≤ bt638.1 then (if bt638.1 < (t632.length : Int) then (spec_DrawHashBlock.j0 k (t632.set (bt638.1 : Int).toNat bt641.1) t628 bt641.2.1 bt641.2.2) else (none)) else (none)))) = some (r1, r2) := by rw [if_pos rfl] at H; exact H
   clear H
   have H := H1
   clear H1
   replace H := Option.bind_eq_some_iff.mp H
   obtain ⟨⟨t638, t639, t640⟩, A100, H⟩ := H
   replace H : ((spec_l2DrawNum.f t628 t639 t640).bind fun bt641 => (if 0 ≤ t638 then (if t638 < (t632.length : Int) then (spec_DrawHashBlock.j0 k (t632.set (t638 : Int).toNat bt641.1) t628 bt641.2.1 bt641.2.2) else (none)) else (none))) = some (r1, r2) := H
   have A10 := Aside0.mk A100
   clear A100
   replace H := Option.bind_eq_some_iff.mp H
   obtain ⟨⟨t641, t642, t643⟩, A110, H⟩ := H
   replace H : (if 0 ≤ t638 then (if t638 < (t632.length : Int) then (spec_DrawHashBlock.j0 k (t632.set (t638 : Int).toNat t641) t628 t642 t643) else (none)) else (none)) = some (r1, r2) := H
   have A11 := Aside0.mk A110
   clear A110
   by_cases c12 : 0 ≤ t638
   ·rw [if_pos c12] at H
    have c12b0 : decide (0 ≤ t638) = true := decide_eq_true c12
    clear c12
    (first | rw [c12b0] | (simp only [i64_w, i32_w]; rw [c12b0]) | skip)
    by_cases c13 : t638 < (t632.length : Int)
    ·rw [if_pos c13] at H
     have c13b0 : decide (t638 < (t632.length : Int)) = true := decide_eq_true c13
     clear c13
     obtain ⟨y644, hy644⟩ : ∃ y_ : List Int, y_ = (t632.set (t638 : Int).toNat t641) := ⟨_, rfl⟩
     replace H : (spec_DrawHashBlock.j0 k y644 t628 t642 t643) = some (r1, r2) := by first | (rw [hy644]; with_reducible exact H) | (have H2_ := (Option.bind_some _ _).symm.trans H; rw [hy644]; with_reducible exact H2_) | (have H2_ := (Option.bind_some _ _).symm.trans H; with_reducible exact H2_) | with_reducible exact H | (rw [hy644]; exact H) | exact H
     have Ny644 := Aside0.mk hy644
     clear hy644
     have H' := Aside0.mk H
     clear H
     go_wp2_with (first | ((with_reducible refine gate_callee (f := 83) rfl ?_); refine goesL_ (some 13) rfl rfl Try.func83 (by kernel_rfl) rfl #[.pointer (some ⟨g631, 0, none⟩), .int .i64 8] rfl (by (try simp only [List.map_toArray, List.map_cons, List.map_nil]); first | done | rfl | (simp only [List.length_drop, List.length_take]; rfl) | (simp only [List.length_drop, List.length_take]; rw [Nat.min_eq_left (Int.toNat_le.mpr (of_eq_true (by assumption)))])) ?_; (with_reducible refine (spec_l1Below.calls g631 t628 t636 t637 8 t638 t639 t640 w _ ?side1 ?side2 A10.out).mono ?_); (case side1 => repeat (first | (with_reducible first | exact HI631.out | apply IsS85.alloc | apply IsS85.drewN | apply IsS85.drew | apply IsS85.set_1 | apply IsS85.set_2) | exact HI631.out)); (case side2 => repeat (first | (with_reducible first | exact HB.out | apply below_alloc | apply pw_below_drewN | apply below_drew1 | refine below_set ?_ (IsS85.ge HI631.out)) | exact HB.out)); rintro e w15 ⟨rfl, hi, hb, hk⟩; refine ⟨_, rfl, ?_⟩; have n0_ := Aside0.mk (Kd.R_mono (Kd.R_keep (IsS85.apart (show IsS85 w _ g631 t628 t636 t637 from by repeat (first | (with_reducible first | exact HI631.out | apply IsS85.alloc | apply IsS85.drewN | apply IsS85.drew | apply IsS85.set_1 | apply IsS85.set_2) | exact HI631.out)) (by (with_reducible repeat (first | apply Kd.R_alloc | apply Kd.R_drewN | apply Kd.R_drew)); exact HO634.out) (by decide)) hk (fun _ h => h.2)) (fun _ h => h.1)); have n1_ := Aside0.mk (hb); have n2_ := Aside0.mk (hi); clear HO634; clear HB; clear HI631; have HO634 := n0_; have HB := n1_; have HI631 := n2_; clear n0_ n1_ n2_; (try clear hb); (try clear hb2); (try clear hk); (try clear hi)) | ((with_reducible refine gate_callee (f := 82) rfl ?_); refine goesL_ (some 15) rfl rfl Try.func82 (by kernel_rfl) rfl #[.pointer (some ⟨g631, 0, none⟩)] rfl (by (try simp only [List.map_toArray, List.map_cons, List.map_nil]); first | done | rfl | (simp only [List.length_drop, List.length_take]; rfl) | (simp only [List.length_drop, List.length_take]; rw [Nat.min_eq_left (Int.toNat_le.mpr (of_eq_true (by assumption)))])) ?_; (with_reducible refine (spec_l2DrawNum.calls g631 t628 t639 t640 t641 t642 t643 w _ ?side1 ?side2 A11.out).mono ?_); (case side1 => repeat (first | (with_reducible first | exact HI631.out | apply IsS85.alloc | apply IsS85.drewN | apply IsS85.drew | apply IsS85.set_1 | apply IsS85.set_2) | exact HI631.out)); (case side2 => repeat (first | (with_reducible first | exact HB.out | apply below_alloc | apply pw_below_drewN | apply below_drew1 | refine below_set ?_ (IsS85.ge HI631.out)) | exact HB.out)); rintro e w16 ⟨rfl, hi, hb, hk⟩; refine ⟨_, rfl, ?_⟩; have n0_ := Aside0.mk (Kd.R_mono (Kd.R_keep (IsS85.apart (show IsS85 w _ g631 t628 t639 t640 from by repeat (first | (with_reducible first | exact HI631.out | apply IsS85.alloc | apply IsS85.drewN | apply IsS85.drew | apply IsS85.set_1 | apply IsS85.set_2) | exact HI631.out)) (by (with_reducible repeat (first | apply Kd.R_alloc | apply Kd.R_drewN | apply Kd.R_drew)); exact HO634.out) (by decide)) hk (fun _ h => h.2)) (fun _ h => h.1)); have n1_ := Aside0.mk (hb); have n2_ := Aside0.mk (hi); clear HO634; clear HB; clear HI631; have HO634 := n0_; have HB := n1_; have HI631 := n2_; clear n0_ n1_ n2_; (try clear hb); (try clear hb2); (try clear hk); (try clear hi); have p14 : 0 ≤ (t638 : Int) := of_decide_eq_true (by first | (with_reducible assumption) | assumption); have q14 : (t638 : Int) < ((t632.length : Int) : Int) := of_decide_eq_true (by first | (with_reducible assumption) | assumption); obtain ⟨go14, co14, eo14, gb14, gl14, cl14, HG14⟩ := Kd.R_form HO634.out (by omega); (first | cases eo14 | (injection eo14 with ea_ en_ ec_; (first | subst ea_ | (injection ea_ with ea_; subst ea_)); subst ec_; clear en_)); have GB14 := Aside0.mk gb14; have GG14 := Aside0.mk HG14; clear gb14 gl14 HG14; obtain ⟨hx14_0, hf14_0⟩ := Kd.R_celln 0 HO634.out (t638 : Int) p14 q14; replace p14 := eq_true p14; replace q14 := eq_true q14; obtain ⟨hy17_, hz17_⟩ := Kd.R_celln 0 HO634.out (t638 : Int) (of_decide_eq_true (by first | (with_reducible assumption) | assumption)) (of_decide_eq_true (by first | (with_reducible assumption) | assumption)); have HP17 := Kd.R_putg HO634.out (t638 : Int) t641) | ((with_reducible refine gate_store (t := 3) (p := 16) rfl ?_); refine store_event (t := 3) (p := 16) (v := ?vo_w18) (w1 := (w16.setCell ⟨go14, (t638 : Int).toNat, none⟩ (.int .i64 t641))) ?hg ?ho ?hn ?hr ?_; (case ho => rfl); (case hg => rfl); (case hn => rfl); (case hr => first | (go_simp; done) | (go_simp; rfl)); intro w18 hw; have hg : w16.grownBy w18 (some go14) := (by rw [hw]; exact HP17.2); have hp_ : Kd.R (Kd.int .i64) 3 w18 w.heap.size (fun _ => True) (.slice (some ⟨go14, 0, none⟩) t632.length co14) y644 := (by rw [hw, Ny644.out]; exact HP17.1); clear HP17; have n0_ := Aside0.mk (IsS85.grown (by repeat (first | (with_reducible first | exact HI631.out | apply IsS85.alloc | apply IsS85.drewN | apply IsS85.drew | apply IsS85.set_1 | apply IsS85.set_2) | exact HI631.out)) hg (IsS85.own_ne HI631.out HO634.out (by decide))); have n1_ := Aside0.mk (hp_); have n2_ := Aside0.mk ((by rw [hw]; exact below_set (HB.out) GB14.out : Below w.heap.size w w18)); clear HI631; clear HO634; clear HB; have HI631 := n0_; have HO634 := n1_; have HB := n2_; clear n0_ n1_ n2_; clear hg hw hp_))
     go_meet
     case rel => exact ⟨_, (y644), (t642), (t643), H', ⟨by first | omega | exact Nat.le_refl _⟩, ⟨by (with_reducible repeat (first | apply Kd.R_alloc | apply Kd.R_drewN | apply Kd.R_drew)); exact HO634.out⟩, ⟨by repeat (first | (with_reducible first | exact HI631.out | apply IsS85.alloc | apply IsS85.drewN | apply IsS85.drew | apply IsS85.set_1 | apply IsS85.set_2) | exact HI631.out)⟩, ⟨by repeat (first | (with_reducible first | exact HB.out | apply below_alloc | apply pw_below_drewN | apply below_drew1 | refine below_set ?_ (IsS85.ge HI631.out)) | exact HB.out)⟩⟩
    ·rw [if_neg c13] at H
     exact absurd H (by simp)
   ·rw [if_neg c12] at H
    exact absurd H (by simp)
  ·replace c9 := Bool.eq_false_iff.mpr c9
   subst c9
   have H1 : (spec_DrawHashBlock.j0 k t632 t628 t636 t637) = some (r1, r2) := by rw [if_neg (show ¬ (false = true) by decide)] at H; exact H
   clear H
   have H := H1
   clear H1
   have H' := Aside0.mk H
   clear H
   go_wp2
   go_meet
   case rel => exact ⟨_, (t632), (t636), (t637), H', ⟨by first | omega | exact Nat.le_refl _⟩, ⟨by (with_reducible repeat (first | apply Kd.R_alloc | apply Kd.R_drewN | apply Kd.R_drew)); exact HO634.out⟩, ⟨by repeat (first | (with_reducible first | exact HI631.out | apply IsS85.alloc | apply IsS85.drewN | apply IsS85.drew | apply IsS85.set_1 | apply IsS85.set_2) | exact HI631.out)⟩, ⟨by repeat (first | (with_reducible first | exact HB.out | apply below_alloc | apply pw_below_drewN | apply below_drew1 | refine below_set ?_ (IsS85.ge HI631.out)) | exact HB.out)⟩⟩
 case rest =>
  clear HC5
  try clear c1
  try clear p1
  try clear q1
  try clear hx1
  try clear hf1
  try clear p2
  try clear c3
  try clear c7
  try clear c8
  try clear c9
  try clear c12
  try clear c12b0
  try clear c13
  try clear c13b0
  try clear p14
  try clear q14
  try clear hx14
  try clear hf14
  try clear hx14_0
  try clear p14
  try clear q14
  obtain ⟨kq, x5_4, x632001_4, x632002_4, HA, HJ4, HO_5, HI631, HB⟩ := hcut
  cases kq with
  | zero => exact absurd HA.out (by simp [spec_DrawHashBlock.j0])
  | succ kj4 =>
   have H := HA.out
   clear HA
   simp only [spec_DrawHashBlock.j0] at H
   replace H := Option.bind_eq_some_iff.mp H
   obtain ⟨⟨t645, t646, t647⟩, A190, H⟩ := H
   replace H : (if t645 = true then (if 7 ≤ (x5_4.length : Int) then ((spec_l1DrawNear.f kj4 t628 t646 t647 64).bind fun bt651 => (some ((x5_4.take (7 : Int).toNat), bt651.1))) else (none)) else ((spec_l1DrawNear.f kj4 t628 t646 t647 64).bind fun bt656 => (some (x5_4, bt656.1)))) = some (r1, r2) := H
   have A19 := Aside0.mk A190
   clear A190
   by_cases c20 : t645 = true
   ·subst c20
    have H1 : (if 7 ≤ (x5_4.length : Int) then ((spec_l1DrawNear.f kj4 t628 t646 t647 64).bind fun bt651 => (some ((x5_4.take (7 : Int).toNat), bt651.1))) else (none)) = some (r1, r2) := by rw [if_pos rfl] at H; exact H
    clear H
    have H := H1
    clear H1
    by_cases c21 : 7 ≤ (x5_4.length : Int)
    ·rw [if_pos c21] at H
     have c21b0 := eq_true c21
     have c21b1 : decide (7 ≤ (x5_4.length : Int)) = true := decide_eq_true c21
     clear c21
     obtain ⟨y648, hy648⟩ : ∃ y_ : List Int, y_ = (x5_4.take (7 : Int).toNat) := ⟨_, rfl⟩
     replace H : ((spec_l1DrawNear.f kj4 t628 t646 t647 64).bind fun bt651 => (some (y648, bt651.1))) = some (r1, r2) := by first | (rw [hy648]; with_reducible exact H) | (have H2_ := (Option.bind_some _ _).symm.trans H; rw [hy648]; with_reducible exact H2_) | (have H2_ := (Option.bind_some _ _).symm.trans H; with_reducible exact H2_) | with_reducible exact H | (rw [hy648]; exact H) | exact H
     have Ny648 := Aside0.mk hy648
     clear hy648
     replace H := Option.bind_eq_some_iff.mp H
     obtain ⟨⟨t651, t654, t655⟩, A220, H⟩ := H
     replace H : (some (y648, t651)) = some (r1, r2) := H
     have A22 := Aside0.mk A220
     clear A220
     simp only [Option.some.injEq, Prod.mk.injEq] at H
     obtain ⟨rfl, rfl⟩ := H
     go_wp2_with (first | ((with_reducible refine gate_callee (f := 81) rfl ?_); refine goesL_ (some 18) rfl rfl Try.func81 (by kernel_rfl) rfl #[.pointer (some ⟨g631, 0, none⟩), .int .i64 12] rfl (by (try simp only [List.map_toArray, List.map_cons, List.map_nil]); first | done | rfl | (simp only [List.length_drop, List.length_take]; rfl) | (simp only [List.length_drop, List.length_take]; rw [Nat.min_eq_left (Int.toNat_le.mpr (of_eq_true (by assumption)))])) ?_; (with_reducible refine (spec_l1Once.calls g631 t628 x632001_4 x632002_4 12 true t646 t647 w _ ?side1 ?side2 A19.out).mono ?_); (case side1 => repeat (first | (with_reducible first | exact HI631.out | apply IsS85.alloc | apply IsS85.drewN | apply IsS85.drew | apply IsS85.set_1 | apply IsS85.set_2) | exact HI631.out)); (case side2 => repeat (first | (with_reducible first | exact HB.out | apply below_alloc | apply pw_below_drewN | apply below_drew1 | refine below_set ?_ (IsS85.ge HI631.out)) | exact HB.out)); rintro e w23 ⟨rfl, hi, hb, hk⟩; refine ⟨_, rfl, ?_⟩; have n0_ := Aside0.mk (Kd.R_mono (Kd.R_keep (IsS85.apart (show IsS85 w _ g631 t628 x632001_4 x632002_4 from by repeat (first | (with_reducible first | exact HI631.out | apply IsS85.alloc | apply IsS85.drewN | apply IsS85.drew | apply IsS85.set_1 | apply IsS85.set_2) | exact HI631.out)) (by (with_reducible repeat (first | apply Kd.R_alloc | apply Kd.R_drewN | apply Kd.R_drew)); exact HO_5.out) (by decide)) hk (fun _ h => h.2)) (fun _ h => h.1)); have n1_ := Aside0.mk (hb); have n2_ := Aside0.mk (hi); clear HO_5; clear HB; clear HI631; have HO_5 := n0_; have HB := n1_; have HI631 := n2_; clear n0_ n1_ n2_; (try clear hb); (try clear hb2); (try clear hk); (try clear hi); obtain ⟨Ao24, co24, eo24⟩ := Kd.R_slice HO_5.out; subst eo24; have q25 : (7 : Int) ≤ ((x5_4.length : Int) : Int) := of_decide_eq_true (by first | (with_reducible assumption) | assumption); obtain ⟨i025, hi025, _, hsz25, _⟩ := info_parts info3; have hcut25 := cut_to (P := Try.prog) 22 3 .i64 Try.underlying22 hi025 Ao24 x5_4.length co24 7 (by omega) q25 (Kd.R_reads' HO_5.out).2.1; have hr25 := Kd.R_take (m := (7 : Int).toNat) HO_5.out (by omega); have hy25 : y648.length = (7 : Int).toNat := (by rw [Ny648.out, List.length_take]; omega); rw [← Ny648.out] at hr25; rw [← hy25] at hr25 hcut25; clear hy25 hi025 hsz25 HO_5; have HO650 := Aside0.mk hr25; clear hr25; replace q25 := eq_true q25) | ((with_reducible refine gate_callee (f := 84) rfl ?_); refine goesL_ (some 23) rfl rfl Try.func84 (by kernel_rfl) rfl #[.pointer (some ⟨g631, 0, none⟩), .int .i64 64] rfl (by (try simp only [List.map_toArray, List.map_cons, List.map_nil]); first | done | rfl | (simp only [List.length_drop, List.length_take]; rfl) | (simp only [List.length_drop, List.length_take]; rw [Nat.min_eq_left (Int.toNat_le.mpr (of_eq_true (by assumption)))])) ?_; (with_reducible refine (spec_l1DrawNear.calls kj4 g631 t628 t646 t647 64 t651 t654 t655 w _ ?side1 ?side2 A22.out).mono ?_); (case side1 => repeat (first | (with_reducible first | exact HI631.out | apply IsS85.alloc | apply IsS85.drewN | apply IsS85.drew | apply IsS85.set_1 | apply IsS85.set_2) | exact HI631.out)); (case side2 => repeat (first | (with_reducible first | exact HB.out | apply below_alloc | apply pw_below_drewN | apply below_drew1 | refine below_set ?_ (IsS85.ge HI631.out)) | exact HB.out)); rintro e w26 ⟨v652, rfl, ho0, hi, hb, hk⟩; refine ⟨_, rfl, ?_⟩; have n0_ := Aside0.mk (Kd.R_mono (Kd.R_keep (IsS85.apart (show IsS85 w _ g631 t628 t646 t647 from by repeat (first | (with_reducible first | exact HI631.out | apply IsS85.alloc | apply IsS85.drewN | apply IsS85.drew | apply IsS85.set_1 | apply IsS85.set_2) | exact HI631.out)) (by (with_reducible repeat (first | apply Kd.R_alloc | apply Kd.R_drewN | apply Kd.R_drew)); exact HO650.out) (by decide)) hk (fun _ h => h.2)) (fun _ h => h.1)); have n1_ := Aside0.mk (Kd.R_lower ho0 (below_size (by repeat (first | (with_reducible first | exact HB.out | apply below_alloc | apply pw_below_drewN | apply below_drew1 | refine below_set ?_ (IsS85.ge HI631.out)) | exact HB.out)))); have n2_ := Aside0.mk (hb); have n3_ := Aside0.mk (hi); clear HO650; clear HB; clear HI631; have HO650 := n0_; have HO653 := n1_; have HB := n2_; have HI631 := n3_; clear n0_ n1_ n2_ n3_; (try clear hb); (try clear hb2); (try clear hk); (try clear hi); (try clear ho0)))
     go_ret2
     exact ⟨_, _, by first | rfl | (simp [errW_none, errW_some] <;> rfl) | (simp [*, errW_none, errW_some] <;> rfl), by (with_reducible repeat (first | apply Kd.R_alloc | apply Kd.R_drewN | apply Kd.R_drew)); exact HO650.out, by (with_reducible repeat (first | apply Kd.R_alloc | apply Kd.R_drewN | apply Kd.R_drew)); exact HO653.out, by repeat (first | (with_reducible first | exact HB.out | apply below_alloc | apply pw_below_drewN | apply below_drew1 | refine below_set ?_ (IsS85.ge HI631.out)) | exact HB.out)⟩
    ·rw [if_neg c21] at H
     exact absurd H (by simp)
   ·replace c20 := Bool.eq_false_iff.mpr c20
    subst c20
    have H1 : ((spec_l1DrawNear.f kj4 t628 t646 t647 64).bind fun bt656 => (some (x5_4, bt656.1))) = some (r1, r2) := by rw [if_neg (show ¬ (false = true) by decide)] at H; exact H
    clear H
    have H := H1
    clear H1
    replace H := Option.bind_eq_some_iff.mp H
    obtain ⟨⟨t656, t659, t660⟩, A270, H⟩ := H
    replace H : (some (x5_4, t656)) = some (r1, r2) := H
    have A27 := Aside0.mk A270
    clear A270
    simp only [Option.some.injEq, Prod.mk.injEq] at H
    obtain ⟨rfl, rfl⟩ := H
    go_wp2_with (first | ((with_reducible refine gate_callee (f := 81) rfl ?_); refine goesL_ (some 18) rfl rfl Try.func81 (by kernel_rfl) rfl #[.pointer (some ⟨g631, 0, none⟩), .int .i64 12] rfl (by (try simp only [List.map_toArray, List.map_cons, List.map_nil]); first | done | rfl | (simp only [List.length_drop, List.length_take]; rfl) | (simp only [List.length_drop, List.length_take]; rw [Nat.min_eq_left (Int.toNat_le.mpr (of_eq_true (by assumption)))])) ?_; (with_reducible refine (spec_l1Once.calls g631 t628 x632001_4 x632002_4 12 false t646 t647 w _ ?side1 ?side2 A19.out).mono ?_); (case side1 => repeat (first | (with_reducible first | exact HI631.out | apply IsS85.alloc | apply IsS85.drewN | apply IsS85.drew | apply IsS85.set_1 | apply IsS85.set_2) | exact HI631.out)); (case side2 => repeat (first | (with_reducible first | exact HB.out | apply below_alloc | apply pw_below_drewN | apply below_drew1 | refine below_set ?_ (IsS85.ge HI631.out)) | exact HB.out)); rintro e w28 ⟨rfl, hi, hb, hk⟩; refine ⟨_, rfl, ?_⟩; have n0_ := Aside0.mk (Kd.R_mono (Kd.R_keep (IsS85.apart (show IsS85 w _ g631 t628 x632001_4 x632002_4 from by repeat (first | (with_reducible first | exact HI631.out | apply IsS85.alloc | apply IsS85.drewN | apply IsS85.drew | apply IsS85.set_1 | apply IsS85.set_2) | exact HI631.out)) (by (with_reducible repeat (first | apply Kd.R_alloc | apply Kd.R_drewN | apply Kd.R_drew)); exact HO_5.out) (by decide)) hk (fun _ h => h.2)) (fun _ h => h.1)); have n1_ := Aside0.mk (hb); have n2_ := Aside0.mk (hi); clear HO_5; clear HB; clear HI631; have HO_5 := n0_; have HB := n1_; have HI631 := n2_; clear n0_ n1_ n2_; (try clear hb); (try clear hb2); (try clear hk); (try clear hi)) | ((with_reducible refine gate_callee (f := 84) rfl ?_); refine goesL_ (some 23) rfl rfl Try.func84 (by kernel_rfl) rfl #[.pointer (some ⟨g631, 0, none⟩), .int .i64 64] rfl (by (try simp only [List.map_toArray, List.map_cons, List.map_nil]); first | done | rfl | (simp only [List.length_drop, List.length_take]; rfl) | (simp only [List.length_drop, List.length_take]; rw [Nat.min_eq_left (Int.toNat_le.mpr (of_eq_true (by assumption)))])) ?_; (with_reducible refine (spec_l1DrawNear.calls kj4 g631 t628 t646 t647 64 t656 t659 t660 w _ ?side1 ?side2 A27.out).mono ?_); (case side1 => repeat (first | (with_reducible first | exact HI631.out | apply IsS85.alloc | apply IsS85.drewN | apply IsS85.drew | apply IsS85.set_1 | apply IsS85.set_2) | exact HI631.out)); (case side2 => repeat (first | (with_reducible first | exact HB.out | apply below_alloc | apply pw_below_drewN | apply below_drew1 | refine below_set ?_ (IsS85.ge HI631.out)) | exact HB.out)); rintro e w29 ⟨v657, rfl, ho0, hi, hb, hk⟩; refine ⟨_, rfl, ?_⟩; have n0_ := Aside0.mk (Kd.R_mono (Kd.R_keep (IsS85.apart (show IsS85 w _ g631 t628 t646 t647 from by repeat (first | (with_reducible first | exact HI631.out | apply IsS85.alloc | apply IsS85.drewN | apply IsS85.drew | apply IsS85.set_1 | apply IsS85.set_2) | exact HI631.out)) (by (with_reducible repeat (first | apply Kd.R_alloc | apply Kd.R_drewN | apply Kd.R_drew)); exact HO_5.out) (by decide)) hk (fun _ h => h.2)) (fun _ h => h.1)); have n1_ := Aside0.mk (Kd.R_lower ho0 (below_size (by repeat (first | (with_reducible first | exact HB.out | apply below_alloc | apply pw_below_drewN | apply below_drew1 | refine below_set ?_ (IsS85.ge HI631.out)) | exact HB.out)))); have n2_ := Aside0.mk (hb); have n3_ := Aside0.mk (hi); clear HO_5; clear HB; clear HI631; have HO_5 := n0_; have HO658 := n1_; have HB := n2_; have HI631 := n3_; clear n0_ n1_ n2_ n3_; (try clear hb); (try clear hb2); (try clear hk); (try clear hi); (try clear ho0)))
    go_ret2
    exact ⟨_, _, by first | rfl | (simp [errW_none, errW_some] <;> rfl) | (simp [*, errW_none, errW_some] <;> rfl), by (with_reducible repeat (first | apply Kd.R_alloc | apply Kd.R_drewN | apply Kd.R_drew)); exact HO_5.out, by (with_reducible repeat (first | apply Kd.R_alloc | apply Kd.R_drewN | apply Kd.R_drew)); exact HO658.out, by repeat (first | (with_reducible first | exact HB.out | apply below_alloc | apply pw_below_drewN | apply below_drew1 | refine below_set ?_ (IsS85.ge HI631.out)) | exact HB.out)⟩

end Go.Proofs.Ytienlgcjohpphaa.P
