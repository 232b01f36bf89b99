import Derived.Test.Ytdineaebljpfaaan38
import Derived.Test.Ytdineaebljpfaaan39
import Derived.Test.Ytdineaebljpfaaan41
namespace Go.Proofs.Ytdineaebljpfaaa.P
open Go.RowKit Go.Proofs.YtdineaebljpfaaaW.PrintWords Go.Proofs.YtdineaebljpfaaaW.PrintLast Go.Proofs.YtdineaebljpfaaaW.PrintMore
attribute [local go_sem] zcu zcv zdf zdg zci zcj zcw zcx   -- for this text's walks alone
set_option linter.unusedVariables false
set_option linter.unusedSimpArgs false

def laws_FnBlocks.j0 : Nat → List Int → List Int → List Int → Bool → Option (Bool)
 | 0, _, _, _, _ => none
 | k + 1, x6, x7, x9, x68 => if x68 = true then (some false) else (if (x6.length : Int) = 0 then (some ((x9.length : Int) == 0)) else (if (x7.length : Int) = 0 then (some ((x9.length : Int) == 0)) else ((some (([] : List Int) : List Int)).bind fun y769 => (if y769.length + x6.length < 140737488355328 then ((some (y769 ++ x6 : List Int)).bind fun y772 => (if 36 ≤ (x7.length : Int) then ((some (x7.take 36 : List Int)).bind fun y775 => (if y772.length + y775.length < 140737488355328 then ((impl_Same.f x9 (y772 ++ y775)).bind fun t782 => (some t782)) else (none))) else (none))) else (none)))))
def laws_FnBlocks.f (k : Nat) (l0 : List Int) : Option (Bool) := (laws_big.f l0).bind fun t731 => (if t731 = true then (some true) else ((spec_DrawBlock.f k l0).bind fun bt732 => ((impl_Block.f k bt732.1 bt732.2.1 bt732.2.2).bind fun t739 => ((impl_Block.f k bt732.1 (wrap64 (bt732.2.1 + 1)) bt732.2.2).bind fun t742 => (if 100 ≤ 281474976710656 then ((impl_Stream.f k bt732.1 bt732.2.1 bt732.2.2 (List.replicate 100 0)).bind fun t748 => ((spec_DrawQuarter.f k l0).bind fun bt751 => ((impl_Quarter.f k bt751.1 bt751.2.1 bt751.2.2.1 bt751.2.2.2.1 bt751.2.2.2.2).bind fun t758 => ((spec_Quarter.f k bt751.1 bt751.2.1 bt751.2.2.1 bt751.2.2.2.1 bt751.2.2.2.2).bind fun t761 => ((laws_sameInts.f k t758 t761).bind fun t764 => (if t764 = true then ((spec_Block.f k bt732.1 bt732.2.1 bt732.2.2).bind fun t765 => ((impl_Same.f t739 t765).bind fun t768 => (laws_FnBlocks.j0 k t739 t742 t748 (!t768)))) else (laws_FnBlocks.j0 k t739 t742 t748 true))))))) else (none))))))
theorem laws_FnBlocks.mono_l : ∀ k, (∀ y0 y1 y2 y3, LeO (laws_FnBlocks.j0 k y0 y1 y2 y3) (laws_FnBlocks.j0 (k + 1) y0 y1 y2 y3))
 | 0 => fun _ _ _ _ r h => by simp [laws_FnBlocks.j0] at h
 | k + 1 => by
  have ih0 := laws_FnBlocks.mono_l k
  ·intro y0 y1 y2 y3
   unfold laws_FnBlocks.j0
   repeat' first
   | (with_reducible exact ih0 _ _ _ _)
   | (with_reducible exact impl_Block.mono _ _ _ _)
   | (with_reducible exact impl_Quarter.mono _ _ _ _ _ _)
   | (with_reducible exact impl_Stream.mono _ _ _ _ _)
   | (with_reducible exact laws_sameInts.mono _ _ _)
   | (with_reducible exact spec_Block.mono _ _ _ _)
   | (with_reducible exact spec_DrawBlock.mono _ _)
   | (with_reducible exact spec_DrawQuarter.mono _ _)
   | (with_reducible exact spec_Quarter.mono _ _ _ _ _ _)
   | (with_reducible exact zcc _)
   | (with_reducible exact zcg _)
   | (with_reducible refine zcr ?_ ?_)
   | (with_reducible refine zcd ?_ (fun _ => ?_))
   | exact ih0 _ _ _ _
theorem laws_FnBlocks.mono : ∀ a0 k, LeO (laws_FnBlocks.f k a0) (laws_FnBlocks.f (k + 1) a0) := by
 intro a0 k
 have ih0 := laws_FnBlocks.mono_l k
 unfold laws_FnBlocks.f
 repeat' first
   | (with_reducible exact ih0 _ _ _ _)
   | (with_reducible exact impl_Block.mono _ _ _ _)
   | (with_reducible exact impl_Quarter.mono _ _ _ _ _ _)
   | (with_reducible exact impl_Stream.mono _ _ _ _ _)
   | (with_reducible exact laws_sameInts.mono _ _ _)
   | (with_reducible exact spec_Block.mono _ _ _ _)
   | (with_reducible exact spec_DrawBlock.mono _ _)
   | (with_reducible exact spec_DrawQuarter.mono _ _)
   | (with_reducible exact spec_Quarter.mono _ _ _ _ _ _)
   | (with_reducible exact zcc _)
   | (with_reducible exact zcg _)
   | (with_reducible refine zcr ?_ ?_)
   | (with_reducible refine zcd ?_ (fun _ => ?_))
   | exact ih0 _ _ _ _
def laws_FnBlocks.T13 : Bool × List (List Nat × List Nat) := (true, [([], []), ([], []), ([], []), ([1, 2], [1, 2]), ([], []), ([4], [4]), ([3, 5, 3], [3, 5]), ([0, 6, 6], [0, 6]), ([7, 7, 0, 1, 2, 3, 4, 5, 6, 7], [7])])
def laws_FnBlocks.B13 : List Nat := [0, 0, 0, 6, 0, 16, 62, 127, 255]
theorem laws_FnBlocks.tab13 : rtab .any (opsOf Try.f7 13) = laws_FnBlocks.T13 := by kernel_rfl
theorem laws_FnBlocks.bits13 : waitsOk laws_FnBlocks.T13.2 laws_FnBlocks.B13 = true := by kernel_rfl
set_option maxHeartbeats 8000000 in
set_option maxRecDepth 100000 in
theorem laws_FnBlocks.calls (k : Nat) (A0 : Option Addr) (c0 : Nat) (l0 : List Int) (r : Bool) (w : World) (hr0 : Kd.C (Kd.int .u8) w A0 l0.length l0) (hc0 : l0.length ≤ c0) (h : laws_FnBlocks.f k l0 = some r) :
  Calls Try.prog 7 #[.slice A0 l0.length c0] w fun e w' => e = .returned (.bool r) ∧ Below w.heap.size w w' := by
 have HR0 := Aside0.mk hr0
 have HC0 := Aside0.mk hc0
 clear hr0 hc0
 have HB := Aside0.mk (zbx w.heap.size w)
 have H : ((laws_big.f l0).bind fun t731 => (if t731 = true then (some true) else ((spec_DrawBlock.f k l0).bind fun bt732 => ((impl_Block.f k bt732.1 bt732.2.1 bt732.2.2).bind fun t739 => ((impl_Block.f k bt732.1 (wrap64 (bt732.2.1 + 1)) bt732.2.2).bind fun t742 => (if 100 ≤ 281474976710656 then ((impl_Stream.f k bt732.1 bt732.2.1 bt732.2.2 (List.replicate 100 0)).bind fun t748 => ((spec_DrawQuarter.f k l0).bind fun bt751 => ((impl_Quarter.f k bt751.1 bt751.2.1 bt751.2.2.1 bt751.2.2.2.1 bt751.2.2.2.2).bind fun t758 => ((spec_Quarter.f k bt751.1 bt751.2.1 bt751.2.2.1 bt751.2.2.2.1 bt751.2.2.2.2).bind fun t761 => ((laws_sameInts.f k t758 t761).bind fun t764 => (if t764 = true then ((spec_Block.f k bt732.1 bt732.2.1 bt732.2.2).bind fun t765 => ((impl_Same.f t739 t765).bind fun t768 => (laws_FnBlocks.j0 k t739 t742 t748 (!t768)))) else (laws_FnBlocks.j0 k t739 t742 t748 true))))))) else (none))))))) = some r := h
 clear h
 replace H := zam.mp H
 obtain ⟨t731, A20, H⟩ := H
 try dsimp only at H
 have A2 := Aside0.mk A20
 clear A20
 by_cases c3 : t731 = true
 ·subst c3
  have H1 : (some true) = some r := by rw [if_pos rfl] at H; exact H
  clear H
  have H := H1
  clear H1
  obtain rfl := Option.some.inj H
  go_enter Try.func7, Try.ntmps7
  go_wp2_with (first | ((with_reducible refine zau (f := 28) rfl ?_); refine goesL_ (some 16) rfl rfl Try.func28 (by kernel_rfl) rfl #[.slice A0 l0.length c0] rfl (by (try simp only [zal, zaq, zar]); first | done | rfl) ?_; (with_reducible refine (laws_big.calls _ _ l0 true _ ?side1 ?side2 A2.out).mono ?_); (case side1 => repeat (first | exact HR0.out | (with_reducible first | apply zas | apply zat | apply zaw))); (case side2 => exact HC0.out); rintro e w' ⟨rfl, ⟨nd, rfl⟩⟩; refine ⟨_, rfl, ?_⟩))
  go_ret
  exact ⟨by first | rfl | (simp [zbj, zbk] <;> rfl) | (simp [*, zbj, zbk] <;> rfl), by repeat (first | (with_reducible first | exact HB.out | apply zaj | apply zad | apply zai) | exact HB.out)⟩
 ·replace c3 := zbu.mpr c3
  subst c3
  have H1 : ((spec_DrawBlock.f k l0).bind fun bt732 => ((impl_Block.f k bt732.1 bt732.2.1 bt732.2.2).bind fun t739 => ((impl_Block.f k bt732.1 (wrap64 (bt732.2.1 + 1)) bt732.2.2).bind fun t742 => (if 100 ≤ 281474976710656 then ((impl_Stream.f k bt732.1 bt732.2.1 bt732.2.2 (List.replicate 100 0)).bind fun t748 => ((spec_DrawQuarter.f k l0).bind fun bt751 => ((impl_Quarter.f k bt751.1 bt751.2.1 bt751.2.2.1 bt751.2.2.2.1 bt751.2.2.2.2).bind fun t758 => ((spec_Quarter.f k bt751.1 bt751.2.1 bt751.2.2.1 bt751.2.2.2.1 bt751.2.2.2.2).bind fun t761 => ((laws_sameInts.f k t758 t761).bind fun t764 => (if t764 = true then ((spec_Block.f k bt732.1 bt732.2.1 bt732.2.2).bind fun t765 => ((impl_Same.f t739 t765).bind fun t768 => (laws_FnBlocks.j0 k t739 t742 t748 (!t768)))) else (laws_FnBlocks.j0 k t739 t742 t748 true))))))) else (none))))) = some r := by rw [if_neg (show ¬ (false = true) by decide)] at H; exact H
  clear H
  have H := H1
  clear H1
  replace H := zam.mp H
  obtain ⟨⟨t732, t733, t734⟩, A40, H⟩ := H
  try dsimp only at H
  have A4 := Aside0.mk A40
  clear A40
  replace H := zam.mp H
  obtain ⟨t739, A50, H⟩ := H
  try dsimp only at H
  have A5 := Aside0.mk A50
  clear A50
  replace H := zam.mp H
  obtain ⟨t742, A60, H⟩ := H
  try dsimp only at H
  have A6 := Aside0.mk A60
  clear A60
  by_cases c7 : 100 ≤ 281474976710656
  ·rw [if_pos c7] at H
   have c7b0 := zbn c7
   have c7b1 : decide (100 ≤ 281474976710656) = true := zax c7
   clear c7
   obtain ⟨y745, hy745⟩ : ∃ y_ : List Int, y_ = (List.replicate 100 0) := ⟨_, rfl⟩
   replace H : ((impl_Stream.f k t732 t733 t734 y745).bind fun t748 => ((spec_DrawQuarter.f k l0).bind fun bt751 => ((impl_Quarter.f k bt751.1 bt751.2.1 bt751.2.2.1 bt751.2.2.2.1 bt751.2.2.2.2).bind fun t758 => ((spec_Quarter.f k bt751.1 bt751.2.1 bt751.2.2.1 bt751.2.2.2.1 bt751.2.2.2.2).bind fun t761 => ((laws_sameInts.f k t758 t761).bind fun t764 => (if t764 = true then ((spec_Block.f k t732 t733 t734).bind fun t765 => ((impl_Same.f t739 t765).bind fun t768 => (laws_FnBlocks.j0 k t739 t742 t748 (!t768)))) else (laws_FnBlocks.j0 k t739 t742 t748 true))))))) = some r := by first | (rw [hy745]; with_reducible first | exact H | exact bind_ofs H) | (with_reducible first | exact H | exact bind_ofs H) | (rw [hy745]; exact H) | exact H
   have Ny745 := Aside0.mk hy745
   clear hy745
   replace H := zam.mp H
   obtain ⟨t748, A80, H⟩ := H
   try dsimp only at H
   have A8 := Aside0.mk A80
   clear A80
   replace H := zam.mp H
   obtain ⟨⟨t751, t752, t753, t754, t755⟩, A90, H⟩ := H
   try dsimp only at H
   have A9 := Aside0.mk A90
   clear A90
   have HC10 := Aside0.mk H
   clear H
   go_enter Try.func7, Try.ntmps7
   go_upto_region 9 with (first | ((with_reducible refine zau (f := 28) rfl ?_); refine goesL_ (some 16) rfl rfl Try.func28 (by kernel_rfl) rfl #[.slice A0 l0.length c0] rfl (by (try simp only [zal, zaq, zar]); first | done | rfl) ?_; (with_reducible refine (laws_big.calls _ _ l0 false _ ?side1 ?side2 A2.out).mono ?_); (case side1 => repeat (first | exact HR0.out | (with_reducible first | apply zas | apply zat | apply zaw))); (case side2 => exact HC0.out); rintro e w' ⟨rfl, ⟨nd, rfl⟩⟩; refine ⟨_, rfl, ?_⟩) | ((with_reducible refine zau (f := 29) rfl ?_); refine goesL_ (some 19) rfl rfl Try.func29 (by kernel_rfl) rfl #[.slice A0 l0.length c0] rfl (by (try simp only [zal, zaq, zar]); first | done | rfl) ?_; (with_reducible refine (spec_DrawBlock.calls k _ _ l0 t732 t733 t734 _ ?side1 ?side2 A4.out).mono ?_); (case side1 => repeat (first | exact HR0.out | (with_reducible first | apply zas | apply zat | apply zaw))); (case side2 => exact HC0.out); rintro e w11 ⟨v735, v737, rfl, ho0, ho1, hb⟩; refine ⟨_, rfl, ?_⟩; have xb_ := below_ofs (by repeat (first | (with_reducible first | exact HB.out | apply zaj | apply zad | apply zai) | exact HB.out)) hb; have n0_ := Aside0.mk (zbc ho0 (zba xb_)); have n1_ := Aside0.mk (zbc ho1 (zba xb_)); have n2_ := Aside0.mk (zbb xb_ hb); clear HB; have HO736 := n0_; have HO738 := n1_; have HB := n2_; clear n0_ n1_ n2_; clear xb_ hb ho0; (try clear ho1); obtain ⟨Ao12, co12, eo12⟩ := zbe HO736.out; subst eo12; obtain ⟨Ao13, co13, eo13⟩ := zbe HO738.out; subst eo13) | ((with_reducible refine zau (f := 24) rfl ?_); refine goesL_ (some 26) rfl rfl Try.func24 (by kernel_rfl) rfl #[.slice Ao12 t732.length co12, .int .i64 t733, .slice Ao13 t734.length co13] rfl (by (try simp only [zal, zaq, zar]); first | done | rfl) ?_; (with_reducible refine (impl_Block.calls k _ _ t732 t733 _ _ t734 t739 _ ?side1 ?side2 ?side3 ?side4 A5.out).mono ?_); (case side1 => repeat (first | exact (zaf HO736.out).2.2 | (with_reducible first | apply zas | apply zat | apply zaw))); (case side2 => exact (zaf HO736.out).2.1); (case side3 => repeat (first | exact (zaf HO738.out).2.2 | (with_reducible first | apply zas | apply zat | apply zaw))); (case side4 => exact (zaf HO738.out).2.1); rintro e w14 ⟨v740, rfl, ho0, hb⟩; refine ⟨_, rfl, ?_⟩; have xb_ := below_ofs (by repeat (first | (with_reducible first | exact HB.out | apply zaj | apply zad | apply zai) | exact HB.out)) hb; have qHO736 := Kd.R_ofs (by (with_reducible repeat (first | apply zab | apply zac | apply zae)); exact HO736.out) hb; have n0_ := Aside0.mk (zak qHO736 (zan ho0) hb); have qHO738 := Kd.R_ofs (by (with_reducible repeat (first | apply zab | apply zac | apply zae)); exact HO738.out) hb; have n1_ := Aside0.mk (zak qHO738 (zan ho0) hb); have n2_ := Aside0.mk (zbc (zao (zao ho0 (zav qHO736)) (zav qHO738)) (zba xb_)); have n3_ := Aside0.mk (zbb xb_ hb); clear qHO736 HO736; clear qHO738 HO738; clear HB; have HO736 := n0_; have HO738 := n1_; have HO741 := n2_; have HB := n3_; clear n0_ n1_ n2_ n3_; clear xb_ hb ho0) | ((with_reducible refine zau (f := 24) rfl ?_); refine goesL_ (some 31) rfl rfl Try.func24 (by kernel_rfl) rfl #[.slice Ao12 t732.length co12, .int .i64 (wrap64 (t733 + 1)), .slice Ao13 t734.length co13] rfl (by (try simp only [zal, zaq, zar]); first | done | rfl) ?_; (with_reducible refine (impl_Block.calls k _ _ t732 (wrap64 (t733 + 1)) _ _ t734 t742 _ ?side1 ?side2 ?side3 ?side4 A6.out).mono ?_); (case side1 => repeat (first | exact (zaf HO736.out).2.2 | (with_reducible first | apply zas | apply zat | apply zaw))); (case side2 => exact (zaf HO736.out).2.1); (case side3 => repeat (first | exact (zaf HO738.out).2.2 | (with_reducible first | apply zas | apply zat | apply zaw))); (case side4 => exact (zaf HO738.out).2.1); rintro e w15 ⟨v743, rfl, ho0, hb⟩; refine ⟨_, rfl, ?_⟩; have xb_ := below_ofs (by repeat (first | (with_reducible first | exact HB.out | apply zaj | apply zad | apply zai) | exact HB.out)) hb; have qHO736 := Kd.R_ofs (by (with_reducible repeat (first | apply zab | apply zac | apply zae)); exact HO736.out) hb; have n0_ := Aside0.mk (zak qHO736 (zan ho0) hb); have qHO738 := Kd.R_ofs (by (with_reducible repeat (first | apply zab | apply zac | apply zae)); exact HO738.out) hb; have n1_ := Aside0.mk (zak qHO738 (zan ho0) hb); have qHO741 := Kd.R_ofs (by (with_reducible repeat (first | apply zab | apply zac | apply zae)); exact HO741.out) hb; have n2_ := Aside0.mk (zak qHO741 (zan ho0) hb); have n3_ := Aside0.mk (zbc (zao (zao (zao ho0 (zav qHO736)) (zav qHO738)) (zav qHO741)) (zba xb_)); have n4_ := Aside0.mk (zbb xb_ hb); clear qHO736 HO736; clear qHO738 HO738; clear qHO741 HO741; clear HB; have HO736 := n0_; have HO738 := n1_; have HO741 := n2_; have HO744 := n3_; have HB := n4_; clear n0_ n1_ n2_ n3_ n4_; clear xb_ hb ho0) | ((with_reducible refine zds (N := 32) rfl ?_); (try (refine gate_guard (by rfl) ?_; dsimp only)); refine Kd.R_make (Kd.int .u8) _ 5 rfl (N := 32) rfl 22 _ _ rfl 100 rfl rfl Try.underlying22 (.int .u8 0) 1 info5 rfl (by decide) (by omega) 0 (ok := fun _ => True) (okp := fun _ => True) rfl (fun _ hk => hk) trivial (by omega) (by omega) (zbx _ _) (zbp _) ?_; intro v746 w16 ho17 hb hg_ hnew_; have xb_ := below_ofs (by repeat (first | (with_reducible first | exact HB.out | apply zaj | apply zad | apply zai) | exact HB.out)) hb; clear hg_ hnew_; (first | rw [← Ny745.out] at ho17 | (simp only [Int.reduceToNat] at ho17; rw [← Ny745.out] at ho17)); have qHO736 := Kd.R_ofs (by (with_reducible repeat (first | apply zab | apply zac | apply zae)); exact HO736.out) hb; have n0_ := Aside0.mk (zak qHO736 (zan ho17) hb); have qHO738 := Kd.R_ofs (by (with_reducible repeat (first | apply zab | apply zac | apply zae)); exact HO738.out) hb; have n1_ := Aside0.mk (zak qHO738 (zan ho17) hb); have qHO741 := Kd.R_ofs (by (with_reducible repeat (first | apply zab | apply zac | apply zae)); exact HO741.out) hb; have n2_ := Aside0.mk (zak qHO741 (zan ho17) hb); have qHO744 := Kd.R_ofs (by (with_reducible repeat (first | apply zab | apply zac | apply zae)); exact HO744.out) hb; have n3_ := Aside0.mk (zak qHO744 (zan ho17) hb); have n4_ := Aside0.mk (zbc (zao (zao (zao (zao ho17 (zav qHO736)) (zav qHO738)) (zav qHO741)) (zav qHO744)) (zba xb_)); have n5_ := Aside0.mk (zbb xb_ hb); clear qHO736 HO736; clear qHO738 HO738; clear qHO741 HO741; clear qHO744 HO744; clear HB; have HO736 := n0_; have HO738 := n1_; have HO741 := n2_; have HO744 := n3_; have HO747 := n4_; have HB := n5_; clear n0_ n1_ n2_ n3_ n4_ n5_; clear xb_ hb ho17; obtain ⟨Ao18, co18, eo18⟩ := zbe HO747.out; subst eo18) | ((with_reducible refine zau (f := 27) rfl ?_); refine goesL_ (some 37) rfl rfl Try.func27 (by kernel_rfl) rfl #[.slice Ao12 t732.length co12, .int .i64 t733, .slice Ao13 t734.length co13, .slice Ao18 y745.length co18] rfl (by (try simp only [zal, zaq, zar]); first | done | rfl) ?_; (with_reducible refine (impl_Stream.calls k _ _ t732 t733 _ _ t734 _ _ y745 t748 _ ?side1 ?side2 ?side3 ?side4 ?side5 ?side6 A8.out).mono ?_); (case side1 => repeat (first | exact (zaf HO736.out).2.2 | (with_reducible first | apply zas | apply zat | apply zaw))); (case side2 => exact (zaf HO736.out).2.1); (case side3 => repeat (first | exact (zaf HO738.out).2.2 | (with_reducible first | apply zas | apply zat | apply zaw))); (case side4 => exact (zaf HO738.out).2.1); (case side5 => repeat (first | exact (zaf HO747.out).2.2 | (with_reducible first | apply zas | apply zat | apply zaw))); (case side6 => exact (zaf HO747.out).2.1); rintro e w19 ⟨v749, rfl, ho0, hb⟩; refine ⟨_, rfl, ?_⟩; have xb_ := below_ofs (by repeat (first | (with_reducible first | exact HB.out | apply zaj | apply zad | apply zai) | exact HB.out)) hb; have qHO736 := Kd.R_ofs (by (with_reducible repeat (first | apply zab | apply zac | apply zae)); exact HO736.out) hb; have n0_ := Aside0.mk (zak qHO736 (zan ho0) hb); have qHO738 := Kd.R_ofs (by (with_reducible repeat (first | apply zab | apply zac | apply zae)); exact HO738.out) hb; have n1_ := Aside0.mk (zak qHO738 (zan ho0) hb); have qHO741 := Kd.R_ofs (by (with_reducible repeat (first | apply zab | apply zac | apply zae)); exact HO741.out) hb; have n2_ := Aside0.mk (zak qHO741 (zan ho0) hb); have qHO744 := Kd.R_ofs (by (with_reducible repeat (first | apply zab | apply zac | apply zae)); exact HO744.out) hb; have n3_ := Aside0.mk (zak qHO744 (zan ho0) hb); have qHO747 := Kd.R_ofs (by (with_reducible repeat (first | apply zab | apply zac | apply zae)); exact HO747.out) hb; have n4_ := Aside0.mk (zak qHO747 (zan ho0) hb); have n5_ := Aside0.mk (zbc (zao (zao (zao (zao (zao ho0 (zav qHO736)) (zav qHO738)) (zav qHO741)) (zav qHO744)) (zav qHO747)) (zba xb_)); have n6_ := Aside0.mk (zbb xb_ hb); clear qHO736 HO736; clear qHO738 HO738; clear qHO741 HO741; clear qHO744 HO744; clear qHO747 HO747; clear HB; have HO736 := n0_; have HO738 := n1_; have HO741 := n2_; have HO744 := n3_; have HO747 := n4_; have HO750 := n5_; have HB := n6_; clear n0_ n1_ n2_ n3_ n4_ n5_ n6_; clear xb_ hb ho0) | ((with_reducible refine zau (f := 30) rfl ?_); refine goesL_ (some 40) rfl rfl Try.func30 (by kernel_rfl) rfl #[.slice A0 l0.length c0] rfl (by (try simp only [zal, zaq, zar]); first | done | rfl) ?_; (with_reducible refine (spec_DrawQuarter.calls k _ _ l0 t751 t752 t753 t754 t755 _ ?side1 ?side2 A9.out).mono ?_); (case side1 => repeat (first | exact (zbr HR0.out HB.out) | (with_reducible first | apply zas | apply zat | apply zaw))); (case side2 => exact HC0.out); rintro e w20 ⟨v756, rfl, ho0, hb⟩; refine ⟨_, rfl, ?_⟩; have xb_ := below_ofs (by repeat (first | (with_reducible first | exact HB.out | apply zaj | apply zad | apply zai) | exact HB.out)) hb; have n0_ := Aside0.mk (zcz (by (with_reducible repeat (first | apply zab | apply zac | apply zae)); exact HO736.out) hb); have n1_ := Aside0.mk (zcz (by (with_reducible repeat (first | apply zab | apply zac | apply zae)); exact HO738.out) hb); have n2_ := Aside0.mk (zcz (by (with_reducible repeat (first | apply zab | apply zac | apply zae)); exact HO741.out) hb); have n3_ := Aside0.mk (zcz (by (with_reducible repeat (first | apply zab | apply zac | apply zae)); exact HO744.out) hb); have n4_ := Aside0.mk (zcz (by (with_reducible repeat (first | apply zab | apply zac | apply zae)); exact HO747.out) hb); have n5_ := Aside0.mk (zcz (by (with_reducible repeat (first | apply zab | apply zac | apply zae)); exact HO750.out) hb); have n6_ := Aside0.mk (zbc ho0 (zba xb_)); have n7_ := Aside0.mk (zbb xb_ hb); clear HO736 HO738 HO741 HO744 HO747 HO750 HB; have HO736 := n0_; have HO738 := n1_; have HO741 := n2_; have HO744 := n3_; have HO747 := n4_; have HO750 := n5_; have HO757 := n6_; have HB := n7_; clear n0_ n1_ n2_ n3_ n4_ n5_ n6_ n7_; clear xb_ hb ho0))
   (try simp only [Act.put, zaa, zag, zah])
   go_cut [68] (fun v68 wc => ∃ (kq : Nat) (x68_9 : Bool), v68 = .bool x68_9 ∧ Aside0 (laws_FnBlocks.j0 kq t739 t742 t748 x68_9 = some r) ∧ Aside0 (kq ≤ k) ∧ Aside0 (Kd.R (Kd.int .u8) 5 wc w.heap.size (fun k_ => some k_ ≠ (v743 : Value).ownBlock ∧ some k_ ≠ (v749 : Value).ownBlock) v740 t739) ∧ Aside0 (Kd.R (Kd.int .u8) 5 wc w.heap.size (fun k_ => some k_ ≠ (v740 : Value).ownBlock ∧ some k_ ≠ (v749 : Value).ownBlock) v743 t742) ∧ Aside0 (Kd.R (Kd.int .u8) 5 wc w.heap.size (fun k_ => some k_ ≠ (v740 : Value).ownBlock ∧ some k_ ≠ (v743 : Value).ownBlock) v749 t748) ∧ Aside0 (Below w.heap.size w wc))
   case first =>
    have H := HC10.out
    clear HC10
    replace H := zam.mp H
    obtain ⟨t758, A210, H⟩ := H
    try dsimp only at H
    have A21 := Aside0.mk A210
    clear A210
    replace H := zam.mp H
    obtain ⟨t761, A220, H⟩ := H
    try dsimp only at H
    have A22 := Aside0.mk A220
    clear A220
    replace H := zam.mp H
    obtain ⟨t764, A230, H⟩ := H
    try dsimp only at H
    have A23 := Aside0.mk A230
    clear A230
    by_cases c24 : t764 = true
    ·subst c24
     have H1 : ((spec_Block.f k t732 t733 t734).bind fun t765 => ((impl_Same.f t739 t765).bind fun t768 => (laws_FnBlocks.j0 k t739 t742 t748 (!t768)))) = some r := by rw [if_pos rfl] at H; exact H
     clear H
     have H := H1
     clear H1
     replace H := zam.mp H
     obtain ⟨t765, A250, H⟩ := H
     try dsimp only at H
     have A25 := Aside0.mk A250
     clear A250
     replace H := zam.mp H
     obtain ⟨t768, A260, H⟩ := H
     try dsimp only at H
     have A26 := Aside0.mk A260
     clear A260
     have H' := Aside0.mk H
     clear H
     obtain ⟨Ao27, co27, eo27⟩ := zbe HO757.out
     subst eo27
     go_wp2_with (first | ((with_reducible refine zau (f := 19) rfl ?_); refine goesL_ (some 51) rfl rfl Try.func19 (by kernel_rfl) rfl #[.slice Ao27 t751.length co27, .int .i64 t752, .int .i64 t753, .int .i64 t754, .int .i64 t755] rfl (by (try simp only [zal, zaq, zar]); first | done | rfl) ?_; (with_reducible refine (impl_Quarter.calls k _ _ t751 t752 t753 t754 t755 t758 _ ?side1 ?side2 A21.out).mono ?_); (case side1 => repeat (first | exact (zaf HO757.out).2.2 | (with_reducible first | apply zas | apply zat | apply zaw))); (case side2 => exact (zaf HO757.out).2.1); rintro e w28 ⟨v759, rfl, ho0, hb⟩; refine ⟨_, rfl, ?_⟩; have xb_ := below_ofs (by repeat (first | (with_reducible first | exact HB.out | apply zaj | apply zad | apply zai) | exact HB.out)) hb; have n0_ := Aside0.mk (zcz (by (with_reducible repeat (first | apply zab | apply zac | apply zae)); exact HO736.out) hb); have n1_ := Aside0.mk (zcz (by (with_reducible repeat (first | apply zab | apply zac | apply zae)); exact HO738.out) hb); have n2_ := Aside0.mk (zcz (by (with_reducible repeat (first | apply zab | apply zac | apply zae)); exact HO741.out) hb); have n3_ := Aside0.mk (zcz (by (with_reducible repeat (first | apply zab | apply zac | apply zae)); exact HO744.out) hb); have n4_ := Aside0.mk (zcz (by (with_reducible repeat (first | apply zab | apply zac | apply zae)); exact HO747.out) hb); have n5_ := Aside0.mk (zcz (by (with_reducible repeat (first | apply zab | apply zac | apply zae)); exact HO750.out) hb); have qHO757 := Kd.R_ofs (by (with_reducible repeat (first | apply zab | apply zac | apply zae)); exact HO757.out) hb; have n6_ := Aside0.mk (zak qHO757 (zan ho0) hb); have n7_ := Aside0.mk (zbc (zao ho0 (zav qHO757)) (zba xb_)); have n8_ := Aside0.mk (zbb xb_ hb); clear qHO757 HO736; clear HO738 HO741 HO744 HO747 HO750 HO757 HB; have HO736 := n0_; have HO738 := n1_; have HO741 := n2_; have HO744 := n3_; have HO747 := n4_; have HO750 := n5_; have HO757 := n6_; have HO760 := n7_; have HB := n8_; clear n0_ n1_ n2_ n3_ n4_ n5_ n6_ n7_ n8_; clear xb_ hb ho0) | ((with_reducible refine zau (f := 17) rfl ?_); refine goesL_ (some 57) rfl rfl Try.func17 (by kernel_rfl) rfl #[.slice Ao27 t751.length co27, .int .i64 t752, .int .i64 t753, .int .i64 t754, .int .i64 t755] rfl (by (try simp only [zal, zaq, zar]); first | done | rfl) ?_; (with_reducible refine (spec_Quarter.calls k _ _ t751 t752 t753 t754 t755 t761 _ ?side1 ?side2 A22.out).mono ?_); (case side1 => repeat (first | exact (zaf HO757.out).2.2 | (with_reducible first | apply zas | apply zat | apply zaw))); (case side2 => exact (zaf HO757.out).2.1); rintro e w29 ⟨v762, rfl, ho0, hb⟩; refine ⟨_, rfl, ?_⟩; have xb_ := below_ofs (by repeat (first | (with_reducible first | exact HB.out | apply zaj | apply zad | apply zai) | exact HB.out)) hb; have n0_ := Aside0.mk (zcz (by (with_reducible repeat (first | apply zab | apply zac | apply zae)); exact HO736.out) hb); have n1_ := Aside0.mk (zcz (by (with_reducible repeat (first | apply zab | apply zac | apply zae)); exact HO738.out) hb); have n2_ := Aside0.mk (zcz (by (with_reducible repeat (first | apply zab | apply zac | apply zae)); exact HO741.out) hb); have n3_ := Aside0.mk (zcz (by (with_reducible repeat (first | apply zab | apply zac | apply zae)); exact HO744.out) hb); have n4_ := Aside0.mk (zcz (by (with_reducible repeat (first | apply zab | apply zac | apply zae)); exact HO747.out) hb); have n5_ := Aside0.mk (zcz (by (with_reducible repeat (first | apply zab | apply zac | apply zae)); exact HO750.out) hb); have qHO757 := Kd.R_ofs (by (with_reducible repeat (first | apply zab | apply zac | apply zae)); exact HO757.out) hb; have n6_ := Aside0.mk (zak qHO757 (zan ho0) hb); have qHO760 := Kd.R_ofs (by (with_reducible repeat (first | apply zab | apply zac | apply zae)); exact HO760.out) hb; have n7_ := Aside0.mk (zak qHO760 (zan ho0) hb); have n8_ := Aside0.mk (zbc (zao (zao ho0 (zav qHO757)) (zav qHO760)) (zba xb_)); have n9_ := Aside0.mk (zbb xb_ hb); clear qHO757 HO736; clear qHO760 HO738; clear HO741 HO744 HO747 HO750 HO757 HO760 HB; have HO736 := n0_; have HO738 := n1_; have HO741 := n2_; have HO744 := n3_; have HO747 := n4_; have HO750 := n5_; have HO757 := n6_; have HO760 := n7_; have HO763 := n8_; have HB := n9_; clear n0_ n1_ n2_ n3_ n4_ n5_ n6_ n7_ n8_ n9_; clear xb_ hb ho0; obtain ⟨Ao30, co30, eo30⟩ := zbe HO760.out; subst eo30; obtain ⟨Ao31, co31, eo31⟩ := zbe HO763.out; subst eo31) | ((with_reducible refine zau (f := 31) rfl ?_); refine goesL_ (some 58) rfl rfl Try.func31 (by kernel_rfl) rfl #[.slice Ao30 t758.length co30, .slice Ao31 t761.length co31] rfl (by (try simp only [zal, zaq, zar]); first | done | rfl) ?_; (with_reducible refine (laws_sameInts.calls k _ _ t758 _ _ t761 true _ ?side1 ?side2 ?side3 ?side4 A23.out).mono ?_); (case side1 => repeat (first | exact (zaf HO760.out).2.2 | (with_reducible first | apply zas | apply zat | apply zaw))); (case side2 => exact (zaf HO760.out).2.1); (case side3 => repeat (first | exact (zaf HO763.out).2.2 | (with_reducible first | apply zas | apply zat | apply zaw))); (case side4 => exact (zaf HO763.out).2.1); rintro e w' ⟨rfl, ⟨nd, rfl⟩⟩; refine ⟨_, rfl, ?_⟩) | (go_at_call 23; (with_reducible refine (spec_Block.calls k _ _ t732 t733 _ _ t734 t765 _ ?side1 ?side2 ?side3 ?side4 A25.out).mono ?_); (case side1 => repeat (first | exact (zaf HO736.out).2.2 | (with_reducible first | apply zas | apply zat | apply zaw))); (case side2 => exact (zaf HO736.out).2.1); (case side3 => repeat (first | exact (zaf HO738.out).2.2 | (with_reducible first | apply zas | apply zat | apply zaw))); (case side4 => exact (zaf HO738.out).2.1); rintro e w32 ⟨v766, rfl, ho0, hb⟩; have xb_ := below_ofs (by repeat (first | (with_reducible first | exact HB.out | apply zaj | apply zad | apply zai) | exact HB.out)) hb; have qHO736 := Kd.R_ofs (by (with_reducible repeat (first | apply zab | apply zac | apply zae)); exact HO736.out) hb; have n0_ := Aside0.mk (zak qHO736 (zan ho0) hb); have qHO738 := Kd.R_ofs (by (with_reducible repeat (first | apply zab | apply zac | apply zae)); exact HO738.out) hb; have n1_ := Aside0.mk (zak qHO738 (zan ho0) hb); have qHO741 := Kd.R_ofs (by (with_reducible repeat (first | apply zab | apply zac | apply zae)); exact HO741.out) hb; have n2_ := Aside0.mk (zak qHO741 (zan ho0) hb); have qHO744 := Kd.R_ofs (by (with_reducible repeat (first | apply zab | apply zac | apply zae)); exact HO744.out) hb; have n3_ := Aside0.mk (zak qHO744 (zan ho0) hb); have qHO747 := Kd.R_ofs (by (with_reducible repeat (first | apply zab | apply zac | apply zae)); exact HO747.out) hb; have n4_ := Aside0.mk (zak qHO747 (zan ho0) hb); have qHO750 := Kd.R_ofs (by (with_reducible repeat (first | apply zab | apply zac | apply zae)); exact HO750.out) hb; have n5_ := Aside0.mk (zak qHO750 (zan ho0) hb); have n6_ := Aside0.mk (zcz (by (with_reducible repeat (first | apply zab | apply zac | apply zae)); exact HO757.out) hb); have n7_ := Aside0.mk (zcz (by (with_reducible repeat (first | apply zab | apply zac | apply zae)); exact HO760.out) hb); have n8_ := Aside0.mk (zcz (by (with_reducible repeat (first | apply zab | apply zac | apply zae)); exact HO763.out) hb); have n9_ := Aside0.mk (zbc (zao (zao (zao (zao (zao (zao ho0 (zav qHO736)) (zav qHO738)) (zav qHO741)) (zav qHO744)) (zav qHO747)) (zav qHO750)) (zba xb_)); have n10_ := Aside0.mk (zbb xb_ hb); clear qHO736 HO736; clear qHO738 HO738; clear qHO741 HO741; clear qHO744 HO744; clear qHO747 HO747; clear qHO750 HO750; clear HO757 HO760 HO763 HB; have HO736 := n0_; have HO738 := n1_; have HO741 := n2_; have HO744 := n3_; have HO747 := n4_; have HO750 := n5_; have HO757 := n6_; have HO760 := n7_; have HO763 := n8_; have HO767 := n9_; have HB := n10_; clear n0_ n1_ n2_ n3_ n4_ n5_ n6_ n7_ n8_ n9_ n10_; clear xb_ hb ho0; obtain ⟨Ao33, co33, eo33⟩ := zbe HO741.out; subst eo33; obtain ⟨Ao34, co34, eo34⟩ := zbe HO767.out; subst eo34) | (go_at_call 32; (with_reducible refine (impl_Same.calls _ _ t739 _ _ t765 t768 _ ?side1 ?side2 ?side3 ?side4 A26.out).mono ?_); (case side1 => repeat (first | exact (zaf HO741.out).2.2 | (with_reducible first | apply zas | apply zat | apply zaw))); (case side2 => exact (zaf HO741.out).2.1); (case side3 => repeat (first | exact (zaf HO767.out).2.2 | (with_reducible first | apply zas | apply zat | apply zaw))); (case side4 => exact (zaf HO767.out).2.1); rintro e w' ⟨rfl, ⟨nd, rfl⟩⟩))
     go_meet
     case rel => exact ⟨_, (!t768), (by first | rfl | (simp; done) | (simp [*]; done)), H', ⟨by first | omega | exact zbp _⟩, ⟨by (with_reducible repeat (first | apply zab | apply zac | apply zae)); exact zbm HO741.out (fun _ hk => ⟨hk.1.1.1.2, hk.1.2⟩)⟩, ⟨by (with_reducible repeat (first | apply zab | apply zac | apply zae)); exact zbm HO744.out (fun _ hk => ⟨hk.1.1.1.2, hk.1.2⟩)⟩, ⟨by (with_reducible repeat (first | apply zab | apply zac | apply zae)); exact zbm HO750.out (fun _ hk => ⟨hk.1.1.1.2, hk.1.1.2⟩)⟩, ⟨by repeat (first | (with_reducible first | exact HB.out | apply zaj | apply zad | apply zai) | exact HB.out)⟩⟩
    ·replace c24 := zbu.mpr c24
     subst c24
     have H1 : (laws_FnBlocks.j0 k t739 t742 t748 true) = some r := by rw [if_neg (show ¬ (false = true) by decide)] at H; exact H
     clear H
     have H := H1
     clear H1
     have H' := Aside0.mk H
     clear H
     obtain ⟨Ao35, co35, eo35⟩ := zbe HO757.out
     subst eo35
     go_wp2_with (first | ((with_reducible refine zau (f := 19) rfl ?_); refine goesL_ (some 51) rfl rfl Try.func19 (by kernel_rfl) rfl #[.slice Ao35 t751.length co35, .int .i64 t752, .int .i64 t753, .int .i64 t754, .int .i64 t755] rfl (by (try simp only [zal, zaq, zar]); first | done | rfl) ?_; (with_reducible refine (impl_Quarter.calls k _ _ t751 t752 t753 t754 t755 t758 _ ?side1 ?side2 A21.out).mono ?_); (case side1 => repeat (first | exact (zaf HO757.out).2.2 | (with_reducible first | apply zas | apply zat | apply zaw))); (case side2 => exact (zaf HO757.out).2.1); rintro e w36 ⟨v759, rfl, ho0, hb⟩; refine ⟨_, rfl, ?_⟩; have xb_ := below_ofs (by repeat (first | (with_reducible first | exact HB.out | apply zaj | apply zad | apply zai) | exact HB.out)) hb; have n0_ := Aside0.mk (zcz (by (with_reducible repeat (first | apply zab | apply zac | apply zae)); exact HO736.out) hb); have n1_ := Aside0.mk (zcz (by (with_reducible repeat (first | apply zab | apply zac | apply zae)); exact HO738.out) hb); have n2_ := Aside0.mk (zcz (by (with_reducible repeat (first | apply zab | apply zac | apply zae)); exact HO741.out) hb); have n3_ := Aside0.mk (zcz (by (with_reducible repeat (first | apply zab | apply zac | apply zae)); exact HO744.out) hb); have n4_ := Aside0.mk (zcz (by (with_reducible repeat (first | apply zab | apply zac | apply zae)); exact HO747.out) hb); have n5_ := Aside0.mk (zcz (by (with_reducible repeat (first | apply zab | apply zac | apply zae)); exact HO750.out) hb); have qHO757 := Kd.R_ofs (by (with_reducible repeat (first | apply zab | apply zac | apply zae)); exact HO757.out) hb; have n6_ := Aside0.mk (zak qHO757 (zan ho0) hb); have n7_ := Aside0.mk (zbc (zao ho0 (zav qHO757)) (zba xb_)); have n8_ := Aside0.mk (zbb xb_ hb); clear qHO757 HO736; clear HO738 HO741 HO744 HO747 HO750 HO757 HB; have HO736 := n0_; have HO738 := n1_; have HO741 := n2_; have HO744 := n3_; have HO747 := n4_; have HO750 := n5_; have HO757 := n6_; have HO760 := n7_; have HB := n8_; clear n0_ n1_ n2_ n3_ n4_ n5_ n6_ n7_ n8_; clear xb_ hb ho0) | ((with_reducible refine zau (f := 17) rfl ?_); refine goesL_ (some 57) rfl rfl Try.func17 (by kernel_rfl) rfl #[.slice Ao35 t751.length co35, .int .i64 t752, .int .i64 t753, .int .i64 t754, .int .i64 t755] rfl (by (try simp only [zal, zaq, zar]); first | done | rfl) ?_; (with_reducible refine (spec_Quarter.calls k _ _ t751 t752 t753 t754 t755 t761 _ ?side1 ?side2 A22.out).mono ?_); (case side1 => repeat (first | exact (zaf HO757.out).2.2 | (with_reducible first | apply zas | apply zat | apply zaw))); (case side2 => exact (zaf HO757.out).2.1); rintro e w37 ⟨v762, rfl, ho0, hb⟩; refine ⟨_, rfl, ?_⟩; have xb_ := below_ofs (by repeat (first | (with_reducible first | exact HB.out | apply zaj | apply zad | apply zai) | exact HB.out)) hb; have n0_ := Aside0.mk (zcz (by (with_reducible repeat (first | apply zab | apply zac | apply zae)); exact HO736.out) hb); have n1_ := Aside0.mk (zcz (by (with_reducible repeat (first | apply zab | apply zac | apply zae)); exact HO738.out) hb); have n2_ := Aside0.mk (zcz (by (with_reducible repeat (first | apply zab | apply zac | apply zae)); exact HO741.out) hb); have n3_ := Aside0.mk (zcz (by (with_reducible repeat (first | apply zab | apply zac | apply zae)); exact HO744.out) hb); have n4_ := Aside0.mk (zcz (by (with_reducible repeat (first | apply zab | apply zac | apply zae)); exact HO747.out) hb); have n5_ := Aside0.mk (zcz (by (with_reducible repeat (first | apply zab | apply zac | apply zae)); exact HO750.out) hb); have qHO757 := Kd.R_ofs (by (with_reducible repeat (first | apply zab | apply zac | apply zae)); exact HO757.out) hb; have n6_ := Aside0.mk (zak qHO757 (zan ho0) hb); have qHO760 := Kd.R_ofs (by (with_reducible repeat (first | apply zab | apply zac | apply zae)); exact HO760.out) hb; have n7_ := Aside0.mk (zak qHO760 (zan ho0) hb); have n8_ := Aside0.mk (zbc (zao (zao ho0 (zav qHO757)) (zav qHO760)) (zba xb_)); have n9_ := Aside0.mk (zbb xb_ hb); clear qHO757 HO736; clear qHO760 HO738; clear HO741 HO744 HO747 HO750 HO757 HO760 HB; have HO736 := n0_; have HO738 := n1_; have HO741 := n2_; have HO744 := n3_; have HO747 := n4_; have HO750 := n5_; have HO757 := n6_; have HO760 := n7_; have HO763 := n8_; have HB := n9_; clear n0_ n1_ n2_ n3_ n4_ n5_ n6_ n7_ n8_ n9_; clear xb_ hb ho0; obtain ⟨Ao38, co38, eo38⟩ := zbe HO760.out; subst eo38; obtain ⟨Ao39, co39, eo39⟩ := zbe HO763.out; subst eo39) | ((with_reducible refine zau (f := 31) rfl ?_); refine goesL_ (some 58) rfl rfl Try.func31 (by kernel_rfl) rfl #[.slice Ao38 t758.length co38, .slice Ao39 t761.length co39] rfl (by (try simp only [zal, zaq, zar]); first | done | rfl) ?_; (with_reducible refine (laws_sameInts.calls k _ _ t758 _ _ t761 false _ ?side1 ?side2 ?side3 ?side4 A23.out).mono ?_); (case side1 => repeat (first | exact (zaf HO760.out).2.2 | (with_reducible first | apply zas | apply zat | apply zaw))); (case side2 => exact (zaf HO760.out).2.1); (case side3 => repeat (first | exact (zaf HO763.out).2.2 | (with_reducible first | apply zas | apply zat | apply zaw))); (case side4 => exact (zaf HO763.out).2.1); rintro e w' ⟨rfl, ⟨nd, rfl⟩⟩; refine ⟨_, rfl, ?_⟩))
     go_meet
     case rel => exact ⟨_, (true), (by first | rfl | (simp; done) | (simp [*]; done)), H', ⟨by first | omega | exact zbp _⟩, ⟨by (with_reducible repeat (first | apply zab | apply zac | apply zae)); exact zbm HO741.out (fun _ hk => ⟨hk.1.1.2, hk.2⟩)⟩, ⟨by (with_reducible repeat (first | apply zab | apply zac | apply zae)); exact zbm HO744.out (fun _ hk => ⟨hk.1.1.2, hk.2⟩)⟩, ⟨by (with_reducible repeat (first | apply zab | apply zac | apply zae)); exact zbm HO750.out (fun _ hk => ⟨hk.1.1.2, hk.1.2⟩)⟩, ⟨by repeat (first | (with_reducible first | exact HB.out | apply zaj | apply zad | apply zai) | exact HB.out)⟩⟩
   case rest =>
    clear HC10
    try clear c1
    try clear c2
    try clear p2
    try clear c3
    try clear p6
    try clear c7
    try clear c7b0
    try clear c7b1
    try clear c17
    try clear c19
    try clear c24
    try clear c27
    try clear c28
    try clear c29
    try clear c30
    try clear c31
    obtain ⟨kq, x68_9, rfl, HA, HJ9, HO_6, HO_7, HO_9, HB⟩ := hcut
    cases kq with
    | zero => exact absurd HA.out (by simp [laws_FnBlocks.j0])
    | succ kj9 =>
     have H := HA.out
     clear HA
     simp only [laws_FnBlocks.j0] at H
     by_cases c40 : x68_9 = true
     ·subst c40
      have H1 : (some false) = some r := by rw [if_pos rfl] at H; exact H
      clear H
      have H := H1
      clear H1
      obtain rfl := Option.some.inj H
      go_wp2
      go_ret
      exact ⟨by first | rfl | (simp [zbj, zbk] <;> rfl) | (simp [*, zbj, zbk] <;> rfl), by repeat (first | (with_reducible first | exact HB.out | apply zaj | apply zad | apply zai) | exact HB.out)⟩
     ·replace c40 := zbu.mpr c40
      subst c40
      have H1 : (if (t739.length : Int) = 0 then (some ((t748.length : Int) == 0)) else (if (t742.length : Int) = 0 then (some ((t748.length : Int) == 0)) else ((some (([] : List Int) : List Int)).bind fun y769 => (if y769.length + t739.length < 140737488355328 then ((some (y769 ++ t739 : List Int)).bind fun y772 => (if 36 ≤ (t742.length : Int) then ((some (t742.take 36 : List Int)).bind fun y775 => (if y772.length + y775.length < 140737488355328 then ((impl_Same.f t748 (y772 ++ y775)).bind fun t782 => (some t782)) else (none))) else (none))) else (none))))) = some r := by rw [if_neg (show ¬ (false = true) by decide)] at H; exact H
      clear H
      have H := H1
      clear H1
      by_cases c41 : (t739.length : Int) = 0
      ·rw [if_pos c41] at H
       have c41b0 : ((t739.length : Int) == 0) = true := zdn.mpr c41
       have c41b1 : ((t739.length : Int) != 0) = false := zbv.mpr c41
       clear c41
       obtain rfl := Option.some.inj H
       obtain ⟨Ao42, co42, eo42⟩ := zbe HO_6.out
       subst eo42
       obtain ⟨Ao43, co43, eo43⟩ := zbe HO_9.out
       subst eo43
       go_wp2
       go_ret
       exact ⟨by first | rfl | (simp [zbj, zbk] <;> rfl) | (simp [*, zbj, zbk] <;> rfl), by repeat (first | (with_reducible first | exact HB.out | apply zaj | apply zad | apply zai) | exact HB.out)⟩
      ·rw [if_neg c41] at H
       have c41b0 : ((t739.length : Int) == 0) = false := zbz.mpr c41
       have c41b1 : ((t739.length : Int) != 0) = true := zdh.mpr c41
       have c41b2 : ¬ (t739 = []) := fun h_ => c41 (by rw [h_]; rfl)
       by_cases c44 : (t742.length : Int) = 0
       ·rw [if_pos c44] at H
        have c44b0 : ((t742.length : Int) == 0) = true := zdn.mpr c44
        have c44b1 : ((t742.length : Int) != 0) = false := zbv.mpr c44
        clear c44
        obtain rfl := Option.some.inj H
        obtain ⟨Ao45, co45, eo45⟩ := zbe HO_6.out
        subst eo45
        obtain ⟨Ao46, co46, eo46⟩ := zbe HO_7.out
        subst eo46
        obtain ⟨Ao47, co47, eo47⟩ := zbe HO_9.out
        subst eo47
        go_wp2
        go_ret
        exact ⟨by first | rfl | (simp [zbj, zbk] <;> rfl) | (simp [*, zbj, zbk] <;> rfl), by repeat (first | (with_reducible first | exact HB.out | apply zaj | apply zad | apply zai) | exact HB.out)⟩
       ·rw [if_neg c44] at H
        have c44b0 : ((t742.length : Int) == 0) = false := zbz.mpr c44
        have c44b1 : ((t742.length : Int) != 0) = true := zdh.mpr c44
        have c44b2 : ¬ (t742 = []) := fun h_ => c44 (by rw [h_]; rfl)
        obtain ⟨y769, hy769⟩ : ∃ y_ : List Int, y_ = (([] : List Int)) := ⟨_, rfl⟩
        replace H : (if y769.length + t739.length < 140737488355328 then ((some (y769 ++ t739 : List Int)).bind fun y772 => (if 36 ≤ (t742.length : Int) then ((some (t742.take 36 : List Int)).bind fun y775 => (if y772.length + y775.length < 140737488355328 then ((impl_Same.f t748 (y772 ++ y775)).bind fun t782 => (some t782)) else (none))) else (none))) else (none)) = some r := by first | (rw [hy769]; with_reducible first | exact H | exact bind_ofs H) | (with_reducible first | exact H | exact bind_ofs H) | (rw [hy769]; exact H) | exact H
        have Ny769 := Aside0.mk hy769
        clear hy769
        by_cases c48 : y769.length + t739.length < 140737488355328
        ·rw [if_pos c48] at H
         have LMc48 := Aside0.mk c48
         clear c48
         obtain ⟨y772, hy772⟩ : ∃ y_ : List Int, y_ = (y769 ++ t739) := ⟨_, rfl⟩
         replace H : (if 36 ≤ (t742.length : Int) then ((some (t742.take 36 : List Int)).bind fun y775 => (if y772.length + y775.length < 140737488355328 then ((impl_Same.f t748 (y772 ++ y775)).bind fun t782 => (some t782)) else (none))) else (none)) = some r := by first | (rw [hy772]; with_reducible first | exact H | exact bind_ofs H) | (with_reducible first | exact H | exact bind_ofs H) | (rw [hy772]; exact H) | exact H
         have Ny772 := Aside0.mk hy772
         clear hy772
         by_cases c49 : 36 ≤ (t742.length : Int)
         ·rw [if_pos c49] at H
          have c49b0 := zbn c49
          have c49b1 : decide (36 ≤ (t742.length : Int)) = true := zax c49
          clear c49
          obtain ⟨y775, hy775⟩ : ∃ y_ : List Int, y_ = (t742.take 36) := ⟨_, rfl⟩
          replace H : (if y772.length + y775.length < 140737488355328 then ((impl_Same.f t748 (y772 ++ y775)).bind fun t782 => (some t782)) else (none)) = some r := by first | (rw [hy775]; with_reducible first | exact H | exact bind_ofs H) | (with_reducible first | exact H | exact bind_ofs H) | (rw [hy775]; exact H) | exact H
          have Ny775 := Aside0.mk hy775
          clear hy775
          by_cases c50 : y772.length + y775.length < 140737488355328
          ·rw [if_pos c50] at H
           have LMc50 := Aside0.mk c50
           clear c50
           obtain ⟨y779, hy779⟩ : ∃ y_ : List Int, y_ = (y772 ++ y775) := ⟨_, rfl⟩
           replace H : ((impl_Same.f t748 y779).bind fun t782 => (some t782)) = some r := by first | (rw [hy779]; with_reducible first | exact H | exact bind_ofs H) | (with_reducible first | exact H | exact bind_ofs H) | (rw [hy779]; exact H) | exact H
           have Ny779 := Aside0.mk hy779
           clear hy779
           replace H := zam.mp H
           obtain ⟨t782, A510, H⟩ := H
           try dsimp only at H
           have A51 := Aside0.mk A510
           clear A510
           obtain rfl := Option.some.inj H
           obtain ⟨Ao52, co52, eo52⟩ := zbe HO_6.out
           subst eo52
           obtain ⟨Ao53, co53, eo53⟩ := zbe HO_7.out
           subst eo53
           try go_wp2
           have n0_ := Aside0.mk (zae HO_6.out)
           have n1_ := Aside0.mk (zae HO_7.out)
           have n2_ := Aside0.mk (zae HO_9.out)
           have n3_ := Aside0.mk (zai HB.out)
           clear HO_6
           clear HO_7
           clear HO_9
           clear HB
           have HO_6 := n0_
           have HO_7 := n1_
           have HO_9 := n2_
           have HB := n3_
           clear n0_ n1_ n2_ n3_
           have q55 : (36 : Int) ≤ ((t742.length : Int) : Int) := zap (by first | (with_reducible assumption) | assumption)
           obtain ⟨i055, hi055, _, hsz55, _⟩ := info_parts info5
           have hroom55 : t742.length ≤ co53 := (zaf HO_7.out).2.1
           have hC55 : Kd.C (Kd.int .u8) _ Ao53 t742.length t742 := (zaf HO_7.out).2.2
           have hcut55 := cut_to (P := Try.prog) 22 5 .i64 Try.underlying22 hi055 Ao53 t742.length co53 36 (by omega) q55 hroom55
           have hr55 := Kd.C_take (m := 36) hC55 (by omega)
           have hy55 : y775.length = (36 : Int).toNat := (by rw [Ny775.out, zbi]; omega)
           rw [← Ny775.out] at hr55
           rw [← hy55] at hcut55
           have HR778 := Aside0.mk hr55
           have HC778 := Aside0.mk (show y775.length ≤ co53 from by omega)
           clear hr55 hC55 hroom55 hi055 hsz55
           have KY55 := Aside0.mk hy55
           clear hy55
           have KL55 := Aside0.mk (show 36 ≤ t742.length from by omega)
           replace q55 := zbn q55
           refine start_ (n := 9) (S := fun w' => True) (ds := []) #[false, false, false, false, false, false, false, false, false] (by kernel_rfl) rfl rfl trivial (fun hHeld => ?_); refine zeq laws_FnBlocks.tab13 laws_FnBlocks.bits13 (fun HT_ HW_ => ?_)
           generalize wc.drew = w54 at HO_6 HO_7 HO_9 HB HR778 hHeld ⊢
           refine pure_ (i := 0) (N := some 80) (v := ?_) (a' := ?_) #[true, false, false, false, false, false, false, false, false] rfl rfl (any_of HT_.out (by kernel_rfl)) (fun _ _ _ h => h) (Or.inl ⟨by rfl, ?_⟩) ?_ ?_
           rotate_left
           ·intro w'
            go_simp
            with_reducible rfl
           rotate_left
           ·simp only [Act.put, zaa, zag, zah, i64_w, i32_w]
            rfl
           refine pure_ (i := 2) (N := some 82) (v := ?_) (a' := ?_) #[true, false, true, false, false, false, false, false, false] rfl rfl (any_of HT_.out (by kernel_rfl)) (fun _ _ _ h => h) (Or.inl ⟨by rfl, ?_⟩) ?_ ?_
           rotate_left
           ·intro w'
            go_simp
            with_reducible rfl
           rotate_left
           ·simp only [Act.put, zaa, zag, zah, i64_w, i32_w]
            rfl
           refine pure_ (i := 4) (N := some 84) (v := ?_) (a' := ?_) #[true, false, true, false, true, false, false, false, false] rfl rfl (any_of HT_.out (by kernel_rfl)) (fun _ _ _ h => h) (Or.inl ⟨by rfl, ?_⟩) ?_ ?_
           rotate_left
           ·intro w'
            go_simp
            with_reducible rfl
           rotate_left
           ·simp only [Act.put, zaa, zag, zah, i64_w, i32_w]
            rfl
           refine pure_ (i := 5) (N := some 85) (v := ?_) (a' := ?_) #[true, false, true, false, true, true, false, false, false] rfl rfl (any_of HT_.out (by kernel_rfl)) (fun _ _ _ h => h) (Or.inl ⟨by rfl, ?_⟩) ?_ ?_
           rotate_left
           ·intro w'
            go_simp
            with_reducible rfl
           rotate_left
           ·simp only [Act.put, zaa, zag, zah, i64_w, i32_w]
            rfl
           refine one_ (i := 1) (N := some 81) #[true, true, true, false, true, true, false, false, false] rfl rfl (one_of HT_.out (by kernel_rfl)) (by decide) (fun K hK => ?_)
           refine Kd.R_lit_step (Kd.int .u8) _ 5 ?hg (N := 81) ?hd (xs := ([] : List Int)) (inner := []) (ok := fun _ => True) (okp := fun _ => True) ?hr ?hp (fun _ hk => hk) trivial (zbx _ _) (zbp _) (by simp) ?_; (case hd => rfl); (case hg => rfl); (case hr => first | (go_simp; done) | (go_simp; rfl)); (case hp => exact (zdp _ _))
           intro v770 w56 ho57 hb hg_ hnew_
           clear hg_ hnew_
           (first | rw [← Ny769.out] at ho57 | (simp only [Int.reduceToNat] at ho57; rw [← Ny769.out] at ho57))
           have n0_ := Aside0.mk (zak (by (with_reducible repeat (first | apply zab | apply zac | apply zae)); exact HO_6.out) (zan ho57) hb)
           have n1_ := Aside0.mk (zak (by (with_reducible repeat (first | apply zab | apply zac | apply zae)); exact HO_7.out) (zan ho57) hb)
           have n2_ := Aside0.mk (zak (by (with_reducible repeat (first | apply zab | apply zac | apply zae)); exact HO_9.out) (zan ho57) hb)
           have n3_ := Aside0.mk (zbc (zao (zao (zao ho57 (zav (by (with_reducible repeat (first | apply zab | apply zac | apply zae)); exact HO_6.out))) (zav (by (with_reducible repeat (first | apply zab | apply zac | apply zae)); exact HO_7.out))) (zav (by (with_reducible repeat (first | apply zab | apply zac | apply zae)); exact HO_9.out))) (zba (by repeat (first | (with_reducible first | exact HB.out | apply zaj | apply zad | apply zai) | exact HB.out))))
           have n4_ := Aside0.mk (zbr (by repeat (first | (with_reducible exact HR778.out) | (with_reducible refine zas ?_ _) | (with_reducible refine zat ?_ _) | (with_reducible refine zaw ?_) | exact HR778.out)) hb)
           have n5_ := Aside0.mk (zbb (by repeat (first | (with_reducible first | exact HB.out | apply zaj | apply zad | apply zai) | exact HB.out)) hb)
           clear HO_6
           clear HO_7
           clear HO_9
           clear HR778
           clear HB
           have HO_6 := n0_
           have HO_7 := n1_
           have HO_9 := n2_
           have HO771 := n3_
           have HR778 := n4_
           have HB := n5_
           clear n0_ n1_ n2_ n3_ n4_ n5_
           clear hb ho57
           refine hK.out _ _ trivial (fun hHeld => ?_)
           clear hK K
           refine norm_ (a' := ?_) ?_ ?_
           rotate_left
           ·show Act.put _ (some 81) _ = _
            simp only [Act.put, zaa, zag, zah, i64_w, i32_w]
            rfl
           refine one_ (i := 3) (N := some 83) #[true, true, true, true, true, true, false, false, false] rfl rfl (one_of HT_.out (by kernel_rfl)) (by decide) (fun K hK => ?_)
           refine Kd.R_append_rows_step (Kd.int .u8) (w0 := w) w.heap.size (by rfl) (.tmp 81) (.tmp 82) 22 5 (.int .u8 0) 1 rfl Try.underlying22 info5 rfl (by decide) (by omega) v770 y769 t739 _ _ _ (fun k_ => some k_ ≠ (.slice Ao52 t739.length co52 : Value).ownBlock ∧ some k_ ≠ (.slice Ao53 t742.length co53 : Value).ownBlock ∧ some k_ ≠ (v749 : Value).ownBlock) (fun _ => False) rfl rfl ?aO ?aR (fun _ _ h => h) (fun _ h => h.elim) ?aF ?aB ?aS ?aL ?_
           (case aR => repeat (first | exact (zaf HO_6.out).2.2 | (with_reducible refine zas ?_ _) | (with_reducible refine zat ?_ _) | (with_reducible refine zaw ?_)))
           (case aB => exact (by repeat (first | (with_reducible first | exact HB.out | apply zaj | apply zad | apply zai) | exact HB.out)))
           (case aF => exact (fun k_ hk => ⟨zel (zav (by (with_reducible repeat (first | apply zab | apply zac | apply zae)); exact HO_6.out)) k_ hk, zel (zav (by (with_reducible repeat (first | apply zab | apply zac | apply zae)); exact HO_7.out)) k_ hk, zel (zav (by (with_reducible repeat (first | apply zab | apply zac | apply zae)); exact HO_9.out)) k_ hk⟩))
           (case aO => exact (by (with_reducible repeat (first | apply zab | apply zac | apply zae)); exact zbm HO771.out (fun _ hk => ⟨hk.1.1.2, ⟨hk.1.2, hk.2⟩⟩)))
           (case aS => exact (zba (by repeat (first | (with_reducible first | exact HB.out | apply zaj | apply zad | apply zai) | exact HB.out))))
           (case aL => have := LMc48.out; omega)
           intro v773 w58 ho hb hg hat
           rw [← Ny772.out] at ho
           have n0_ := Aside0.mk (zdw (ok := (fun k_ => some k_ ≠ (.slice Ao53 t742.length co53 : Value).ownBlock ∧ some k_ ≠ (v749 : Value).ownBlock)) (by (with_reducible repeat (first | apply zab | apply zac | apply zae)); exact HO_6.out) hg hat)
           have n1_ := Aside0.mk (zdw (ok := (fun k_ => some k_ ≠ (.slice Ao52 t739.length co52 : Value).ownBlock ∧ some k_ ≠ (v749 : Value).ownBlock)) (by (with_reducible repeat (first | apply zab | apply zac | apply zae)); exact HO_7.out) hg hat)
           have n2_ := Aside0.mk (zdw (ok := (fun k_ => some k_ ≠ (.slice Ao52 t739.length co52 : Value).ownBlock ∧ some k_ ≠ (.slice Ao53 t742.length co53 : Value).ownBlock)) (by (with_reducible repeat (first | apply zab | apply zac | apply zae)); exact HO_9.out) hg hat)
           have n3_ := Aside0.mk (hb)
           have n4_ := Aside0.mk ((show Kd.C (Kd.int .u8) w58 Ao53 y775.length y775 from by rw [Ny775.out]; exact Kd.C_take (m := 36) ((zaf (zdw (ok := (fun k_ => some k_ ≠ (.slice Ao52 t739.length co52 : Value).ownBlock ∧ some k_ ≠ (v749 : Value).ownBlock)) (by (with_reducible repeat (first | apply zab | apply zac | apply zae)); exact HO_7.out) hg hat)).2.2) KL55.out))
           have n5_ := Aside0.mk (ho)
           clear HO_6
           clear HO_7
           clear HO_9
           clear HB
           clear HR778
           clear HO771
           have HO_6 := n0_
           have HO_7 := n1_
           have HO_9 := n2_
           have HB := n3_
           have HR778 := n4_
           have HO774 := n5_
           clear n0_ n1_ n2_ n3_ n4_ n5_
           clear ho hb hg hat
           refine hK.out _ _ trivial (fun hHeld => ?_)
           clear hK K
           refine norm_ (a' := ?_) ?_ ?_
           rotate_left
           ·show Act.put _ (some 83) _ = _
            simp only [Act.put, zaa, zag, zah, i64_w, i32_w]
            rfl
           refine one_ (i := 6) (N := some 86) #[true, true, true, true, true, true, true, false, false] rfl rfl (one_of HT_.out (by kernel_rfl)) (by decide) (fun K hK => ?_)
           refine Kd.R_append_rows_step (Kd.int .u8) (w0 := w) w.heap.size (by rfl) (.tmp 83) (.tmp 85) 22 5 (.int .u8 0) 1 rfl Try.underlying22 info5 rfl (by decide) (by omega) v773 y772 y775 _ _ _ (fun k_ => some k_ ≠ (.slice Ao52 t739.length co52 : Value).ownBlock ∧ some k_ ≠ (.slice Ao53 t742.length co53 : Value).ownBlock ∧ some k_ ≠ (v749 : Value).ownBlock) (fun _ => False) rfl rfl ?aO ?aR (fun _ _ h => h) (fun _ h => h.elim) ?aF ?aB ?aS ?aL ?_
           (case aR => repeat (first | exact (by repeat (first | (with_reducible exact HR778.out) | (with_reducible refine zas ?_ _) | (with_reducible refine zat ?_ _) | (with_reducible refine zaw ?_) | exact HR778.out)) | (with_reducible refine zas ?_ _) | (with_reducible refine zat ?_ _) | (with_reducible refine zaw ?_)))
           (case aB => exact (by repeat (first | (with_reducible first | exact HB.out | apply zaj | apply zad | apply zai) | exact HB.out)))
           (case aF => exact (fun k_ hk => ⟨zel (zav (by (with_reducible repeat (first | apply zab | apply zac | apply zae)); exact HO_6.out)) k_ hk, zel (zav (by (with_reducible repeat (first | apply zab | apply zac | apply zae)); exact HO_7.out)) k_ hk, zel (zav (by (with_reducible repeat (first | apply zab | apply zac | apply zae)); exact HO_9.out)) k_ hk⟩))
           (case aO => exact (by (with_reducible repeat (first | apply zab | apply zac | apply zae)); exact HO774.out))
           (case aS => exact (zba (by repeat (first | (with_reducible first | exact HB.out | apply zaj | apply zad | apply zai) | exact HB.out))))
           (case aL => have := LMc50.out; omega)
           intro v780 w59 ho hb hg hat
           rw [← Ny779.out] at ho
           have n0_ := Aside0.mk (zdw (ok := (fun k_ => some k_ ≠ (.slice Ao53 t742.length co53 : Value).ownBlock ∧ some k_ ≠ (v749 : Value).ownBlock)) (by (with_reducible repeat (first | apply zab | apply zac | apply zae)); exact HO_6.out) hg hat)
           have n1_ := Aside0.mk (zdw (ok := (fun k_ => some k_ ≠ (.slice Ao52 t739.length co52 : Value).ownBlock ∧ some k_ ≠ (v749 : Value).ownBlock)) (by (with_reducible repeat (first | apply zab | apply zac | apply zae)); exact HO_7.out) hg hat)
           have n2_ := Aside0.mk (zdw (ok := (fun k_ => some k_ ≠ (.slice Ao52 t739.length co52 : Value).ownBlock ∧ some k_ ≠ (.slice Ao53 t742.length co53 : Value).ownBlock)) (by (with_reducible repeat (first | apply zab | apply zac | apply zae)); exact HO_9.out) hg hat)
           have n3_ := Aside0.mk (hb)
           have n4_ := Aside0.mk ((show Kd.C (Kd.int .u8) w59 Ao53 y775.length y775 from by rw [Ny775.out]; exact Kd.C_take (m := 36) ((zaf (zdw (ok := (fun k_ => some k_ ≠ (.slice Ao52 t739.length co52 : Value).ownBlock ∧ some k_ ≠ (v749 : Value).ownBlock)) (by (with_reducible repeat (first | apply zab | apply zac | apply zae)); exact HO_7.out) hg hat)).2.2) KL55.out))
           have n5_ := Aside0.mk (ho)
           clear HO_6
           clear HO_7
           clear HO_9
           clear HB
           clear HR778
           clear HO774
           have HO_6 := n0_
           have HO_7 := n1_
           have HO_9 := n2_
           have HB := n3_
           have HR778 := n4_
           have HO781 := n5_
           clear n0_ n1_ n2_ n3_ n4_ n5_
           clear ho hb hg hat
           obtain ⟨Ao60, co60, eo60⟩ := zbe HO_9.out
           (first | subst eo60 | (injection eo60 with f1_ f2_ f3_; have f4_ := f1_.symm; have f5_ := f3_.symm; clear f1_ f2_ f3_; subst f4_; subst f5_))
           obtain ⟨Ao61, co61, eo61⟩ := zbe HO781.out
           (first | subst eo61 | (injection eo61 with f1_ f2_ f3_; have f4_ := f1_.symm; have f5_ := f3_.symm; clear f1_ f2_ f3_; subst f4_; subst f5_))
           refine hK.out _ _ trivial (fun hHeld => ?_)
           clear hK K
           refine norm_ (a' := ?_) ?_ ?_
           rotate_left
           ·show Act.put _ (some 86) _ = _
            simp only [Act.put, zaa, zag, zah, i64_w, i32_w]
            rfl
           refine one_ (i := 7) (N := some 87) #[true, true, true, true, true, true, true, true, false] rfl rfl (one_of HT_.out (by kernel_rfl)) (by decide) (fun K hK => ?_)
           refine goes_ Try.func32 (by kernel_rfl) rfl #[.slice Ao60 t748.length co60, .slice Ao61 y779.length co61] (by rfl) rfl rfl (by (try simp only [zal, zaq, zar]); first | done | rfl | (simp only [zbl, zbi]; rfl) | (simp only [zbl, zbi]; rw [zcm (zda.mpr (zdl (by assumption)))])) ?_
           with_reducible refine (impl_Same.calls _ _ t748 _ _ y779 t782 _ ?side1 ?side2 ?side3 ?side4 A51.out).mono ?_
           (case side1 => repeat (first | exact (zaf HO_9.out).2.2 | (with_reducible refine zas ?_ _) | (with_reducible refine zat ?_ _) | (with_reducible refine zaw ?_)))
           (case side2 => exact (zaf HO_9.out).2.1)
           (case side3 => repeat (first | exact (zaf HO781.out).2.2 | (with_reducible refine zas ?_ _) | (with_reducible refine zat ?_ _) | (with_reducible refine zaw ?_)))
           (case side4 => exact (zaf HO781.out).2.1)
           rintro e w' ⟨rfl, ⟨nd, rfl⟩⟩
           refine ⟨_, rfl, ?_⟩
           refine hK.out _ _ trivial (fun hHeld => ?_)
           clear hK K
           refine norm_ (a' := ?_) ?_ ?_
           rotate_left
           ·show Act.put _ (some 87) _ = _
            simp only [Act.put, zaa, zag, zah, i64_w, i32_w]
            rfl
           refine pure_ (i := 8) (N := some 2) (v := ?_) (a' := ?_) #[true, true, true, true, true, true, true, true, true] rfl rfl (any_of HT_.out (by kernel_rfl)) (fun _ _ _ h => h) (Or.inl ⟨by rfl, ?_⟩) ?_ ?_
           rotate_left
           ·intro w'
            go_simp
            with_reducible rfl
           rotate_left
           ·simp only [Act.put, zaa, zag, zah, i64_w, i32_w]
            rfl
           refine done_ (done_of HT_.out (by kernel_rfl)) ?_
           try go_wp2
           go_ret
           exact ⟨by first | rfl | (simp [zbj, zbk] <;> rfl) | (simp [*, zbj, zbk] <;> rfl), by repeat (first | (with_reducible first | exact HB.out | apply zaj | apply zad | apply zai) | exact HB.out)⟩
          ·rw [if_neg c50] at H
           exact absurd H (by simp)
         ·rw [if_neg c49] at H
          exact absurd H (by simp)
        ·rw [if_neg c48] at H
         exact absurd H (by simp)
  ·rw [if_neg c7] at H
   exact absurd H (by simp)

def laws_FnBlocks.Pure : Prop := ∀ (l0 : List Int), l0.length ≤ maxLen → l0.length * 1 ≤ 140737488351232 → (∀ x ∈ l0, (Lit.int .u8 x).wf = true) → ∃ k, laws_FnBlocks.f k l0 = some true
theorem laws_FnBlocks.walk (P : laws_FnBlocks.Pure) (a0 : Option Addr) (len0 cap0 : Nat) (z0 : List Int) (w : World) (w0 : (a0 = none ∧ len0 = 0 ∧ cap0 = 0 ∧ z0 = []) ∨ ∃ x, a0 = some x ∧ len0 ≤ cap0 ∧ cap0 ≤ maxLen ∧ z0.length = cap0 ∧ (∀ i, i < z0.length → w.cell? (x.add i) = some (.int .u8 (z0.getD i 0))) ∧ ∀ n ∈ z0, (Lit.int .u8 n).wf = true) (y0 : len0 * 1 ≤ 140737488351232) :
  Calls Try.prog 7 #[.slice a0 len0 cap0] w fun e w' => e = .returned (.bool true) ∧ Below w.heap.size w w' := by
 obtain ⟨l0, rfl, hr0, hm0, hw0, hc0⟩ := ReadsInt.ofRowC w0
 obtain ⟨k, h⟩ := P l0 hm0 y0 hw0
 refine (laws_FnBlocks.calls k _ _ l0 true w (zem (d := (0 : Int)) (h1 := fun _ => rfl) hr0) hc0 h).mono ?_
 rintro e w' ⟨rfl, hd⟩
 exact ⟨rfl, hd⟩
end Go.Proofs.Ytdineaebljpfaaa.P
/- FnBlocks: of every code, blocks and quarters are the reference's, and the stream of nothing is the blocks, one behind the other. -/
namespace Go.Proofs.Ytdineaebljpfaaa.B
open Go.RowKit Go.Proofs.Ytdineaebljpfaaa.P Go.Proofs.YtdineaebljpfaaaW.PrintWords Go.Proofs.YtdineaebljpfaaaW.PrintLast Go.Proofs.YtdineaebljpfaaaW.PrintMore
theorem sameInts_l0 : ∀ (a pre : List Int) (k : Nat), pre.length + a.length ≤ 1099511627776 → a.length < k → laws_sameInts.l0 k (pre ++ a) (pre ++ a) (pre.length : Int) = some true
  | [], pre, k, hb, hk => by
    obtain ⟨k, rfl⟩ : ∃ m, k = m + 1 := ⟨k - 1, by omega⟩
    simp only [laws_sameInts.l0]; rw [if_neg (nlt_end pre)]
  | x :: a, pre, k, hb, hk => by
    obtain ⟨k, rfl⟩ : ∃ m, k = m + 1 := ⟨k - 1, by simp at hk; omega⟩
    simp only [List.length_cons] at hb hk
    simp only [laws_sameInts.l0]
    rw [if_pos (lt_mid pre x a), if_pos (pre_nonneg pre), if_pos (lt_mid pre x a), if_pos trivial, wrap_step pre x (by omega), snoc_app pre x a, sameInts_l0 a (pre ++ [x]) k (by simp; omega) (by omega)]
theorem sameInts (a : List Int) (hn : a.length ≤ 1099511627776) (k : Nat) (hk : a.length < k) : laws_sameInts.f k a a = some true := by
  unfold laws_sameInts.f
  rw [if_pos rfl]
  exact sameInts_l0 a [] k (by simpa using hn) hk
theorem drawQ_l0 (d : List Int) (hd : d.length ≤ 1099511627776) : ∀ (n : Nat) (x : List Int) (i p s : Int) (k : Nat), 0 ≤ i → (16 - i).toNat = n → x.length + n ≤ 100 → 0 ≤ p → n < k → ∃ y a b c e, spec_DrawQuarter.l0 k x i d p s = some (y, a, b, c, e) ∧ y.length ≤ 100
  | n, x, i, p, s, k, hi, hn, hx, hp, hk => by
    obtain ⟨k, rfl⟩ : ∃ m, k = m + 1 := ⟨k - 1, by omega⟩
    obtain ⟨v, p1, s1, e1, h0, h1, hp1⟩ := belowD d p s 20 hd hp
    have h1 := h1 (by omega)
    simp only [spec_DrawQuarter.l0]
    rw [e1, Option.bind_some]
    have ht : Int.tdiv v 19 = v / 19 := Int.tdiv_eq_ediv_of_nonneg h0
    rw [ht, wrap_eq (v / 19) (by omega) (by omega), wrap_eq (16 - v / 19) (by omega) (by omega)]
    by_cases c : i < 16 - v / 19
    · obtain ⟨u, p2, s2, e2, _, hp2⟩ := numD d p1 s1 hd hp1
      rw [if_pos c, e2, Option.bind_some, if_pos (by omega), wrap_eq (i + 1) (by omega) (by omega)]
      match n, hn with
      | 0, hn => omega
      | n + 1, hn => exact drawQ_l0 d hd n (x ++ [u]) (i + 1) p2 s2 k (by omega) (by omega) (by simp; omega) hp2 (by omega)
    · obtain ⟨v2, p2, s2, e2, _, _, hp2⟩ := belowD d p1 s1 18 hd hp1
      obtain ⟨v3, p3, s3, e3, _, _, hp3⟩ := belowD d p2 s2 16 hd hp2
      obtain ⟨v4, p4, s4, e4, _, _, hp4⟩ := belowD d p3 s3 8 hd hp3
      obtain ⟨v5, p5, s5, e5, _, _, hp5⟩ := belowD d p4 s4 7 hd hp4
      rw [if_neg c, e2, Option.bind_some, e3, Option.bind_some, e4, Option.bind_some, e5, Option.bind_some]
      exact ⟨_, _, _, _, _, rfl, by omega⟩
theorem drawQuarter (d : List Int) (hd : d.length ≤ 1099511627776) (k : Nat) (hk : d.length + 100 < k) : ∃ y a b c e, spec_DrawQuarter.f k d = some (y, a, b, c, e) ∧ y.length ≤ 100 := by
  obtain ⟨s0, n0⟩ := newD d k hd (by omega)
  unfold spec_DrawQuarter.f
  rw [n0, Option.bind_some]
  exact drawQ_l0 d hd 16 [] 0 0 s0 k (by omega) (by omega) (by simp) (by omega) (by omega)
/-- The stream of a hundred zeros. -/
theorem stream_zero (a : List Int) (c : Int) (b : List Int) : streamL a c b (List.replicate 100 0) = if impl_Block.ok a c b = true then (if impl_Block.ok a (c + 1) b = true then blockL a c b ++ (blockL a (c + 1) b).take 36 else []) else [] := by
  unfold streamL
  rw [if_neg (by rw [List.length_replicate]; omega)]
  rw [streamG, if_neg (by rw [List.length_replicate]; omega)]
  by_cases h1 : impl_Block.ok a c b = true
  · have l1 := blockL_length a c b
    rw [if_pos h1] at l1
    rw [if_pos h1, if_pos h1, List.drop_replicate, streamG, if_neg (by rw [List.length_replicate]; omega)]
    by_cases h2 : impl_Block.ok a (c + 1) b = true
    · rw [if_pos h2, if_pos h2, List.drop_replicate, streamG, if_pos (by rw [List.length_replicate]), xorL_zero _ _ (blockL_b a c b), xorL_zero _ _ (blockL_b a (c + 1) b), List.nil_append, List.take_of_length_le (by omega)]
    · rw [if_neg h2, if_neg h2]
  · rw [if_neg h1, if_neg h1]
theorem blocksEnd (a : List Int) (c : Int) (b : List Int) (k : Nat) : laws_FnBlocks.j0 (k + 1) (blockL a c b) (blockL a (c + 1) b) (streamL a c b (List.replicate 100 0)) false = some true := by
  have l1 := blockL_length a c b
  have l2 := blockL_length a (c + 1) b
  rw [laws_FnBlocks.j0, if_neg (by decide), stream_zero]
  by_cases h1 : impl_Block.ok a c b = true
  · rw [if_pos h1] at l1 ⊢
    rw [if_neg (by omega)]
    by_cases h2 : impl_Block.ok a (c + 1) b = true
    · rw [if_pos h2] at l2 ⊢
      rw [if_neg (by omega), Option.bind_some, List.nil_append, if_pos (by simp only [List.length_nil]; omega), Option.bind_some, if_pos (by omega), Option.bind_some, if_pos (by rw [List.length_take]; omega), implSame, sameL_same]
      rfl
    · rw [if_neg h2] at l2 ⊢
      rw [if_pos (by omega)]
      rfl
  · rw [if_neg h1] at l1 ⊢
    rw [if_pos (by omega)]
    rfl
end Go.Proofs.Ytdineaebljpfaaa.B
namespace Go.Proofs.Ytdineaebljpfaaa.Pure
open Go.RowKit Go.Proofs.Ytdineaebljpfaaa.P Go.Proofs.Ytdineaebljpfaaa.B Go.Proofs.YtdineaebljpfaaaW.PrintWords Go.Proofs.YtdineaebljpfaaaW.PrintLast Go.Proofs.YtdineaebljpfaaaW.PrintMore
theorem FnBlocks : laws_FnBlocks.Pure := by
  intro d _ _ _
  refine ⟨d.length + 200000, ?_⟩
  unfold laws_FnBlocks.f laws_big.f
  simp only [Option.bind_some, decide_eq_true_eq]
  by_cases h0 : (d.length : Int) > 1048576
  · rw [if_pos h0]
  · rw [if_neg h0]
    obtain ⟨a, c, b, e1, hc⟩ := drawBlock d (by omega) (d.length + 200000) (by omega)
    obtain ⟨y, q1, q2, q3, q4, e2, hy⟩ := drawQuarter d (by omega) (d.length + 200000) (by omega)
    have hr := counts_rng hc
    obtain ⟨q, hq⟩ : ∃ q : Bool, q = true ↔ goodQ q1 q2 q3 q4 := by
      by_cases g : goodQ q1 q2 q3 q4
      · exact ⟨true, by simp [g]⟩
      · exact ⟨false, by simp [g]⟩
    have hl := quarterR_length y q1 q2 q3 q4 q
    rw [e1, Option.bind_some]
    simp only []
    rw [implBlock a c b _ (by omega), Option.bind_some, wrap_eq (c + 1) (by omega) (by omega), implBlock a (c + 1) b _ (by omega), Option.bind_some, if_pos (by omega), implStream a c b _ _ (by omega), Option.bind_some, e2, Option.bind_some]
    simp only []
    rw [implQuarter y q1 q2 q3 q4 (by omega) q hq _ (by omega), Option.bind_some, specQuarter y q1 q2 q3 q4 (by omega) q hq _ (by omega), Option.bind_some, sameInts _ (by omega) _ (by omega), Option.bind_some, if_pos rfl, specBlock a c b _ (by omega), Option.bind_some, implSame, sameL_same, Option.bind_some]
    exact blocksEnd a c b (d.length + 199999)
end Go.Proofs.Ytdineaebljpfaaa.Pure
