import Derived.Test.Ytdineaebljpfaaan42
import Derived.Test.Ytdineaebljpfaaan43
import Derived.Test.Ytdineaebljpfaaan41
namespace Go.Proofs.Ytdineaebljpfaaa.P
open Go.RowKit Go.Proofs.YtdineaebljpfaaaW.PrintWords Go.Proofs.YtdineaebljpfaaaW.PrintLast Go.Proofs.YtdineaebljpfaaaW.PrintMore
attribute [local go_sem] zcu zcv zdf zdg zci zcj zcw zcx   -- for this text's walks alone
set_option linter.unusedVariables false
set_option linter.unusedSimpArgs false

mutual
def laws_FnStreams.j0 : Nat → List Int → List Int → Int → List Int → List Int → List Int → Bool → Option (Bool)
 | 0, _, _, _, _, _, _, _ => none
 | k + 1, x0, x3, x4, x5, x6, x7, x63 => if x63 = true then (some false) else (if (x7.length : Int) = (x6.length : Int) then (laws_FnStreams.j1 k x0 x3 x4 x5 x6 x7 ((x6.length : Int) == 0)) else (laws_FnStreams.j1 k x0 x3 x4 x5 x6 x7 true))
def laws_FnStreams.j1 : Nat → List Int → List Int → Int → List Int → List Int → List Int → Bool → Option (Bool)
 | 0, _, _, _, _, _, _, _ => none
 | k + 1, x0, x3, x4, x5, x6, x7, x73 => if x73 = true then (some ((x7.length : Int) == 0)) else ((laws_at.f x0 1).bind fun t862 => (if (x6.length : Int) = 0 then (none) else ((impl_Stream.f k x3 x4 x5 x7).bind fun t863 => ((impl_Same.f t863 x6).bind fun t866 => (if t866 = true then (if 0 ≤ (Int.tmod t862 (x6.length : Int)) then (if (Int.tmod t862 (x6.length : Int)) ≤ (x6.length : Int) then ((impl_Stream.f k x3 x4 x5 (x6.take ((Int.tmod t862 (x6.length : Int)) : Int).toNat)).bind fun t871 => (if (Int.tmod t862 (x6.length : Int)) ≤ (x7.length : Int) then ((impl_Same.f t871 (x7.take ((Int.tmod t862 (x6.length : Int)) : Int).toNat)).bind fun t878 => (some t878)) else (none))) else (none)) else (none)) else (some false))))))
end
def laws_FnStreams.f (k : Nat) (l0 : List Int) : Option (Bool) := (laws_big.f l0).bind fun t830 => (if t830 = true then (some true) else ((spec_DrawStream.f k l0).bind fun bt831 => ((impl_Stream.f k bt831.1 bt831.2.1 bt831.2.2.1 bt831.2.2.2).bind fun t841 => ((spec_DrawBlock.f k l0).bind fun bt844 => ((impl_Block.f k bt844.1 bt844.2.1 bt844.2.2).bind fun t851 => ((spec_Stream.f k bt831.1 bt831.2.1 bt831.2.2.1 bt831.2.2.2).bind fun t854 => ((impl_Same.f t841 t854).bind fun t857 => (if t857 = true then ((spec_Block.f k bt844.1 bt844.2.1 bt844.2.2).bind fun t858 => ((impl_Same.f t851 t858).bind fun t861 => (if t861 = true then (if (t851.length : Int) = 0 then (laws_FnStreams.j0 k l0 bt831.1 bt831.2.1 bt831.2.2.1 bt831.2.2.2 t841 false) else (laws_FnStreams.j0 k l0 bt831.1 bt831.2.1 bt831.2.2.1 bt831.2.2.2 t841 ((t851.length : Int) != 64))) else (laws_FnStreams.j0 k l0 bt831.1 bt831.2.1 bt831.2.2.1 bt831.2.2.2 t841 true)))) else (laws_FnStreams.j0 k l0 bt831.1 bt831.2.1 bt831.2.2.1 bt831.2.2.2 t841 true)))))))))
theorem laws_FnStreams.mono_l : ∀ k, (∀ y0 y1 y2 y3 y4 y5 y6, LeO (laws_FnStreams.j0 k y0 y1 y2 y3 y4 y5 y6) (laws_FnStreams.j0 (k + 1) y0 y1 y2 y3 y4 y5 y6)) ∧ (∀ y0 y1 y2 y3 y4 y5 y6, LeO (laws_FnStreams.j1 k y0 y1 y2 y3 y4 y5 y6) (laws_FnStreams.j1 (k + 1) y0 y1 y2 y3 y4 y5 y6))
 | 0 => ⟨fun _ _ _ _ _ _ _ r h => by simp [laws_FnStreams.j0] at h, fun _ _ _ _ _ _ _ r h => by simp [laws_FnStreams.j1] at h⟩
 | k + 1 => by
  obtain ⟨ih0, ih1⟩ := laws_FnStreams.mono_l k
  refine ⟨?_, ?_⟩
  ·intro y0 y1 y2 y3 y4 y5 y6
   unfold laws_FnStreams.j0
   repeat' first
   | (with_reducible exact ih0 _ _ _ _ _ _ _)
   | (with_reducible exact ih1 _ _ _ _ _ _ _)
   | (with_reducible exact impl_Block.mono _ _ _ _)
   | (with_reducible exact impl_Stream.mono _ _ _ _ _)
   | (with_reducible exact spec_Block.mono _ _ _ _)
   | (with_reducible exact spec_DrawBlock.mono _ _)
   | (with_reducible exact spec_DrawStream.mono _ _)
   | (with_reducible exact spec_Stream.mono _ _ _ _ _)
   | (with_reducible exact zcc _)
   | (with_reducible exact zcg _)
   | (with_reducible refine zcr ?_ ?_)
   | (with_reducible refine zcd ?_ (fun _ => ?_))
   | exact ih0 _ _ _ _ _ _ _
   | exact ih1 _ _ _ _ _ _ _
  ·intro y0 y1 y2 y3 y4 y5 y6
   unfold laws_FnStreams.j1
   repeat' first
   | (with_reducible exact ih0 _ _ _ _ _ _ _)
   | (with_reducible exact ih1 _ _ _ _ _ _ _)
   | (with_reducible exact impl_Block.mono _ _ _ _)
   | (with_reducible exact impl_Stream.mono _ _ _ _ _)
   | (with_reducible exact spec_Block.mono _ _ _ _)
   | (with_reducible exact spec_DrawBlock.mono _ _)
   | (with_reducible exact spec_DrawStream.mono _ _)
   | (with_reducible exact spec_Stream.mono _ _ _ _ _)
   | (with_reducible exact zcc _)
   | (with_reducible exact zcg _)
   | (with_reducible refine zcr ?_ ?_)
   | (with_reducible refine zcd ?_ (fun _ => ?_))
   | exact ih0 _ _ _ _ _ _ _
   | exact ih1 _ _ _ _ _ _ _
theorem laws_FnStreams.mono : ∀ a0 k, LeO (laws_FnStreams.f k a0) (laws_FnStreams.f (k + 1) a0) := by
 intro a0 k
 obtain ⟨ih0, ih1⟩ := laws_FnStreams.mono_l k
 unfold laws_FnStreams.f
 repeat' first
   | (with_reducible exact ih0 _ _ _ _ _ _ _)
   | (with_reducible exact ih1 _ _ _ _ _ _ _)
   | (with_reducible exact impl_Block.mono _ _ _ _)
   | (with_reducible exact impl_Stream.mono _ _ _ _ _)
   | (with_reducible exact spec_Block.mono _ _ _ _)
   | (with_reducible exact spec_DrawBlock.mono _ _)
   | (with_reducible exact spec_DrawStream.mono _ _)
   | (with_reducible exact spec_Stream.mono _ _ _ _ _)
   | (with_reducible exact zcc _)
   | (with_reducible exact zcg _)
   | (with_reducible refine zcr ?_ ?_)
   | (with_reducible refine zcd ?_ (fun _ => ?_))
   | exact ih0 _ _ _ _ _ _ _
   | exact ih1 _ _ _ _ _ _ _
def laws_FnStreams.T12 : Bool × List (List Nat × List Nat) := (true, [([], []), ([], []), ([], []), ([], []), ([0, 1, 2, 3], [0, 1, 2, 3]), ([], []), ([4, 5, 4], [4, 5]), ([6, 6], [6]), ([7], [7]), ([7], [7]), ([7], [7]), ([7], [7]), ([7], [7]), ([11, 12, 7], [7, 11, 12]), ([8, 9, 10, 13, 7, 7], [7, 8, 9, 10, 13]), ([7], [7]), ([7], [7]), ([15, 16, 7], [7, 15, 16]), ([14, 17, 14, 7], [7, 14, 17]), ([7, 18], [7, 18]), ([19, 18, 0, 1, 2, 3, 4, 5, 6, 7, 8, 9, 10, 11, 12, 13, 14, 15, 16, 17, 18, 19], [19])])
def laws_FnStreams.B12 : List Nat := [0, 0, 0, 0, 15, 0, 63, 127, 255, 255, 255, 255, 255, 6399, 16383, 255, 255, 98559, 262143, 524287, 1048575]
theorem laws_FnStreams.tab12 : rtab .any (opsOf Try.f8 12) = laws_FnStreams.T12 := by kernel_rfl
theorem laws_FnStreams.bits12 : waitsOk laws_FnStreams.T12.2 laws_FnStreams.B12 = true := by kernel_rfl
set_option maxHeartbeats 8000000 in
set_option maxRecDepth 100000 in
theorem laws_FnStreams.calls (k : Nat) (A0 : Option Addr) (c0 : Nat) (l0 : List Int) (r : Bool) (w : World) (hr0 : Kd.C (Kd.int .u8) w A0 l0.length l0) (hc0 : l0.length ≤ c0) (h : laws_FnStreams.f k l0 = some r) :
  Calls Try.prog 8 #[.slice A0 l0.length c0] w fun e w' => e = .returned (.bool r) ∧ Below w.heap.size w w' := by
 have HR0 := Aside0.mk hr0
 have HC0 := Aside0.mk hc0
 clear hr0 hc0
 have HB := Aside0.mk (zbx w.heap.size w)
 have H : ((laws_big.f l0).bind fun t830 => (if t830 = true then (some true) else ((spec_DrawStream.f k l0).bind fun bt831 => ((impl_Stream.f k bt831.1 bt831.2.1 bt831.2.2.1 bt831.2.2.2).bind fun t841 => ((spec_DrawBlock.f k l0).bind fun bt844 => ((impl_Block.f k bt844.1 bt844.2.1 bt844.2.2).bind fun t851 => ((spec_Stream.f k bt831.1 bt831.2.1 bt831.2.2.1 bt831.2.2.2).bind fun t854 => ((impl_Same.f t841 t854).bind fun t857 => (if t857 = true then ((spec_Block.f k bt844.1 bt844.2.1 bt844.2.2).bind fun t858 => ((impl_Same.f t851 t858).bind fun t861 => (if t861 = true then (if (t851.length : Int) = 0 then (laws_FnStreams.j0 k l0 bt831.1 bt831.2.1 bt831.2.2.1 bt831.2.2.2 t841 false) else (laws_FnStreams.j0 k l0 bt831.1 bt831.2.1 bt831.2.2.1 bt831.2.2.2 t841 ((t851.length : Int) != 64))) else (laws_FnStreams.j0 k l0 bt831.1 bt831.2.1 bt831.2.2.1 bt831.2.2.2 t841 true)))) else (laws_FnStreams.j0 k l0 bt831.1 bt831.2.1 bt831.2.2.1 bt831.2.2.2 t841 true)))))))))) = some r := h
 clear h
 replace H := zam.mp H
 obtain ⟨t830, A20, H⟩ := H
 try dsimp only at H
 have A2 := Aside0.mk A20
 clear A20
 by_cases c3 : t830 = true
 ·subst c3
  have H1 : (some true) = some r := by rw [if_pos rfl] at H; exact H
  clear H
  have H := H1
  clear H1
  obtain rfl := Option.some.inj H
  go_enter Try.func8, Try.ntmps8
  go_wp2_with (first | ((with_reducible refine zau (f := 28) rfl ?_); refine goesL_ (some 14) rfl rfl Try.func28 (by kernel_rfl) rfl #[.slice A0 l0.length c0] rfl (by (try simp only [zal, zaq, zar]); first | done | rfl | (rw [show y874.length = (ji58 : Int).toNat from KY71.out] <;> rfl)) ?_; (with_reducible refine (laws_big.calls _ _ l0 true _ ?side1 ?side2 A2.out).mono ?_); (case side1 => repeat (first | exact HR0.out | (with_reducible first | apply zas | apply zat | apply zaw))); (case side2 => exact HC0.out); rintro e w' ⟨rfl, ⟨nd, rfl⟩⟩; refine ⟨_, rfl, ?_⟩))
  go_ret
  exact ⟨by first | rfl | (simp [zbj, zbk] <;> rfl) | (simp [*, zbj, zbk] <;> rfl), by repeat (first | (with_reducible first | exact HB.out | apply zaj | apply zad | apply zai) | exact HB.out)⟩
 ·replace c3 := zbu.mpr c3
  subst c3
  have H1 : ((spec_DrawStream.f k l0).bind fun bt831 => ((impl_Stream.f k bt831.1 bt831.2.1 bt831.2.2.1 bt831.2.2.2).bind fun t841 => ((spec_DrawBlock.f k l0).bind fun bt844 => ((impl_Block.f k bt844.1 bt844.2.1 bt844.2.2).bind fun t851 => ((spec_Stream.f k bt831.1 bt831.2.1 bt831.2.2.1 bt831.2.2.2).bind fun t854 => ((impl_Same.f t841 t854).bind fun t857 => (if t857 = true then ((spec_Block.f k bt844.1 bt844.2.1 bt844.2.2).bind fun t858 => ((impl_Same.f t851 t858).bind fun t861 => (if t861 = true then (if (t851.length : Int) = 0 then (laws_FnStreams.j0 k l0 bt831.1 bt831.2.1 bt831.2.2.1 bt831.2.2.2 t841 false) else (laws_FnStreams.j0 k l0 bt831.1 bt831.2.1 bt831.2.2.1 bt831.2.2.2 t841 ((t851.length : Int) != 64))) else (laws_FnStreams.j0 k l0 bt831.1 bt831.2.1 bt831.2.2.1 bt831.2.2.2 t841 true)))) else (laws_FnStreams.j0 k l0 bt831.1 bt831.2.1 bt831.2.2.1 bt831.2.2.2 t841 true)))))))) = some r := by rw [if_neg (show ¬ (false = true) by decide)] at H; exact H
  clear H
  have H := H1
  clear H1
  replace H := zam.mp H
  obtain ⟨⟨t831, t832, t833, t834⟩, A40, H⟩ := H
  try dsimp only at H
  have A4 := Aside0.mk A40
  clear A40
  replace H := zam.mp H
  obtain ⟨t841, A50, H⟩ := H
  try dsimp only at H
  have A5 := Aside0.mk A50
  clear A50
  replace H := zam.mp H
  obtain ⟨⟨t844, t845, t846⟩, A60, H⟩ := H
  try dsimp only at H
  have A6 := Aside0.mk A60
  clear A60
  replace H := zam.mp H
  obtain ⟨t851, A70, H⟩ := H
  try dsimp only at H
  have A7 := Aside0.mk A70
  clear A70
  have HC8 := Aside0.mk H
  clear H
  go_enter Try.func8, Try.ntmps8
  go_upto_region 7 with (first | ((with_reducible refine zau (f := 28) rfl ?_); refine goesL_ (some 14) rfl rfl Try.func28 (by kernel_rfl) rfl #[.slice A0 l0.length c0] rfl (by (try simp only [zal, zaq, zar]); first | done | rfl | (rw [show y874.length = (ji58 : Int).toNat from KY71.out] <;> rfl)) ?_; (with_reducible refine (laws_big.calls _ _ l0 false _ ?side1 ?side2 A2.out).mono ?_); (case side1 => repeat (first | exact HR0.out | (with_reducible first | apply zas | apply zat | apply zaw))); (case side2 => exact HC0.out); rintro e w' ⟨rfl, ⟨nd, rfl⟩⟩; refine ⟨_, rfl, ?_⟩) | ((with_reducible refine zau (f := 33) rfl ?_); refine goesL_ (some 17) rfl rfl Try.func33 (by kernel_rfl) rfl #[.slice A0 l0.length c0] rfl (by (try simp only [zal, zaq, zar]); first | done | rfl | (rw [show y874.length = (ji58 : Int).toNat from KY71.out] <;> rfl)) ?_; (with_reducible refine (spec_DrawStream.calls k _ _ l0 t831 t832 t833 t834 _ ?side1 ?side2 A4.out).mono ?_); (case side1 => repeat (first | exact HR0.out | (with_reducible first | apply zas | apply zat | apply zaw))); (case side2 => exact HC0.out); rintro e w9 ⟨v835, v837, v839, rfl, ho0, ho1, ho2, hb⟩; refine ⟨_, rfl, ?_⟩; have xb_ := below_ofs (by repeat (first | (with_reducible first | exact HB.out | apply zaj | apply zad | apply zai) | exact HB.out)) hb; have n0_ := Aside0.mk (zbc ho0 (zba xb_)); have n1_ := Aside0.mk (zbc ho1 (zba xb_)); have n2_ := Aside0.mk (zbc ho2 (zba xb_)); have n3_ := Aside0.mk (zbb xb_ hb); clear HB; have HO836 := n0_; have HO838 := n1_; have HO840 := n2_; have HB := n3_; clear n0_ n1_ n2_ n3_; clear xb_ hb ho0; (try clear ho1); (try clear ho2); obtain ⟨Ao10, co10, eo10⟩ := zbe HO836.out; subst eo10; obtain ⟨Ao11, co11, eo11⟩ := zbe HO838.out; subst eo11; obtain ⟨Ao12, co12, eo12⟩ := zbe HO840.out; subst eo12) | ((with_reducible refine zau (f := 27) rfl ?_); refine goesL_ (some 26) rfl rfl Try.func27 (by kernel_rfl) rfl #[.slice Ao10 t831.length co10, .int .i64 t832, .slice Ao11 t833.length co11, .slice Ao12 t834.length co12] rfl (by (try simp only [zal, zaq, zar]); first | done | rfl | (rw [show y874.length = (ji58 : Int).toNat from KY71.out] <;> rfl)) ?_; (with_reducible refine (impl_Stream.calls k _ _ t831 t832 _ _ t833 _ _ t834 t841 _ ?side1 ?side2 ?side3 ?side4 ?side5 ?side6 A5.out).mono ?_); (case side1 => repeat (first | exact (zaf HO836.out).2.2 | (with_reducible first | apply zas | apply zat | apply zaw))); (case side2 => exact (zaf HO836.out).2.1); (case side3 => repeat (first | exact (zaf HO838.out).2.2 | (with_reducible first | apply zas | apply zat | apply zaw))); (case side4 => exact (zaf HO838.out).2.1); (case side5 => repeat (first | exact (zaf HO840.out).2.2 | (with_reducible first | apply zas | apply zat | apply zaw))); (case side6 => exact (zaf HO840.out).2.1); rintro e w13 ⟨v842, rfl, ho0, hb⟩; refine ⟨_, rfl, ?_⟩; have xb_ := below_ofs (by repeat (first | (with_reducible first | exact HB.out | apply zaj | apply zad | apply zai) | exact HB.out)) hb; have qHO836 := Kd.R_ofs (by (with_reducible repeat (first | apply zab | apply zac | apply zae)); exact HO836.out) hb; have n0_ := Aside0.mk (zak qHO836 (zan ho0) hb); have qHO838 := Kd.R_ofs (by (with_reducible repeat (first | apply zab | apply zac | apply zae)); exact HO838.out) hb; have n1_ := Aside0.mk (zak qHO838 (zan ho0) hb); have qHO840 := Kd.R_ofs (by (with_reducible repeat (first | apply zab | apply zac | apply zae)); exact HO840.out) hb; have n2_ := Aside0.mk (zak qHO840 (zan ho0) hb); have n3_ := Aside0.mk (zbc (zao (zao (zao ho0 (zav qHO836)) (zav qHO838)) (zav qHO840)) (zba xb_)); have n4_ := Aside0.mk (zbb xb_ hb); clear qHO836 HO836; clear qHO838 HO838; clear qHO840 HO840; clear HB; have HO836 := n0_; have HO838 := n1_; have HO840 := n2_; have HO843 := n3_; have HB := n4_; clear n0_ n1_ n2_ n3_ n4_; clear xb_ hb ho0) | ((with_reducible refine zau (f := 29) rfl ?_); refine goesL_ (some 29) rfl rfl Try.func29 (by kernel_rfl) rfl #[.slice A0 l0.length c0] rfl (by (try simp only [zal, zaq, zar]); first | done | rfl | (rw [show y874.length = (ji58 : Int).toNat from KY71.out] <;> rfl)) ?_; (with_reducible refine (spec_DrawBlock.calls k _ _ l0 t844 t845 t846 _ ?side1 ?side2 A6.out).mono ?_); (case side1 => repeat (first | exact (zbr HR0.out HB.out) | (with_reducible first | apply zas | apply zat | apply zaw))); (case side2 => exact HC0.out); rintro e w14 ⟨v847, v849, rfl, ho0, ho1, hb⟩; refine ⟨_, rfl, ?_⟩; have xb_ := below_ofs (by repeat (first | (with_reducible first | exact HB.out | apply zaj | apply zad | apply zai) | exact HB.out)) hb; have n0_ := Aside0.mk (zbm (Kd.R_told (Kd.R_told (Kd.R_old (by (with_reducible repeat (first | apply zab | apply zac | apply zae)); exact HO836.out) hb) (zan ho0)) (zan ho1)) (fun _ h_ => h_.1)); have n1_ := Aside0.mk (zbm (Kd.R_told (Kd.R_told (Kd.R_old (by (with_reducible repeat (first | apply zab | apply zac | apply zae)); exact HO838.out) hb) (zan ho0)) (zan ho1)) (fun _ h_ => h_.1)); have n2_ := Aside0.mk (zbm (Kd.R_told (Kd.R_told (Kd.R_old (by (with_reducible repeat (first | apply zab | apply zac | apply zae)); exact HO840.out) hb) (zan ho0)) (zan ho1)) (fun _ h_ => h_.1)); have n3_ := Aside0.mk (zbm (Kd.R_told (Kd.R_told (Kd.R_old (by (with_reducible repeat (first | apply zab | apply zac | apply zae)); exact HO843.out) hb) (zan ho0)) (zan ho1)) (fun _ h_ => h_.1)); have n4_ := Aside0.mk (zbc (zao (zao (zao (zao ho0 (zav (by (with_reducible repeat (first | apply zab | apply zac | apply zae)); exact HO836.out))) (zav (by (with_reducible repeat (first | apply zab | apply zac | apply zae)); exact HO838.out))) (zav (by (with_reducible repeat (first | apply zab | apply zac | apply zae)); exact HO840.out))) (zav (by (with_reducible repeat (first | apply zab | apply zac | apply zae)); exact HO843.out))) (zba xb_)); have n5_ := Aside0.mk (zbc (zao (zao (zao (zao ho1 (zav (by (with_reducible repeat (first | apply zab | apply zac | apply zae)); exact HO836.out))) (zav (by (with_reducible repeat (first | apply zab | apply zac | apply zae)); exact HO838.out))) (zav (by (with_reducible repeat (first | apply zab | apply zac | apply zae)); exact HO840.out))) (zav (by (with_reducible repeat (first | apply zab | apply zac | apply zae)); exact HO843.out))) (zba xb_)); have n6_ := Aside0.mk (zbb xb_ hb); clear HO836 HO838 HO840 HO843 HB; have HO836 := n0_; have HO838 := n1_; have HO840 := n2_; have HO843 := n3_; have HO848 := n4_; have HO850 := n5_; have HB := n6_; clear n0_ n1_ n2_ n3_ n4_ n5_ n6_; clear xb_ hb ho0; (try clear ho1); obtain ⟨Ao15, co15, eo15⟩ := zbe HO848.out; subst eo15; obtain ⟨Ao16, co16, eo16⟩ := zbe HO850.out; subst eo16) | ((with_reducible refine zau (f := 24) rfl ?_); refine goesL_ (some 36) rfl rfl Try.func24 (by kernel_rfl) rfl #[.slice Ao15 t844.length co15, .int .i64 t845, .slice Ao16 t846.length co16] rfl (by (try simp only [zal, zaq, zar]); first | done | rfl | (rw [show y874.length = (ji58 : Int).toNat from KY71.out] <;> rfl)) ?_; (with_reducible refine (impl_Block.calls k _ _ t844 t845 _ _ t846 t851 _ ?side1 ?side2 ?side3 ?side4 A7.out).mono ?_); (case side1 => repeat (first | exact (zaf HO848.out).2.2 | (with_reducible first | apply zas | apply zat | apply zaw))); (case side2 => exact (zaf HO848.out).2.1); (case side3 => repeat (first | exact (zaf HO850.out).2.2 | (with_reducible first | apply zas | apply zat | apply zaw))); (case side4 => exact (zaf HO850.out).2.1); rintro e w17 ⟨v852, rfl, ho0, hb⟩; refine ⟨_, rfl, ?_⟩; have xb_ := below_ofs (by repeat (first | (with_reducible first | exact HB.out | apply zaj | apply zad | apply zai) | exact HB.out)) hb; have qHO836 := Kd.R_ofs (by (with_reducible repeat (first | apply zab | apply zac | apply zae)); exact HO836.out) hb; have n0_ := Aside0.mk (zak qHO836 (zan ho0) hb); have qHO838 := Kd.R_ofs (by (with_reducible repeat (first | apply zab | apply zac | apply zae)); exact HO838.out) hb; have n1_ := Aside0.mk (zak qHO838 (zan ho0) hb); have qHO840 := Kd.R_ofs (by (with_reducible repeat (first | apply zab | apply zac | apply zae)); exact HO840.out) hb; have n2_ := Aside0.mk (zak qHO840 (zan ho0) hb); have qHO843 := Kd.R_ofs (by (with_reducible repeat (first | apply zab | apply zac | apply zae)); exact HO843.out) hb; have n3_ := Aside0.mk (zak qHO843 (zan ho0) hb); have qHO848 := Kd.R_ofs (by (with_reducible repeat (first | apply zab | apply zac | apply zae)); exact HO848.out) hb; have n4_ := Aside0.mk (zak qHO848 (zan ho0) hb); have qHO850 := Kd.R_ofs (by (with_reducible repeat (first | apply zab | apply zac | apply zae)); exact HO850.out) hb; have n5_ := Aside0.mk (zak qHO850 (zan ho0) hb); have n6_ := Aside0.mk (zbc (zao (zao (zao (zao (zao (zao ho0 (zav qHO836)) (zav qHO838)) (zav qHO840)) (zav qHO843)) (zav qHO848)) (zav qHO850)) (zba xb_)); have n7_ := Aside0.mk (zbb xb_ hb); clear qHO836 HO836; clear qHO838 HO838; clear qHO840 HO840; clear qHO843 HO843; clear qHO848 HO848; clear qHO850 HO850; clear HB; have HO836 := n0_; have HO838 := n1_; have HO840 := n2_; have HO843 := n3_; have HO848 := n4_; have HO850 := n5_; have HO853 := n6_; have HB := n7_; clear n0_ n1_ n2_ n3_ n4_ n5_ n6_ n7_; clear xb_ hb ho0))
  (try simp only [Act.put, zaa, zag, zah])
  go_cut [63] (fun v63 wc => ∃ (kq : Nat) (x63_7 : Bool), v63 = .bool x63_7 ∧ Aside0 (laws_FnStreams.j0 kq l0 t831 t832 t833 t834 t841 x63_7 = some r) ∧ Aside0 (kq ≤ k) ∧ Aside0 (Kd.R (Kd.int .u8) 5 wc w.heap.size (fun k_ => some k_ ≠ ((.slice Ao11 t833.length co11) : Value).ownBlock ∧ some k_ ≠ ((.slice Ao12 t834.length co12) : Value).ownBlock ∧ some k_ ≠ (v842 : Value).ownBlock) (.slice Ao10 t831.length co10) t831) ∧ Aside0 (Kd.R (Kd.int .u8) 5 wc w.heap.size (fun k_ => some k_ ≠ ((.slice Ao10 t831.length co10) : Value).ownBlock ∧ some k_ ≠ ((.slice Ao12 t834.length co12) : Value).ownBlock ∧ some k_ ≠ (v842 : Value).ownBlock) (.slice Ao11 t833.length co11) t833) ∧ Aside0 (Kd.R (Kd.int .u8) 5 wc w.heap.size (fun k_ => some k_ ≠ ((.slice Ao10 t831.length co10) : Value).ownBlock ∧ some k_ ≠ ((.slice Ao11 t833.length co11) : Value).ownBlock ∧ some k_ ≠ (v842 : Value).ownBlock) (.slice Ao12 t834.length co12) t834) ∧ Aside0 (Kd.R (Kd.int .u8) 5 wc w.heap.size (fun k_ => some k_ ≠ ((.slice Ao10 t831.length co10) : Value).ownBlock ∧ some k_ ≠ ((.slice Ao11 t833.length co11) : Value).ownBlock ∧ some k_ ≠ ((.slice Ao12 t834.length co12) : Value).ownBlock) v842 t841) ∧ Aside0 (Below w.heap.size w wc))
  case first =>
   have H := HC8.out
   clear HC8
   replace H := zam.mp H
   obtain ⟨t854, A180, H⟩ := H
   try dsimp only at H
   have A18 := Aside0.mk A180
   clear A180
   replace H := zam.mp H
   obtain ⟨t857, A190, H⟩ := H
   try dsimp only at H
   have A19 := Aside0.mk A190
   clear A190
   by_cases c20 : t857 = true
   ·subst c20
    have H1 : ((spec_Block.f k t844 t845 t846).bind fun t858 => ((impl_Same.f t851 t858).bind fun t861 => (if t861 = true then (if (t851.length : Int) = 0 then (laws_FnStreams.j0 k l0 t831 t832 t833 t834 t841 false) else (laws_FnStreams.j0 k l0 t831 t832 t833 t834 t841 ((t851.length : Int) != 64))) else (laws_FnStreams.j0 k l0 t831 t832 t833 t834 t841 true)))) = some r := by rw [if_pos rfl] at H; exact H
    clear H
    have H := H1
    clear H1
    replace H := zam.mp H
    obtain ⟨t858, A210, H⟩ := H
    try dsimp only at H
    have A21 := Aside0.mk A210
    clear A210
    replace H := zam.mp H
    obtain ⟨t861, A220, H⟩ := H
    try dsimp only at H
    have A22 := Aside0.mk A220
    clear A220
    by_cases c23 : t861 = true
    ·subst c23
     have H1 : (if (t851.length : Int) = 0 then (laws_FnStreams.j0 k l0 t831 t832 t833 t834 t841 false) else (laws_FnStreams.j0 k l0 t831 t832 t833 t834 t841 ((t851.length : Int) != 64))) = some r := by rw [if_pos rfl] at H; exact H
     clear H
     have H := H1
     clear H1
     by_cases c24 : (t851.length : Int) = 0
     ·rw [if_pos c24] at H
      have c24b0 : ((t851.length : Int) == 0) = true := zdn.mpr c24
      have c24b1 : ((t851.length : Int) != 0) = false := zbv.mpr c24
      clear c24
      (first | rw [c24b0] | (simp only [i64_w, i32_w]; rw [c24b0]) | skip)
      have H' := Aside0.mk H
      clear H
      go_wp2_with (first | ((with_reducible refine zau (f := 26) rfl ?_); refine goesL_ (some 42) rfl rfl Try.func26 (by kernel_rfl) rfl #[.slice Ao10 t831.length co10, .int .i64 t832, .slice Ao11 t833.length co11, .slice Ao12 t834.length co12] rfl (by (try simp only [zal, zaq, zar]); first | done | rfl | (rw [show y874.length = (ji58 : Int).toNat from KY71.out] <;> rfl)) ?_; (with_reducible refine (spec_Stream.calls k _ _ t831 t832 _ _ t833 _ _ t834 t854 _ ?side1 ?side2 ?side3 ?side4 ?side5 ?side6 A18.out).mono ?_); (case side1 => repeat (first | exact (zaf HO836.out).2.2 | (with_reducible first | apply zas | apply zat | apply zaw))); (case side2 => exact (zaf HO836.out).2.1); (case side3 => repeat (first | exact (zaf HO838.out).2.2 | (with_reducible first | apply zas | apply zat | apply zaw))); (case side4 => exact (zaf HO838.out).2.1); (case side5 => repeat (first | exact (zaf HO840.out).2.2 | (with_reducible first | apply zas | apply zat | apply zaw))); (case side6 => exact (zaf HO840.out).2.1); rintro e w25 ⟨v855, rfl, ho0, hb⟩; refine ⟨_, rfl, ?_⟩; have xb_ := below_ofs (by repeat (first | (with_reducible first | exact HB.out | apply zaj | apply zad | apply zai) | exact HB.out)) hb; have qHO836 := Kd.R_ofs (by (with_reducible repeat (first | apply zab | apply zac | apply zae)); exact HO836.out) hb; have n0_ := Aside0.mk (zak qHO836 (zan ho0) hb); have qHO838 := Kd.R_ofs (by (with_reducible repeat (first | apply zab | apply zac | apply zae)); exact HO838.out) hb; have n1_ := Aside0.mk (zak qHO838 (zan ho0) hb); have qHO840 := Kd.R_ofs (by (with_reducible repeat (first | apply zab | apply zac | apply zae)); exact HO840.out) hb; have n2_ := Aside0.mk (zak qHO840 (zan ho0) hb); have qHO843 := Kd.R_ofs (by (with_reducible repeat (first | apply zab | apply zac | apply zae)); exact HO843.out) hb; have n3_ := Aside0.mk (zak qHO843 (zan ho0) hb); have qHO848 := Kd.R_ofs (by (with_reducible repeat (first | apply zab | apply zac | apply zae)); exact HO848.out) hb; have n4_ := Aside0.mk (zak qHO848 (zan ho0) hb); have qHO850 := Kd.R_ofs (by (with_reducible repeat (first | apply zab | apply zac | apply zae)); exact HO850.out) hb; have n5_ := Aside0.mk (zak qHO850 (zan ho0) hb); have qHO853 := Kd.R_ofs (by (with_reducible repeat (first | apply zab | apply zac | apply zae)); exact HO853.out) hb; have n6_ := Aside0.mk (zak qHO853 (zan ho0) hb); have n7_ := Aside0.mk (zbc (zao (zao (zao (zao (zao (zao (zao ho0 (zav qHO836)) (zav qHO838)) (zav qHO840)) (zav qHO843)) (zav qHO848)) (zav qHO850)) (zav qHO853)) (zba xb_)); have n8_ := Aside0.mk (zbb xb_ hb); clear qHO836 HO836; clear qHO838 HO838; clear qHO840 HO840; clear qHO843 HO843; clear qHO848 HO848; clear qHO850 HO850; clear qHO853 HO853; clear HB; have HO836 := n0_; have HO838 := n1_; have HO840 := n2_; have HO843 := n3_; have HO848 := n4_; have HO850 := n5_; have HO853 := n6_; have HO856 := n7_; have HB := n8_; clear n0_ n1_ n2_ n3_ n4_ n5_ n6_ n7_ n8_; clear xb_ hb ho0; obtain ⟨Ao26, co26, eo26⟩ := zbe HO843.out; subst eo26; obtain ⟨Ao27, co27, eo27⟩ := zbe HO856.out; subst eo27) | ((with_reducible refine zau (f := 32) rfl ?_); refine goesL_ (some 43) rfl rfl Try.func32 (by kernel_rfl) rfl #[.slice Ao26 t841.length co26, .slice Ao27 t854.length co27] rfl (by (try simp only [zal, zaq, zar]); first | done | rfl | (rw [show y874.length = (ji58 : Int).toNat from KY71.out] <;> rfl)) ?_; (with_reducible refine (impl_Same.calls _ _ t841 _ _ t854 true _ ?side1 ?side2 ?side3 ?side4 A19.out).mono ?_); (case side1 => repeat (first | exact (zaf HO843.out).2.2 | (with_reducible first | apply zas | apply zat | apply zaw))); (case side2 => exact (zaf HO843.out).2.1); (case side3 => repeat (first | exact (zaf HO856.out).2.2 | (with_reducible first | apply zas | apply zat | apply zaw))); (case side4 => exact (zaf HO856.out).2.1); rintro e w' ⟨rfl, ⟨nd, rfl⟩⟩; refine ⟨_, rfl, ?_⟩) | (go_at_call 23; (with_reducible refine (spec_Block.calls k _ _ t844 t845 _ _ t846 t858 _ ?side1 ?side2 ?side3 ?side4 A21.out).mono ?_); (case side1 => repeat (first | exact (zaf HO848.out).2.2 | (with_reducible first | apply zas | apply zat | apply zaw))); (case side2 => exact (zaf HO848.out).2.1); (case side3 => repeat (first | exact (zaf HO850.out).2.2 | (with_reducible first | apply zas | apply zat | apply zaw))); (case side4 => exact (zaf HO850.out).2.1); rintro e w28 ⟨v859, rfl, ho0, hb⟩; have xb_ := below_ofs (by repeat (first | (with_reducible first | exact HB.out | apply zaj | apply zad | apply zai) | exact HB.out)) hb; have qHO836 := Kd.R_ofs (by (with_reducible repeat (first | apply zab | apply zac | apply zae)); exact HO836.out) hb; have n0_ := Aside0.mk (zak qHO836 (zan ho0) hb); have qHO838 := Kd.R_ofs (by (with_reducible repeat (first | apply zab | apply zac | apply zae)); exact HO838.out) hb; have n1_ := Aside0.mk (zak qHO838 (zan ho0) hb); have qHO840 := Kd.R_ofs (by (with_reducible repeat (first | apply zab | apply zac | apply zae)); exact HO840.out) hb; have n2_ := Aside0.mk (zak qHO840 (zan ho0) hb); have qHO843 := Kd.R_ofs (by (with_reducible repeat (first | apply zab | apply zac | apply zae)); exact HO843.out) hb; have n3_ := Aside0.mk (zak qHO843 (zan ho0) hb); have qHO848 := Kd.R_ofs (by (with_reducible repeat (first | apply zab | apply zac | apply zae)); exact HO848.out) hb; have n4_ := Aside0.mk (zak qHO848 (zan ho0) hb); have qHO850 := Kd.R_ofs (by (with_reducible repeat (first | apply zab | apply zac | apply zae)); exact HO850.out) hb; have n5_ := Aside0.mk (zak qHO850 (zan ho0) hb); have qHO853 := Kd.R_ofs (by (with_reducible repeat (first | apply zab | apply zac | apply zae)); exact HO853.out) hb; have n6_ := Aside0.mk (zak qHO853 (zan ho0) hb); have qHO856 := Kd.R_ofs (by (with_reducible repeat (first | apply zab | apply zac | apply zae)); exact HO856.out) hb; have n7_ := Aside0.mk (zak qHO856 (zan ho0) hb); have n8_ := Aside0.mk (zbc (zao (zao (zao (zao (zao (zao (zao (zao ho0 (zav qHO836)) (zav qHO838)) (zav qHO840)) (zav qHO843)) (zav qHO848)) (zav qHO850)) (zav qHO853)) (zav qHO856)) (zba xb_)); have n9_ := Aside0.mk (zbb xb_ hb); clear qHO836 HO836; clear qHO838 HO838; clear qHO840 HO840; clear qHO843 HO843; clear qHO848 HO848; clear qHO850 HO850; clear qHO853 HO853; clear qHO856 HO856; clear HB; have HO836 := n0_; have HO838 := n1_; have HO840 := n2_; have HO843 := n3_; have HO848 := n4_; have HO850 := n5_; have HO853 := n6_; have HO856 := n7_; have HO860 := n8_; have HB := n9_; clear n0_ n1_ n2_ n3_ n4_ n5_ n6_ n7_ n8_ n9_; clear xb_ hb ho0; obtain ⟨Ao29, co29, eo29⟩ := zbe HO853.out; subst eo29; obtain ⟨Ao30, co30, eo30⟩ := zbe HO860.out; subst eo30) | (go_at_call 32; (with_reducible refine (impl_Same.calls _ _ t851 _ _ t858 true _ ?side1 ?side2 ?side3 ?side4 A22.out).mono ?_); (case side1 => repeat (first | exact (zaf HO853.out).2.2 | (with_reducible first | apply zas | apply zat | apply zaw))); (case side2 => exact (zaf HO853.out).2.1); (case side3 => repeat (first | exact (zaf HO860.out).2.2 | (with_reducible first | apply zas | apply zat | apply zaw))); (case side4 => exact (zaf HO860.out).2.1); rintro e w' ⟨rfl, ⟨nd, rfl⟩⟩))
      go_meet
      case rel => exact ⟨_, (false), (by first | rfl | (simp; done) | (simp [*]; done)), H', ⟨by first | omega | exact zbp _⟩, ⟨by (with_reducible repeat (first | apply zab | apply zac | apply zae)); exact zbm HO836.out (fun _ hk => ⟨hk.1.1.1.1.1.1.1, ⟨hk.1.1.1.1.1.1.2, hk.1.1.1.1.1.2⟩⟩)⟩, ⟨by (with_reducible repeat (first | apply zab | apply zac | apply zae)); exact zbm HO838.out (fun _ hk => ⟨hk.1.1.1.1.1.1.1, ⟨hk.1.1.1.1.1.1.2, hk.1.1.1.1.1.2⟩⟩)⟩, ⟨by (with_reducible repeat (first | apply zab | apply zac | apply zae)); exact zbm HO840.out (fun _ hk => ⟨hk.1.1.1.1.1.1.1, ⟨hk.1.1.1.1.1.1.2, hk.1.1.1.1.1.2⟩⟩)⟩, ⟨by (with_reducible repeat (first | apply zab | apply zac | apply zae)); exact zbm HO843.out (fun _ hk => ⟨hk.1.1.1.1.1.1.1.2, ⟨hk.1.1.1.1.1.1.2, hk.1.1.1.1.1.2⟩⟩)⟩, ⟨by repeat (first | (with_reducible first | exact HB.out | apply zaj | apply zad | apply zai) | exact HB.out)⟩⟩
     ·rw [if_neg c24] at H
      have c24b0 : ((t851.length : Int) == 0) = false := zbz.mpr c24
      have c24b1 : ((t851.length : Int) != 0) = true := zdh.mpr c24
      have c24b2 : ¬ (t851 = []) := fun h_ => c24 (by rw [h_]; rfl)
      (first | rw [c24b0] | (simp only [i64_w, i32_w]; rw [c24b0]) | skip)
      have H' := Aside0.mk H
      clear H
      go_wp2_with (first | ((with_reducible refine zau (f := 26) rfl ?_); refine goesL_ (some 42) rfl rfl Try.func26 (by kernel_rfl) rfl #[.slice Ao10 t831.length co10, .int .i64 t832, .slice Ao11 t833.length co11, .slice Ao12 t834.length co12] rfl (by (try simp only [zal, zaq, zar]); first | done | rfl | (rw [show y874.length = (ji58 : Int).toNat from KY71.out] <;> rfl)) ?_; (with_reducible refine (spec_Stream.calls k _ _ t831 t832 _ _ t833 _ _ t834 t854 _ ?side1 ?side2 ?side3 ?side4 ?side5 ?side6 A18.out).mono ?_); (case side1 => repeat (first | exact (zaf HO836.out).2.2 | (with_reducible first | apply zas | apply zat | apply zaw))); (case side2 => exact (zaf HO836.out).2.1); (case side3 => repeat (first | exact (zaf HO838.out).2.2 | (with_reducible first | apply zas | apply zat | apply zaw))); (case side4 => exact (zaf HO838.out).2.1); (case side5 => repeat (first | exact (zaf HO840.out).2.2 | (with_reducible first | apply zas | apply zat | apply zaw))); (case side6 => exact (zaf HO840.out).2.1); rintro e w31 ⟨v855, rfl, ho0, hb⟩; refine ⟨_, rfl, ?_⟩; have xb_ := below_ofs (by repeat (first | (with_reducible first | exact HB.out | apply zaj | apply zad | apply zai) | exact HB.out)) hb; have qHO836 := Kd.R_ofs (by (with_reducible repeat (first | apply zab | apply zac | apply zae)); exact HO836.out) hb; have n0_ := Aside0.mk (zak qHO836 (zan ho0) hb); have qHO838 := Kd.R_ofs (by (with_reducible repeat (first | apply zab | apply zac | apply zae)); exact HO838.out) hb; have n1_ := Aside0.mk (zak qHO838 (zan ho0) hb); have qHO840 := Kd.R_ofs (by (with_reducible repeat (first | apply zab | apply zac | apply zae)); exact HO840.out) hb; have n2_ := Aside0.mk (zak qHO840 (zan ho0) hb); have qHO843 := Kd.R_ofs (by (with_reducible repeat (first | apply zab | apply zac | apply zae)); exact HO843.out) hb; have n3_ := Aside0.mk (zak qHO843 (zan ho0) hb); have qHO848 := Kd.R_ofs (by (with_reducible repeat (first | apply zab | apply zac | apply zae)); exact HO848.out) hb; have n4_ := Aside0.mk (zak qHO848 (zan ho0) hb); have qHO850 := Kd.R_ofs (by (with_reducible repeat (first | apply zab | apply zac | apply zae)); exact HO850.out) hb; have n5_ := Aside0.mk (zak qHO850 (zan ho0) hb); have qHO853 := Kd.R_ofs (by (with_reducible repeat (first | apply zab | apply zac | apply zae)); exact HO853.out) hb; have n6_ := Aside0.mk (zak qHO853 (zan ho0) hb); have n7_ := Aside0.mk (zbc (zao (zao (zao (zao (zao (zao (zao ho0 (zav qHO836)) (zav qHO838)) (zav qHO840)) (zav qHO843)) (zav qHO848)) (zav qHO850)) (zav qHO853)) (zba xb_)); have n8_ := Aside0.mk (zbb xb_ hb); clear qHO836 HO836; clear qHO838 HO838; clear qHO840 HO840; clear qHO843 HO843; clear qHO848 HO848; clear qHO850 HO850; clear qHO853 HO853; clear HB; have HO836 := n0_; have HO838 := n1_; have HO840 := n2_; have HO843 := n3_; have HO848 := n4_; have HO850 := n5_; have HO853 := n6_; have HO856 := n7_; have HB := n8_; clear n0_ n1_ n2_ n3_ n4_ n5_ n6_ n7_ n8_; clear xb_ hb ho0; obtain ⟨Ao32, co32, eo32⟩ := zbe HO843.out; subst eo32; obtain ⟨Ao33, co33, eo33⟩ := zbe HO856.out; subst eo33) | ((with_reducible refine zau (f := 32) rfl ?_); refine goesL_ (some 43) rfl rfl Try.func32 (by kernel_rfl) rfl #[.slice Ao32 t841.length co32, .slice Ao33 t854.length co33] rfl (by (try simp only [zal, zaq, zar]); first | done | rfl | (rw [show y874.length = (ji58 : Int).toNat from KY71.out] <;> rfl)) ?_; (with_reducible refine (impl_Same.calls _ _ t841 _ _ t854 true _ ?side1 ?side2 ?side3 ?side4 A19.out).mono ?_); (case side1 => repeat (first | exact (zaf HO843.out).2.2 | (with_reducible first | apply zas | apply zat | apply zaw))); (case side2 => exact (zaf HO843.out).2.1); (case side3 => repeat (first | exact (zaf HO856.out).2.2 | (with_reducible first | apply zas | apply zat | apply zaw))); (case side4 => exact (zaf HO856.out).2.1); rintro e w' ⟨rfl, ⟨nd, rfl⟩⟩; refine ⟨_, rfl, ?_⟩) | (go_at_call 23; (with_reducible refine (spec_Block.calls k _ _ t844 t845 _ _ t846 t858 _ ?side1 ?side2 ?side3 ?side4 A21.out).mono ?_); (case side1 => repeat (first | exact (zaf HO848.out).2.2 | (with_reducible first | apply zas | apply zat | apply zaw))); (case side2 => exact (zaf HO848.out).2.1); (case side3 => repeat (first | exact (zaf HO850.out).2.2 | (with_reducible first | apply zas | apply zat | apply zaw))); (case side4 => exact (zaf HO850.out).2.1); rintro e w34 ⟨v859, rfl, ho0, hb⟩; have xb_ := below_ofs (by repeat (first | (with_reducible first | exact HB.out | apply zaj | apply zad | apply zai) | exact HB.out)) hb; have qHO836 := Kd.R_ofs (by (with_reducible repeat (first | apply zab | apply zac | apply zae)); exact HO836.out) hb; have n0_ := Aside0.mk (zak qHO836 (zan ho0) hb); have qHO838 := Kd.R_ofs (by (with_reducible repeat (first | apply zab | apply zac | apply zae)); exact HO838.out) hb; have n1_ := Aside0.mk (zak qHO838 (zan ho0) hb); have qHO840 := Kd.R_ofs (by (with_reducible repeat (first | apply zab | apply zac | apply zae)); exact HO840.out) hb; have n2_ := Aside0.mk (zak qHO840 (zan ho0) hb); have qHO843 := Kd.R_ofs (by (with_reducible repeat (first | apply zab | apply zac | apply zae)); exact HO843.out) hb; have n3_ := Aside0.mk (zak qHO843 (zan ho0) hb); have qHO848 := Kd.R_ofs (by (with_reducible repeat (first | apply zab | apply zac | apply zae)); exact HO848.out) hb; have n4_ := Aside0.mk (zak qHO848 (zan ho0) hb); have qHO850 := Kd.R_ofs (by (with_reducible repeat (first | apply zab | apply zac | apply zae)); exact HO850.out) hb; have n5_ := Aside0.mk (zak qHO850 (zan ho0) hb); have qHO853 := Kd.R_ofs (by (with_reducible repeat (first | apply zab | apply zac | apply zae)); exact HO853.out) hb; have n6_ := Aside0.mk (zak qHO853 (zan ho0) hb); have qHO856 := Kd.R_ofs (by (with_reducible repeat (first | apply zab | apply zac | apply zae)); exact HO856.out) hb; have n7_ := Aside0.mk (zak qHO856 (zan ho0) hb); have n8_ := Aside0.mk (zbc (zao (zao (zao (zao (zao (zao (zao (zao ho0 (zav qHO836)) (zav qHO838)) (zav qHO840)) (zav qHO843)) (zav qHO848)) (zav qHO850)) (zav qHO853)) (zav qHO856)) (zba xb_)); have n9_ := Aside0.mk (zbb xb_ hb); clear qHO836 HO836; clear qHO838 HO838; clear qHO840 HO840; clear qHO843 HO843; clear qHO848 HO848; clear qHO850 HO850; clear qHO853 HO853; clear qHO856 HO856; clear HB; have HO836 := n0_; have HO838 := n1_; have HO840 := n2_; have HO843 := n3_; have HO848 := n4_; have HO850 := n5_; have HO853 := n6_; have HO856 := n7_; have HO860 := n8_; have HB := n9_; clear n0_ n1_ n2_ n3_ n4_ n5_ n6_ n7_ n8_ n9_; clear xb_ hb ho0; obtain ⟨Ao35, co35, eo35⟩ := zbe HO853.out; subst eo35; obtain ⟨Ao36, co36, eo36⟩ := zbe HO860.out; subst eo36) | (go_at_call 32; (with_reducible refine (impl_Same.calls _ _ t851 _ _ t858 true _ ?side1 ?side2 ?side3 ?side4 A22.out).mono ?_); (case side1 => repeat (first | exact (zaf HO853.out).2.2 | (with_reducible first | apply zas | apply zat | apply zaw))); (case side2 => exact (zaf HO853.out).2.1); (case side3 => repeat (first | exact (zaf HO860.out).2.2 | (with_reducible first | apply zas | apply zat | apply zaw))); (case side4 => exact (zaf HO860.out).2.1); rintro e w' ⟨rfl, ⟨nd, rfl⟩⟩))
      go_meet
      case rel => exact ⟨_, (((t851.length : Int) != 64)), (by first | rfl | (simp; done) | (simp [*]; done)), H', ⟨by first | omega | exact zbp _⟩, ⟨by (with_reducible repeat (first | apply zab | apply zac | apply zae)); exact zbm HO836.out (fun _ hk => ⟨hk.1.1.1.1.1.1.1, ⟨hk.1.1.1.1.1.1.2, hk.1.1.1.1.1.2⟩⟩)⟩, ⟨by (with_reducible repeat (first | apply zab | apply zac | apply zae)); exact zbm HO838.out (fun _ hk => ⟨hk.1.1.1.1.1.1.1, ⟨hk.1.1.1.1.1.1.2, hk.1.1.1.1.1.2⟩⟩)⟩, ⟨by (with_reducible repeat (first | apply zab | apply zac | apply zae)); exact zbm HO840.out (fun _ hk => ⟨hk.1.1.1.1.1.1.1, ⟨hk.1.1.1.1.1.1.2, hk.1.1.1.1.1.2⟩⟩)⟩, ⟨by (with_reducible repeat (first | apply zab | apply zac | apply zae)); exact zbm HO843.out (fun _ hk => ⟨hk.1.1.1.1.1.1.1.2, ⟨hk.1.1.1.1.1.1.2, hk.1.1.1.1.1.2⟩⟩)⟩, ⟨by repeat (first | (with_reducible first | exact HB.out | apply zaj | apply zad | apply zai) | exact HB.out)⟩⟩
    ·replace c23 := zbu.mpr c23
     subst c23
     have H1 : (laws_FnStreams.j0 k l0 t831 t832 t833 t834 t841 true) = some r := by rw [if_neg (show ¬ (false = true) by decide)] at H; exact H
     clear H
     have H := H1
     clear H1
     have H' := Aside0.mk H
     clear H
     go_wp2_with (first | ((with_reducible refine zau (f := 26) rfl ?_); refine goesL_ (some 42) rfl rfl Try.func26 (by kernel_rfl) rfl #[.slice Ao10 t831.length co10, .int .i64 t832, .slice Ao11 t833.length co11, .slice Ao12 t834.length co12] rfl (by (try simp only [zal, zaq, zar]); first | done | rfl | (rw [show y874.length = (ji58 : Int).toNat from KY71.out] <;> rfl)) ?_; (with_reducible refine (spec_Stream.calls k _ _ t831 t832 _ _ t833 _ _ t834 t854 _ ?side1 ?side2 ?side3 ?side4 ?side5 ?side6 A18.out).mono ?_); (case side1 => repeat (first | exact (zaf HO836.out).2.2 | (with_reducible first | apply zas | apply zat | apply zaw))); (case side2 => exact (zaf HO836.out).2.1); (case side3 => repeat (first | exact (zaf HO838.out).2.2 | (with_reducible first | apply zas | apply zat | apply zaw))); (case side4 => exact (zaf HO838.out).2.1); (case side5 => repeat (first | exact (zaf HO840.out).2.2 | (with_reducible first | apply zas | apply zat | apply zaw))); (case side6 => exact (zaf HO840.out).2.1); rintro e w37 ⟨v855, rfl, ho0, hb⟩; refine ⟨_, rfl, ?_⟩; have xb_ := below_ofs (by repeat (first | (with_reducible first | exact HB.out | apply zaj | apply zad | apply zai) | exact HB.out)) hb; have qHO836 := Kd.R_ofs (by (with_reducible repeat (first | apply zab | apply zac | apply zae)); exact HO836.out) hb; have n0_ := Aside0.mk (zak qHO836 (zan ho0) hb); have qHO838 := Kd.R_ofs (by (with_reducible repeat (first | apply zab | apply zac | apply zae)); exact HO838.out) hb; have n1_ := Aside0.mk (zak qHO838 (zan ho0) hb); have qHO840 := Kd.R_ofs (by (with_reducible repeat (first | apply zab | apply zac | apply zae)); exact HO840.out) hb; have n2_ := Aside0.mk (zak qHO840 (zan ho0) hb); have qHO843 := Kd.R_ofs (by (with_reducible repeat (first | apply zab | apply zac | apply zae)); exact HO843.out) hb; have n3_ := Aside0.mk (zak qHO843 (zan ho0) hb); have qHO848 := Kd.R_ofs (by (with_reducible repeat (first | apply zab | apply zac | apply zae)); exact HO848.out) hb; have n4_ := Aside0.mk (zak qHO848 (zan ho0) hb); have qHO850 := Kd.R_ofs (by (with_reducible repeat (first | apply zab | apply zac | apply zae)); exact HO850.out) hb; have n5_ := Aside0.mk (zak qHO850 (zan ho0) hb); have qHO853 := Kd.R_ofs (by (with_reducible repeat (first | apply zab | apply zac | apply zae)); exact HO853.out) hb; have n6_ := Aside0.mk (zak qHO853 (zan ho0) hb); have n7_ := Aside0.mk (zbc (zao (zao (zao (zao (zao (zao (zao ho0 (zav qHO836)) (zav qHO838)) (zav qHO840)) (zav qHO843)) (zav qHO848)) (zav qHO850)) (zav qHO853)) (zba xb_)); have n8_ := Aside0.mk (zbb xb_ hb); clear qHO836 HO836; clear qHO838 HO838; clear qHO840 HO840; clear qHO843 HO843; clear qHO848 HO848; clear qHO850 HO850; clear qHO853 HO853; clear HB; have HO836 := n0_; have HO838 := n1_; have HO840 := n2_; have HO843 := n3_; have HO848 := n4_; have HO850 := n5_; have HO853 := n6_; have HO856 := n7_; have HB := n8_; clear n0_ n1_ n2_ n3_ n4_ n5_ n6_ n7_ n8_; clear xb_ hb ho0; obtain ⟨Ao38, co38, eo38⟩ := zbe HO843.out; subst eo38; obtain ⟨Ao39, co39, eo39⟩ := zbe HO856.out; subst eo39) | ((with_reducible refine zau (f := 32) rfl ?_); refine goesL_ (some 43) rfl rfl Try.func32 (by kernel_rfl) rfl #[.slice Ao38 t841.length co38, .slice Ao39 t854.length co39] rfl (by (try simp only [zal, zaq, zar]); first | done | rfl | (rw [show y874.length = (ji58 : Int).toNat from KY71.out] <;> rfl)) ?_; (with_reducible refine (impl_Same.calls _ _ t841 _ _ t854 true _ ?side1 ?side2 ?side3 ?side4 A19.out).mono ?_); (case side1 => repeat (first | exact (zaf HO843.out).2.2 | (with_reducible first | apply zas | apply zat | apply zaw))); (case side2 => exact (zaf HO843.out).2.1); (case side3 => repeat (first | exact (zaf HO856.out).2.2 | (with_reducible first | apply zas | apply zat | apply zaw))); (case side4 => exact (zaf HO856.out).2.1); rintro e w' ⟨rfl, ⟨nd, rfl⟩⟩; refine ⟨_, rfl, ?_⟩) | (go_at_call 23; (with_reducible refine (spec_Block.calls k _ _ t844 t845 _ _ t846 t858 _ ?side1 ?side2 ?side3 ?side4 A21.out).mono ?_); (case side1 => repeat (first | exact (zaf HO848.out).2.2 | (with_reducible first | apply zas | apply zat | apply zaw))); (case side2 => exact (zaf HO848.out).2.1); (case side3 => repeat (first | exact (zaf HO850.out).2.2 | (with_reducible first | apply zas | apply zat | apply zaw))); (case side4 => exact (zaf HO850.out).2.1); rintro e w40 ⟨v859, rfl, ho0, hb⟩; have xb_ := below_ofs (by repeat (first | (with_reducible first | exact HB.out | apply zaj | apply zad | apply zai) | exact HB.out)) hb; have qHO836 := Kd.R_ofs (by (with_reducible repeat (first | apply zab | apply zac | apply zae)); exact HO836.out) hb; have n0_ := Aside0.mk (zak qHO836 (zan ho0) hb); have qHO838 := Kd.R_ofs (by (with_reducible repeat (first | apply zab | apply zac | apply zae)); exact HO838.out) hb; have n1_ := Aside0.mk (zak qHO838 (zan ho0) hb); have qHO840 := Kd.R_ofs (by (with_reducible repeat (first | apply zab | apply zac | apply zae)); exact HO840.out) hb; have n2_ := Aside0.mk (zak qHO840 (zan ho0) hb); have qHO843 := Kd.R_ofs (by (with_reducible repeat (first | apply zab | apply zac | apply zae)); exact HO843.out) hb; have n3_ := Aside0.mk (zak qHO843 (zan ho0) hb); have qHO848 := Kd.R_ofs (by (with_reducible repeat (first | apply zab | apply zac | apply zae)); exact HO848.out) hb; have n4_ := Aside0.mk (zak qHO848 (zan ho0) hb); have qHO850 := Kd.R_ofs (by (with_reducible repeat (first | apply zab | apply zac | apply zae)); exact HO850.out) hb; have n5_ := Aside0.mk (zak qHO850 (zan ho0) hb); have qHO853 := Kd.R_ofs (by (with_reducible repeat (first | apply zab | apply zac | apply zae)); exact HO853.out) hb; have n6_ := Aside0.mk (zak qHO853 (zan ho0) hb); have qHO856 := Kd.R_ofs (by (with_reducible repeat (first | apply zab | apply zac | apply zae)); exact HO856.out) hb; have n7_ := Aside0.mk (zak qHO856 (zan ho0) hb); have n8_ := Aside0.mk (zbc (zao (zao (zao (zao (zao (zao (zao (zao ho0 (zav qHO836)) (zav qHO838)) (zav qHO840)) (zav qHO843)) (zav qHO848)) (zav qHO850)) (zav qHO853)) (zav qHO856)) (zba xb_)); have n9_ := Aside0.mk (zbb xb_ hb); clear qHO836 HO836; clear qHO838 HO838; clear qHO840 HO840; clear qHO843 HO843; clear qHO848 HO848; clear qHO850 HO850; clear qHO853 HO853; clear qHO856 HO856; clear HB; have HO836 := n0_; have HO838 := n1_; have HO840 := n2_; have HO843 := n3_; have HO848 := n4_; have HO850 := n5_; have HO853 := n6_; have HO856 := n7_; have HO860 := n8_; have HB := n9_; clear n0_ n1_ n2_ n3_ n4_ n5_ n6_ n7_ n8_ n9_; clear xb_ hb ho0; obtain ⟨Ao41, co41, eo41⟩ := zbe HO853.out; subst eo41; obtain ⟨Ao42, co42, eo42⟩ := zbe HO860.out; subst eo42) | (go_at_call 32; (with_reducible refine (impl_Same.calls _ _ t851 _ _ t858 false _ ?side1 ?side2 ?side3 ?side4 A22.out).mono ?_); (case side1 => repeat (first | exact (zaf HO853.out).2.2 | (with_reducible first | apply zas | apply zat | apply zaw))); (case side2 => exact (zaf HO853.out).2.1); (case side3 => repeat (first | exact (zaf HO860.out).2.2 | (with_reducible first | apply zas | apply zat | apply zaw))); (case side4 => exact (zaf HO860.out).2.1); rintro e w' ⟨rfl, ⟨nd, rfl⟩⟩))
     go_meet
     case rel => exact ⟨_, (true), (by first | rfl | (simp; done) | (simp [*]; done)), H', ⟨by first | omega | exact zbp _⟩, ⟨by (with_reducible repeat (first | apply zab | apply zac | apply zae)); exact zbm HO836.out (fun _ hk => ⟨hk.1.1.1.1.1.1.1, ⟨hk.1.1.1.1.1.1.2, hk.1.1.1.1.1.2⟩⟩)⟩, ⟨by (with_reducible repeat (first | apply zab | apply zac | apply zae)); exact zbm HO838.out (fun _ hk => ⟨hk.1.1.1.1.1.1.1, ⟨hk.1.1.1.1.1.1.2, hk.1.1.1.1.1.2⟩⟩)⟩, ⟨by (with_reducible repeat (first | apply zab | apply zac | apply zae)); exact zbm HO840.out (fun _ hk => ⟨hk.1.1.1.1.1.1.1, ⟨hk.1.1.1.1.1.1.2, hk.1.1.1.1.1.2⟩⟩)⟩, ⟨by (with_reducible repeat (first | apply zab | apply zac | apply zae)); exact zbm HO843.out (fun _ hk => ⟨hk.1.1.1.1.1.1.1.2, ⟨hk.1.1.1.1.1.1.2, hk.1.1.1.1.1.2⟩⟩)⟩, ⟨by repeat (first | (with_reducible first | exact HB.out | apply zaj | apply zad | apply zai) | exact HB.out)⟩⟩
   ·replace c20 := zbu.mpr c20
    subst c20
    have H1 : (laws_FnStreams.j0 k l0 t831 t832 t833 t834 t841 true) = some r := by rw [if_neg (show ¬ (false = true) by decide)] at H; exact H
    clear H
    have H := H1
    clear H1
    have H' := Aside0.mk H
    clear H
    go_wp2_with (first | ((with_reducible refine zau (f := 26) rfl ?_); refine goesL_ (some 42) rfl rfl Try.func26 (by kernel_rfl) rfl #[.slice Ao10 t831.length co10, .int .i64 t832, .slice Ao11 t833.length co11, .slice Ao12 t834.length co12] rfl (by (try simp only [zal, zaq, zar]); first | done | rfl | (rw [show y874.length = (ji58 : Int).toNat from KY71.out] <;> rfl)) ?_; (with_reducible refine (spec_Stream.calls k _ _ t831 t832 _ _ t833 _ _ t834 t854 _ ?side1 ?side2 ?side3 ?side4 ?side5 ?side6 A18.out).mono ?_); (case side1 => repeat (first | exact (zaf HO836.out).2.2 | (with_reducible first | apply zas | apply zat | apply zaw))); (case side2 => exact (zaf HO836.out).2.1); (case side3 => repeat (first | exact (zaf HO838.out).2.2 | (with_reducible first | apply zas | apply zat | apply zaw))); (case side4 => exact (zaf HO838.out).2.1); (case side5 => repeat (first | exact (zaf HO840.out).2.2 | (with_reducible first | apply zas | apply zat | apply zaw))); (case side6 => exact (zaf HO840.out).2.1); rintro e w43 ⟨v855, rfl, ho0, hb⟩; refine ⟨_, rfl, ?_⟩; have xb_ := below_ofs (by repeat (first | (with_reducible first | exact HB.out | apply zaj | apply zad | apply zai) | exact HB.out)) hb; have qHO836 := Kd.R_ofs (by (with_reducible repeat (first | apply zab | apply zac | apply zae)); exact HO836.out) hb; have n0_ := Aside0.mk (zak qHO836 (zan ho0) hb); have qHO838 := Kd.R_ofs (by (with_reducible repeat (first | apply zab | apply zac | apply zae)); exact HO838.out) hb; have n1_ := Aside0.mk (zak qHO838 (zan ho0) hb); have qHO840 := Kd.R_ofs (by (with_reducible repeat (first | apply zab | apply zac | apply zae)); exact HO840.out) hb; have n2_ := Aside0.mk (zak qHO840 (zan ho0) hb); have qHO843 := Kd.R_ofs (by (with_reducible repeat (first | apply zab | apply zac | apply zae)); exact HO843.out) hb; have n3_ := Aside0.mk (zak qHO843 (zan ho0) hb); have qHO848 := Kd.R_ofs (by (with_reducible repeat (first | apply zab | apply zac | apply zae)); exact HO848.out) hb; have n4_ := Aside0.mk (zak qHO848 (zan ho0) hb); have qHO850 := Kd.R_ofs (by (with_reducible repeat (first | apply zab | apply zac | apply zae)); exact HO850.out) hb; have n5_ := Aside0.mk (zak qHO850 (zan ho0) hb); have qHO853 := Kd.R_ofs (by (with_reducible repeat (first | apply zab | apply zac | apply zae)); exact HO853.out) hb; have n6_ := Aside0.mk (zak qHO853 (zan ho0) hb); have n7_ := Aside0.mk (zbc (zao (zao (zao (zao (zao (zao (zao ho0 (zav qHO836)) (zav qHO838)) (zav qHO840)) (zav qHO843)) (zav qHO848)) (zav qHO850)) (zav qHO853)) (zba xb_)); have n8_ := Aside0.mk (zbb xb_ hb); clear qHO836 HO836; clear qHO838 HO838; clear qHO840 HO840; clear qHO843 HO843; clear qHO848 HO848; clear qHO850 HO850; clear qHO853 HO853; clear HB; have HO836 := n0_; have HO838 := n1_; have HO840 := n2_; have HO843 := n3_; have HO848 := n4_; have HO850 := n5_; have HO853 := n6_; have HO856 := n7_; have HB := n8_; clear n0_ n1_ n2_ n3_ n4_ n5_ n6_ n7_ n8_; clear xb_ hb ho0; obtain ⟨Ao44, co44, eo44⟩ := zbe HO843.out; subst eo44; obtain ⟨Ao45, co45, eo45⟩ := zbe HO856.out; subst eo45) | ((with_reducible refine zau (f := 32) rfl ?_); refine goesL_ (some 43) rfl rfl Try.func32 (by kernel_rfl) rfl #[.slice Ao44 t841.length co44, .slice Ao45 t854.length co45] rfl (by (try simp only [zal, zaq, zar]); first | done | rfl | (rw [show y874.length = (ji58 : Int).toNat from KY71.out] <;> rfl)) ?_; (with_reducible refine (impl_Same.calls _ _ t841 _ _ t854 false _ ?side1 ?side2 ?side3 ?side4 A19.out).mono ?_); (case side1 => repeat (first | exact (zaf HO843.out).2.2 | (with_reducible first | apply zas | apply zat | apply zaw))); (case side2 => exact (zaf HO843.out).2.1); (case side3 => repeat (first | exact (zaf HO856.out).2.2 | (with_reducible first | apply zas | apply zat | apply zaw))); (case side4 => exact (zaf HO856.out).2.1); rintro e w' ⟨rfl, ⟨nd, rfl⟩⟩; refine ⟨_, rfl, ?_⟩))
    go_meet
    case rel => exact ⟨_, (true), (by first | rfl | (simp; done) | (simp [*]; done)), H', ⟨by first | omega | exact zbp _⟩, ⟨by (with_reducible repeat (first | apply zab | apply zac | apply zae)); exact zbm HO836.out (fun _ hk => ⟨hk.1.1.1.1.1.1, ⟨hk.1.1.1.1.1.2, hk.1.1.1.1.2⟩⟩)⟩, ⟨by (with_reducible repeat (first | apply zab | apply zac | apply zae)); exact zbm HO838.out (fun _ hk => ⟨hk.1.1.1.1.1.1, ⟨hk.1.1.1.1.1.2, hk.1.1.1.1.2⟩⟩)⟩, ⟨by (with_reducible repeat (first | apply zab | apply zac | apply zae)); exact zbm HO840.out (fun _ hk => ⟨hk.1.1.1.1.1.1, ⟨hk.1.1.1.1.1.2, hk.1.1.1.1.2⟩⟩)⟩, ⟨by (with_reducible repeat (first | apply zab | apply zac | apply zae)); exact zbm HO843.out (fun _ hk => ⟨hk.1.1.1.1.1.1.2, ⟨hk.1.1.1.1.1.2, hk.1.1.1.1.2⟩⟩)⟩, ⟨by repeat (first | (with_reducible first | exact HB.out | apply zaj | apply zad | apply zai) | exact HB.out)⟩⟩
  case rest =>
   clear HC8
   try clear c2
   try clear p2
   try clear c3
   try clear c8
   try clear c20
   try clear c23
   try clear c24
   try clear c24b0
   try clear c24b1
   try clear c24b2
   try clear c26
   try clear c27
   try clear c28
   try clear c29
   try clear c32
   try clear c33
   obtain ⟨kq, x63_7, rfl, HA, HJ7, HO_3, HO_5, HO_6, HO_7, HB⟩ := hcut
   cases kq with
   | zero => exact absurd HA.out (by simp [laws_FnStreams.j0])
   | succ kj7 =>
    have H := HA.out
    clear HA
    simp only [laws_FnStreams.j0] at H
    by_cases c46 : x63_7 = true
    ·subst c46
     have H1 : (some false) = some r := by rw [if_pos rfl] at H; exact H
     clear H
     have H := H1
     clear H1
     obtain rfl := Option.some.inj H
     go_wp2
     go_ret
     exact ⟨by first | rfl | (simp [zbj, zbk] <;> rfl) | (simp [*, zbj, zbk] <;> rfl), by repeat (first | (with_reducible first | exact HB.out | apply zaj | apply zad | apply zai) | exact HB.out)⟩
    ·replace c46 := zbu.mpr c46
     subst c46
     have H1 : (if (t841.length : Int) = (t834.length : Int) then (laws_FnStreams.j1 kj7 l0 t831 t832 t833 t834 t841 ((t834.length : Int) == 0)) else (laws_FnStreams.j1 kj7 l0 t831 t832 t833 t834 t841 true)) = some r := by rw [if_neg (show ¬ (false = true) by decide)] at H; exact H
     clear H
     have H := H1
     clear H1
     have HC47 := Aside0.mk H
     clear H
     go_upto_region 9 with (fail)
     go_cut [73] (fun v73 wc => ∃ (kq : Nat) (x73_46 : Bool), v73 = .bool x73_46 ∧ Aside0 (laws_FnStreams.j1 kq l0 t831 t832 t833 t834 t841 x73_46 = some r) ∧ Aside0 (kq ≤ kj7) ∧ Aside0 (Kd.R (Kd.int .u8) 5 wc w.heap.size (fun k_ => some k_ ≠ ((.slice Ao11 t833.length co11) : Value).ownBlock ∧ some k_ ≠ ((.slice Ao12 t834.length co12) : Value).ownBlock ∧ some k_ ≠ (v842 : Value).ownBlock) (.slice Ao10 t831.length co10) t831) ∧ Aside0 (Kd.R (Kd.int .u8) 5 wc w.heap.size (fun k_ => some k_ ≠ ((.slice Ao10 t831.length co10) : Value).ownBlock ∧ some k_ ≠ ((.slice Ao12 t834.length co12) : Value).ownBlock ∧ some k_ ≠ (v842 : Value).ownBlock) (.slice Ao11 t833.length co11) t833) ∧ Aside0 (Kd.R (Kd.int .u8) 5 wc w.heap.size (fun k_ => some k_ ≠ ((.slice Ao10 t831.length co10) : Value).ownBlock ∧ some k_ ≠ ((.slice Ao11 t833.length co11) : Value).ownBlock ∧ some k_ ≠ (v842 : Value).ownBlock) (.slice Ao12 t834.length co12) t834) ∧ Aside0 (Kd.R (Kd.int .u8) 5 wc w.heap.size (fun k_ => some k_ ≠ ((.slice Ao10 t831.length co10) : Value).ownBlock ∧ some k_ ≠ ((.slice Ao11 t833.length co11) : Value).ownBlock ∧ some k_ ≠ ((.slice Ao12 t834.length co12) : Value).ownBlock) v842 t841) ∧ Aside0 (Below w.heap.size w wc))
     case first =>
      have H := HC47.out
      clear HC47
      by_cases c48 : (t841.length : Int) = (t834.length : Int)
      ·rw [if_pos c48] at H
       have c48b0 : ((t841.length : Int) == (t834.length : Int)) = true := zdn.mpr c48
       have c48b1 : ((t841.length : Int) != (t834.length : Int)) = false := zbv.mpr c48
       have c48b2 : (t841.length == t834.length) = true := by first | simpa using c48 | (simp at c48 ⊢; omega)
       clear c48
       (first | rw [c48b0] | (simp only [i64_w, i32_w]; rw [c48b0]) | skip)
       have H' := Aside0.mk H
       clear H
       obtain ⟨Ao49, co49, eo49⟩ := zbe HO_7.out
       subst eo49
       go_wp2
       go_meet
       case rel => exact ⟨_, (((t834.length : Int) == 0)), (by first | rfl | (simp; done) | (simp [*]; done)), H', ⟨by have := HJ7.out; first | omega | exact zbp _⟩, ⟨by (with_reducible repeat (first | apply zab | apply zac | apply zae)); exact HO_3.out⟩, ⟨by (with_reducible repeat (first | apply zab | apply zac | apply zae)); exact HO_5.out⟩, ⟨by (with_reducible repeat (first | apply zab | apply zac | apply zae)); exact HO_6.out⟩, ⟨by (with_reducible repeat (first | apply zab | apply zac | apply zae)); exact HO_7.out⟩, ⟨by repeat (first | (with_reducible first | exact HB.out | apply zaj | apply zad | apply zai) | exact HB.out)⟩⟩
      ·rw [if_neg c48] at H
       have c48b0 : ((t841.length : Int) == (t834.length : Int)) = false := zbz.mpr c48
       have c48b1 : ((t841.length : Int) != (t834.length : Int)) = true := zdh.mpr c48
       have c48b2 : (t841.length == t834.length) = false := by first | simpa using c48 | (simp at c48 ⊢; omega)
       (first | rw [c48b0] | (simp only [i64_w, i32_w]; rw [c48b0]) | skip)
       have H' := Aside0.mk H
       clear H
       obtain ⟨Ao50, co50, eo50⟩ := zbe HO_7.out
       subst eo50
       go_wp2
       go_meet
       case rel => exact ⟨_, (true), (by first | rfl | (simp; done) | (simp [*]; done)), H', ⟨by have := HJ7.out; first | omega | exact zbp _⟩, ⟨by (with_reducible repeat (first | apply zab | apply zac | apply zae)); exact HO_3.out⟩, ⟨by (with_reducible repeat (first | apply zab | apply zac | apply zae)); exact HO_5.out⟩, ⟨by (with_reducible repeat (first | apply zab | apply zac | apply zae)); exact HO_6.out⟩, ⟨by (with_reducible repeat (first | apply zab | apply zac | apply zae)); exact HO_7.out⟩, ⟨by repeat (first | (with_reducible first | exact HB.out | apply zaj | apply zad | apply zai) | exact HB.out)⟩⟩
     case rest =>
      clear HC47
      try clear c2
      try clear p2
      try clear c3
      try clear c4
      try clear c8
      try clear c20
      try clear c23
      try clear c24
      try clear c24b0
      try clear c24b1
      try clear c24b2
      try clear c26
      try clear c27
      try clear c28
      try clear c29
      try clear c32
      try clear c33
      try clear c46
      try clear c48
      try clear c48b0
      try clear c48b1
      try clear c48b2
      try clear p2
      obtain ⟨kq, x73_46, rfl, HA, HJ46, HO_3, HO_5, HO_6, HO_7, HB⟩ := hcut
      cases kq with
      | zero => exact absurd HA.out (by simp [laws_FnStreams.j1])
      | succ kj46 =>
       have H := HA.out
       clear HA
       simp only [laws_FnStreams.j1] at H
       by_cases c51 : x73_46 = true
       ·subst c51
        have H1 : (some ((t841.length : Int) == 0)) = some r := by rw [if_pos rfl] at H; exact H
        clear H
        have H := H1
        clear H1
        obtain rfl := Option.some.inj H
        obtain ⟨Ao52, co52, eo52⟩ := zbe HO_7.out
        subst eo52
        go_wp2
        go_ret
        exact ⟨by first | rfl | (simp [zbj, zbk] <;> rfl) | (simp [*, zbj, zbk] <;> rfl), by repeat (first | (with_reducible first | exact HB.out | apply zaj | apply zad | apply zai) | exact HB.out)⟩
       ·replace c51 := zbu.mpr c51
        subst c51
        have H1 : ((laws_at.f l0 1).bind fun t862 => (if (t834.length : Int) = 0 then (none) else ((impl_Stream.f kj46 t831 t832 t833 t841).bind fun t863 => ((impl_Same.f t863 t834).bind fun t866 => (if t866 = true then (if 0 ≤ (Int.tmod t862 (t834.length : Int)) then (if (Int.tmod t862 (t834.length : Int)) ≤ (t834.length : Int) then ((impl_Stream.f kj46 t831 t832 t833 (t834.take ((Int.tmod t862 (t834.length : Int)) : Int).toNat)).bind fun t871 => (if (Int.tmod t862 (t834.length : Int)) ≤ (t841.length : Int) then ((impl_Same.f t871 (t841.take ((Int.tmod t862 (t834.length : Int)) : Int).toNat)).bind fun t878 => (some t878)) else (none))) else (none)) else (none)) else (some false)))))) = some r := by rw [if_neg (show ¬ (false = true) by decide)] at H; exact H
        clear H
        have H := H1
        clear H1
        replace H := zam.mp H
        obtain ⟨t862, A530, H⟩ := H
        try dsimp only at H
        have A53 := Aside0.mk A530
        clear A530
        by_cases c54 : (t834.length : Int) = 0
        ·rw [if_pos c54] at H
         exact absurd H (by simp)
        ·rw [if_neg c54] at H
         have c54b0 : ((t834.length : Int) == 0) = false := zbz.mpr c54
         have c54b1 : ((t834.length : Int) != 0) = true := zdh.mpr c54
         have c54b2 : ¬ (t834 = []) := fun h_ => c54 (by rw [h_]; rfl)
         replace H := zam.mp H
         obtain ⟨t863, A550, H⟩ := H
         try dsimp only at H
         have A55 := Aside0.mk A550
         clear A550
         replace H := zam.mp H
         obtain ⟨t866, A560, H⟩ := H
         try dsimp only at H
         have A56 := Aside0.mk A560
         clear A560
         by_cases c57 : t866 = true
         ·subst c57
          have H1 : (if 0 ≤ (Int.tmod t862 (t834.length : Int)) then (if (Int.tmod t862 (t834.length : Int)) ≤ (t834.length : Int) then ((impl_Stream.f kj46 t831 t832 t833 (t834.take ((Int.tmod t862 (t834.length : Int)) : Int).toNat)).bind fun t871 => (if (Int.tmod t862 (t834.length : Int)) ≤ (t841.length : Int) then ((impl_Same.f t871 (t841.take ((Int.tmod t862 (t834.length : Int)) : Int).toNat)).bind fun t878 => (some t878)) else (none))) else (none)) else (none)) = some r := by rw [if_pos rfl] at H; exact H
          clear H
          have H := H1
          clear H1
          obtain ⟨ji58, hji58⟩ : ∃ j_ : Int, (Int.tmod t862 (t834.length : Int)) = j_ := ⟨_, rfl⟩
          replace H : (if 0 ≤ (ji58) then (if (ji58) ≤ (t834.length : Int) then ((impl_Stream.f kj46 t831 t832 t833 (t834.take ((ji58) : Int).toNat)).bind fun t871 => (if (ji58) ≤ (t841.length : Int) then ((impl_Same.f t871 (t841.take ((ji58) : Int).toNat)).bind fun t878 => (some t878)) else (none))) else (none)) else (none)) = some r := by first | (rw [hji58] at H; exact H) | (simp only [hji58] at H ⊢; exact H)
          (try rw [hji58] at A53)
          (try rw [hji58] at A55)
          (try rw [hji58] at A56)
          by_cases c59 : 0 ≤ (ji58)
          ·rw [if_pos c59] at H
           have c59b0 := zbn c59
           have c59b1 : decide (0 ≤ (ji58)) = true := zax c59
           clear c59
           by_cases c60 : (ji58) ≤ (t834.length : Int)
           ·rw [if_pos c60] at H
            have c60b0 := zbn c60
            have c60b1 : decide ((ji58) ≤ (t834.length : Int)) = true := zax c60
            clear c60
            obtain ⟨y867, hy867⟩ : ∃ y_ : List Int, y_ = (t834.take ((ji58) : Int).toNat) := ⟨_, rfl⟩
            replace H : ((impl_Stream.f kj46 t831 t832 t833 y867).bind fun t871 => (if (ji58) ≤ (t841.length : Int) then ((impl_Same.f t871 (t841.take ((ji58) : Int).toNat)).bind fun t878 => (some t878)) else (none))) = some r := by first | (rw [hy867]; with_reducible first | exact H | exact bind_ofs H) | (with_reducible first | exact H | exact bind_ofs H) | (rw [hy867]; exact H) | exact H
            have Ny867 := Aside0.mk hy867
            clear hy867
            replace H := zam.mp H
            obtain ⟨t871, A610, H⟩ := H
            try dsimp only at H
            have A61 := Aside0.mk A610
            clear A610
            have c62b0 := zbn (zap (by first | (with_reducible assumption) | assumption) : 0 ≤ (ji58))
            by_cases c63 : (ji58) ≤ (t841.length : Int)
            ·rw [if_pos c63] at H
             have c63b0 := zbn c63
             have c63b1 : decide ((ji58) ≤ (t841.length : Int)) = true := zax c63
             clear c63
             obtain ⟨y874, hy874⟩ : ∃ y_ : List Int, y_ = (t841.take ((ji58) : Int).toNat) := ⟨_, rfl⟩
             replace H : ((impl_Same.f t871 y874).bind fun t878 => (some t878)) = some r := by first | (rw [hy874]; with_reducible first | exact H | exact bind_ofs H) | (with_reducible first | exact H | exact bind_ofs H) | (rw [hy874]; exact H) | exact H
             have Ny874 := Aside0.mk hy874
             clear hy874
             replace H := zam.mp H
             obtain ⟨t878, A640, H⟩ := H
             try dsimp only at H
             have A64 := Aside0.mk A640
             clear A640
             obtain rfl := Option.some.inj H
             try go_wp2_with (first | ((with_reducible refine zau (f := 34) rfl ?_); refine goesL_ (some 78) rfl rfl Try.func34 (by kernel_rfl) rfl #[.slice A0 l0.length c0, .int .i64 1] rfl (by (try simp only [zal, zaq, zar]); first | done | rfl | (rw [show y874.length = (ji58 : Int).toNat from KY71.out] <;> rfl) | (simp only [zbl, zbi]; rfl) | (simp only [zbl, zbi]; rw [zcm (zda.mpr (zdl (by assumption)))])) ?_; (with_reducible refine (laws_at.calls _ _ l0 1 t862 _ ?side1 ?side2 A53.out).mono ?_); (case side1 => repeat (first | exact (zbr HR0.out HB.out) | (with_reducible refine zas ?_ _) | (with_reducible refine zat ?_ _) | (with_reducible refine zaw ?_))); (case side2 => exact HC0.out); rintro e w' ⟨rfl, ⟨nd, rfl⟩⟩; refine ⟨_, rfl, ?_⟩))
             (try (rw [drewN_self wc]; generalize hq_ : World.drewN wc _ = wc; have n0_ : Aside0 (Kd.R (Kd.int .u8) 5 wc w.heap.size (fun k_ => some k_ ≠ (.slice Ao11 t833.length co11 : Value).ownBlock ∧ some k_ ≠ (.slice Ao12 t834.length co12 : Value).ownBlock ∧ some k_ ≠ (v842 : Value).ownBlock) (.slice Ao10 t831.length co10) t831) := ⟨by rw [← hq_]; exact (by (with_reducible repeat (first | apply zab | apply zac | apply zae)); exact HO_3.out)⟩; have n1_ : Aside0 (Kd.R (Kd.int .u8) 5 wc w.heap.size (fun k_ => some k_ ≠ (.slice Ao10 t831.length co10 : Value).ownBlock ∧ some k_ ≠ (.slice Ao12 t834.length co12 : Value).ownBlock ∧ some k_ ≠ (v842 : Value).ownBlock) (.slice Ao11 t833.length co11) t833) := ⟨by rw [← hq_]; exact (by (with_reducible repeat (first | apply zab | apply zac | apply zae)); exact HO_5.out)⟩; have n2_ : Aside0 (Kd.R (Kd.int .u8) 5 wc w.heap.size (fun k_ => some k_ ≠ (.slice Ao10 t831.length co10 : Value).ownBlock ∧ some k_ ≠ (.slice Ao11 t833.length co11 : Value).ownBlock ∧ some k_ ≠ (v842 : Value).ownBlock) (.slice Ao12 t834.length co12) t834) := ⟨by rw [← hq_]; exact (by (with_reducible repeat (first | apply zab | apply zac | apply zae)); exact HO_6.out)⟩; have n3_ : Aside0 (Kd.R (Kd.int .u8) 5 wc w.heap.size (fun k_ => some k_ ≠ (.slice Ao10 t831.length co10 : Value).ownBlock ∧ some k_ ≠ (.slice Ao11 t833.length co11 : Value).ownBlock ∧ some k_ ≠ (.slice Ao12 t834.length co12 : Value).ownBlock) v842 t841) := ⟨by rw [← hq_]; exact (by (with_reducible repeat (first | apply zab | apply zac | apply zae)); exact HO_7.out)⟩; have n4_ : Aside0 (Below w.heap.size w wc) := ⟨by rw [← hq_]; exact (by repeat (first | (with_reducible first | exact HB.out | apply zaj | apply zad | apply zai) | exact HB.out))⟩; clear HO_3 HO_5 HO_6 HO_7 HB hq_; have HO_3 := n0_; have HO_5 := n1_; have HO_6 := n2_; have HO_7 := n3_; have HB := n4_; clear n0_ n1_ n2_ n3_ n4_))
             have n0_ := Aside0.mk (zae HO_3.out)
             have n1_ := Aside0.mk (zae HO_5.out)
             have n2_ := Aside0.mk (zae HO_6.out)
             have n3_ := Aside0.mk (zae HO_7.out)
             have n4_ := Aside0.mk (zai HB.out)
             clear HO_3
             clear HO_5
             clear HO_6
             clear HO_7
             clear HB
             have HO_3 := n0_
             have HO_5 := n1_
             have HO_6 := n2_
             have HO_7 := n3_
             have HB := n4_
             clear n0_ n1_ n2_ n3_ n4_
             obtain ⟨Ao66, co66, eo66⟩ := zbe HO_7.out
             (first | subst eo66 | (injection eo66 with f1_ f2_ f3_; have f4_ := f1_.symm; have f5_ := f3_.symm; clear f1_ f2_ f3_; subst f4_; subst f5_))
             refine start_ (n := 21) (S := fun w' => True) (ds := []) #[false, false, false, false, false, false, false, false, false, false, false, false, false, false, false, false, false, false, false, false, false] (by kernel_rfl) rfl rfl trivial (fun hHeld => ?_); refine zeq laws_FnStreams.tab12 laws_FnStreams.bits12 (fun HT_ HW_ => ?_)
             generalize wc.drew = w65 at HO_3 HO_5 HO_6 HO_7 HB hHeld ⊢
             refine pure_ (i := 0) (N := some 82) (v := ?_) (a' := ?_) #[true, false, false, false, false, false, false, false, false, false, false, false, false, false, false, false, false, false, false, false, false] rfl rfl (any_of HT_.out (by kernel_rfl)) (fun _ _ _ h => h) (Or.inl ⟨by rfl, ?_⟩) ?_ ?_
             rotate_left
             ·intro w'
              go_simp
              (try rw [if_pos (show ji58 ≤ (co66 : Int) from by have h1_ := (zaf HO_7.out).2.1; have h2_ : (ji58 : Int) ≤ (t841.length : Int) := zap (by assumption); omega)])
              (try with_reducible rfl)
             rotate_left
             ·simp only [Act.put, zaa, zag, zah, i64_w, i32_w]
              rfl
             refine pure_ (i := 1) (N := some 83) (v := ?_) (a' := ?_) #[true, true, false, false, false, false, false, false, false, false, false, false, false, false, false, false, false, false, false, false, false] rfl rfl (any_of HT_.out (by kernel_rfl)) (fun _ _ _ h => h) (Or.inl ⟨by rfl, ?_⟩) ?_ ?_
             rotate_left
             ·intro w'
              go_simp
              (try rw [if_pos (show ji58 ≤ (co66 : Int) from by have h1_ := (zaf HO_7.out).2.1; have h2_ : (ji58 : Int) ≤ (t841.length : Int) := zap (by assumption); omega)])
              (try with_reducible rfl)
             rotate_left
             ·simp only [Act.put, zaa, zag, zah, i64_w, i32_w]
              rfl
             refine pure_ (i := 2) (N := some 84) (v := ?_) (a' := ?_) #[true, true, true, false, false, false, false, false, false, false, false, false, false, false, false, false, false, false, false, false, false] rfl rfl (any_of HT_.out (by kernel_rfl)) (fun _ _ _ h => h) (Or.inl ⟨by rfl, ?_⟩) ?_ ?_
             rotate_left
             ·intro w'
              go_simp
              (try rw [if_pos (show ji58 ≤ (co66 : Int) from by have h1_ := (zaf HO_7.out).2.1; have h2_ : (ji58 : Int) ≤ (t841.length : Int) := zap (by assumption); omega)])
              (try with_reducible rfl)
             rotate_left
             ·simp only [Act.put, zaa, zag, zah, i64_w, i32_w]
              rfl
             refine pure_ (i := 3) (N := some 85) (v := ?_) (a' := ?_) #[true, true, true, true, false, false, false, false, false, false, false, false, false, false, false, false, false, false, false, false, false] rfl rfl (any_of HT_.out (by kernel_rfl)) (fun _ _ _ h => h) (Or.inl ⟨by rfl, ?_⟩) ?_ ?_
             rotate_left
             ·intro w'
              go_simp
              (try rw [if_pos (show ji58 ≤ (co66 : Int) from by have h1_ := (zaf HO_7.out).2.1; have h2_ : (ji58 : Int) ≤ (t841.length : Int) := zap (by assumption); omega)])
              (try with_reducible rfl)
             rotate_left
             ·simp only [Act.put, zaa, zag, zah, i64_w, i32_w]
              rfl
             refine pure_ (i := 5) (N := some 87) (v := ?_) (a' := ?_) #[true, true, true, true, false, true, false, false, false, false, false, false, false, false, false, false, false, false, false, false, false] rfl rfl (any_of HT_.out (by kernel_rfl)) (fun _ _ _ h => h) (Or.inl ⟨by rfl, ?_⟩) ?_ ?_
             rotate_left
             ·intro w'
              go_simp
              (try rw [if_pos (show ji58 ≤ (co66 : Int) from by have h1_ := (zaf HO_7.out).2.1; have h2_ : (ji58 : Int) ≤ (t841.length : Int) := zap (by assumption); omega)])
              (try with_reducible rfl)
             rotate_left
             ·simp only [Act.put, zaa, zag, zah, i64_w, i32_w]
              rfl
             refine one_ (i := 4) (N := some 86) #[true, true, true, true, true, true, false, false, false, false, false, false, false, false, false, false, false, false, false, false, false] rfl rfl (one_of HT_.out (by kernel_rfl)) (by decide) (fun K hK => ?_)
             refine goes_ Try.func27 (by kernel_rfl) rfl #[.slice Ao10 t831.length co10, .int .i64 t832, .slice Ao11 t833.length co11, .slice Ao66 t841.length co66] (by rfl) rfl rfl (by (try simp only [zal, zaq, zar]); first | done | rfl | (rw [show y874.length = (ji58 : Int).toNat from KY71.out] <;> rfl) | (simp only [zbl, zbi]; rfl) | (simp only [zbl, zbi]; rw [zcm (zda.mpr (zdl (by assumption)))])) ?_
             with_reducible refine (impl_Stream.calls kj46 _ _ t831 t832 _ _ t833 _ _ t841 t863 _ ?side1 ?side2 ?side3 ?side4 ?side5 ?side6 A55.out).mono ?_
             (case side1 => repeat (first | exact (zaf HO_3.out).2.2 | (with_reducible refine zas ?_ _) | (with_reducible refine zat ?_ _) | (with_reducible refine zaw ?_)))
             (case side2 => exact (zaf HO_3.out).2.1)
             (case side3 => repeat (first | exact (zaf HO_5.out).2.2 | (with_reducible refine zas ?_ _) | (with_reducible refine zat ?_ _) | (with_reducible refine zaw ?_)))
             (case side4 => exact (zaf HO_5.out).2.1)
             (case side5 => repeat (first | exact (zaf HO_7.out).2.2 | (with_reducible refine zas ?_ _) | (with_reducible refine zat ?_ _) | (with_reducible refine zaw ?_)))
             (case side6 => exact (zaf HO_7.out).2.1)
             rintro e w67 ⟨v864, rfl, ho0, hb⟩
             refine ⟨_, rfl, ?_⟩
             have n0_ := Aside0.mk (zak (by (with_reducible repeat (first | apply zab | apply zac | apply zae)); exact HO_3.out) (zan ho0) hb)
             have n1_ := Aside0.mk (zak (by (with_reducible repeat (first | apply zab | apply zac | apply zae)); exact HO_5.out) (zan ho0) hb)
             have n2_ := Aside0.mk (zak (by (with_reducible repeat (first | apply zab | apply zac | apply zae)); exact HO_6.out) (zan ho0) hb)
             have n3_ := Aside0.mk (zak (by (with_reducible repeat (first | apply zab | apply zac | apply zae)); exact HO_7.out) (zan ho0) hb)
             have n4_ := Aside0.mk (zbc (zao (zao (zao (zao ho0 (zav (by (with_reducible repeat (first | apply zab | apply zac | apply zae)); exact HO_3.out))) (zav (by (with_reducible repeat (first | apply zab | apply zac | apply zae)); exact HO_5.out))) (zav (by (with_reducible repeat (first | apply zab | apply zac | apply zae)); exact HO_6.out))) (zav (by (with_reducible repeat (first | apply zab | apply zac | apply zae)); exact HO_7.out))) (zba (by repeat (first | (with_reducible first | exact HB.out | apply zaj | apply zad | apply zai) | exact HB.out))))
             have n5_ := Aside0.mk (zbb (by repeat (first | (with_reducible first | exact HB.out | apply zaj | apply zad | apply zai) | exact HB.out)) hb)
             clear HO_3
             clear HO_5
             clear HO_6
             clear HO_7
             clear HB
             have HO_3 := n0_
             have HO_5 := n1_
             have HO_6 := n2_
             have HO_7 := n3_
             have HO865 := n4_
             have HB := n5_
             clear n0_ n1_ n2_ n3_ n4_ n5_
             (try clear hb)
             (try clear hb2)
             (try clear hk)
             (try clear hi)
             (try clear ho0)
             obtain ⟨Ao68, co68, eo68⟩ := zbe HO865.out
             (first | subst eo68 | (injection eo68 with f1_ f2_ f3_; have f4_ := f1_.symm; have f5_ := f3_.symm; clear f1_ f2_ f3_; subst f4_; subst f5_))
             refine hK.out _ _ trivial (fun hHeld => ?_)
             clear hK K
             refine norm_ (a' := ?_) ?_ ?_
             rotate_left
             ·show Act.put _ (some 86) _ = _
              simp only [Act.put, zaa, zag, zah, i64_w, i32_w]
              rfl
             refine one_ (i := 6) (N := some 88) #[true, true, true, true, true, true, true, false, false, false, false, false, false, false, false, false, false, false, false, false, false] rfl rfl (one_of HT_.out (by kernel_rfl)) (by decide) (fun K hK => ?_)
             refine goes_ Try.func32 (by kernel_rfl) rfl #[.slice Ao68 t863.length co68, .slice Ao12 t834.length co12] (by rfl) rfl rfl (by (try simp only [zal, zaq, zar]); first | done | rfl | (rw [show y874.length = (ji58 : Int).toNat from KY71.out] <;> rfl) | (simp only [zbl, zbi]; rfl) | (simp only [zbl, zbi]; rw [zcm (zda.mpr (zdl (by assumption)))])) ?_
             with_reducible refine (impl_Same.calls _ _ t863 _ _ t834 true _ ?side1 ?side2 ?side3 ?side4 A56.out).mono ?_
             (case side1 => repeat (first | exact (zaf HO865.out).2.2 | (with_reducible refine zas ?_ _) | (with_reducible refine zat ?_ _) | (with_reducible refine zaw ?_)))
             (case side2 => exact (zaf HO865.out).2.1)
             (case side3 => repeat (first | exact (zaf HO_6.out).2.2 | (with_reducible refine zas ?_ _) | (with_reducible refine zat ?_ _) | (with_reducible refine zaw ?_)))
             (case side4 => exact (zaf HO_6.out).2.1)
             rintro e w' ⟨rfl, ⟨nd, rfl⟩⟩
             refine ⟨_, rfl, ?_⟩
             have q69 : ((ji58) : Int) ≤ ((t834.length : Int) : Int) := zap (by first | (with_reducible assumption) | assumption)
             obtain ⟨i069, hi069, _, hsz69, _⟩ := info_parts info5
             have hroom69 : t834.length ≤ co12 := (zaf HO_6.out).2.1
             have hC69 : Kd.C (Kd.int .u8) _ Ao12 t834.length t834 := (zaf HO_6.out).2.2
             have hcut69 := cut_to (P := Try.prog) 22 5 .i64 Try.underlying22 hi069 Ao12 t834.length co12 (ji58) (zap (by first | (with_reducible assumption) | assumption)) q69 hroom69
             have hr69 := Kd.C_take (m := ((ji58) : Int).toNat) hC69 (by omega)
             have hy69 : y867.length = ((ji58) : Int).toNat := (by rw [Ny867.out, zbi]; omega)
             rw [← Ny867.out] at hr69
             rw [← hy69] at hcut69
             have HR870 := Aside0.mk hr69
             have HC870 := Aside0.mk (show y867.length ≤ co12 from by omega)
             clear hr69 hC69 hroom69 hi069 hsz69
             have KY69 := Aside0.mk hy69
             clear hy69
             have KL69 := Aside0.mk (show ((ji58) : Int).toNat ≤ t834.length from by omega)
             replace q69 := zbn q69
             refine hK.out _ _ trivial (fun hHeld => ?_)
             clear hK K
             refine norm_ (a' := ?_) ?_ ?_
             rotate_left
             ·show Act.put _ (some 88) _ = _
              simp only [Act.put, zaa, zag, zah, i64_w, i32_w]
              rfl
             refine pure_ (i := 7) (N := some 89) (v := ?_) (a' := ?_) #[true, true, true, true, true, true, true, true, false, false, false, false, false, false, false, false, false, false, false, false, false] rfl rfl (any_of HT_.out (by kernel_rfl)) (fun _ _ _ h => h) (Or.inl ⟨by rfl, ?_⟩) ?_ ?_
             rotate_left
             ·intro w'
              go_simp
              (try rw [if_pos (show ji58 ≤ (co66 : Int) from by have h1_ := (zaf HO_7.out).2.1; have h2_ : (ji58 : Int) ≤ (t841.length : Int) := zap (by assumption); omega)])
              (try with_reducible rfl)
             rotate_left
             ·simp only [Act.put, zaa, zag, zah, i64_w, i32_w]
              rfl
             refine pure_ (i := 8) (N := some 90) (v := ?_) (a' := ?_) #[true, true, true, true, true, true, true, true, true, false, false, false, false, false, false, false, false, false, false, false, false] rfl rfl (any_of HT_.out (by kernel_rfl)) (fun _ _ _ h => h) (Or.inl ⟨by rfl, ?_⟩) ?_ ?_
             rotate_left
             ·intro w'
              go_simp
              (try rw [if_pos (show ji58 ≤ (co66 : Int) from by have h1_ := (zaf HO_7.out).2.1; have h2_ : (ji58 : Int) ≤ (t841.length : Int) := zap (by assumption); omega)])
              (try with_reducible rfl)
             rotate_left
             ·simp only [Act.put, zaa, zag, zah, i64_w, i32_w]
              rfl
             refine pure_ (i := 9) (N := some 91) (v := ?_) (a' := ?_) #[true, true, true, true, true, true, true, true, true, true, false, false, false, false, false, false, false, false, false, false, false] rfl rfl (any_of HT_.out (by kernel_rfl)) (fun _ _ _ h => h) (Or.inl ⟨by rfl, ?_⟩) ?_ ?_
             rotate_left
             ·intro w'
              go_simp
              (try rw [if_pos (show ji58 ≤ (co66 : Int) from by have h1_ := (zaf HO_7.out).2.1; have h2_ : (ji58 : Int) ≤ (t841.length : Int) := zap (by assumption); omega)])
              (try with_reducible rfl)
             rotate_left
             ·simp only [Act.put, zaa, zag, zah, i64_w, i32_w]
              rfl
             refine pure_ (i := 10) (N := some 92) (v := ?_) (a' := ?_) #[true, true, true, true, true, true, true, true, true, true, true, false, false, false, false, false, false, false, false, false, false] rfl rfl (any_of HT_.out (by kernel_rfl)) (fun _ _ _ h => h) (Or.inl ⟨by rfl, ?_⟩) ?_ ?_
             rotate_left
             ·intro w'
              go_simp
              (try rw [if_pos (show ji58 ≤ (co66 : Int) from by have h1_ := (zaf HO_7.out).2.1; have h2_ : (ji58 : Int) ≤ (t841.length : Int) := zap (by assumption); omega)])
              (try with_reducible rfl)
             rotate_left
             ·simp only [Act.put, zaa, zag, zah, i64_w, i32_w]
              rfl
             refine pure_ (i := 11) (N := some 93) (v := ?_) (a' := ?_) #[true, true, true, true, true, true, true, true, true, true, true, true, false, false, false, false, false, false, false, false, false] rfl rfl (any_of HT_.out (by kernel_rfl)) (fun _ _ _ h => h) (Or.inl ⟨by rfl, ?_⟩) ?_ ?_
             rotate_left
             ·intro w'
              go_simp
              (try rw [if_pos (show ji58 ≤ (co66 : Int) from by have h1_ := (zaf HO_7.out).2.1; have h2_ : (ji58 : Int) ≤ (t841.length : Int) := zap (by assumption); omega)])
              (try with_reducible rfl)
             rotate_left
             ·simp only [Act.put, zaa, zag, zah, i64_w, i32_w]
              rfl
             refine pure_ (i := 12) (N := some 94) (v := ?_) (a' := ?_) #[true, true, true, true, true, true, true, true, true, true, true, true, true, false, false, false, false, false, false, false, false] rfl rfl (any_of HT_.out (by kernel_rfl)) (fun _ _ _ h => h) (Or.inl ⟨by rfl, ?_⟩) ?_ ?_
             rotate_left
             ·intro w'
              go_simp
              (try rw [if_pos (show ji58 ≤ (co66 : Int) from by have h1_ := (zaf HO_7.out).2.1; have h2_ : (ji58 : Int) ≤ (t841.length : Int) := zap (by assumption); omega)])
              (try with_reducible rfl)
             rotate_left
             ·simp only [Act.put, zaa, zag, zah, i64_w, i32_w]
              rfl
             refine pure_ (i := 13) (N := some 95) (v := ?_) (a' := ?_) #[true, true, true, true, true, true, true, true, true, true, true, true, true, true, false, false, false, false, false, false, false] rfl rfl (any_of HT_.out (by kernel_rfl)) (fun _ _ _ h => h) (Or.inl ⟨by rfl, ?_⟩) ?_ ?_
             rotate_left
             ·intro w'
              go_simp
              (try rw [if_pos (show ji58 ≤ (co66 : Int) from by have h1_ := (zaf HO_7.out).2.1; have h2_ : (ji58 : Int) ≤ (t841.length : Int) := zap (by assumption); omega)])
              (try with_reducible rfl)
             rotate_left
             ·simp only [Act.put, zaa, zag, zah, i64_w, i32_w]
              rfl
             refine pure_ (i := 15) (N := some 97) (v := ?_) (a' := ?_) #[true, true, true, true, true, true, true, true, true, true, true, true, true, true, false, true, false, false, false, false, false] rfl rfl (any_of HT_.out (by kernel_rfl)) (fun _ _ _ h => h) (Or.inl ⟨by rfl, ?_⟩) ?_ ?_
             rotate_left
             ·intro w'
              go_simp
              (try rw [if_pos (show ji58 ≤ (co66 : Int) from by have h1_ := (zaf HO_7.out).2.1; have h2_ : (ji58 : Int) ≤ (t841.length : Int) := zap (by assumption); omega)])
              (try with_reducible rfl)
             rotate_left
             ·simp only [Act.put, zaa, zag, zah, i64_w, i32_w]
              rfl
             refine pure_ (i := 16) (N := some 98) (v := ?_) (a' := ?_) #[true, true, true, true, true, true, true, true, true, true, true, true, true, true, false, true, true, false, false, false, false] rfl rfl (any_of HT_.out (by kernel_rfl)) (fun _ _ _ h => h) (Or.inl ⟨by rfl, ?_⟩) ?_ ?_
             rotate_left
             ·intro w'
              go_simp
              (try rw [if_pos (show ji58 ≤ (co66 : Int) from by have h1_ := (zaf HO_7.out).2.1; have h2_ : (ji58 : Int) ≤ (t841.length : Int) := zap (by assumption); omega)])
              (try with_reducible rfl)
             rotate_left
             ·simp only [Act.put, zaa, zag, zah, i64_w, i32_w]
              rfl
             refine pure_ (i := 17) (N := some 99) (v := ?_) (a' := ?_) #[true, true, true, true, true, true, true, true, true, true, true, true, true, true, false, true, true, true, false, false, false] rfl rfl (any_of HT_.out (by kernel_rfl)) (fun _ _ _ h => h) (Or.inl ⟨by rfl, ?_⟩) ?_ ?_
             rotate_left
             ·intro w'
              go_simp
              (try rw [if_pos (show ji58 ≤ (co66 : Int) from by have h1_ := (zaf HO_7.out).2.1; have h2_ : (ji58 : Int) ≤ (t841.length : Int) := zap (by assumption); omega)])
              (try with_reducible rfl)
             rotate_left
             ·simp only [Act.put, zaa, zag, zah, i64_w, i32_w]
              rfl
             refine one_ (i := 14) (N := some 96) #[true, true, true, true, true, true, true, true, true, true, true, true, true, true, true, true, true, true, false, false, false] rfl rfl (one_of HT_.out (by kernel_rfl)) (by decide) (fun K hK => ?_)
             refine goes_ Try.func27 (by kernel_rfl) rfl #[.slice Ao10 t831.length co10, .int .i64 t832, .slice Ao11 t833.length co11, .slice Ao12 y867.length co12] (by rfl) rfl rfl (by (try simp only [zal, zaq, zar]); first | done | rfl | (rw [show y874.length = (ji58 : Int).toNat from KY71.out] <;> rfl) | (simp only [zbl, zbi]; rfl) | (simp only [zbl, zbi]; rw [zcm (zda.mpr (zdl (by assumption)))])) ?_
             with_reducible refine (impl_Stream.calls kj46 _ _ t831 t832 _ _ t833 _ _ y867 t871 _ ?side1 ?side2 ?side3 ?side4 ?side5 ?side6 A61.out).mono ?_
             (case side1 => repeat (first | exact (zaf HO_3.out).2.2 | (with_reducible refine zas ?_ _) | (with_reducible refine zat ?_ _) | (with_reducible refine zaw ?_)))
             (case side2 => exact (zaf HO_3.out).2.1)
             (case side3 => repeat (first | exact (zaf HO_5.out).2.2 | (with_reducible refine zas ?_ _) | (with_reducible refine zat ?_ _) | (with_reducible refine zaw ?_)))
             (case side4 => exact (zaf HO_5.out).2.1)
             (case side5 => repeat (first | exact (by repeat (first | (with_reducible exact HR870.out) | (with_reducible refine zas ?_ _) | (with_reducible refine zat ?_ _) | (with_reducible refine zaw ?_) | exact HR870.out)) | (with_reducible refine zas ?_ _) | (with_reducible refine zat ?_ _) | (with_reducible refine zaw ?_)))
             (case side6 => exact HC870.out)
             rintro e w70 ⟨v872, rfl, ho0, hb⟩
             refine ⟨_, rfl, ?_⟩
             have n0_ := Aside0.mk (zak (by (with_reducible repeat (first | apply zab | apply zac | apply zae)); exact HO_3.out) (zan ho0) hb)
             have n1_ := Aside0.mk (zak (by (with_reducible repeat (first | apply zab | apply zac | apply zae)); exact HO_5.out) (zan ho0) hb)
             have n2_ := Aside0.mk (zak (by (with_reducible repeat (first | apply zab | apply zac | apply zae)); exact HO_6.out) (zan ho0) hb)
             have n3_ := Aside0.mk (zak (by (with_reducible repeat (first | apply zab | apply zac | apply zae)); exact HO_7.out) (zan ho0) hb)
             have n4_ := Aside0.mk (zak (by (with_reducible repeat (first | apply zab | apply zac | apply zae)); exact HO865.out) (zan ho0) hb)
             have n5_ := Aside0.mk (zbc (zao (zao (zao (zao (zao ho0 (zav (by (with_reducible repeat (first | apply zab | apply zac | apply zae)); exact HO_3.out))) (zav (by (with_reducible repeat (first | apply zab | apply zac | apply zae)); exact HO_5.out))) (zav (by (with_reducible repeat (first | apply zab | apply zac | apply zae)); exact HO_6.out))) (zav (by (with_reducible repeat (first | apply zab | apply zac | apply zae)); exact HO_7.out))) (zav (by (with_reducible repeat (first | apply zab | apply zac | apply zae)); exact HO865.out))) (zba (by repeat (first | (with_reducible first | exact HB.out | apply zaj | apply zad | apply zai) | exact HB.out))))
             have n6_ := Aside0.mk (zbr (by repeat (first | (with_reducible exact HR870.out) | (with_reducible refine zas ?_ _) | (with_reducible refine zat ?_ _) | (with_reducible refine zaw ?_) | exact HR870.out)) hb)
             have n7_ := Aside0.mk (zbb (by repeat (first | (with_reducible first | exact HB.out | apply zaj | apply zad | apply zai) | exact HB.out)) hb)
             clear HO_3
             clear HO_5
             clear HO_6
             clear HO_7
             clear HO865
             clear HR870
             clear HB
             have HO_3 := n0_
             have HO_5 := n1_
             have HO_6 := n2_
             have HO_7 := n3_
             have HO865 := n4_
             have HO873 := n5_
             have HR870 := n6_
             have HB := n7_
             clear n0_ n1_ n2_ n3_ n4_ n5_ n6_ n7_
             (try clear hb)
             (try clear hb2)
             (try clear hk)
             (try clear hi)
             (try clear ho0)
             have q71 : ((ji58) : Int) ≤ ((t841.length : Int) : Int) := zap (by first | (with_reducible assumption) | assumption)
             obtain ⟨i071, hi071, _, hsz71, _⟩ := info_parts info5
             have hroom71 : t841.length ≤ co66 := (zaf HO_7.out).2.1
             have hC71 : Kd.C (Kd.int .u8) _ Ao66 t841.length t841 := (zaf HO_7.out).2.2
             have hcut71 := cut_to (P := Try.prog) 22 5 .i64 Try.underlying22 hi071 Ao66 t841.length co66 (ji58) (zap (by first | (with_reducible assumption) | assumption)) q71 hroom71
             have hr71 := Kd.C_take (m := ((ji58) : Int).toNat) hC71 (by omega)
             have hy71 : y874.length = ((ji58) : Int).toNat := (by rw [Ny874.out, zbi]; omega)
             rw [← Ny874.out] at hr71
             rw [← hy71] at hcut71
             have HR877 := Aside0.mk hr71
             have HC877 := Aside0.mk (show y874.length ≤ co66 from by omega)
             clear hr71 hC71 hroom71 hi071 hsz71
             have KY71 := Aside0.mk hy71
             clear hy71
             have KL71 := Aside0.mk (show ((ji58) : Int).toNat ≤ t841.length from by omega)
             replace q71 := zbn q71
             obtain ⟨Ao72, co72, eo72⟩ := zbe HO873.out
             (first | subst eo72 | (injection eo72 with f1_ f2_ f3_; have f4_ := f1_.symm; have f5_ := f3_.symm; clear f1_ f2_ f3_; subst f4_; subst f5_))
             refine hK.out _ _ trivial (fun hHeld => ?_)
             clear hK K
             refine norm_ (a' := ?_) ?_ ?_
             rotate_left
             ·show Act.put _ (some 96) _ = _
              simp only [Act.put, zaa, zag, zah, i64_w, i32_w]
              rfl
             refine one_ (i := 18) (N := some 100) #[true, true, true, true, true, true, true, true, true, true, true, true, true, true, true, true, true, true, true, false, false] rfl rfl (one_of HT_.out (by kernel_rfl)) (by decide) (fun K hK => ?_)
             refine goes_ Try.func32 (by kernel_rfl) rfl #[.slice Ao72 t871.length co72, .slice Ao66 y874.length co66] (by rfl) rfl rfl (by (try simp only [zal, zaq, zar]); first | done | rfl | (rw [show y874.length = (ji58 : Int).toNat from KY71.out] <;> rfl) | (simp only [zbl, zbi]; rfl) | (simp only [zbl, zbi]; rw [zcm (zda.mpr (zdl (by assumption)))])) ?_
             with_reducible refine (impl_Same.calls _ _ t871 _ _ y874 t878 _ ?side1 ?side2 ?side3 ?side4 A64.out).mono ?_
             (case side1 => repeat (first | exact (zaf HO873.out).2.2 | (with_reducible refine zas ?_ _) | (with_reducible refine zat ?_ _) | (with_reducible refine zaw ?_)))
             (case side2 => exact (zaf HO873.out).2.1)
             (case side3 => repeat (first | exact (by repeat (first | (with_reducible exact HR877.out) | (with_reducible refine zas ?_ _) | (with_reducible refine zat ?_ _) | (with_reducible refine zaw ?_) | exact HR877.out)) | (with_reducible refine zas ?_ _) | (with_reducible refine zat ?_ _) | (with_reducible refine zaw ?_)))
             (case side4 => exact HC877.out)
             rintro e w' ⟨rfl, ⟨nd, rfl⟩⟩
             refine ⟨_, rfl, ?_⟩
             refine hK.out _ _ trivial (fun hHeld => ?_)
             clear hK K
             refine norm_ (a' := ?_) ?_ ?_
             rotate_left
             ·show Act.put _ (some 100) _ = _
              simp only [Act.put, zaa, zag, zah, i64_w, i32_w]
              rfl
             refine pure_ (i := 19) (N := some 101) (v := ?_) (a' := ?_) #[true, true, true, true, true, true, true, true, true, true, true, true, true, true, true, true, true, true, true, true, false] rfl rfl (any_of HT_.out (by kernel_rfl)) (fun _ _ _ h => h) (Or.inl ⟨by rfl, ?_⟩) ?_ ?_
             rotate_left
             ·intro w'
              go_simp
              (try rw [if_pos (show ji58 ≤ (co66 : Int) from by have h1_ := (zaf HO_7.out).2.1; have h2_ : (ji58 : Int) ≤ (t841.length : Int) := zap (by assumption); omega)])
              (try with_reducible rfl)
             rotate_left
             ·simp only [Act.put, zaa, zag, zah, i64_w, i32_w]
              rfl
             refine pure_ (i := 20) (N := some 2) (v := ?_) (a' := ?_) #[true, true, true, true, true, true, true, true, true, true, true, true, true, true, true, true, true, true, true, true, true] rfl rfl (any_of HT_.out (by kernel_rfl)) (fun _ _ _ h => h) (Or.inl ⟨by rfl, ?_⟩) ?_ ?_
             rotate_left
             ·intro w'
              go_simp
              (try rw [if_pos (show ji58 ≤ (co66 : Int) from by have h1_ := (zaf HO_7.out).2.1; have h2_ : (ji58 : Int) ≤ (t841.length : Int) := zap (by assumption); omega)])
              (try with_reducible rfl)
             rotate_left
             ·simp only [Act.put, zaa, zag, zah, i64_w, i32_w]
              rfl
             refine done_ (done_of HT_.out (by kernel_rfl)) ?_
             try go_wp2
             go_ret
             exact ⟨by first | rfl | (simp [zbj, zbk] <;> rfl) | (simp only [← hji58]; first | rfl | (simp [zbj, zbk] <;> rfl)) | (simp [*, zbj, zbk] <;> rfl), by repeat (first | (with_reducible first | exact HB.out | apply zaj | apply zad | apply zai) | exact HB.out)⟩
            ·rw [if_neg c63] at H
             exact absurd H (by simp)
           ·rw [if_neg c60] at H
            exact absurd H (by simp)
          ·rw [if_neg c59] at H
           exact absurd H (by simp)
         ·replace c57 := zbu.mpr c57
          subst c57
          have H1 : (some false) = some r := by rw [if_neg (show ¬ (false = true) by decide)] at H; exact H
          clear H
          have H := H1
          clear H1
          obtain rfl := Option.some.inj H
          try go_wp2_with (first | ((with_reducible refine zau (f := 34) rfl ?_); refine goesL_ (some 78) rfl rfl Try.func34 (by kernel_rfl) rfl #[.slice A0 l0.length c0, .int .i64 1] rfl (by (try simp only [zal, zaq, zar]); first | done | rfl | (rw [show y874.length = (ji58 : Int).toNat from KY71.out] <;> rfl) | (simp only [zbl, zbi]; rfl) | (simp only [zbl, zbi]; rw [zcm (zda.mpr (zdl (by assumption)))])) ?_; (with_reducible refine (laws_at.calls _ _ l0 1 t862 _ ?side1 ?side2 A53.out).mono ?_); (case side1 => repeat (first | exact (zbr HR0.out HB.out) | (with_reducible refine zas ?_ _) | (with_reducible refine zat ?_ _) | (with_reducible refine zaw ?_))); (case side2 => exact HC0.out); rintro e w' ⟨rfl, ⟨nd, rfl⟩⟩; refine ⟨_, rfl, ?_⟩))
          (try (rw [drewN_self wc]; generalize hq_ : World.drewN wc _ = wc; have n0_ : Aside0 (Kd.R (Kd.int .u8) 5 wc w.heap.size (fun k_ => some k_ ≠ (.slice Ao11 t833.length co11 : Value).ownBlock ∧ some k_ ≠ (.slice Ao12 t834.length co12 : Value).ownBlock ∧ some k_ ≠ (v842 : Value).ownBlock) (.slice Ao10 t831.length co10) t831) := ⟨by rw [← hq_]; exact (by (with_reducible repeat (first | apply zab | apply zac | apply zae)); exact HO_3.out)⟩; have n1_ : Aside0 (Kd.R (Kd.int .u8) 5 wc w.heap.size (fun k_ => some k_ ≠ (.slice Ao10 t831.length co10 : Value).ownBlock ∧ some k_ ≠ (.slice Ao12 t834.length co12 : Value).ownBlock ∧ some k_ ≠ (v842 : Value).ownBlock) (.slice Ao11 t833.length co11) t833) := ⟨by rw [← hq_]; exact (by (with_reducible repeat (first | apply zab | apply zac | apply zae)); exact HO_5.out)⟩; have n2_ : Aside0 (Kd.R (Kd.int .u8) 5 wc w.heap.size (fun k_ => some k_ ≠ (.slice Ao10 t831.length co10 : Value).ownBlock ∧ some k_ ≠ (.slice Ao11 t833.length co11 : Value).ownBlock ∧ some k_ ≠ (v842 : Value).ownBlock) (.slice Ao12 t834.length co12) t834) := ⟨by rw [← hq_]; exact (by (with_reducible repeat (first | apply zab | apply zac | apply zae)); exact HO_6.out)⟩; have n3_ : Aside0 (Kd.R (Kd.int .u8) 5 wc w.heap.size (fun k_ => some k_ ≠ (.slice Ao10 t831.length co10 : Value).ownBlock ∧ some k_ ≠ (.slice Ao11 t833.length co11 : Value).ownBlock ∧ some k_ ≠ (.slice Ao12 t834.length co12 : Value).ownBlock) v842 t841) := ⟨by rw [← hq_]; exact (by (with_reducible repeat (first | apply zab | apply zac | apply zae)); exact HO_7.out)⟩; have n4_ : Aside0 (Below w.heap.size w wc) := ⟨by rw [← hq_]; exact (by repeat (first | (with_reducible first | exact HB.out | apply zaj | apply zad | apply zai) | exact HB.out))⟩; clear HO_3 HO_5 HO_6 HO_7 HB hq_; have HO_3 := n0_; have HO_5 := n1_; have HO_6 := n2_; have HO_7 := n3_; have HB := n4_; clear n0_ n1_ n2_ n3_ n4_))
          have n0_ := Aside0.mk (zae HO_3.out)
          have n1_ := Aside0.mk (zae HO_5.out)
          have n2_ := Aside0.mk (zae HO_6.out)
          have n3_ := Aside0.mk (zae HO_7.out)
          have n4_ := Aside0.mk (zai HB.out)
          clear HO_3
          clear HO_5
          clear HO_6
          clear HO_7
          clear HB
          have HO_3 := n0_
          have HO_5 := n1_
          have HO_6 := n2_
          have HO_7 := n3_
          have HB := n4_
          clear n0_ n1_ n2_ n3_ n4_
          obtain ⟨Ao74, co74, eo74⟩ := zbe HO_7.out
          (first | subst eo74 | (injection eo74 with f1_ f2_ f3_; have f4_ := f1_.symm; have f5_ := f3_.symm; clear f1_ f2_ f3_; subst f4_; subst f5_))
          refine start_ (n := 21) (S := fun w' => True) (ds := []) #[false, false, false, false, false, false, false, false, false, false, false, false, false, false, false, false, false, false, false, false, false] (by kernel_rfl) rfl rfl trivial (fun hHeld => ?_); refine zeq laws_FnStreams.tab12 laws_FnStreams.bits12 (fun HT_ HW_ => ?_)
          generalize wc.drew = w73 at HO_3 HO_5 HO_6 HO_7 HB hHeld ⊢
          refine pure_ (i := 0) (N := some 82) (v := ?_) (a' := ?_) #[true, false, false, false, false, false, false, false, false, false, false, false, false, false, false, false, false, false, false, false, false] rfl rfl (any_of HT_.out (by kernel_rfl)) (fun _ _ _ h => h) (Or.inl ⟨by rfl, ?_⟩) ?_ ?_
          rotate_left
          ·intro w'
           go_simp
           (try rw [if_pos (show ji58 ≤ (co66 : Int) from by have h1_ := (zaf HO_7.out).2.1; have h2_ : (ji58 : Int) ≤ (t841.length : Int) := zap (by assumption); omega)])
           (try with_reducible rfl)
          rotate_left
          ·simp only [Act.put, zaa, zag, zah, i64_w, i32_w]
           rfl
          refine pure_ (i := 1) (N := some 83) (v := ?_) (a' := ?_) #[true, true, false, false, false, false, false, false, false, false, false, false, false, false, false, false, false, false, false, false, false] rfl rfl (any_of HT_.out (by kernel_rfl)) (fun _ _ _ h => h) (Or.inl ⟨by rfl, ?_⟩) ?_ ?_
          rotate_left
          ·intro w'
           go_simp
           (try rw [if_pos (show ji58 ≤ (co66 : Int) from by have h1_ := (zaf HO_7.out).2.1; have h2_ : (ji58 : Int) ≤ (t841.length : Int) := zap (by assumption); omega)])
           (try with_reducible rfl)
          rotate_left
          ·simp only [Act.put, zaa, zag, zah, i64_w, i32_w]
           rfl
          refine pure_ (i := 2) (N := some 84) (v := ?_) (a' := ?_) #[true, true, true, false, false, false, false, false, false, false, false, false, false, false, false, false, false, false, false, false, false] rfl rfl (any_of HT_.out (by kernel_rfl)) (fun _ _ _ h => h) (Or.inl ⟨by rfl, ?_⟩) ?_ ?_
          rotate_left
          ·intro w'
           go_simp
           (try rw [if_pos (show ji58 ≤ (co66 : Int) from by have h1_ := (zaf HO_7.out).2.1; have h2_ : (ji58 : Int) ≤ (t841.length : Int) := zap (by assumption); omega)])
           (try with_reducible rfl)
          rotate_left
          ·simp only [Act.put, zaa, zag, zah, i64_w, i32_w]
           rfl
          refine pure_ (i := 3) (N := some 85) (v := ?_) (a' := ?_) #[true, true, true, true, false, false, false, false, false, false, false, false, false, false, false, false, false, false, false, false, false] rfl rfl (any_of HT_.out (by kernel_rfl)) (fun _ _ _ h => h) (Or.inl ⟨by rfl, ?_⟩) ?_ ?_
          rotate_left
          ·intro w'
           go_simp
           (try rw [if_pos (show ji58 ≤ (co66 : Int) from by have h1_ := (zaf HO_7.out).2.1; have h2_ : (ji58 : Int) ≤ (t841.length : Int) := zap (by assumption); omega)])
           (try with_reducible rfl)
          rotate_left
          ·simp only [Act.put, zaa, zag, zah, i64_w, i32_w]
           rfl
          refine pure_ (i := 5) (N := some 87) (v := ?_) (a' := ?_) #[true, true, true, true, false, true, false, false, false, false, false, false, false, false, false, false, false, false, false, false, false] rfl rfl (any_of HT_.out (by kernel_rfl)) (fun _ _ _ h => h) (Or.inl ⟨by rfl, ?_⟩) ?_ ?_
          rotate_left
          ·intro w'
           go_simp
           (try rw [if_pos (show ji58 ≤ (co66 : Int) from by have h1_ := (zaf HO_7.out).2.1; have h2_ : (ji58 : Int) ≤ (t841.length : Int) := zap (by assumption); omega)])
           (try with_reducible rfl)
          rotate_left
          ·simp only [Act.put, zaa, zag, zah, i64_w, i32_w]
           rfl
          refine one_ (i := 4) (N := some 86) #[true, true, true, true, true, true, false, false, false, false, false, false, false, false, false, false, false, false, false, false, false] rfl rfl (one_of HT_.out (by kernel_rfl)) (by decide) (fun K hK => ?_)
          refine goes_ Try.func27 (by kernel_rfl) rfl #[.slice Ao10 t831.length co10, .int .i64 t832, .slice Ao11 t833.length co11, .slice Ao74 t841.length co74] (by rfl) rfl rfl (by (try simp only [zal, zaq, zar]); first | done | rfl | (rw [show y874.length = (ji58 : Int).toNat from KY71.out] <;> rfl) | (simp only [zbl, zbi]; rfl) | (simp only [zbl, zbi]; rw [zcm (zda.mpr (zdl (by assumption)))])) ?_
          with_reducible refine (impl_Stream.calls kj46 _ _ t831 t832 _ _ t833 _ _ t841 t863 _ ?side1 ?side2 ?side3 ?side4 ?side5 ?side6 A55.out).mono ?_
          (case side1 => repeat (first | exact (zaf HO_3.out).2.2 | (with_reducible refine zas ?_ _) | (with_reducible refine zat ?_ _) | (with_reducible refine zaw ?_)))
          (case side2 => exact (zaf HO_3.out).2.1)
          (case side3 => repeat (first | exact (zaf HO_5.out).2.2 | (with_reducible refine zas ?_ _) | (with_reducible refine zat ?_ _) | (with_reducible refine zaw ?_)))
          (case side4 => exact (zaf HO_5.out).2.1)
          (case side5 => repeat (first | exact (zaf HO_7.out).2.2 | (with_reducible refine zas ?_ _) | (with_reducible refine zat ?_ _) | (with_reducible refine zaw ?_)))
          (case side6 => exact (zaf HO_7.out).2.1)
          rintro e w75 ⟨v864, rfl, ho0, hb⟩
          refine ⟨_, rfl, ?_⟩
          have n0_ := Aside0.mk (zak (by (with_reducible repeat (first | apply zab | apply zac | apply zae)); exact HO_3.out) (zan ho0) hb)
          have n1_ := Aside0.mk (zak (by (with_reducible repeat (first | apply zab | apply zac | apply zae)); exact HO_5.out) (zan ho0) hb)
          have n2_ := Aside0.mk (zak (by (with_reducible repeat (first | apply zab | apply zac | apply zae)); exact HO_6.out) (zan ho0) hb)
          have n3_ := Aside0.mk (zak (by (with_reducible repeat (first | apply zab | apply zac | apply zae)); exact HO_7.out) (zan ho0) hb)
          have n4_ := Aside0.mk (zbc (zao (zao (zao (zao ho0 (zav (by (with_reducible repeat (first | apply zab | apply zac | apply zae)); exact HO_3.out))) (zav (by (with_reducible repeat (first | apply zab | apply zac | apply zae)); exact HO_5.out))) (zav (by (with_reducible repeat (first | apply zab | apply zac | apply zae)); exact HO_6.out))) (zav (by (with_reducible repeat (first | apply zab | apply zac | apply zae)); exact HO_7.out))) (zba (by repeat (first | (with_reducible first | exact HB.out | apply zaj | apply zad | apply zai) | exact HB.out))))
          have n5_ := Aside0.mk (zbb (by repeat (first | (with_reducible first | exact HB.out | apply zaj | apply zad | apply zai) | exact HB.out)) hb)
          clear HO_3
          clear HO_5
          clear HO_6
          clear HO_7
          clear HB
          have HO_3 := n0_
          have HO_5 := n1_
          have HO_6 := n2_
          have HO_7 := n3_
          have HO865 := n4_
          have HB := n5_
          clear n0_ n1_ n2_ n3_ n4_ n5_
          (try clear hb)
          (try clear hb2)
          (try clear hk)
          (try clear hi)
          (try clear ho0)
          obtain ⟨Ao76, co76, eo76⟩ := zbe HO865.out
          (first | subst eo76 | (injection eo76 with f1_ f2_ f3_; have f4_ := f1_.symm; have f5_ := f3_.symm; clear f1_ f2_ f3_; subst f4_; subst f5_))
          refine hK.out _ _ trivial (fun hHeld => ?_)
          clear hK K
          refine norm_ (a' := ?_) ?_ ?_
          rotate_left
          ·show Act.put _ (some 86) _ = _
           simp only [Act.put, zaa, zag, zah, i64_w, i32_w]
           rfl
          refine one_ (i := 6) (N := some 88) #[true, true, true, true, true, true, true, false, false, false, false, false, false, false, false, false, false, false, false, false, false] rfl rfl (one_of HT_.out (by kernel_rfl)) (by decide) (fun K hK => ?_)
          refine goes_ Try.func32 (by kernel_rfl) rfl #[.slice Ao76 t863.length co76, .slice Ao12 t834.length co12] (by rfl) rfl rfl (by (try simp only [zal, zaq, zar]); first | done | rfl | (rw [show y874.length = (ji58 : Int).toNat from KY71.out] <;> rfl) | (simp only [zbl, zbi]; rfl) | (simp only [zbl, zbi]; rw [zcm (zda.mpr (zdl (by assumption)))])) ?_
          with_reducible refine (impl_Same.calls _ _ t863 _ _ t834 false _ ?side1 ?side2 ?side3 ?side4 A56.out).mono ?_
          (case side1 => repeat (first | exact (zaf HO865.out).2.2 | (with_reducible refine zas ?_ _) | (with_reducible refine zat ?_ _) | (with_reducible refine zaw ?_)))
          (case side2 => exact (zaf HO865.out).2.1)
          (case side3 => repeat (first | exact (zaf HO_6.out).2.2 | (with_reducible refine zas ?_ _) | (with_reducible refine zat ?_ _) | (with_reducible refine zaw ?_)))
          (case side4 => exact (zaf HO_6.out).2.1)
          rintro e w' ⟨rfl, ⟨nd, rfl⟩⟩
          refine ⟨_, rfl, ?_⟩
          refine hK.out _ _ trivial (fun hHeld => ?_)
          clear hK K
          refine norm_ (a' := ?_) ?_ ?_
          rotate_left
          ·show Act.put _ (some 88) _ = _
           simp only [Act.put, zaa, zag, zah, i64_w, i32_w]
           rfl
          refine pure_ (i := 7) (N := some 89) (v := ?_) (a' := ?_) #[true, true, true, true, true, true, true, true, false, false, false, false, false, false, false, false, false, false, false, false, false] rfl rfl (any_of HT_.out (by kernel_rfl)) (fun _ _ _ h => h) (Or.inl ⟨by rfl, ?_⟩) ?_ ?_
          rotate_left
          ·intro w'
           go_simp
           (try rw [if_pos (show ji58 ≤ (co66 : Int) from by have h1_ := (zaf HO_7.out).2.1; have h2_ : (ji58 : Int) ≤ (t841.length : Int) := zap (by assumption); omega)])
           (try with_reducible rfl)
          rotate_left
          ·simp only [Act.put, zaa, zag, zah, i64_w, i32_w]
           rfl
          refine pure_ (i := 8) (N := some 90) (v := undef) (a' := ?_) #[true, true, true, true, true, true, true, true, true, false, false, false, false, false, false, false, false, false, false, false, false] rfl rfl (any_of HT_.out (by kernel_rfl)) (fun _ _ _ h => h) (Or.inr ⟨by rfl, rfl⟩) ?_ ?_
          rotate_left
          ·simp only [Act.put, zaa, zag, zah, i64_w, i32_w]
           rfl
          refine pure_ (i := 9) (N := some 91) (v := undef) (a' := ?_) #[true, true, true, true, true, true, true, true, true, true, false, false, false, false, false, false, false, false, false, false, false] rfl rfl (any_of HT_.out (by kernel_rfl)) (fun _ _ _ h => h) (Or.inr ⟨by rfl, rfl⟩) ?_ ?_
          rotate_left
          ·simp only [Act.put, zaa, zag, zah, i64_w, i32_w]
           rfl
          refine pure_ (i := 10) (N := some 92) (v := undef) (a' := ?_) #[true, true, true, true, true, true, true, true, true, true, true, false, false, false, false, false, false, false, false, false, false] rfl rfl (any_of HT_.out (by kernel_rfl)) (fun _ _ _ h => h) (Or.inr ⟨by rfl, rfl⟩) ?_ ?_
          rotate_left
          ·simp only [Act.put, zaa, zag, zah, i64_w, i32_w]
           rfl
          refine pure_ (i := 11) (N := some 93) (v := undef) (a' := ?_) #[true, true, true, true, true, true, true, true, true, true, true, true, false, false, false, false, false, false, false, false, false] rfl rfl (any_of HT_.out (by kernel_rfl)) (fun _ _ _ h => h) (Or.inr ⟨by rfl, rfl⟩) ?_ ?_
          rotate_left
          ·simp only [Act.put, zaa, zag, zah, i64_w, i32_w]
           rfl
          refine pure_ (i := 12) (N := some 94) (v := undef) (a' := ?_) #[true, true, true, true, true, true, true, true, true, true, true, true, true, false, false, false, false, false, false, false, false] rfl rfl (any_of HT_.out (by kernel_rfl)) (fun _ _ _ h => h) (Or.inr ⟨by rfl, rfl⟩) ?_ ?_
          rotate_left
          ·simp only [Act.put, zaa, zag, zah, i64_w, i32_w]
           rfl
          refine pure_ (i := 13) (N := some 95) (v := undef) (a' := ?_) #[true, true, true, true, true, true, true, true, true, true, true, true, true, true, false, false, false, false, false, false, false] rfl rfl (any_of HT_.out (by kernel_rfl)) (fun _ _ _ h => h) (Or.inr ⟨by rfl, rfl⟩) ?_ ?_
          rotate_left
          ·simp only [Act.put, zaa, zag, zah, i64_w, i32_w]
           rfl
          refine pure_ (i := 14) (N := some 96) (v := undef) (a' := ?_) #[true, true, true, true, true, true, true, true, true, true, true, true, true, true, true, false, false, false, false, false, false] rfl rfl (any_of HT_.out (by kernel_rfl)) (fun _ _ _ h => h) (Or.inr ⟨by rfl, rfl⟩) ?_ ?_
          rotate_left
          ·simp only [Act.put, zaa, zag, zah, i64_w, i32_w]
           rfl
          refine pure_ (i := 15) (N := some 97) (v := undef) (a' := ?_) #[true, true, true, true, true, true, true, true, true, true, true, true, true, true, true, true, false, false, false, false, false] rfl rfl (any_of HT_.out (by kernel_rfl)) (fun _ _ _ h => h) (Or.inr ⟨by rfl, rfl⟩) ?_ ?_
          rotate_left
          ·simp only [Act.put, zaa, zag, zah, i64_w, i32_w]
           rfl
          refine pure_ (i := 16) (N := some 98) (v := undef) (a' := ?_) #[true, true, true, true, true, true, true, true, true, true, true, true, true, true, true, true, true, false, false, false, false] rfl rfl (any_of HT_.out (by kernel_rfl)) (fun _ _ _ h => h) (Or.inr ⟨by rfl, rfl⟩) ?_ ?_
          rotate_left
          ·simp only [Act.put, zaa, zag, zah, i64_w, i32_w]
           rfl
          refine pure_ (i := 17) (N := some 99) (v := undef) (a' := ?_) #[true, true, true, true, true, true, true, true, true, true, true, true, true, true, true, true, true, true, false, false, false] rfl rfl (any_of HT_.out (by kernel_rfl)) (fun _ _ _ h => h) (Or.inr ⟨by rfl, rfl⟩) ?_ ?_
          rotate_left
          ·simp only [Act.put, zaa, zag, zah, i64_w, i32_w]
           rfl
          refine pure_ (i := 18) (N := some 100) (v := undef) (a' := ?_) #[true, true, true, true, true, true, true, true, true, true, true, true, true, true, true, true, true, true, true, false, false] rfl rfl (any_of HT_.out (by kernel_rfl)) (fun _ _ _ h => h) (Or.inr ⟨by rfl, rfl⟩) ?_ ?_
          rotate_left
          ·simp only [Act.put, zaa, zag, zah, i64_w, i32_w]
           rfl
          refine pure_ (i := 19) (N := some 101) (v := ?_) (a' := ?_) #[true, true, true, true, true, true, true, true, true, true, true, true, true, true, true, true, true, true, true, true, false] rfl rfl (any_of HT_.out (by kernel_rfl)) (fun _ _ _ h => h) (Or.inl ⟨by rfl, ?_⟩) ?_ ?_
          rotate_left
          ·intro w'
           go_simp
           (try rw [if_pos (show ji58 ≤ (co66 : Int) from by have h1_ := (zaf HO_7.out).2.1; have h2_ : (ji58 : Int) ≤ (t841.length : Int) := zap (by assumption); omega)])
           (try with_reducible rfl)
          rotate_left
          ·simp only [Act.put, zaa, zag, zah, i64_w, i32_w]
           rfl
          refine pure_ (i := 20) (N := some 2) (v := ?_) (a' := ?_) #[true, true, true, true, true, true, true, true, true, true, true, true, true, true, true, true, true, true, true, true, true] rfl rfl (any_of HT_.out (by kernel_rfl)) (fun _ _ _ h => h) (Or.inl ⟨by rfl, ?_⟩) ?_ ?_
          rotate_left
          ·intro w'
           go_simp
           (try rw [if_pos (show ji58 ≤ (co66 : Int) from by have h1_ := (zaf HO_7.out).2.1; have h2_ : (ji58 : Int) ≤ (t841.length : Int) := zap (by assumption); omega)])
           (try with_reducible rfl)
          rotate_left
          ·simp only [Act.put, zaa, zag, zah, i64_w, i32_w]
           rfl
          refine done_ (done_of HT_.out (by kernel_rfl)) ?_
          try go_wp2
          go_ret
          exact ⟨by first | rfl | (simp [zbj, zbk] <;> rfl) | (simp [*, zbj, zbk] <;> rfl), by repeat (first | (with_reducible first | exact HB.out | apply zaj | apply zad | apply zai) | exact HB.out)⟩

def laws_FnStreams.Pure : Prop := ∀ (l0 : List Int), l0.length ≤ maxLen → l0.length * 1 ≤ 140737488351232 → (∀ x ∈ l0, (Lit.int .u8 x).wf = true) → ∃ k, laws_FnStreams.f k l0 = some true
theorem laws_FnStreams.walk (P : laws_FnStreams.Pure) (a0 : Option Addr) (len0 cap0 : Nat) (z0 : List Int) (w : World) (w0 : (a0 = none ∧ len0 = 0 ∧ cap0 = 0 ∧ z0 = []) ∨ ∃ x, a0 = some x ∧ len0 ≤ cap0 ∧ cap0 ≤ maxLen ∧ z0.length = cap0 ∧ (∀ i, i < z0.length → w.cell? (x.add i) = some (.int .u8 (z0.getD i 0))) ∧ ∀ n ∈ z0, (Lit.int .u8 n).wf = true) (y0 : len0 * 1 ≤ 140737488351232) :
  Calls Try.prog 8 #[.slice a0 len0 cap0] w fun e w' => e = .returned (.bool true) ∧ Below w.heap.size w w' := by
 obtain ⟨l0, rfl, hr0, hm0, hw0, hc0⟩ := ReadsInt.ofRowC w0
 obtain ⟨k, h⟩ := P l0 hm0 y0 hw0
 refine (laws_FnStreams.calls k _ _ l0 true w (zem (d := (0 : Int)) (h1 := fun _ => rfl) hr0) hc0 h).mono ?_
 rintro e w' ⟨rfl, hd⟩
 exact ⟨rfl, hd⟩
end Go.Proofs.Ytdineaebljpfaaa.P
/- FnStreams: of every code, streams and blocks are the reference's; streamed twice the text is what it was, and of a beginning the stream is a beginning. -/
namespace Go.Proofs.Ytdineaebljpfaaa.B
open Go.RowKit Go.Proofs.Ytdineaebljpfaaa.P Go.Proofs.YtdineaebljpfaaaW.PrintWords Go.Proofs.YtdineaebljpfaaaW.PrintLast Go.Proofs.YtdineaebljpfaaaW.PrintMore
/-- n blocks, one behind the other. -/
def ksG (a b : List Int) : Nat → Int → List Int
  | 0, _ => []
  | n + 1, c => blockL a c b ++ ksG a b n (c + 1)
/-- Whether there are blocks for so many bytes. -/
def okN (a b : List Int) : Nat → Int → Nat → Bool
  | 0, _, _ => true
  | n + 1, c, l => if l = 0 then true else if impl_Block.ok a c b = true then okN a b n (c + 1) (l - 64) else false
theorem okN_mono (a b : List Int) : ∀ (n : Nat) (c : Int) (l m : Nat), m ≤ l → okN a b n c l = true → okN a b n c m = true
  | 0, c, l, m, h, ho => rfl
  | n + 1, c, l, m, h, ho => by
    unfold okN at ho ⊢
    by_cases hm : m = 0
    · rw [if_pos hm]
    · rw [if_neg hm]
      rw [if_neg (by omega)] at ho
      by_cases hk : impl_Block.ok a c b = true
      · rw [if_pos hk] at ho ⊢
        exact okN_mono a b n (c + 1) (l - 64) (m - 64) (by omega) ho
      · rw [if_neg hk] at ho; cases ho
theorem xorL_app : ∀ (b l c : List Int), xorL l (b ++ c) = xorL l b ++ xorL (l.drop b.length) c
  | [], l, c => by simp [xorL]
  | y :: b, [], c => by simp [xorL]
  | y :: b, x :: l, c => by
    have ih := xorL_app b l c
    unfold xorL at ih ⊢
    simp [ih]
theorem xorL_take : ∀ (i : Nat) (t k : List Int), xorL (t.take i) k = (xorL t k).take i
  | 0, t, k => by simp [xorL]
  | i + 1, [], k => by simp [xorL]
  | i + 1, x :: t, [] => by simp [xorL]
  | i + 1, x :: t, y :: k => by
    have ih := xorL_take i t k
    unfold xorL at ih ⊢
    simp [ih]
theorem streamG_eq (a b : List Int) : ∀ (n : Nat) (c : Int) (acc t : List Int), t.length ≤ 64 * n → streamG a b n c acc t = if okN a b n c t.length = true then acc ++ xorL t (ksG a b n c) else []
  | 0, c, acc, t, h => by
    obtain rfl : t = [] := List.eq_nil_of_length_eq_zero (by omega)
    simp [streamG, okN, ksG, xorL]
  | n + 1, c, acc, t, h => by
    unfold streamG okN
    by_cases h0 : t.length = 0
    · obtain rfl : t = [] := List.eq_nil_of_length_eq_zero h0
      simp [xorL]
    · rw [if_neg h0, if_neg h0]
      by_cases hk : impl_Block.ok a c b = true
      · have hb := blockL_length a c b
        rw [if_pos hk] at hb
        rw [if_pos hk, if_pos hk, streamG_eq a b n (c + 1) _ _ (by rw [List.length_drop]; omega), List.length_drop, ksG, xorL_app, hb, List.append_assoc]
      · rw [if_neg hk, if_neg hk, if_neg (by decide)]
theorem ksG_length (a b : List Int) : ∀ (n : Nat) (c : Int) (l : Nat), okN a b n c l = true → l ≤ 64 * n → l ≤ (ksG a b n c).length
  | 0, c, l, _, h => by omega
  | n + 1, c, l, ho, h => by
    unfold okN at ho
    rw [ksG, List.length_append]
    by_cases h0 : l = 0
    · omega
    · rw [if_neg h0] at ho
      by_cases hk : impl_Block.ok a c b = true
      · rw [if_pos hk] at ho
        have hb := blockL_length a c b
        rw [if_pos hk] at hb
        have := ksG_length a b n (c + 1) (l - 64) ho (by omega)
        omega
      · rw [if_neg hk] at ho; cases ho
theorem streamL_eq (a : List Int) (c : Int) (b t : List Int) (ht : t.length ≤ 4000) : streamL a c b t = if okN a b 64 c t.length = true then xorL t (ksG a b 64 c) else [] := by
  unfold streamL
  rw [if_neg (by omega), streamG_eq a b 64 c [] t (by omega), List.nil_append]
theorem stream_len (a : List Int) (c : Int) (b t : List Int) (ht : t.length ≤ 4000) (ho : okN a b 64 c t.length = true) : (streamL a c b t).length = t.length := by
  have := ksG_length a b 64 c t.length ho (by omega)
  rw [streamL_eq a c b t ht, if_pos ho, xorL_len]
  omega
theorem stream_twice (a : List Int) (c : Int) (b t : List Int) (ht : t.length ≤ 4000) (hw : ∀ x ∈ t, 0 ≤ x ∧ x < 256) (ho : okN a b 64 c t.length = true) : streamL a c b (streamL a c b t) = t := by
  have hl := stream_len a c b t ht ho
  have hs : streamL a c b t = xorL t (ksG a b 64 c) := by rw [streamL_eq a c b t ht, if_pos ho]
  rw [streamL_eq a c b (streamL a c b t) (by omega), hl, if_pos ho]
  rw [hs] at hl ⊢
  rw [xorBack t _ hw, hl, List.take_length]
theorem stream_take (a : List Int) (c : Int) (b t : List Int) (ht : t.length ≤ 4000) (ho : okN a b 64 c t.length = true) (i : Nat) (hi : i ≤ t.length) : streamL a c b (t.take i) = (streamL a c b t).take i := by
  have hl : (t.take i).length = i := by rw [List.length_take]; omega
  rw [streamL_eq a c b (t.take i) (by omega), hl, if_pos (okN_mono a b 64 c t.length i hi ho), streamL_eq a c b t ht, if_pos ho, xorL_take]
theorem drawStream (d : List Int) (hd : d.length ≤ 1099511627776) (k : Nat) (hk : d.length + 100002 < k) : ∃ a c b t, spec_DrawStream.f k d = some (a, c, b, t) ∧ t.length ≤ 100 ∧ ∀ x ∈ t, 0 ≤ x ∧ x < 256 := by
  obtain ⟨s0, n0⟩ := newD d k hd (by omega)
  obtain ⟨a, p1, s1, e1, w1, l1, hp1⟩ := nearD d 0 s0 32 hd (by omega) (by omega) (by omega) k (by omega)
  obtain ⟨c, p2, s2, e2, w2, hp2⟩ := countD d p1 s1 hd hp1
  obtain ⟨b, p3, s3, e3, w3, l3, hp3⟩ := nearD d p2 s2 12 hd hp2 (by omega) (by omega) k (by omega)
  obtain ⟨o, p4, s4, e4, hp4⟩ := onceD d p3 s3 20 hd hp3
  unfold spec_DrawStream.f
  rw [n0, Option.bind_some]
  simp only []
  rw [e1, Option.bind_some]
  simp only []
  rw [e2, Option.bind_some]
  simp only []
  rw [e3, Option.bind_some]
  simp only []
  rw [e4, Option.bind_some]
  simp only []
  by_cases ho : o = true
  · obtain ⟨v, p5, s5, e5, v0, v1, hp5⟩ := belowD d p4 s4 10 hd hp4
    have v1 := v1 (by omega)
    rw [if_pos ho, e5, Option.bind_some]
    simp only []
    rw [wrap_eq (60 + v) (by omega) (by omega), if_pos (by omega), if_pos (by omega)]
    exact ⟨_, _, _, _, rfl, by rw [List.length_replicate]; omega, fun x hx => by rw [List.eq_of_mem_replicate hx]; omega⟩
  · obtain ⟨t, p5, s5, e5, w5, l5, hp5⟩ := bytesD d p4 s4 70 hd hp4 (by omega) (by omega) k (by omega)
    rw [if_neg ho, e5, Option.bind_some]
    exact ⟨_, _, _, _, rfl, by show t.length ≤ 100; omega, w5⟩
theorem atL (d : List Int) (hd : d.length ≤ 1048576) (hw : ∀ x ∈ d, 0 ≤ x ∧ x < 256) : ∃ v, laws_at.f d 1 = some v ∧ 0 ≤ v := by
  unfold laws_at.f
  by_cases h : (1 : Int) < (d.length : Int)
  · rw [if_pos h, if_pos (by omega)]
    have hm : rd d 1 ∈ d := by
      unfold rd
      rw [List.getD_eq_getElem?_getD, List.getElem?_eq_getElem (show (1 : Int).toNat < d.length by omega)]
      exact List.getElem_mem _
    have hr := hw _ hm
    rw [wrap_eq (rd d 1) (by omega) (by omega)]
    exact ⟨_, rfl, hr.1⟩
  · rw [if_neg h, wrap_eq (1 * 7) (by omega) (by omega), wrap_eq (1 * 7 + (d.length : Int)) (by omega) (by omega)]
    exact ⟨_, rfl, Int.tmod_nonneg _ (by omega)⟩
theorem streamsEnd (d a : List Int) (c : Int) (b t : List Int) (hd : d.length ≤ 1048576) (hw : ∀ x ∈ d, 0 ≤ x ∧ x < 256) (ht : t.length ≤ 100) (htw : ∀ x ∈ t, 0 ≤ x ∧ x < 256) (k : Nat) (hk : 7000 < k) : laws_FnStreams.j0 (k + 1 + 1) d a c b t (streamL a c b t) false = some true := by
  rw [laws_FnStreams.j0, if_neg (by decide)]
  by_cases ho : okN a b 64 c t.length = true
  · have hl := stream_len a c b t (by omega) ho
    rw [if_pos (by omega)]
    by_cases h0 : (t.length : Int) = 0
    · rw [show ((t.length : Int) == 0) = true from beq_iff_eq.2 h0]
      rw [laws_FnStreams.j1, if_pos rfl, hl, show ((t.length : Int) == 0) = true from beq_iff_eq.2 h0]
    · rw [show ((t.length : Int) == 0) = false from beq_eq_false_iff_ne.2 h0]
      obtain ⟨v, ev, hv⟩ := atL d hd hw
      have m0 : 0 ≤ Int.tmod v (t.length : Int) := Int.tmod_nonneg _ hv
      have m1 : Int.tmod v (t.length : Int) < (t.length : Int) := Int.tmod_lt_of_pos _ (by omega)
      rw [laws_FnStreams.j1, if_neg (by decide), ev, Option.bind_some, if_neg h0, implStream a c b _ k (by omega), Option.bind_some, stream_twice a c b t (by omega) htw ho, implSame, sameL_same, Option.bind_some, if_pos rfl]
      generalize Int.tmod v (t.length : Int) = i at m0 m1 ⊢
      rw [if_pos m0, if_pos (by omega), implStream a c b _ k (by omega), Option.bind_some, if_pos (by omega), stream_take a c b t (by omega) ho i.toNat (by omega), implSame, sameL_same]
      rfl
  · have hs : streamL a c b t = [] := by rw [streamL_eq a c b t (by omega), if_neg ho]
    rw [hs]
    split
    · rename_i h
      rw [show ((t.length : Int) == 0) = true from beq_iff_eq.2 (by simpa using h.symm), laws_FnStreams.j1]
      rfl
    · rw [laws_FnStreams.j1]
      rfl
end Go.Proofs.Ytdineaebljpfaaa.B
namespace Go.Proofs.Ytdineaebljpfaaa.Pure
open Go.RowKit Go.Proofs.Ytdineaebljpfaaa.P Go.Proofs.Ytdineaebljpfaaa.B Go.Proofs.YtdineaebljpfaaaW.PrintWords Go.Proofs.YtdineaebljpfaaaW.PrintLast Go.Proofs.YtdineaebljpfaaaW.PrintMore
theorem FnStreams : laws_FnStreams.Pure := by
  intro d _ _ hw
  have hw8 := wf8 hw
  refine ⟨d.length + 200000, ?_⟩
  unfold laws_FnStreams.f laws_big.f
  simp only [Option.bind_some, decide_eq_true_eq]
  by_cases h0 : (d.length : Int) > 1048576
  · rw [if_pos h0]
  · rw [if_neg h0]
    obtain ⟨a, c, b, t, e1, hl, ht⟩ := drawStream d (by omega) (d.length + 200000) (by omega)
    obtain ⟨x, n, y, e2, hc⟩ := drawBlock d (by omega) (d.length + 200000) (by omega)
    have lb := blockL_length x n y
    have fin := streamsEnd d a c b t (by omega) hw8 hl ht (d.length + 199998) (by omega)
    rw [e1, Option.bind_some]
    simp only []
    rw [implStream a c b t _ (by omega), Option.bind_some, e2, Option.bind_some]
    simp only []
    rw [implBlock x n y _ (by omega), Option.bind_some, specStream a c b t _ (by omega), Option.bind_some, implSame, sameL_same, Option.bind_some, if_pos rfl, specBlock x n y _ (by omega), Option.bind_some, implSame, sameL_same, Option.bind_some, if_pos rfl]
    by_cases hz : ((blockL x n y).length : Int) = 0
    · rw [if_pos hz]; exact fin
    · rw [if_neg hz]
      rw [show (((blockL x n y).length : Int) != 64) = false from bne_eq_false_iff_eq.2 (by split at lb <;> omega)]
      exact fin
end Go.Proofs.Ytdineaebljpfaaa.Pure
