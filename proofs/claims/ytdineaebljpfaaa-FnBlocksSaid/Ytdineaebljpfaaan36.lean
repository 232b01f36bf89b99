import Derived.Test.Ytdineaebljpfaaan35
namespace Go.Proofs.Ytdineaebljpfaaa.P
open Go.RowKit Go.Proofs.YtdineaebljpfaaaW.PrintWords Go.Proofs.YtdineaebljpfaaaW.PrintLast Go.Proofs.YtdineaebljpfaaaW.PrintMore
attribute [local go_sem] zcu zcv zdf zdg zci zcj zcw zcx   -- for this text's walks alone
set_option linter.unusedVariables false
set_option linter.unusedSimpArgs false

def spec_l1PickInt.f (s0_0 : List Int) (s0_1 : Int) (s0_2 : Int) (l1 : List Int) : Option (Int × Int × Int) := (spec_l1Below.f s0_0 s0_1 s0_2 (l1.length : Int)).bind fun bt667 => (if 0 ≤ bt667.1 then (if bt667.1 < (l1.length : Int) then (some (rd l1 bt667.1, bt667.2.1, bt667.2.2)) else (none)) else (none))
set_option maxHeartbeats 8000000 in
set_option maxRecDepth 100000 in
theorem spec_l1PickInt.calls (g : Nat) (s0_0 : List Int) (s0_1 : Int) (s0_2 : Int) (A1 : Option Addr) (c1 : Nat) (l1 : List Int) (r1 : Int) (r2 : Int) (r3 : Int) (w0 w : World) (hI : IsS74 w0 w g s0_0 s0_1 s0_2) (hB : Below w0.heap.size w0 w) (hr1 : Kd.C (Kd.int .i64) w A1 l1.length l1) (hc1 : l1.length ≤ c1) (hf1 : ∀ ad, A1 = some ad → 0 < l1.length → ad.block ≠ g) (h : spec_l1PickInt.f s0_0 s0_1 s0_2 l1 = some (r1, r2, r3)) :
  Calls Try.prog 72 #[.pointer (some ⟨g, 0, none⟩), .slice A1 l1.length c1] w fun e w' => e = .returned (.int .i64 r1) ∧ IsS74 w0 w' g s0_0 r2 r3 ∧ Below w0.heap.size w0 w' ∧ KeepBut w w' g none := by
 have HR1 := Aside0.mk hr1
 have HC1 := Aside0.mk hc1
 clear hr1 hc1
 have HI0 := Aside0.mk hI
 have HK := Aside0.mk (KeepBut.refl w g none)
 have HL := Aside0.mk hB.size
 clear hI
 have HW0 := Aside0.mk hB.size
 have HB := Aside0.mk hB
 clear hB
 have H : ((spec_l1Below.f s0_0 s0_1 s0_2 (l1.length : Int)).bind fun bt667 => (if 0 ≤ bt667.1 then (if bt667.1 < (l1.length : Int) then (some (rd l1 bt667.1, bt667.2.1, bt667.2.2)) else (none)) else (none))) = some (r1, r2, r3) := h
 clear h
 replace H := zam.mp H
 obtain ⟨⟨t667, t668, t669⟩, A30, H⟩ := H
 try dsimp only at H
 have A3 := Aside0.mk A30
 clear A30
 by_cases c4 : 0 ≤ t667
 ·rw [if_pos c4] at H
  have c4b0 : decide (0 ≤ t667) = true := zax c4
  clear c4
  by_cases c5 : t667 < (l1.length : Int)
  ·rw [if_pos c5] at H
   have c5b0 : decide (t667 < (l1.length : Int)) = true := zax c5
   clear c5
   simp only [zcp, zdb] at H
   obtain ⟨rfl, rfl, rfl⟩ := H
   go_enter Try.func72, Try.ntmps72
   go_wp2_with (first | ((with_reducible refine zau (f := 56) rfl ?_); refine goesL_ (some 9) rfl rfl Try.func56 (by kernel_rfl) rfl #[.pointer (some ⟨g, 0, none⟩), .int .i64 (l1.length : Int)] rfl (by (try simp only [zal, zaq, zar]); first | done | rfl) ?_; (with_reducible refine (spec_l1Below.calls g s0_0 s0_1 s0_2 (l1.length : Int) t667 t668 t669 w0 _ ?side1 ?side2 A3.out).mono ?_); (case side1 => repeat (first | (with_reducible first | exact HI0.out | apply IsS74.alloc | apply IsS74.drewN | apply IsS74.drew | apply IsS74.set_1 | apply IsS74.set_2) | exact HI0.out)); (case side2 => repeat (first | (with_reducible first | exact HB.out | apply zaj | apply zad | apply zai | refine zbs ?_ (IsS74.ge HI0.out)) | exact HB.out)); rintro e w6 ⟨rfl, hi, hb, hk⟩; refine ⟨_, rfl, ?_⟩; have n0_ := Aside0.mk (zcy (by repeat (first | (with_reducible first | exact HK.out | apply zbw | apply zce | apply zcn | apply zcf) | exact HK.out)) hk (.inl rfl)); have n1_ := Aside0.mk (hb); have n2_ := Aside0.mk (hi); clear HK HB HI0; have HK := n0_; have HB := n1_; have HI0 := n2_; clear n0_ n1_ n2_; (try clear hb); (try clear hb2); (try clear hk); (try clear hi); have p670 : 0 ≤ (t667 : Int) := zap (by first | (with_reducible assumption) | assumption); have q670 : t667 < (l1.length : Int) := zap (by first | (with_reducible assumption) | assumption); obtain ⟨ad670, e670, hx670_0⟩ := zca HR1.out t667 p670 q670; cases e670; replace hx670_0 := keep_cell HK.out hx670_0 (by first | (rw [add_block]; exact hf1 _ rfl (by omega)) | exact hf1 _ rfl (by omega) | exact hf1 ad670 rfl (by omega)); replace p670 := zbn p670; replace q670 := zbn q670))
   go_ret
   exact ⟨by first | rfl | (simp [zbj, zbk] <;> rfl) | (simp [*, zbj, zbk] <;> rfl), by repeat (first | (with_reducible first | exact HI0.out | apply IsS74.alloc | apply IsS74.drewN | apply IsS74.drew | apply IsS74.set_1 | apply IsS74.set_2) | exact HI0.out), by repeat (first | (with_reducible first | exact HB.out | apply zaj | apply zad | apply zai | refine zbs ?_ (IsS74.ge HI0.out)) | exact HB.out), by repeat (first | (with_reducible first | exact HK.out | apply zbw | apply zce | apply zcn | apply zcf) | exact HK.out)⟩
  ·rw [if_neg c5] at H
   exact absurd H (by simp)
 ·rw [if_neg c4] at H
  exact absurd H (by simp)
def spec_l5DrawCount.f (s0_0 : List Int) (s0_1 : Int) (s0_2 : Int) : Option (Int × Int × Int) := (spec_l1PickInt.f s0_0 s0_1 s0_2 (([0, 1, 7, 4294967295, 4294967296, (-1)] : List Int))).bind fun bt674 => (some (bt674.1, bt674.2.1, bt674.2.2))
set_option maxHeartbeats 8000000 in
set_option maxRecDepth 100000 in
theorem spec_l5DrawCount.calls (g : Nat) (s0_0 : List Int) (s0_1 : Int) (s0_2 : Int) (r1 : Int) (r2 : Int) (r3 : Int) (w0 w : World) (hI : IsS74 w0 w g s0_0 s0_1 s0_2) (hB : Below w0.heap.size w0 w) (h : spec_l5DrawCount.f s0_0 s0_1 s0_2 = some (r1, r2, r3)) :
  Calls Try.prog 55 #[.pointer (some ⟨g, 0, none⟩)] w fun e w' => e = .returned (.int .i64 r1) ∧ IsS74 w0 w' g s0_0 r2 r3 ∧ Below w0.heap.size w0 w' ∧ KeepBut w w' g none := by
 have HI0 := Aside0.mk hI
 have HK := Aside0.mk (KeepBut.refl w g none)
 have HL := Aside0.mk hB.size
 clear hI
 have HW0 := Aside0.mk hB.size
 have HB := Aside0.mk hB
 clear hB
 have H : ((spec_l1PickInt.f s0_0 s0_1 s0_2 (([0, 1, 7, 4294967295, 4294967296, (-1)] : List Int))).bind fun bt674 => (some (bt674.1, bt674.2.1, bt674.2.2))) = some (r1, r2, r3) := h
 clear h
 obtain ⟨y671, hy671⟩ : ∃ y_ : List Int, y_ = (([0, 1, 7, 4294967295, 4294967296, (-1)] : List Int)) := ⟨_, rfl⟩
 replace H : ((spec_l1PickInt.f s0_0 s0_1 s0_2 y671).bind fun bt674 => (some (bt674.1, bt674.2.1, bt674.2.2))) = some (r1, r2, r3) := by first | (rw [hy671]; with_reducible first | exact H | exact bind_ofs H) | (with_reducible first | exact H | exact bind_ofs H) | (rw [hy671]; exact H) | exact H
 have Ny671 := Aside0.mk hy671
 clear hy671
 replace H := zam.mp H
 obtain ⟨⟨t674, t675, t676⟩, A20, H⟩ := H
 try dsimp only at H
 have A2 := Aside0.mk A20
 clear A20
 simp only [zcp, zdb] at H
 obtain ⟨rfl, rfl, rfl⟩ := H
 go_enter Try.func55, Try.ntmps55
 go_wp2_with (first | ((with_reducible refine zds (N := 4) rfl ?_); refine zec (Kd.int .i64) _ 3 ?hg (N := 4) ?hd (xs := ([0, 1, 7, 4294967295, 4294967296, (-1)] : List Int)) (inner := [.int .i64 0, .int .i64 1, .int .i64 7, .int .i64 4294967295, .int .i64 4294967296, .int .i64 (-1)]) (ok := fun _ => True) (okp := fun _ => True) ?hr ?hp (fun _ hk => hk) trivial (zbx _ _) (zbp _) (by simp) ?_; (case hd => rfl); (case hg => rfl); (case hr => first | (go_simp; done) | (go_simp; rfl)); (case hp => exact (zdy (show Kd.M (Kd.int .i64) _ _ _ 0 [.int .i64 0] from rfl) (zdy (show Kd.M (Kd.int .i64) _ _ _ 1 [.int .i64 1] from rfl) (zdy (show Kd.M (Kd.int .i64) _ _ _ 7 [.int .i64 7] from rfl) (zdy (show Kd.M (Kd.int .i64) _ _ _ 4294967295 [.int .i64 4294967295] from rfl) (zdy (show Kd.M (Kd.int .i64) _ _ _ 4294967296 [.int .i64 4294967296] from rfl) (zdy (show Kd.M (Kd.int .i64) _ _ _ (-1) [.int .i64 (-1)] from rfl) (zdp _ _)))))))); intro v672 w3 ho4 hb hg_ hnew_; clear hg_ hnew_; (first | rw [← Ny671.out] at ho4 | (simp only [Int.reduceToNat] at ho4; rw [← Ny671.out] at ho4)); have n0_ := Aside0.mk (zbc ho4 (keep_size (w := w) (g := g) (row := none) (by repeat (first | (with_reducible first | exact HK.out | apply zbw | apply zce | apply zcn | apply zcf) | exact HK.out)))); have n1_ := Aside0.mk (IsS74.below (by repeat (first | (with_reducible first | exact HI0.out | apply IsS74.alloc | apply IsS74.drewN | apply IsS74.drew | apply IsS74.set_1 | apply IsS74.set_2) | exact HI0.out)) hb); have n2_ := Aside0.mk (zcy (by repeat (first | (with_reducible first | exact HK.out | apply zbw | apply zce | apply zcn | apply zcf) | exact HK.out)) (KeepBut.of_below hb g none) (.inl rfl)); have n3_ := Aside0.mk (zbb (by repeat (first | (with_reducible first | exact HB.out | apply zaj | apply zad | apply zai | refine zbs ?_ (IsS74.ge HI0.out)) | exact HB.out)) hb); clear HI0 HK HB; have HO673 := n0_; have HI0 := n1_; have HK := n2_; have HB := n3_; clear n0_ n1_ n2_ n3_; clear hb ho4; obtain ⟨Ao5, co5, eo5⟩ := zbe HO673.out; subst eo5) | ((with_reducible refine zau (f := 72) rfl ?_); refine goesL_ (some 5) rfl rfl Try.func72 (by kernel_rfl) rfl #[.pointer (some ⟨g, 0, none⟩), .slice Ao5 y671.length co5] rfl (by (try simp only [zal, zaq, zar]); first | done | rfl) ?_; (with_reducible refine (spec_l1PickInt.calls g s0_0 s0_1 s0_2 _ _ y671 t674 t675 t676 w0 _ ?side1 ?side2 ?side3 ?side4 ?side5 A2.out).mono ?_); (case side1 => repeat (first | (with_reducible first | exact HI0.out | apply IsS74.alloc | apply IsS74.drewN | apply IsS74.drew | apply IsS74.set_1 | apply IsS74.set_2) | exact HI0.out)); (case side2 => repeat (first | (with_reducible first | exact HB.out | apply zaj | apply zad | apply zai | refine zbs ?_ (IsS74.ge HI0.out)) | exact HB.out)); (case side3 => repeat (first | exact (zaf HO673.out).2.2 | (with_reducible first | apply zas | apply zat | apply zaw))); (case side4 => exact (zaf HO673.out).2.1); (case side5 => exact far_slice (IsS74.own_ne HI0.out HO673.out (by decide))); rintro e w6 ⟨rfl, hi, hb, hk⟩; refine ⟨_, rfl, ?_⟩; have n0_ := Aside0.mk (zbm (zei (IsS74.apart (show IsS74 w0 _ g s0_0 s0_1 s0_2 from by repeat (first | (with_reducible first | exact HI0.out | apply IsS74.alloc | apply IsS74.drewN | apply IsS74.drew | apply IsS74.set_1 | apply IsS74.set_2) | exact HI0.out)) (by (with_reducible repeat (first | apply zab | apply zac | apply zae)); exact HO673.out) (by decide)) hk (fun _ h => h.2)) (fun _ h => h.1)); have n1_ := Aside0.mk (zcy (by repeat (first | (with_reducible first | exact HK.out | apply zbw | apply zce | apply zcn | apply zcf) | exact HK.out)) hk (.inl rfl)); have n2_ := Aside0.mk (hb); have n3_ := Aside0.mk (hi); clear HO673 HK HB HI0; have HO673 := n0_; have HK := n1_; have HB := n2_; have HI0 := n3_; clear n0_ n1_ n2_ n3_; (try clear hb); (try clear hb2); (try clear hk); (try clear hi)))
 go_ret
 exact ⟨by first | rfl | (simp [zbj, zbk] <;> rfl) | (simp [*, zbj, zbk] <;> rfl), by repeat (first | (with_reducible first | exact HI0.out | apply IsS74.alloc | apply IsS74.drewN | apply IsS74.drew | apply IsS74.set_1 | apply IsS74.set_2) | exact HI0.out), by repeat (first | (with_reducible first | exact HB.out | apply zaj | apply zad | apply zai | refine zbs ?_ (IsS74.ge HI0.out)) | exact HB.out), by repeat (first | (with_reducible first | exact HK.out | apply zbw | apply zce | apply zcn | apply zcf) | exact HK.out)⟩
def spec_DrawBlock.f (k : Nat) (l0 : List Int) : Option (List Int × Int × List Int) := (spec_l1New.f k l0).bind fun bt677 => ((spec_l1DrawNear.f k bt677.1 bt677.2.1 bt677.2.2 32).bind fun bt681 => ((spec_l5DrawCount.f bt677.1 bt681.2.1 bt681.2.2).bind fun bt686 => ((spec_l1DrawNear.f k bt677.1 bt686.2.1 bt686.2.2 12).bind fun bt689 => (some (bt681.1, bt686.1, bt689.1)))))
theorem spec_DrawBlock.mono : ∀ a0 k, LeO (spec_DrawBlock.f k a0) (spec_DrawBlock.f (k + 1) a0) := by
 intro a0 k
 unfold spec_DrawBlock.f
 repeat' first
   | (with_reducible exact spec_l1DrawNear.mono _ _ _ _ _)
   | (with_reducible exact spec_l1New.mono _ _)
   | (with_reducible exact zcc _)
   | (with_reducible exact zcg _)
   | (with_reducible refine zcr ?_ ?_)
   | (with_reducible refine zcd ?_ (fun _ => ?_))
set_option maxHeartbeats 8000000 in
set_option maxRecDepth 100000 in
theorem spec_DrawBlock.calls (k : Nat) (A0 : Option Addr) (c0 : Nat) (l0 : List Int) (r1 : List Int) (r2 : Int) (r3 : List Int) (w : World) (hr0 : Kd.C (Kd.int .u8) w A0 l0.length l0) (hc0 : l0.length ≤ c0) (h : spec_DrawBlock.f k l0 = some (r1, r2, r3)) :
  Calls Try.prog 29 #[.slice A0 l0.length c0] w fun e w' => ∃ v0_ v2_ : Value, e = .returned (.tuple #[v0_, .int .i64 r2, v2_]) ∧ Kd.R (Kd.int .u8) 5 w' w.heap.size (fun k_ => some k_ ≠ (v2_ : Value).ownBlock) v0_ r1 ∧ Kd.R (Kd.int .u8) 5 w' w.heap.size (fun k_ => some k_ ≠ (v0_ : Value).ownBlock) v2_ r3 ∧ Below w.heap.size w w' := by
 have HR0 := Aside0.mk hr0
 have HC0 := Aside0.mk hc0
 clear hr0 hc0
 have HB := Aside0.mk (zbx w.heap.size w)
 have H : ((spec_l1New.f k l0).bind fun bt677 => ((spec_l1DrawNear.f k bt677.1 bt677.2.1 bt677.2.2 32).bind fun bt681 => ((spec_l5DrawCount.f bt677.1 bt681.2.1 bt681.2.2).bind fun bt686 => ((spec_l1DrawNear.f k bt677.1 bt686.2.1 bt686.2.2 12).bind fun bt689 => (some (bt681.1, bt686.1, bt689.1)))))) = some (r1, r2, r3) := h
 clear h
 replace H := zam.mp H
 obtain ⟨⟨t677, t678, t679⟩, A20, H⟩ := H
 try dsimp only at H
 have A2 := Aside0.mk A20
 clear A20
 replace H := zam.mp H
 obtain ⟨⟨t681, t684, t685⟩, A30, H⟩ := H
 try dsimp only at H
 have A3 := Aside0.mk A30
 clear A30
 replace H := zam.mp H
 obtain ⟨⟨t686, t687, t688⟩, A40, H⟩ := H
 try dsimp only at H
 have A4 := Aside0.mk A40
 clear A40
 replace H := zam.mp H
 obtain ⟨⟨t689, t692, t693⟩, A50, H⟩ := H
 try dsimp only at H
 have A5 := Aside0.mk A50
 clear A50
 simp only [zcp, zdb] at H
 obtain ⟨rfl, rfl, rfl⟩ := H
 go_enter Try.func29, Try.ntmps29
 go_wp2_with (first | ((with_reducible refine zau (f := 53) rfl ?_); refine goesL_ (some 9) rfl rfl Try.func53 (by kernel_rfl) rfl #[.slice A0 l0.length c0] rfl (by (try simp only [zal, zaq, zar]); first | done | rfl) ?_; (with_reducible refine (spec_l1New.calls k _ _ l0 t677 t678 t679 w _ ?side1 ?side2 ?side3 A2.out).mono ?_); (case side1 => repeat (first | (with_reducible first | exact HB.out | apply zaj | apply zad | apply zai) | exact HB.out)); (case side2 => exact HR0.out); (case side3 => exact HC0.out); rintro e w6 ⟨g680, rfl, hi, hb, hb2⟩; refine ⟨_, rfl, ?_⟩; have n0_ := Aside0.mk (hb); have n1_ := Aside0.mk (hi); clear HB; have HB := n0_; have HI680 := n1_; clear n0_ n1_; (try clear hb); (try clear hb2); (try clear hk); (try clear hi)) | ((with_reducible refine zau (f := 54) rfl ?_); refine goesL_ (some 11) rfl rfl Try.func54 (by kernel_rfl) rfl #[.pointer (some ⟨g680, 0, none⟩), .int .i64 32] rfl (by (try simp only [zal, zaq, zar]); first | done | rfl) ?_; (with_reducible refine (spec_l1DrawNear.calls k g680 t677 t678 t679 32 t681 t684 t685 w _ ?side1 ?side2 A3.out).mono ?_); (case side1 => repeat (first | (with_reducible first | exact HI680.out | apply IsS74.alloc | apply IsS74.drewN | apply IsS74.drew | apply IsS74.set_1 | apply IsS74.set_2) | exact HI680.out)); (case side2 => repeat (first | (with_reducible first | exact HB.out | apply zaj | apply zad | apply zai | refine zbs ?_ (IsS74.ge HI680.out)) | exact HB.out)); rintro e w7 ⟨v682, rfl, ho0, hi, hb, hk⟩; refine ⟨_, rfl, ?_⟩; have n0_ := Aside0.mk (zbc ho0 (zba (by repeat (first | (with_reducible first | exact HB.out | apply zaj | apply zad | apply zai | refine zbs ?_ (IsS74.ge HI680.out)) | exact HB.out)))); have n1_ := Aside0.mk (hb); have n2_ := Aside0.mk (hi); clear HB HI680; have HO683 := n0_; have HB := n1_; have HI680 := n2_; clear n0_ n1_ n2_; clear hb hk hi ho0) | ((with_reducible refine zau (f := 55) rfl ?_); refine goesL_ (some 13) rfl rfl Try.func55 (by kernel_rfl) rfl #[.pointer (some ⟨g680, 0, none⟩)] rfl (by (try simp only [zal, zaq, zar]); first | done | rfl) ?_; (with_reducible refine (spec_l5DrawCount.calls g680 t677 t684 t685 t686 t687 t688 w _ ?side1 ?side2 A4.out).mono ?_); (case side1 => repeat (first | (with_reducible first | exact HI680.out | apply IsS74.alloc | apply IsS74.drewN | apply IsS74.drew | apply IsS74.set_1 | apply IsS74.set_2) | exact HI680.out)); (case side2 => repeat (first | (with_reducible first | exact HB.out | apply zaj | apply zad | apply zai | refine zbs ?_ (IsS74.ge HI680.out)) | exact HB.out)); rintro e w8 ⟨rfl, hi, hb, hk⟩; refine ⟨_, rfl, ?_⟩; have n0_ := Aside0.mk (zbm (zei (IsS74.apart (show IsS74 w _ g680 t677 t684 t685 from by repeat (first | (with_reducible first | exact HI680.out | apply IsS74.alloc | apply IsS74.drewN | apply IsS74.drew | apply IsS74.set_1 | apply IsS74.set_2) | exact HI680.out)) (by (with_reducible repeat (first | apply zab | apply zac | apply zae)); exact HO683.out) (by decide)) hk (fun _ h => h.2)) (fun _ h => h.1)); have n1_ := Aside0.mk (hb); have n2_ := Aside0.mk (hi); clear HO683 HB HI680; have HO683 := n0_; have HB := n1_; have HI680 := n2_; clear n0_ n1_ n2_; (try clear hb); (try clear hb2); (try clear hk); (try clear hi)) | ((with_reducible refine zau (f := 54) rfl ?_); refine goesL_ (some 17) rfl rfl Try.func54 (by kernel_rfl) rfl #[.pointer (some ⟨g680, 0, none⟩), .int .i64 12] rfl (by (try simp only [zal, zaq, zar]); first | done | rfl) ?_; (with_reducible refine (spec_l1DrawNear.calls k g680 t677 t687 t688 12 t689 t692 t693 w _ ?side1 ?side2 A5.out).mono ?_); (case side1 => repeat (first | (with_reducible first | exact HI680.out | apply IsS74.alloc | apply IsS74.drewN | apply IsS74.drew | apply IsS74.set_1 | apply IsS74.set_2) | exact HI680.out)); (case side2 => repeat (first | (with_reducible first | exact HB.out | apply zaj | apply zad | apply zai | refine zbs ?_ (IsS74.ge HI680.out)) | exact HB.out)); rintro e w9 ⟨v690, rfl, ho0, hi, hb, hk⟩; refine ⟨_, rfl, ?_⟩; have n0_ := Aside0.mk (zbm (Kd.R_told (Kd.R_oldK (IsS74.apart (show IsS74 w _ g680 t677 t687 t688 from by repeat (first | (with_reducible first | exact HI680.out | apply IsS74.alloc | apply IsS74.drewN | apply IsS74.drew | apply IsS74.set_1 | apply IsS74.set_2) | exact HI680.out)) (by (with_reducible repeat (first | apply zab | apply zac | apply zae)); exact HO683.out) (by decide)) hk) (zan ho0)) (fun _ h_ => h_.1)); have n1_ := Aside0.mk (zbc (zao ho0 (zav (by (with_reducible repeat (first | apply zab | apply zac | apply zae)); exact HO683.out))) (zba (by repeat (first | (with_reducible first | exact HB.out | apply zaj | apply zad | apply zai | refine zbs ?_ (IsS74.ge HI680.out)) | exact HB.out)))); have n2_ := Aside0.mk (hb); have n3_ := Aside0.mk (hi); clear HO683 HB HI680; have HO683 := n0_; have HO691 := n1_; have HB := n2_; have HI680 := n3_; clear n0_ n1_ n2_ n3_; clear hb hk hi ho0))
 go_ret3
 exact ⟨_, _, by first | rfl | (simp [zbj, zbk] <;> rfl) | (simp [*, zbj, zbk] <;> rfl), by (with_reducible repeat (first | apply zab | apply zac | apply zae)); exact zbm HO683.out (fun _ hk => hk.2), by (with_reducible repeat (first | apply zab | apply zac | apply zae)); exact zbm HO691.out (fun _ hk => hk.2), by repeat (first | (with_reducible first | exact HB.out | apply zaj | apply zad | apply zai | refine zbs ?_ (IsS74.ge HI680.out)) | exact HB.out)⟩
end Go.Proofs.Ytdineaebljpfaaa.P
