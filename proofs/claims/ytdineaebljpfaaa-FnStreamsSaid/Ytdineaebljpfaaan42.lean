import Derived.Test.Ytdineaebljpfaaan36
import Derived.Test.Ytdineaebljpfaaan40
namespace Go.Proofs.Ytdineaebljpfaaa.P
open Go.RowKit Go.Proofs.YtdineaebljpfaaaW.PrintWords Go.Proofs.YtdineaebljpfaaaW.PrintLast Go.Proofs.YtdineaebljpfaaaW.PrintMore
attribute [local go_sem] zcu zcv zdf zdg zci zcj zcw zcx   -- for this text's walks alone
set_option linter.unusedVariables false
set_option linter.unusedSimpArgs false

def spec_DrawStream.f (k : Nat) (l0 : List Int) : Option (List Int × Int × List Int × List Int) := (spec_l1New.f k l0).bind fun bt798 => ((spec_l1DrawNear.f k bt798.1 bt798.2.1 bt798.2.2 32).bind fun bt802 => ((spec_l5DrawCount.f bt798.1 bt802.2.1 bt802.2.2).bind fun bt807 => ((spec_l1DrawNear.f k bt798.1 bt807.2.1 bt807.2.2 12).bind fun bt810 => ((spec_l1Once.f bt798.1 bt810.2.1 bt810.2.2 20).bind fun bt815 => (if bt815.1 = true then ((spec_l1Below.f bt798.1 bt815.2.1 bt815.2.2 10).bind fun bt818 => (if 0 ≤ (wrap64 (60 + bt818.1)) then (if (wrap64 (60 + bt818.1) : Int).toNat ≤ 281474976710656 then (some (bt802.1, bt807.1, bt810.1, (List.replicate (wrap64 (60 + bt818.1) : Int).toNat 0))) else (none)) else (none))) else ((spec_l1DrawBytes.f k bt798.1 bt815.2.1 bt815.2.2 70).bind fun bt824 => (some (bt802.1, bt807.1, bt810.1, bt824.1))))))))
theorem spec_DrawStream.mono : ∀ a0 k, LeO (spec_DrawStream.f k a0) (spec_DrawStream.f (k + 1) a0) := by
 intro a0 k
 unfold spec_DrawStream.f
 repeat' first
   | (with_reducible exact spec_l1DrawBytes.mono _ _ _ _ _)
   | (with_reducible exact spec_l1DrawNear.mono _ _ _ _ _)
   | (with_reducible exact spec_l1New.mono _ _)
   | (with_reducible exact zcc _)
   | (with_reducible exact zcg _)
   | (with_reducible refine zcr ?_ ?_)
   | (with_reducible refine zcd ?_ (fun _ => ?_))
def spec_DrawStream.T6 : Bool × List (List Nat × List Nat) := (true, [([], []), ([], []), ([], []), ([], []), ([3], [3]), ([4], [4]), ([5, 5], [5]), ([0, 4, 0], [0]), ([1, 7, 0, 1, 7], [1]), ([2, 8, 0, 1, 2, 7, 8], [2]), ([6, 9, 0, 1, 2, 3, 4, 5, 6, 7, 8, 9], [6])])
def spec_DrawStream.B6 : List Nat := [0, 0, 0, 0, 8, 24, 56, 25, 155, 415, 1023]
theorem spec_DrawStream.tab6 : rtab .any (opsOf Try.f33 6) = spec_DrawStream.T6 := by kernel_rfl
theorem spec_DrawStream.bits6 : waitsOk spec_DrawStream.T6.2 spec_DrawStream.B6 = true := by kernel_rfl
set_option maxHeartbeats 8000000 in
set_option maxRecDepth 100000 in
theorem spec_DrawStream.calls (k : Nat) (A0 : Option Addr) (c0 : Nat) (l0 : List Int) (r1 : List Int) (r2 : Int) (r3 : List Int) (r4 : List Int) (w : World) (hr0 : Kd.C (Kd.int .u8) w A0 l0.length l0) (hc0 : l0.length ≤ c0) (h : spec_DrawStream.f k l0 = some (r1, r2, r3, r4)) :
  Calls Try.prog 33 #[.slice A0 l0.length c0] w fun e w' => ∃ v0_ v2_ v3_ : Value, e = .returned (.tuple #[v0_, .int .i64 r2, v2_, v3_]) ∧ Kd.R (Kd.int .u8) 5 w' w.heap.size (fun k_ => some k_ ≠ (v2_ : Value).ownBlock ∧ some k_ ≠ (v3_ : Value).ownBlock) v0_ r1 ∧ Kd.R (Kd.int .u8) 5 w' w.heap.size (fun k_ => some k_ ≠ (v0_ : Value).ownBlock ∧ some k_ ≠ (v3_ : Value).ownBlock) v2_ r3 ∧ Kd.R (Kd.int .u8) 5 w' w.heap.size (fun k_ => some k_ ≠ (v0_ : Value).ownBlock ∧ some k_ ≠ (v2_ : Value).ownBlock) v3_ r4 ∧ Below w.heap.size w w' := by
 have HR0 := Aside0.mk hr0
 have HC0 := Aside0.mk hc0
 clear hr0 hc0
 have HB := Aside0.mk (zbx w.heap.size w)
 have H : ((spec_l1New.f k l0).bind fun bt798 => ((spec_l1DrawNear.f k bt798.1 bt798.2.1 bt798.2.2 32).bind fun bt802 => ((spec_l5DrawCount.f bt798.1 bt802.2.1 bt802.2.2).bind fun bt807 => ((spec_l1DrawNear.f k bt798.1 bt807.2.1 bt807.2.2 12).bind fun bt810 => ((spec_l1Once.f bt798.1 bt810.2.1 bt810.2.2 20).bind fun bt815 => (if bt815.1 = true then ((spec_l1Below.f bt798.1 bt815.2.1 bt815.2.2 10).bind fun bt818 => (if 0 ≤ (wrap64 (60 + bt818.1)) then (if (wrap64 (60 + bt818.1) : Int).toNat ≤ 281474976710656 then (some (bt802.1, bt807.1, bt810.1, (List.replicate (wrap64 (60 + bt818.1) : Int).toNat 0))) else (none)) else (none))) else ((spec_l1DrawBytes.f k bt798.1 bt815.2.1 bt815.2.2 70).bind fun bt824 => (some (bt802.1, bt807.1, bt810.1, bt824.1))))))))) = some (r1, r2, r3, r4) := h
 clear h
 replace H := zam.mp H
 obtain ⟨⟨t798, t799, t800⟩, A20, H⟩ := H
 try dsimp only at H
 have A2 := Aside0.mk A20
 clear A20
 replace H := zam.mp H
 obtain ⟨⟨t802, t805, t806⟩, A30, H⟩ := H
 try dsimp only at H
 have A3 := Aside0.mk A30
 clear A30
 replace H := zam.mp H
 obtain ⟨⟨t807, t808, t809⟩, A40, H⟩ := H
 try dsimp only at H
 have A4 := Aside0.mk A40
 clear A40
 replace H := zam.mp H
 obtain ⟨⟨t810, t813, t814⟩, A50, H⟩ := H
 try dsimp only at H
 have A5 := Aside0.mk A50
 clear A50
 replace H := zam.mp H
 obtain ⟨⟨t815, t816, t817⟩, A60, H⟩ := H
 try dsimp only at H
 have A6 := Aside0.mk A60
 clear A60
 by_cases c7 : t815 = true
 ·subst c7
  have H1 : ((spec_l1Below.f t798 t816 t817 10).bind fun bt818 => (if 0 ≤ (wrap64 (60 + bt818.1)) then (if (wrap64 (60 + bt818.1) : Int).toNat ≤ 281474976710656 then (some (t802, t807, t810, (List.replicate (wrap64 (60 + bt818.1) : Int).toNat 0))) else (none)) else (none))) = some (r1, r2, r3, r4) := by rw [if_pos rfl] at H; exact H
  clear H
  have H := H1
  clear H1
  replace H := zam.mp H
  obtain ⟨⟨t818, t819, t820⟩, A80, H⟩ := H
  try dsimp only at H
  have A8 := Aside0.mk A80
  clear A80
  obtain ⟨ji9, hji9⟩ : ∃ j_ : Int, (wrap64 (60 + t818)) = j_ := ⟨_, rfl⟩
  replace H : (if 0 ≤ (ji9) then (if (ji9 : Int).toNat ≤ 281474976710656 then (some (t802, t807, t810, (List.replicate (ji9 : Int).toNat 0))) else (none)) else (none)) = some (r1, r2, r3, r4) := by first | (rw [hji9] at H; exact H) | (simp only [hji9] at H ⊢; exact H)
  (try rw [hji9] at A2)
  (try rw [hji9] at A3)
  (try rw [hji9] at A4)
  (try rw [hji9] at A5)
  (try rw [hji9] at A6)
  (try rw [hji9] at A8)
  have hji9w : (IntKind.i64.wrap (60 + t818)) = ji9 := (i64_w _).trans hji9
  by_cases c10 : 0 ≤ (ji9)
  ·rw [if_pos c10] at H
   have c10b0 := zbn c10
   have c10b1 : decide (0 ≤ (ji9)) = true := zax c10
   clear c10
   by_cases c11 : (ji9 : Int).toNat ≤ 281474976710656
   ·rw [if_pos c11] at H
    have c11b0 := zbn c11
    have c11b1 : decide ((ji9 : Int).toNat ≤ 281474976710656) = true := zax c11
    clear c11
    obtain ⟨y821, hy821⟩ : ∃ y_ : List Int, y_ = (List.replicate (ji9 : Int).toNat 0) := ⟨_, rfl⟩
    replace H : (some (t802, t807, t810, y821)) = some (r1, r2, r3, r4) := by first | (rw [hy821]; with_reducible first | exact H | exact bind_ofs H) | (with_reducible first | exact H | exact bind_ofs H) | (rw [hy821]; exact H) | exact H
    have Ny821 := Aside0.mk hy821
    clear hy821
    simp only [zcp, zdb] at H
    obtain ⟨rfl, rfl, rfl, rfl⟩ := H
    go_enter Try.func33, Try.ntmps33
    try go_wp2_with (first | ((with_reducible refine zau (f := 53) rfl ?_); refine goesL_ (some 11) rfl rfl Try.func53 (by kernel_rfl) rfl #[.slice A0 l0.length c0] rfl (by (try simp only [zal, zaq, zar]); first | done | rfl | (simp only [zbl, zbi]; rfl) | (simp only [zbl, zbi]; rw [zcm (zda.mpr (zdl (by assumption)))])) ?_; (with_reducible refine (spec_l1New.calls k _ _ l0 t798 t799 t800 w _ ?side1 ?side2 ?side3 A2.out).mono ?_); (case side1 => repeat (first | (with_reducible first | exact HB.out | apply zaj | apply zad | apply zai) | exact HB.out)); (case side2 => exact HR0.out); (case side3 => exact HC0.out); rintro e w12 ⟨g801, rfl, hi, hb, hb2⟩; refine ⟨_, rfl, ?_⟩; have n0_ := Aside0.mk (hb); have n1_ := Aside0.mk (hi); clear HB; have HB := n0_; have HI801 := n1_; clear n0_ n1_; (try clear hb); (try clear hb2); (try clear hk); (try clear hi)) | ((with_reducible refine zau (f := 54) rfl ?_); refine goesL_ (some 13) rfl rfl Try.func54 (by kernel_rfl) rfl #[.pointer (some ⟨g801, 0, none⟩), .int .i64 32] rfl (by (try simp only [zal, zaq, zar]); first | done | rfl | (simp only [zbl, zbi]; rfl) | (simp only [zbl, zbi]; rw [zcm (zda.mpr (zdl (by assumption)))])) ?_; (with_reducible refine (spec_l1DrawNear.calls k g801 t798 t799 t800 32 t802 t805 t806 w _ ?side1 ?side2 A3.out).mono ?_); (case side1 => repeat (first | (with_reducible first | exact HI801.out | apply IsS74.alloc | apply IsS74.drewN | apply IsS74.drew | apply IsS74.set_1 | apply IsS74.set_2) | exact HI801.out)); (case side2 => repeat (first | (with_reducible first | exact HB.out | apply zaj | apply zad | apply zai | refine zbs ?_ (IsS74.ge HI801.out)) | exact HB.out)); rintro e w13 ⟨v803, rfl, ho0, hi, hb, hk⟩; refine ⟨_, rfl, ?_⟩; have n0_ := Aside0.mk (zbc ho0 (zba (by repeat (first | (with_reducible first | exact HB.out | apply zaj | apply zad | apply zai | refine zbs ?_ (IsS74.ge HI801.out)) | exact HB.out)))); have n1_ := Aside0.mk (hb); have n2_ := Aside0.mk (hi); clear HB; clear HI801; have HO804 := n0_; have HB := n1_; have HI801 := n2_; clear n0_ n1_ n2_; (try clear hb); (try clear hb2); (try clear hk); (try clear hi); (try clear ho0)) | ((with_reducible refine zau (f := 55) rfl ?_); refine goesL_ (some 15) rfl rfl Try.func55 (by kernel_rfl) rfl #[.pointer (some ⟨g801, 0, none⟩)] rfl (by (try simp only [zal, zaq, zar]); first | done | rfl | (simp only [zbl, zbi]; rfl) | (simp only [zbl, zbi]; rw [zcm (zda.mpr (zdl (by assumption)))])) ?_; (with_reducible refine (spec_l5DrawCount.calls g801 t798 t805 t806 t807 t808 t809 w _ ?side1 ?side2 A4.out).mono ?_); (case side1 => repeat (first | (with_reducible first | exact HI801.out | apply IsS74.alloc | apply IsS74.drewN | apply IsS74.drew | apply IsS74.set_1 | apply IsS74.set_2) | exact HI801.out)); (case side2 => repeat (first | (with_reducible first | exact HB.out | apply zaj | apply zad | apply zai | refine zbs ?_ (IsS74.ge HI801.out)) | exact HB.out)); rintro e w14 ⟨rfl, hi, hb, hk⟩; refine ⟨_, rfl, ?_⟩; have n0_ := Aside0.mk (zbm (zei (IsS74.apart (show IsS74 w _ g801 t798 t805 t806 from by repeat (first | (with_reducible first | exact HI801.out | apply IsS74.alloc | apply IsS74.drewN | apply IsS74.drew | apply IsS74.set_1 | apply IsS74.set_2) | exact HI801.out)) (by (with_reducible repeat (first | apply zab | apply zac | apply zae)); exact HO804.out) (by decide)) hk (fun _ h => h.2)) (fun _ h => h.1)); have n1_ := Aside0.mk (hb); have n2_ := Aside0.mk (hi); clear HO804; clear HB; clear HI801; have HO804 := n0_; have HB := n1_; have HI801 := n2_; clear n0_ n1_ n2_; (try clear hb); (try clear hb2); (try clear hk); (try clear hi)) | ((with_reducible refine zau (f := 54) rfl ?_); refine goesL_ (some 17) rfl rfl Try.func54 (by kernel_rfl) rfl #[.pointer (some ⟨g801, 0, none⟩), .int .i64 12] rfl (by (try simp only [zal, zaq, zar]); first | done | rfl | (simp only [zbl, zbi]; rfl) | (simp only [zbl, zbi]; rw [zcm (zda.mpr (zdl (by assumption)))])) ?_; (with_reducible refine (spec_l1DrawNear.calls k g801 t798 t808 t809 12 t810 t813 t814 w _ ?side1 ?side2 A5.out).mono ?_); (case side1 => repeat (first | (with_reducible first | exact HI801.out | apply IsS74.alloc | apply IsS74.drewN | apply IsS74.drew | apply IsS74.set_1 | apply IsS74.set_2) | exact HI801.out)); (case side2 => repeat (first | (with_reducible first | exact HB.out | apply zaj | apply zad | apply zai | refine zbs ?_ (IsS74.ge HI801.out)) | exact HB.out)); rintro e w15 ⟨v811, rfl, ho0, hi, hb, hk⟩; refine ⟨_, rfl, ?_⟩; have n0_ := Aside0.mk (zbm (Kd.R_told (Kd.R_oldK (IsS74.apart (show IsS74 w _ g801 t798 t808 t809 from by repeat (first | (with_reducible first | exact HI801.out | apply IsS74.alloc | apply IsS74.drewN | apply IsS74.drew | apply IsS74.set_1 | apply IsS74.set_2) | exact HI801.out)) (by (with_reducible repeat (first | apply zab | apply zac | apply zae)); exact HO804.out) (by decide)) hk) (zan ho0)) (fun _ h_ => h_.1)); have n1_ := Aside0.mk (zbc (zao ho0 (zav (by (with_reducible repeat (first | apply zab | apply zac | apply zae)); exact HO804.out))) (zba (by repeat (first | (with_reducible first | exact HB.out | apply zaj | apply zad | apply zai | refine zbs ?_ (IsS74.ge HI801.out)) | exact HB.out)))); have n2_ := Aside0.mk (hb); have n3_ := Aside0.mk (hi); clear HO804; clear HB; clear HI801; have HO804 := n0_; have HO812 := n1_; have HB := n2_; have HI801 := n3_; clear n0_ n1_ n2_ n3_; (try clear hb); (try clear hb2); (try clear hk); (try clear hi); (try clear ho0)) | ((with_reducible refine zau (f := 59) rfl ?_); refine goesL_ (some 19) rfl rfl Try.func59 (by kernel_rfl) rfl #[.pointer (some ⟨g801, 0, none⟩), .int .i64 20] rfl (by (try simp only [zal, zaq, zar]); first | done | rfl | (simp only [zbl, zbi]; rfl) | (simp only [zbl, zbi]; rw [zcm (zda.mpr (zdl (by assumption)))])) ?_; (with_reducible refine (spec_l1Once.calls g801 t798 t813 t814 20 true t816 t817 w _ ?side1 ?side2 A6.out).mono ?_); (case side1 => repeat (first | (with_reducible first | exact HI801.out | apply IsS74.alloc | apply IsS74.drewN | apply IsS74.drew | apply IsS74.set_1 | apply IsS74.set_2) | exact HI801.out)); (case side2 => repeat (first | (with_reducible first | exact HB.out | apply zaj | apply zad | apply zai | refine zbs ?_ (IsS74.ge HI801.out)) | exact HB.out)); rintro e w16 ⟨rfl, hi, hb, hk⟩; refine ⟨_, rfl, ?_⟩; have n0_ := Aside0.mk (zbm (zei (IsS74.apart (show IsS74 w _ g801 t798 t813 t814 from by repeat (first | (with_reducible first | exact HI801.out | apply IsS74.alloc | apply IsS74.drewN | apply IsS74.drew | apply IsS74.set_1 | apply IsS74.set_2) | exact HI801.out)) (by (with_reducible repeat (first | apply zab | apply zac | apply zae)); exact HO804.out) (by decide)) hk (fun _ h => h.2)) (fun _ h => h.1)); have n1_ := Aside0.mk (zbm (zei (IsS74.apart (show IsS74 w _ g801 t798 t813 t814 from by repeat (first | (with_reducible first | exact HI801.out | apply IsS74.alloc | apply IsS74.drewN | apply IsS74.drew | apply IsS74.set_1 | apply IsS74.set_2) | exact HI801.out)) (by (with_reducible repeat (first | apply zab | apply zac | apply zae)); exact HO812.out) (by decide)) hk (fun _ h => h.2)) (fun _ h => h.1)); have n2_ := Aside0.mk (hb); have n3_ := Aside0.mk (hi); clear HO804; clear HO812; clear HB; clear HI801; have HO804 := n0_; have HO812 := n1_; have HB := n2_; have HI801 := n3_; clear n0_ n1_ n2_ n3_; (try clear hb); (try clear hb2); (try clear hk); (try clear hi)))
    have n0_ := Aside0.mk (zae HO804.out)
    have n1_ := Aside0.mk (zae HO812.out)
    have n2_ := Aside0.mk (IsS74.drew HI801.out)
    have n3_ := Aside0.mk (zai HB.out)
    clear HO804
    clear HO812
    clear HI801
    clear HB
    have HO804 := n0_
    have HO812 := n1_
    have HI801 := n2_
    have HB := n3_
    clear n0_ n1_ n2_ n3_
    refine start_ (n := 11) (S := fun w' => True) (ds := []) #[false, false, false, false, false, false, false, false, false, false, false] (by kernel_rfl) rfl rfl trivial (fun hHeld => ?_); refine zeq spec_DrawStream.tab6 spec_DrawStream.bits6 (fun HT_ HW_ => ?_)
    generalize w16.drew = w17 at HO804 HO812 HI801 HB hHeld ⊢
    refine pure_ (i := 0) (N := some 20) (v := ?_) (a' := ?_) #[true, false, false, false, false, false, false, false, false, false, false] rfl rfl (any_of HT_.out (by kernel_rfl)) (fun _ _ _ h => h) (Or.inl ⟨by rfl, ?_⟩) ?_ ?_
    rotate_left
    ·intro w'
     go_simp
     with_reducible rfl
    rotate_left
    ·simp only [Act.put, zaa, zag, zah, i64_w, i32_w]
     rfl
    refine pure_ (i := 1) (N := some 21) (v := ?_) (a' := ?_) #[true, true, false, false, false, false, false, false, false, false, false] rfl rfl (any_of HT_.out (by kernel_rfl)) (fun _ _ _ h => h) (Or.inl ⟨by rfl, ?_⟩) ?_ ?_
    rotate_left
    ·intro w'
     go_simp
     with_reducible rfl
    rotate_left
    ·simp only [Act.put, zaa, zag, zah, i64_w, i32_w]
     rfl
    refine pure_ (i := 2) (N := some 22) (v := ?_) (a' := ?_) #[true, true, true, false, false, false, false, false, false, false, false] rfl rfl (any_of HT_.out (by kernel_rfl)) (fun _ _ _ h => h) (Or.inl ⟨by rfl, ?_⟩) ?_ ?_
    rotate_left
    ·intro w'
     go_simp
     with_reducible rfl
    rotate_left
    ·simp only [Act.put, zaa, zag, zah, i64_w, i32_w]
     rfl
    refine pure_ (i := 3) (N := some 23) (v := ?_) (a' := ?_) #[true, true, true, true, false, false, false, false, false, false, false] rfl rfl (any_of HT_.out (by kernel_rfl)) (fun _ _ _ h => h) (Or.inl ⟨by rfl, ?_⟩) ?_ ?_
    rotate_left
    ·intro w'
     go_simp
     with_reducible rfl
    rotate_left
    ·simp only [Act.put, zaa, zag, zah, i64_w, i32_w]
     rfl
    refine one_ (i := 4) (N := some 24) #[true, true, true, true, true, false, false, false, false, false, false] rfl rfl (one_of HT_.out (by kernel_rfl)) (by decide) (fun K hK => ?_)
    refine goes_ Try.func56 (by kernel_rfl) rfl #[.pointer (some ⟨g801, 0, none⟩), .int .i64 10] (by rfl) rfl rfl (by (try simp only [zal, zaq, zar]); first | done | rfl | (simp only [zbl, zbi]; rfl) | (simp only [zbl, zbi]; rw [zcm (zda.mpr (zdl (by assumption)))])) ?_
    with_reducible refine (spec_l1Below.calls g801 t798 t816 t817 10 t818 t819 t820 w _ ?side1 ?side2 A8.out).mono ?_
    (case side1 => repeat (first | (with_reducible first | exact HI801.out | apply IsS74.alloc | apply IsS74.drewN | apply IsS74.drew | apply IsS74.set_1 | apply IsS74.set_2) | exact HI801.out))
    (case side2 => repeat (first | (with_reducible first | exact HB.out | apply zaj | apply zad | apply zai | refine zbs ?_ (IsS74.ge HI801.out)) | exact HB.out))
    rintro e w18 ⟨rfl, hi, hb, hk⟩
    refine ⟨_, rfl, ?_⟩
    have n0_ := Aside0.mk (zbm (zei (IsS74.apart (show IsS74 w _ g801 t798 t816 t817 from by repeat (first | (with_reducible first | exact HI801.out | apply IsS74.alloc | apply IsS74.drewN | apply IsS74.drew | apply IsS74.set_1 | apply IsS74.set_2) | exact HI801.out)) (by (with_reducible repeat (first | apply zab | apply zac | apply zae)); exact HO804.out) (by decide)) hk (fun _ h => h.2)) (fun _ h => h.1))
    have n1_ := Aside0.mk (zbm (zei (IsS74.apart (show IsS74 w _ g801 t798 t816 t817 from by repeat (first | (with_reducible first | exact HI801.out | apply IsS74.alloc | apply IsS74.drewN | apply IsS74.drew | apply IsS74.set_1 | apply IsS74.set_2) | exact HI801.out)) (by (with_reducible repeat (first | apply zab | apply zac | apply zae)); exact HO812.out) (by decide)) hk (fun _ h => h.2)) (fun _ h => h.1))
    have n2_ := Aside0.mk (hb)
    have n3_ := Aside0.mk (hi)
    clear HO804
    clear HO812
    clear HB
    clear HI801
    have HO804 := n0_
    have HO812 := n1_
    have HB := n2_
    have HI801 := n3_
    clear n0_ n1_ n2_ n3_
    (try clear hb)
    (try clear hb2)
    (try clear hk)
    (try clear hi)
    refine hK.out _ _ trivial (fun hHeld => ?_)
    clear hK K
    refine norm_ (a' := ?_) ?_ ?_
    rotate_left
    ·show Act.put _ (some 24) _ = _
     simp only [Act.put, zaa, zag, zah, i64_w, i32_w]
     rfl
    refine pure_ (i := 5) (N := some 25) (v := ?_) (a' := ?_) #[true, true, true, true, true, true, false, false, false, false, false] rfl rfl (any_of HT_.out (by kernel_rfl)) (fun _ _ _ h => h) (Or.inl ⟨by rfl, ?_⟩) ?_ ?_
    rotate_left
    ·intro w'
     go_simp
     with_reducible rfl
    rotate_left
    ·simp only [Act.put, zaa, zag, zah, i64_w, i32_w]
     rfl
    refine pure_ (i := 7) (N := some 2) (v := ?_) (a' := ?_) #[true, true, true, true, true, true, false, true, false, false, false] rfl rfl (any_of HT_.out (by kernel_rfl)) (fun _ _ _ h => h) (Or.inl ⟨by rfl, ?_⟩) ?_ ?_
    rotate_left
    ·intro w'
     go_simp
     with_reducible rfl
    rotate_left
    ·simp only [Act.put, zaa, zag, zah, i64_w, i32_w]
     rfl
    refine pure_ (i := 8) (N := some 3) (v := ?_) (a' := ?_) #[true, true, true, true, true, true, false, true, true, false, false] rfl rfl (any_of HT_.out (by kernel_rfl)) (fun _ _ _ h => h) (Or.inl ⟨by rfl, ?_⟩) ?_ ?_
    rotate_left
    ·intro w'
     go_simp
     with_reducible rfl
    rotate_left
    ·simp only [Act.put, zaa, zag, zah, i64_w, i32_w]
     rfl
    refine pure_ (i := 9) (N := some 4) (v := ?_) (a' := ?_) #[true, true, true, true, true, true, false, true, true, true, false] rfl rfl (any_of HT_.out (by kernel_rfl)) (fun _ _ _ h => h) (Or.inl ⟨by rfl, ?_⟩) ?_ ?_
    rotate_left
    ·intro w'
     go_simp
     with_reducible rfl
    rotate_left
    ·simp only [Act.put, zaa, zag, zah, i64_w, i32_w]
     rfl
    refine one_ (i := 6) (N := some 26) #[true, true, true, true, true, true, true, true, true, true, false] rfl rfl (one_of HT_.out (by kernel_rfl)) (by decide) (fun K hK => ?_)
    refine Kd.R_make_step (Kd.int .u8) _ 5 (by rfl) (N := 26) rfl 22 _ _ rfl ji9 (by first | rfl | exact congrArg (Value.int .i64) hji9) (by first | rfl | exact congrArg (Value.int .i64) hji9) Try.underlying22 (.int .u8 0) 1 info5 rfl (by decide) (by omega) 0 (ok := fun _ => True) (okp := fun _ => True) rfl (fun _ hk => hk) trivial (zap (by first | (with_reducible assumption) | assumption)) (Nat.le_trans (Nat.mul_le_mul_right _ (zap (by first | (with_reducible assumption) | assumption) : ji9.toNat ≤ 281474976710656)) (by omega)) (zbx _ _) (zbp _) ?_
    intro v822 w19 ho20 hb hg_ hnew_
    clear hg_ hnew_
    (first | rw [← Ny821.out] at ho20 | (simp only [Int.reduceToNat] at ho20; rw [← Ny821.out] at ho20))
    have n0_ := Aside0.mk (zak (by (with_reducible repeat (first | apply zab | apply zac | apply zae)); exact HO804.out) (zan ho20) hb)
    have n1_ := Aside0.mk (zak (by (with_reducible repeat (first | apply zab | apply zac | apply zae)); exact HO812.out) (zan ho20) hb)
    have n2_ := Aside0.mk (zbc (zao (zao ho20 (zav (by (with_reducible repeat (first | apply zab | apply zac | apply zae)); exact HO804.out))) (zav (by (with_reducible repeat (first | apply zab | apply zac | apply zae)); exact HO812.out))) (zba (by repeat (first | (with_reducible first | exact HB.out | apply zaj | apply zad | apply zai | refine zbs ?_ (IsS74.ge HI801.out)) | exact HB.out))))
    have n3_ := Aside0.mk (IsS74.below (by repeat (first | (with_reducible first | exact HI801.out | apply IsS74.alloc | apply IsS74.drewN | apply IsS74.drew | apply IsS74.set_1 | apply IsS74.set_2) | exact HI801.out)) hb)
    have n4_ := Aside0.mk (zbb (by repeat (first | (with_reducible first | exact HB.out | apply zaj | apply zad | apply zai | refine zbs ?_ (IsS74.ge HI801.out)) | exact HB.out)) hb)
    clear HO804
    clear HO812
    clear HI801
    clear HB
    have HO804 := n0_
    have HO812 := n1_
    have HO823 := n2_
    have HI801 := n3_
    have HB := n4_
    clear n0_ n1_ n2_ n3_ n4_
    clear hb ho20
    refine hK.out _ _ trivial (fun hHeld => ?_)
    clear hK K
    refine norm_ (a' := ?_) ?_ ?_
    rotate_left
    ·show Act.put _ (some 26) _ = _
     simp only [Act.put, zaa, zag, zah, i64_w, i32_w]
     rfl
    refine pure_ (i := 10) (N := some 5) (v := ?_) (a' := ?_) #[true, true, true, true, true, true, true, true, true, true, true] rfl rfl (any_of HT_.out (by kernel_rfl)) (fun _ _ _ h => h) (Or.inl ⟨by rfl, ?_⟩) ?_ ?_
    rotate_left
    ·intro w'
     go_simp
     with_reducible rfl
    rotate_left
    ·simp only [Act.put, zaa, zag, zah, i64_w, i32_w]
     rfl
    refine done_ (done_of HT_.out (by kernel_rfl)) ?_
    try go_wp2
    refine bodyPost_ret (results_list (rs := [.tmp 2, .tmp 3, .tmp 4, .tmp 5]) rfl (by simp) (.tmp (.tmp (.tmp (.tmp .nil))))) rfl ?_
    exact ⟨_, _, _, by first | rfl | (simp [zbj, zbk] <;> rfl) | (simp only [← hji9]; first | rfl | (simp [zbj, zbk] <;> rfl)) | (simp [*, zbj, zbk] <;> rfl), by (with_reducible repeat (first | apply zab | apply zac | apply zae)); exact zbm HO804.out (fun _ hk => ⟨hk.1.2, hk.2⟩), by (with_reducible repeat (first | apply zab | apply zac | apply zae)); exact zbm HO812.out (fun _ hk => ⟨hk.1.2, hk.2⟩), by (with_reducible repeat (first | apply zab | apply zac | apply zae)); exact zbm HO823.out (fun _ hk => ⟨hk.1.2, hk.2⟩), by repeat (first | (with_reducible first | exact HB.out | apply zaj | apply zad | apply zai | refine zbs ?_ (IsS74.ge HI801.out)) | exact HB.out)⟩
   ·rw [if_neg c11] at H
    exact absurd H (by simp)
  ·rw [if_neg c10] at H
   exact absurd H (by simp)
 ·replace c7 := zbu.mpr c7
  subst c7
  have H1 : ((spec_l1DrawBytes.f k t798 t816 t817 70).bind fun bt824 => (some (t802, t807, t810, bt824.1))) = some (r1, r2, r3, r4) := by rw [if_neg (show ¬ (false = true) by decide)] at H; exact H
  clear H
  have H := H1
  clear H1
  replace H := zam.mp H
  obtain ⟨⟨t824, t827, t828⟩, A210, H⟩ := H
  try dsimp only at H
  have A21 := Aside0.mk A210
  clear A210
  simp only [zcp, zdb] at H
  obtain ⟨rfl, rfl, rfl, rfl⟩ := H
  go_enter Try.func33, Try.ntmps33
  go_wp2_with (first | ((with_reducible refine zau (f := 53) rfl ?_); refine goesL_ (some 11) rfl rfl Try.func53 (by kernel_rfl) rfl #[.slice A0 l0.length c0] rfl (by (try simp only [zal, zaq, zar]); first | done | rfl) ?_; (with_reducible refine (spec_l1New.calls k _ _ l0 t798 t799 t800 w _ ?side1 ?side2 ?side3 A2.out).mono ?_); (case side1 => repeat (first | (with_reducible first | exact HB.out | apply zaj | apply zad | apply zai) | exact HB.out)); (case side2 => exact HR0.out); (case side3 => exact HC0.out); rintro e w22 ⟨g801, rfl, hi, hb, hb2⟩; refine ⟨_, rfl, ?_⟩; have n0_ := Aside0.mk (hb); have n1_ := Aside0.mk (hi); clear HB; have HB := n0_; have HI801 := n1_; clear n0_ n1_; (try clear hb); (try clear hb2); (try clear hk); (try clear hi)) | ((with_reducible refine zau (f := 54) rfl ?_); refine goesL_ (some 13) rfl rfl Try.func54 (by kernel_rfl) rfl #[.pointer (some ⟨g801, 0, none⟩), .int .i64 32] rfl (by (try simp only [zal, zaq, zar]); first | done | rfl) ?_; (with_reducible refine (spec_l1DrawNear.calls k g801 t798 t799 t800 32 t802 t805 t806 w _ ?side1 ?side2 A3.out).mono ?_); (case side1 => repeat (first | (with_reducible first | exact HI801.out | apply IsS74.alloc | apply IsS74.drewN | apply IsS74.drew | apply IsS74.set_1 | apply IsS74.set_2) | exact HI801.out)); (case side2 => repeat (first | (with_reducible first | exact HB.out | apply zaj | apply zad | apply zai | refine zbs ?_ (IsS74.ge HI801.out)) | exact HB.out)); rintro e w23 ⟨v803, rfl, ho0, hi, hb, hk⟩; refine ⟨_, rfl, ?_⟩; have n0_ := Aside0.mk (zbc ho0 (zba (by repeat (first | (with_reducible first | exact HB.out | apply zaj | apply zad | apply zai | refine zbs ?_ (IsS74.ge HI801.out)) | exact HB.out)))); have n1_ := Aside0.mk (hb); have n2_ := Aside0.mk (hi); clear HB HI801; have HO804 := n0_; have HB := n1_; have HI801 := n2_; clear n0_ n1_ n2_; clear hb hk hi ho0) | ((with_reducible refine zau (f := 55) rfl ?_); refine goesL_ (some 15) rfl rfl Try.func55 (by kernel_rfl) rfl #[.pointer (some ⟨g801, 0, none⟩)] rfl (by (try simp only [zal, zaq, zar]); first | done | rfl) ?_; (with_reducible refine (spec_l5DrawCount.calls g801 t798 t805 t806 t807 t808 t809 w _ ?side1 ?side2 A4.out).mono ?_); (case side1 => repeat (first | (with_reducible first | exact HI801.out | apply IsS74.alloc | apply IsS74.drewN | apply IsS74.drew | apply IsS74.set_1 | apply IsS74.set_2) | exact HI801.out)); (case side2 => repeat (first | (with_reducible first | exact HB.out | apply zaj | apply zad | apply zai | refine zbs ?_ (IsS74.ge HI801.out)) | exact HB.out)); rintro e w24 ⟨rfl, hi, hb, hk⟩; refine ⟨_, rfl, ?_⟩; have n0_ := Aside0.mk (zbm (zei (IsS74.apart (show IsS74 w _ g801 t798 t805 t806 from by repeat (first | (with_reducible first | exact HI801.out | apply IsS74.alloc | apply IsS74.drewN | apply IsS74.drew | apply IsS74.set_1 | apply IsS74.set_2) | exact HI801.out)) (by (with_reducible repeat (first | apply zab | apply zac | apply zae)); exact HO804.out) (by decide)) hk (fun _ h => h.2)) (fun _ h => h.1)); have n1_ := Aside0.mk (hb); have n2_ := Aside0.mk (hi); clear HO804 HB HI801; have HO804 := n0_; have HB := n1_; have HI801 := n2_; clear n0_ n1_ n2_; (try clear hb); (try clear hb2); (try clear hk); (try clear hi)) | ((with_reducible refine zau (f := 54) rfl ?_); refine goesL_ (some 17) rfl rfl Try.func54 (by kernel_rfl) rfl #[.pointer (some ⟨g801, 0, none⟩), .int .i64 12] rfl (by (try simp only [zal, zaq, zar]); first | done | rfl) ?_; (with_reducible refine (spec_l1DrawNear.calls k g801 t798 t808 t809 12 t810 t813 t814 w _ ?side1 ?side2 A5.out).mono ?_); (case side1 => repeat (first | (with_reducible first | exact HI801.out | apply IsS74.alloc | apply IsS74.drewN | apply IsS74.drew | apply IsS74.set_1 | apply IsS74.set_2) | exact HI801.out)); (case side2 => repeat (first | (with_reducible first | exact HB.out | apply zaj | apply zad | apply zai | refine zbs ?_ (IsS74.ge HI801.out)) | exact HB.out)); rintro e w25 ⟨v811, rfl, ho0, hi, hb, hk⟩; refine ⟨_, rfl, ?_⟩; have n0_ := Aside0.mk (zbm (Kd.R_told (Kd.R_oldK (IsS74.apart (show IsS74 w _ g801 t798 t808 t809 from by repeat (first | (with_reducible first | exact HI801.out | apply IsS74.alloc | apply IsS74.drewN | apply IsS74.drew | apply IsS74.set_1 | apply IsS74.set_2) | exact HI801.out)) (by (with_reducible repeat (first | apply zab | apply zac | apply zae)); exact HO804.out) (by decide)) hk) (zan ho0)) (fun _ h_ => h_.1)); have n1_ := Aside0.mk (zbc (zao ho0 (zav (by (with_reducible repeat (first | apply zab | apply zac | apply zae)); exact HO804.out))) (zba (by repeat (first | (with_reducible first | exact HB.out | apply zaj | apply zad | apply zai | refine zbs ?_ (IsS74.ge HI801.out)) | exact HB.out)))); have n2_ := Aside0.mk (hb); have n3_ := Aside0.mk (hi); clear HO804 HB HI801; have HO804 := n0_; have HO812 := n1_; have HB := n2_; have HI801 := n3_; clear n0_ n1_ n2_ n3_; clear hb hk hi ho0) | ((with_reducible refine zau (f := 59) rfl ?_); refine goesL_ (some 19) rfl rfl Try.func59 (by kernel_rfl) rfl #[.pointer (some ⟨g801, 0, none⟩), .int .i64 20] rfl (by (try simp only [zal, zaq, zar]); first | done | rfl) ?_; (with_reducible refine (spec_l1Once.calls g801 t798 t813 t814 20 false t816 t817 w _ ?side1 ?side2 A6.out).mono ?_); (case side1 => repeat (first | (with_reducible first | exact HI801.out | apply IsS74.alloc | apply IsS74.drewN | apply IsS74.drew | apply IsS74.set_1 | apply IsS74.set_2) | exact HI801.out)); (case side2 => repeat (first | (with_reducible first | exact HB.out | apply zaj | apply zad | apply zai | refine zbs ?_ (IsS74.ge HI801.out)) | exact HB.out)); rintro e w26 ⟨rfl, hi, hb, hk⟩; refine ⟨_, rfl, ?_⟩; have n0_ := Aside0.mk (zbm (zei (IsS74.apart (show IsS74 w _ g801 t798 t813 t814 from by repeat (first | (with_reducible first | exact HI801.out | apply IsS74.alloc | apply IsS74.drewN | apply IsS74.drew | apply IsS74.set_1 | apply IsS74.set_2) | exact HI801.out)) (by (with_reducible repeat (first | apply zab | apply zac | apply zae)); exact HO804.out) (by decide)) hk (fun _ h => h.2)) (fun _ h => h.1)); have n1_ := Aside0.mk (zbm (zei (IsS74.apart (show IsS74 w _ g801 t798 t813 t814 from by repeat (first | (with_reducible first | exact HI801.out | apply IsS74.alloc | apply IsS74.drewN | apply IsS74.drew | apply IsS74.set_1 | apply IsS74.set_2) | exact HI801.out)) (by (with_reducible repeat (first | apply zab | apply zac | apply zae)); exact HO812.out) (by decide)) hk (fun _ h => h.2)) (fun _ h => h.1)); have n2_ := Aside0.mk (hb); have n3_ := Aside0.mk (hi); clear HO804 HO812 HB HI801; have HO804 := n0_; have HO812 := n1_; have HB := n2_; have HI801 := n3_; clear n0_ n1_ n2_ n3_; (try clear hb); (try clear hb2); (try clear hk); (try clear hi)) | ((with_reducible refine zau (f := 60) rfl ?_); refine goesL_ (some 31) rfl rfl Try.func60 (by kernel_rfl) rfl #[.pointer (some ⟨g801, 0, none⟩), .int .i64 70] rfl (by (try simp only [zal, zaq, zar]); first | done | rfl) ?_; (with_reducible refine (spec_l1DrawBytes.calls k g801 t798 t816 t817 70 t824 t827 t828 w _ ?side1 ?side2 A21.out).mono ?_); (case side1 => repeat (first | (with_reducible first | exact HI801.out | apply IsS74.alloc | apply IsS74.drewN | apply IsS74.drew | apply IsS74.set_1 | apply IsS74.set_2) | exact HI801.out)); (case side2 => repeat (first | (with_reducible first | exact HB.out | apply zaj | apply zad | apply zai | refine zbs ?_ (IsS74.ge HI801.out)) | exact HB.out)); rintro e w27 ⟨v825, rfl, ho0, hi, hb, hk⟩; refine ⟨_, rfl, ?_⟩; have n0_ := Aside0.mk (zbm (Kd.R_told (Kd.R_oldK (IsS74.apart (show IsS74 w _ g801 t798 t816 t817 from by repeat (first | (with_reducible first | exact HI801.out | apply IsS74.alloc | apply IsS74.drewN | apply IsS74.drew | apply IsS74.set_1 | apply IsS74.set_2) | exact HI801.out)) (by (with_reducible repeat (first | apply zab | apply zac | apply zae)); exact HO804.out) (by decide)) hk) (zan ho0)) (fun _ h_ => h_.1)); have n1_ := Aside0.mk (zbm (Kd.R_told (Kd.R_oldK (IsS74.apart (show IsS74 w _ g801 t798 t816 t817 from by repeat (first | (with_reducible first | exact HI801.out | apply IsS74.alloc | apply IsS74.drewN | apply IsS74.drew | apply IsS74.set_1 | apply IsS74.set_2) | exact HI801.out)) (by (with_reducible repeat (first | apply zab | apply zac | apply zae)); exact HO812.out) (by decide)) hk) (zan ho0)) (fun _ h_ => h_.1)); have n2_ := Aside0.mk (zbc (zao (zao ho0 (zav (by (with_reducible repeat (first | apply zab | apply zac | apply zae)); exact HO804.out))) (zav (by (with_reducible repeat (first | apply zab | apply zac | apply zae)); exact HO812.out))) (zba (by repeat (first | (with_reducible first | exact HB.out | apply zaj | apply zad | apply zai | refine zbs ?_ (IsS74.ge HI801.out)) | exact HB.out)))); have n3_ := Aside0.mk (hb); have n4_ := Aside0.mk (hi); clear HO804 HO812 HB HI801; have HO804 := n0_; have HO812 := n1_; have HO826 := n2_; have HB := n3_; have HI801 := n4_; clear n0_ n1_ n2_ n3_ n4_; clear hb hk hi ho0))
  refine bodyPost_ret (results_list (rs := [.tmp 2, .tmp 3, .tmp 4, .tmp 5]) rfl (by simp) (.tmp (.tmp (.tmp (.tmp .nil))))) rfl ?_
  exact ⟨_, _, _, by first | rfl | (simp [zbj, zbk] <;> rfl) | (simp [*, zbj, zbk] <;> rfl), by (with_reducible repeat (first | apply zab | apply zac | apply zae)); exact zbm HO804.out (fun _ hk => ⟨hk.1.2, hk.2⟩), by (with_reducible repeat (first | apply zab | apply zac | apply zae)); exact zbm HO812.out (fun _ hk => ⟨hk.1.2, hk.2⟩), by (with_reducible repeat (first | apply zab | apply zac | apply zae)); exact zbm HO826.out (fun _ hk => ⟨hk.1.2, hk.2⟩), by repeat (first | (with_reducible first | exact HB.out | apply zaj | apply zad | apply zai | refine zbs ?_ (IsS74.ge HI801.out)) | exact HB.out)⟩
end Go.Proofs.Ytdineaebljpfaaa.P
