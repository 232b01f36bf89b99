import Derived.Test.Ytdineaebljpfaaan34
namespace Go.Proofs.Ytdineaebljpfaaa.P
open Go.RowKit Go.Proofs.YtdineaebljpfaaaW.PrintWords Go.Proofs.YtdineaebljpfaaaW.PrintLast Go.Proofs.YtdineaebljpfaaaW.PrintMore
attribute [local go_sem] zcu zcv zdf zdg zci zcj zcw zcx   -- for this text's walks alone
set_option linter.unusedVariables false
set_option linter.unusedSimpArgs false

def spec_l1Max.f (a0 : Int) (a1 : Int) : Option (Int) := if a0 > a1 then (some a0) else (some a1)
set_option maxHeartbeats 8000000 in
set_option maxRecDepth 100000 in
theorem spec_l1Max.calls (a0 : Int) (a1 : Int) (r : Int) (w : World) (h : spec_l1Max.f a0 a1 = some r) :
  Calls Try.prog 71 #[.int .i64 a0, .int .i64 a1] w fun e w' => e = .returned (.int .i64 r) ∧ Drawn0 w w' := by
 have H : (if a0 > a1 then (some a0) else (some a1)) = some r := h
 clear h
 by_cases c3 : a0 > a1
 ·rw [if_pos c3] at H
  have c3b0 : decide (a1 < a0) = true := zax c3
  clear c3
  obtain rfl := Option.some.inj H
  go_enter Try.func71, Try.ntmps71
  go_wp2
  go_ret
  exact ⟨by first | rfl | (simp; done) | (simp [*]; done), by repeat (first | exact Drawn0.refl _ | apply Drawn0.step)⟩
 ·rw [if_neg c3] at H
  have c3b0 : decide (a1 < a0) = false := zbq c3
  clear c3
  obtain rfl := Option.some.inj H
  go_enter Try.func71, Try.ntmps71
  go_wp2
  go_ret
  exact ⟨by first | rfl | (simp; done) | (simp [*]; done), by repeat (first | exact Drawn0.refl _ | apply Drawn0.step)⟩
def spec_l1DrawNear.f (k : Nat) (s0_0 : List Int) (s0_1 : Int) (s0_2 : Int) (a1 : Int) : Option (List Int × Int × Int) := (spec_l1Below.f s0_0 s0_1 s0_2 16).bind fun bt645 => (if bt645.1 = 0 then ((spec_l1DrawJust.f k s0_0 bt645.2.1 bt645.2.2 (wrap64 (a1 + 1))).bind fun bt648 => (some (bt648.1, bt648.2.1, bt648.2.2))) else (if bt645.1 = 1 then ((spec_l1Max.f (wrap64 (a1 - 1)) 0).bind fun t653 => ((spec_l1DrawJust.f k s0_0 bt645.2.1 bt645.2.2 t653).bind fun bt654 => (some (bt654.1, bt654.2.1, bt654.2.2)))) else (if bt645.1 = 2 then (some ((([] : List Int)), bt645.2.1, bt645.2.2)) else ((spec_l1DrawJust.f k s0_0 bt645.2.1 bt645.2.2 a1).bind fun bt662 => (some (bt662.1, bt662.2.1, bt662.2.2))))))
theorem spec_l1DrawNear.mono : ∀ a0 a1 a2 a3 k, LeO (spec_l1DrawNear.f k a0 a1 a2 a3) (spec_l1DrawNear.f (k + 1) a0 a1 a2 a3) := by
 intro a0 a1 a2 a3 k
 unfold spec_l1DrawNear.f
 repeat' first
   | (with_reducible exact spec_l1DrawJust.mono _ _ _ _ _)
   | (with_reducible exact zcc _)
   | (with_reducible exact zcg _)
   | (with_reducible refine zcr ?_ ?_)
   | (with_reducible refine zcd ?_ (fun _ => ?_))
set_option maxHeartbeats 8000000 in
set_option maxRecDepth 100000 in
theorem spec_l1DrawNear.calls (k : Nat) (g : Nat) (s0_0 : List Int) (s0_1 : Int) (s0_2 : Int) (a1 : Int) (r1 : List Int) (r2 : Int) (r3 : Int) (w0 w : World) (hI : IsS74 w0 w g s0_0 s0_1 s0_2) (hB : Below w0.heap.size w0 w) (h : spec_l1DrawNear.f k s0_0 s0_1 s0_2 a1 = some (r1, r2, r3)) :
  Calls Try.prog 54 #[.pointer (some ⟨g, 0, none⟩), .int .i64 a1] w fun e w' => ∃ v0_ : Value, e = .returned (v0_) ∧ Kd.R (Kd.int .u8) 5 w' w.heap.size (fun _ => True) v0_ r1 ∧ IsS74 w0 w' g s0_0 r2 r3 ∧ Below w0.heap.size w0 w' ∧ KeepBut w w' g none := by
 have HI0 := Aside0.mk hI
 have HK := Aside0.mk (KeepBut.refl w g none)
 have HL := Aside0.mk hB.size
 clear hI
 have HW0 := Aside0.mk hB.size
 have HB := Aside0.mk hB
 clear hB
 have H : ((spec_l1Below.f s0_0 s0_1 s0_2 16).bind fun bt645 => (if bt645.1 = 0 then ((spec_l1DrawJust.f k s0_0 bt645.2.1 bt645.2.2 (wrap64 (a1 + 1))).bind fun bt648 => (some (bt648.1, bt648.2.1, bt648.2.2))) else (if bt645.1 = 1 then ((spec_l1Max.f (wrap64 (a1 - 1)) 0).bind fun t653 => ((spec_l1DrawJust.f k s0_0 bt645.2.1 bt645.2.2 t653).bind fun bt654 => (some (bt654.1, bt654.2.1, bt654.2.2)))) else (if bt645.1 = 2 then (some ((([] : List Int)), bt645.2.1, bt645.2.2)) else ((spec_l1DrawJust.f k s0_0 bt645.2.1 bt645.2.2 a1).bind fun bt662 => (some (bt662.1, bt662.2.1, bt662.2.2))))))) = some (r1, r2, r3) := h
 clear h
 replace H := zam.mp H
 obtain ⟨⟨t645, t646, t647⟩, A30, H⟩ := H
 try dsimp only at H
 have A3 := Aside0.mk A30
 clear A30
 by_cases c4 : t645 = 0
 ·rw [if_pos c4] at H
  have c4b0 : (t645 == 0) = true := zdn.mpr c4
  have c4b1 : (t645 != 0) = false := zbv.mpr c4
  clear c4
  replace H := zam.mp H
  obtain ⟨⟨t648, t651, t652⟩, A50, H⟩ := H
  try dsimp only at H
  have A5 := Aside0.mk A50
  clear A50
  simp only [zcp, zdb] at H
  obtain ⟨rfl, rfl, rfl⟩ := H
  go_enter Try.func54, Try.ntmps54
  go_wp2_with (first | ((with_reducible refine zau (f := 56) rfl ?_); refine goesL_ (some 6) rfl rfl Try.func56 (by kernel_rfl) rfl #[.pointer (some ⟨g, 0, none⟩), .int .i64 16] rfl (by (try simp only [zal, zaq, zar]); first | done | rfl) ?_; (with_reducible refine (spec_l1Below.calls g s0_0 s0_1 s0_2 16 t645 t646 t647 w0 _ ?side1 ?side2 A3.out).mono ?_); (case side1 => repeat (first | (with_reducible first | exact HI0.out | apply IsS74.alloc | apply IsS74.drewN | apply IsS74.drew | apply IsS74.set_1 | apply IsS74.set_2) | exact HI0.out)); (case side2 => repeat (first | (with_reducible first | exact HB.out | apply zaj | apply zad | apply zai | refine zbs ?_ (IsS74.ge HI0.out)) | exact HB.out)); rintro e w6 ⟨rfl, hi, hb, hk⟩; refine ⟨_, rfl, ?_⟩; have n0_ := Aside0.mk (zcy (by repeat (first | (with_reducible first | exact HK.out | apply zbw | apply zce | apply zcn | apply zcf) | exact HK.out)) hk (.inl rfl)); have n1_ := Aside0.mk (hb); have n2_ := Aside0.mk (hi); clear HK HB HI0; have HK := n0_; have HB := n1_; have HI0 := n2_; clear n0_ n1_ n2_; (try clear hb); (try clear hb2); (try clear hk); (try clear hi)) | ((with_reducible refine zau (f := 70) rfl ?_); refine goesL_ (some 12) rfl rfl Try.func70 (by kernel_rfl) rfl #[.pointer (some ⟨g, 0, none⟩), .int .i64 (wrap64 (a1 + 1))] rfl (by (try simp only [zal, zaq, zar]); first | done | rfl) ?_; (with_reducible refine (spec_l1DrawJust.calls k g s0_0 t646 t647 (wrap64 (a1 + 1)) t648 t651 t652 w0 _ ?side1 ?side2 A5.out).mono ?_); (case side1 => repeat (first | (with_reducible first | exact HI0.out | apply IsS74.alloc | apply IsS74.drewN | apply IsS74.drew | apply IsS74.set_1 | apply IsS74.set_2) | exact HI0.out)); (case side2 => repeat (first | (with_reducible first | exact HB.out | apply zaj | apply zad | apply zai | refine zbs ?_ (IsS74.ge HI0.out)) | exact HB.out)); rintro e w7 ⟨v649, rfl, ho0, hi, hb, hk⟩; refine ⟨_, rfl, ?_⟩; have n0_ := Aside0.mk (zbc ho0 (keep_size (w := w) (g := g) (row := none) (by repeat (first | (with_reducible first | exact HK.out | apply zbw | apply zce | apply zcn | apply zcf) | exact HK.out)))); have n1_ := Aside0.mk (zcy (by repeat (first | (with_reducible first | exact HK.out | apply zbw | apply zce | apply zcn | apply zcf) | exact HK.out)) hk (.inl rfl)); have n2_ := Aside0.mk (hb); have n3_ := Aside0.mk (hi); clear HK HB HI0; have HO650 := n0_; have HK := n1_; have HB := n2_; have HI0 := n3_; clear n0_ n1_ n2_ n3_; clear hb hk hi ho0))
  go_ret
  exact ⟨_, by first | rfl | (simp [zbj, zbk] <;> rfl) | (simp [*, zbj, zbk] <;> rfl), by (with_reducible repeat (first | apply zab | apply zac | apply zae)); exact HO650.out, by repeat (first | (with_reducible first | exact HI0.out | apply IsS74.alloc | apply IsS74.drewN | apply IsS74.drew | apply IsS74.set_1 | apply IsS74.set_2) | exact HI0.out), by repeat (first | (with_reducible first | exact HB.out | apply zaj | apply zad | apply zai | refine zbs ?_ (IsS74.ge HI0.out)) | exact HB.out), by repeat (first | (with_reducible first | exact HK.out | apply zbw | apply zce | apply zcn | apply zcf) | exact HK.out)⟩
 ·rw [if_neg c4] at H
  have c4b0 : (t645 == 0) = false := zbz.mpr c4
  have c4b1 : (t645 != 0) = true := zdh.mpr c4
  by_cases c8 : t645 = 1
  ·rw [if_pos c8] at H
   have c8b0 : (t645 == 1) = true := zdn.mpr c8
   have c8b1 : (t645 != 1) = false := zbv.mpr c8
   clear c8
   replace H := zam.mp H
   obtain ⟨t653, A90, H⟩ := H
   try dsimp only at H
   have A9 := Aside0.mk A90
   clear A90
   replace H := zam.mp H
   obtain ⟨⟨t654, t657, t658⟩, A100, H⟩ := H
   try dsimp only at H
   have A10 := Aside0.mk A100
   clear A100
   simp only [zcp, zdb] at H
   obtain ⟨rfl, rfl, rfl⟩ := H
   go_enter Try.func54, Try.ntmps54
   go_wp2_with (first | ((with_reducible refine zau (f := 56) rfl ?_); refine goesL_ (some 6) rfl rfl Try.func56 (by kernel_rfl) rfl #[.pointer (some ⟨g, 0, none⟩), .int .i64 16] rfl (by (try simp only [zal, zaq, zar]); first | done | rfl) ?_; (with_reducible refine (spec_l1Below.calls g s0_0 s0_1 s0_2 16 t645 t646 t647 w0 _ ?side1 ?side2 A3.out).mono ?_); (case side1 => repeat (first | (with_reducible first | exact HI0.out | apply IsS74.alloc | apply IsS74.drewN | apply IsS74.drew | apply IsS74.set_1 | apply IsS74.set_2) | exact HI0.out)); (case side2 => repeat (first | (with_reducible first | exact HB.out | apply zaj | apply zad | apply zai | refine zbs ?_ (IsS74.ge HI0.out)) | exact HB.out)); rintro e w11 ⟨rfl, hi, hb, hk⟩; refine ⟨_, rfl, ?_⟩; have n0_ := Aside0.mk (zcy (by repeat (first | (with_reducible first | exact HK.out | apply zbw | apply zce | apply zcn | apply zcf) | exact HK.out)) hk (.inl rfl)); have n1_ := Aside0.mk (hb); have n2_ := Aside0.mk (hi); clear HK HB HI0; have HK := n0_; have HB := n1_; have HI0 := n2_; clear n0_ n1_ n2_; (try clear hb); (try clear hb2); (try clear hk); (try clear hi)) | ((with_reducible refine zau (f := 71) rfl ?_); refine goesL_ (some 18) rfl rfl Try.func71 (by kernel_rfl) rfl #[.int .i64 (wrap64 (a1 - 1)), .int .i64 0] rfl (by (try simp only [zal, zaq, zar]); first | done | rfl) ?_; (with_reducible refine (spec_l1Max.calls (wrap64 (a1 - 1)) 0 t653 _ A9.out).mono ?_); rintro e w' ⟨rfl, ⟨nd, rfl⟩⟩; refine ⟨_, rfl, ?_⟩) | ((with_reducible refine zau (f := 70) rfl ?_); refine goesL_ (some 19) rfl rfl Try.func70 (by kernel_rfl) rfl #[.pointer (some ⟨g, 0, none⟩), .int .i64 t653] rfl (by (try simp only [zal, zaq, zar]); first | done | rfl) ?_; (with_reducible refine (spec_l1DrawJust.calls k g s0_0 t646 t647 t653 t654 t657 t658 w0 _ ?side1 ?side2 A10.out).mono ?_); (case side1 => repeat (first | (with_reducible first | exact HI0.out | apply IsS74.alloc | apply IsS74.drewN | apply IsS74.drew | apply IsS74.set_1 | apply IsS74.set_2) | exact HI0.out)); (case side2 => repeat (first | (with_reducible first | exact HB.out | apply zaj | apply zad | apply zai | refine zbs ?_ (IsS74.ge HI0.out)) | exact HB.out)); rintro e w12 ⟨v655, rfl, ho0, hi, hb, hk⟩; refine ⟨_, rfl, ?_⟩; have n0_ := Aside0.mk (zbc ho0 (keep_size (w := w) (g := g) (row := none) (by repeat (first | (with_reducible first | exact HK.out | apply zbw | apply zce | apply zcn | apply zcf) | exact HK.out)))); have n1_ := Aside0.mk (zcy (by repeat (first | (with_reducible first | exact HK.out | apply zbw | apply zce | apply zcn | apply zcf) | exact HK.out)) hk (.inl rfl)); have n2_ := Aside0.mk (hb); have n3_ := Aside0.mk (hi); clear HK HB HI0; have HO656 := n0_; have HK := n1_; have HB := n2_; have HI0 := n3_; clear n0_ n1_ n2_ n3_; clear hb hk hi ho0))
   go_ret
   exact ⟨_, by first | rfl | (simp [zbj, zbk] <;> rfl) | (simp [*, zbj, zbk] <;> rfl), by (with_reducible repeat (first | apply zab | apply zac | apply zae)); exact HO656.out, by repeat (first | (with_reducible first | exact HI0.out | apply IsS74.alloc | apply IsS74.drewN | apply IsS74.drew | apply IsS74.set_1 | apply IsS74.set_2) | exact HI0.out), by repeat (first | (with_reducible first | exact HB.out | apply zaj | apply zad | apply zai | refine zbs ?_ (IsS74.ge HI0.out)) | exact HB.out), by repeat (first | (with_reducible first | exact HK.out | apply zbw | apply zce | apply zcn | apply zcf) | exact HK.out)⟩
  ·rw [if_neg c8] at H
   have c8b0 : (t645 == 1) = false := zbz.mpr c8
   have c8b1 : (t645 != 1) = true := zdh.mpr c8
   by_cases c13 : t645 = 2
   ·rw [if_pos c13] at H
    have c13b0 : (t645 == 2) = true := zdn.mpr c13
    have c13b1 : (t645 != 2) = false := zbv.mpr c13
    clear c13
    obtain ⟨y659, hy659⟩ : ∃ y_ : List Int, y_ = (([] : List Int)) := ⟨_, rfl⟩
    replace H : (some (y659, t646, t647)) = some (r1, r2, r3) := by first | (rw [hy659]; with_reducible first | exact H | exact bind_ofs H) | (with_reducible first | exact H | exact bind_ofs H) | (rw [hy659]; exact H) | exact H
    have Ny659 := Aside0.mk hy659
    clear hy659
    simp only [zcp, zdb] at H
    obtain ⟨rfl, rfl, rfl⟩ := H
    go_enter Try.func54, Try.ntmps54
    go_wp2_with (first | ((with_reducible refine zau (f := 56) rfl ?_); refine goesL_ (some 6) rfl rfl Try.func56 (by kernel_rfl) rfl #[.pointer (some ⟨g, 0, none⟩), .int .i64 16] rfl (by (try simp only [zal, zaq, zar]); first | done | rfl) ?_; (with_reducible refine (spec_l1Below.calls g s0_0 s0_1 s0_2 16 t645 t646 t647 w0 _ ?side1 ?side2 A3.out).mono ?_); (case side1 => repeat (first | (with_reducible first | exact HI0.out | apply IsS74.alloc | apply IsS74.drewN | apply IsS74.drew | apply IsS74.set_1 | apply IsS74.set_2) | exact HI0.out)); (case side2 => repeat (first | (with_reducible first | exact HB.out | apply zaj | apply zad | apply zai | refine zbs ?_ (IsS74.ge HI0.out)) | exact HB.out)); rintro e w14 ⟨rfl, hi, hb, hk⟩; refine ⟨_, rfl, ?_⟩; have n0_ := Aside0.mk (zcy (by repeat (first | (with_reducible first | exact HK.out | apply zbw | apply zce | apply zcn | apply zcf) | exact HK.out)) hk (.inl rfl)); have n1_ := Aside0.mk (hb); have n2_ := Aside0.mk (hi); clear HK HB HI0; have HK := n0_; have HB := n1_; have HI0 := n2_; clear n0_ n1_ n2_; (try clear hb); (try clear hb2); (try clear hk); (try clear hi)) | ((with_reducible refine zds (N := 22) rfl ?_); refine zec (Kd.int .u8) _ 5 ?hg (N := 22) ?hd (xs := ([] : List Int)) (inner := []) (ok := fun _ => True) (okp := fun _ => True) ?hr ?hp (fun _ hk => hk) trivial (zbx _ _) (zbp _) (by simp) ?_; (case hd => rfl); (case hg => rfl); (case hr => first | (go_simp; done) | (go_simp; rfl)); (case hp => exact (zdp _ _)); intro v660 w15 ho16 hb hg_ hnew_; clear hg_ hnew_; (first | rw [← Ny659.out] at ho16 | (simp only [Int.reduceToNat] at ho16; rw [← Ny659.out] at ho16)); have n0_ := Aside0.mk (zbc ho16 (keep_size (w := w) (g := g) (row := none) (by repeat (first | (with_reducible first | exact HK.out | apply zbw | apply zce | apply zcn | apply zcf) | exact HK.out)))); have n1_ := Aside0.mk (IsS74.below (by repeat (first | (with_reducible first | exact HI0.out | apply IsS74.alloc | apply IsS74.drewN | apply IsS74.drew | apply IsS74.set_1 | apply IsS74.set_2) | exact HI0.out)) hb); have n2_ := Aside0.mk (zcy (by repeat (first | (with_reducible first | exact HK.out | apply zbw | apply zce | apply zcn | apply zcf) | exact HK.out)) (KeepBut.of_below hb g none) (.inl rfl)); have n3_ := Aside0.mk (zbb (by repeat (first | (with_reducible first | exact HB.out | apply zaj | apply zad | apply zai | refine zbs ?_ (IsS74.ge HI0.out)) | exact HB.out)) hb); clear HI0 HK HB; have HO661 := n0_; have HI0 := n1_; have HK := n2_; have HB := n3_; clear n0_ n1_ n2_ n3_; clear hb ho16))
    go_ret
    exact ⟨_, by first | rfl | (simp [zbj, zbk] <;> rfl) | (simp [*, zbj, zbk] <;> rfl), by (with_reducible repeat (first | apply zab | apply zac | apply zae)); exact HO661.out, by repeat (first | (with_reducible first | exact HI0.out | apply IsS74.alloc | apply IsS74.drewN | apply IsS74.drew | apply IsS74.set_1 | apply IsS74.set_2) | exact HI0.out), by repeat (first | (with_reducible first | exact HB.out | apply zaj | apply zad | apply zai | refine zbs ?_ (IsS74.ge HI0.out)) | exact HB.out), by repeat (first | (with_reducible first | exact HK.out | apply zbw | apply zce | apply zcn | apply zcf) | exact HK.out)⟩
   ·rw [if_neg c13] at H
    have c13b0 : (t645 == 2) = false := zbz.mpr c13
    have c13b1 : (t645 != 2) = true := zdh.mpr c13
    replace H := zam.mp H
    obtain ⟨⟨t662, t665, t666⟩, A170, H⟩ := H
    try dsimp only at H
    have A17 := Aside0.mk A170
    clear A170
    simp only [zcp, zdb] at H
    obtain ⟨rfl, rfl, rfl⟩ := H
    go_enter Try.func54, Try.ntmps54
    go_wp2_with (first | ((with_reducible refine zau (f := 56) rfl ?_); refine goesL_ (some 6) rfl rfl Try.func56 (by kernel_rfl) rfl #[.pointer (some ⟨g, 0, none⟩), .int .i64 16] rfl (by (try simp only [zal, zaq, zar]); first | done | rfl) ?_; (with_reducible refine (spec_l1Below.calls g s0_0 s0_1 s0_2 16 t645 t646 t647 w0 _ ?side1 ?side2 A3.out).mono ?_); (case side1 => repeat (first | (with_reducible first | exact HI0.out | apply IsS74.alloc | apply IsS74.drewN | apply IsS74.drew | apply IsS74.set_1 | apply IsS74.set_2) | exact HI0.out)); (case side2 => repeat (first | (with_reducible first | exact HB.out | apply zaj | apply zad | apply zai | refine zbs ?_ (IsS74.ge HI0.out)) | exact HB.out)); rintro e w18 ⟨rfl, hi, hb, hk⟩; refine ⟨_, rfl, ?_⟩; have n0_ := Aside0.mk (zcy (by repeat (first | (with_reducible first | exact HK.out | apply zbw | apply zce | apply zcn | apply zcf) | exact HK.out)) hk (.inl rfl)); have n1_ := Aside0.mk (hb); have n2_ := Aside0.mk (hi); clear HK HB HI0; have HK := n0_; have HB := n1_; have HI0 := n2_; clear n0_ n1_ n2_; (try clear hb); (try clear hb2); (try clear hk); (try clear hi)) | ((with_reducible refine zau (f := 70) rfl ?_); refine goesL_ (some 25) rfl rfl Try.func70 (by kernel_rfl) rfl #[.pointer (some ⟨g, 0, none⟩), .int .i64 a1] rfl (by (try simp only [zal, zaq, zar]); first | done | rfl) ?_; (with_reducible refine (spec_l1DrawJust.calls k g s0_0 t646 t647 a1 t662 t665 t666 w0 _ ?side1 ?side2 A17.out).mono ?_); (case side1 => repeat (first | (with_reducible first | exact HI0.out | apply IsS74.alloc | apply IsS74.drewN | apply IsS74.drew | apply IsS74.set_1 | apply IsS74.set_2) | exact HI0.out)); (case side2 => repeat (first | (with_reducible first | exact HB.out | apply zaj | apply zad | apply zai | refine zbs ?_ (IsS74.ge HI0.out)) | exact HB.out)); rintro e w19 ⟨v663, rfl, ho0, hi, hb, hk⟩; refine ⟨_, rfl, ?_⟩; have n0_ := Aside0.mk (zbc ho0 (keep_size (w := w) (g := g) (row := none) (by repeat (first | (with_reducible first | exact HK.out | apply zbw | apply zce | apply zcn | apply zcf) | exact HK.out)))); have n1_ := Aside0.mk (zcy (by repeat (first | (with_reducible first | exact HK.out | apply zbw | apply zce | apply zcn | apply zcf) | exact HK.out)) hk (.inl rfl)); have n2_ := Aside0.mk (hb); have n3_ := Aside0.mk (hi); clear HK HB HI0; have HO664 := n0_; have HK := n1_; have HB := n2_; have HI0 := n3_; clear n0_ n1_ n2_ n3_; clear hb hk hi ho0))
    go_ret
    exact ⟨_, by first | rfl | (simp [zbj, zbk] <;> rfl) | (simp [*, zbj, zbk] <;> rfl), by (with_reducible repeat (first | apply zab | apply zac | apply zae)); exact HO664.out, by repeat (first | (with_reducible first | exact HI0.out | apply IsS74.alloc | apply IsS74.drewN | apply IsS74.drew | apply IsS74.set_1 | apply IsS74.set_2) | exact HI0.out), by repeat (first | (with_reducible first | exact HB.out | apply zaj | apply zad | apply zai | refine zbs ?_ (IsS74.ge HI0.out)) | exact HB.out), by repeat (first | (with_reducible first | exact HK.out | apply zbw | apply zce | apply zcn | apply zcf) | exact HK.out)⟩
end Go.Proofs.Ytdineaebljpfaaa.P
