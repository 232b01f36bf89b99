import Derived.Test.YtienlgcjohpphaaM9
import Derived.Test.YtienlgcjohpphaaM13
namespace Go.Proofs.Ytienlgcjohpphaa.P
open Go.RowKit Go.Proofs.YtienlgcjohpphaaW.PrintWords Go.Proofs.YtienlgcjohpphaaW.PrintLast Go.Proofs.YtienlgcjohpphaaW.PrintMore
attribute [local go_sem] zdd zde zdy zdz zcb zcc zdf zdg   -- for this text's walks alone
set_option linter.unusedVariables false
set_option linter.unusedSimpArgs false

def impl_Hash.l0 : Nat → List Int → List Int → Int → Option (List Int)
 | 0, _, _, _ => none
 | k + 1, x3, x4, x5 => if x5 < (x4.length : Int) then (if 0 ≤ x5 then (if x5 ≤ (wrap64 (x5 + 64)) then (if (wrap64 (x5 + 64)) ≤ (x4.length : Int) then ((impl_HashBlock.f k x3 ((x4.take ((wrap64 (x5 + 64)) : Int).toNat).drop (x5 : Int).toNat)).bind fun t486 => (impl_Hash.l0 k t486 x4 (wrap64 (x5 + 64)))) else (none)) else (none)) else (none)) else ((impl_WordBytes.f k x3 true).bind fun t489 => (some t489))
def impl_Hash.f (k : Nat) (l0 : List Int) : Option (List Int) := if (l0.length : Int) > 4000 then (some ([] : List Int)) else ((impl_HashStart.f).bind fun t476 => ((impl_HashPad.f k l0).bind fun t479 => (impl_Hash.l0 k t476 t479 0)))
theorem impl_Hash.mono_l : ∀ k, (∀ y0 y1 y2, LeO (impl_Hash.l0 k y0 y1 y2) (impl_Hash.l0 (k + 1) y0 y1 y2))
 | 0 => fun _ _ _ r h => by simp [impl_Hash.l0] at h
 | k + 1 => by
  have ih0 := impl_Hash.mono_l k
  ·intro y0 y1 y2
   unfold impl_Hash.l0
   repeat' first
   | (with_reducible exact ih0 _ _ _)
   | (with_reducible exact impl_HashBlock.mono _ _ _)
   | (with_reducible exact impl_HashPad.mono _ _)
   | (with_reducible exact impl_WordBytes.mono _ _ _)
   | (with_reducible exact zcf _)
   | (with_reducible exact zcj _)
   | (with_reducible refine zdp ?_ ?_)
   | (with_reducible refine zcg ?_ (fun _ => ?_))
   | exact ih0 _ _ _
theorem impl_Hash.mono : ∀ a0 k, LeO (impl_Hash.f k a0) (impl_Hash.f (k + 1) a0) := by
 intro a0 k
 have ih0 := impl_Hash.mono_l k
 unfold impl_Hash.f
 repeat' first
   | (with_reducible exact ih0 _ _ _)
   | (with_reducible exact impl_HashBlock.mono _ _ _)
   | (with_reducible exact impl_HashPad.mono _ _)
   | (with_reducible exact impl_WordBytes.mono _ _ _)
   | (with_reducible exact zcf _)
   | (with_reducible exact zcj _)
   | (with_reducible refine zdp ?_ ?_)
   | (with_reducible refine zcg ?_ (fun _ => ?_))
   | exact ih0 _ _ _
set_option maxHeartbeats 8000000 in
set_option maxRecDepth 100000 in
theorem impl_Hash.calls (k : Nat) (A0 : Option Addr) (c0 : Nat) (l0 : List Int) (r : List Int) (w : World) (hr0 : Kd.C (Kd.int .u8) w A0 l0.length l0) (hc0 : l0.length ≤ c0) (h : impl_Hash.f k l0 = some r) :
  Calls Try.prog 25 #[.slice A0 l0.length c0] w fun e w' => ∃ v0_ : Value, e = .returned (v0_) ∧ Kd.R (Kd.int .u8) 5 w' w.heap.size (fun _ => True) v0_ r ∧ Below w.heap.size w w' := by
 have HR0 := Aside0.mk hr0
 have HC0 := Aside0.mk hc0
 clear hr0 hc0
 have HB := Aside0.mk (zbq w.heap.size w)
 have H : (if (l0.length : Int) > 4000 then (some ([] : List Int)) else ((impl_HashStart.f).bind fun t476 => ((impl_HashPad.f k l0).bind fun t479 => (impl_Hash.l0 k t476 t479 0)))) = some r := h
 clear h
 by_cases c2 : (l0.length : Int) > 4000
 ·rw [if_pos c2] at H
  have c2b0 : decide (4000 < (l0.length : Int)) = true := zaq c2
  have c2b1 : decide (4000 < l0.length) = true := zaq (by omega)
  clear c2
  obtain rfl := Option.some.inj H
  go_enter Try.func25, Try.ntmps25
  go_wp2
  go_ret
  exact ⟨_, by first | rfl | (simp [zbk, zbl] <;> rfl) | (simp [*, zbk, zbl] <;> rfl), by first | exact Kd.R_nil _ _ _ _ _ | exact Kd.N_nil _ _ _ _ _ | exact Kd.V_nil _ _ _ _ _ | exact Kd.Q_nil _ _ _ _ _ | exact Kd.S_nil _ _ _ _ _, by repeat (first | (with_reducible first | exact HB.out | apply zai | apply zad | apply zah) | exact HB.out)⟩
 ·rw [if_neg c2] at H
  have c2b0 : decide (4000 < (l0.length : Int)) = false := zbr c2
  have c2b1 : decide (4000 < l0.length) = false := zbr (by omega)
  clear c2
  replace H := zaj.mp H
  obtain ⟨t476, A30, H⟩ := H
  try dsimp only at H
  have A3 := Aside0.mk A30
  clear A30
  replace H := zaj.mp H
  obtain ⟨t479, A40, H⟩ := H
  try dsimp only at H
  have A4 := Aside0.mk A40
  clear A40
  have H' := Aside0.mk H
  clear H
  go_enter Try.func25, Try.ntmps25
  go_wp2_with (first | ((with_reducible refine zbc (f := 35) rfl ?_); refine goesL_ (some 9) rfl rfl Try.func35 (by kernel_rfl) rfl #[] rfl (by (try simp only [zap, zau, zav]); first | done | rfl) ?_; (with_reducible refine (impl_HashStart.calls  t476 _ A3.out).mono ?_); rintro e w5 ⟨v477, rfl, ho0, hb⟩; refine ⟨_, rfl, ?_⟩; have xb_ := below_ofs (by repeat (first | (with_reducible first | exact HB.out | apply zai | apply zad | apply zah) | exact HB.out)) hb; have n0_ := Aside0.mk (zbj ho0 (zax xb_)); have n1_ := Aside0.mk (zbf xb_ hb); clear HB; have HO478 := n0_; have HB := n1_; clear n0_ n1_; clear xb_ hb ho0) | ((with_reducible refine zbc (f := 29) rfl ?_); refine goesL_ (some 11) rfl rfl Try.func29 (by kernel_rfl) rfl #[.slice A0 l0.length c0] rfl (by (try simp only [zap, zau, zav]); first | done | rfl) ?_; (with_reducible refine (impl_HashPad.calls k (fun k_ => k_ < w.heap.size) _ _ l0 t479 _ ?side1 A4.out).mono ?_); (case side1 => exact Kd.V_mk HC0.out (Kd.F_below (Kd.C_F (Kd.heap_int .u8) HR0.out) (by repeat (first | (with_reducible first | exact HB.out | apply zai | apply zad | apply zah) | exact HB.out)))); rintro e w6 ⟨v480, rfl, ho0, hb⟩; refine ⟨_, rfl, ?_⟩; have xb_ := below_ofs (by repeat (first | (with_reducible first | exact HB.out | apply zai | apply zad | apply zah) | exact HB.out)) hb; have n0_ := Aside0.mk (Kd.R_below (by (with_reducible repeat (first | apply zab | apply zac | apply zae)); exact HO478.out) hb); have n1_ := Aside0.mk (zbj (zbe (ok' := fun k_ => True) ho0 (fun _ hk_ => zbw)) (zax xb_)); have n2_ := Aside0.mk (zbf xb_ hb); clear HO478 HB; have HO478 := n0_; have HO481 := n1_; have HB := n2_; clear n0_ n1_ n2_; clear xb_ hb ho0))
  go_loopg [3, 5] k (fun kq v3 v5 w' => ∃ (x3_1 : List Int) (x5_1 : Int), v5 = .int .i64 x5_1 ∧ Aside0 (impl_Hash.l0 kq x3_1 t479 x5_1 = some r) ∧ Aside0 (kq ≤ k) ∧ Aside0 (Kd.R (Kd.int .i64) 3 w' w.heap.size (fun _ => True) v3 x3_1) ∧ Aside0 (Kd.R (Kd.int .u8) 5 w' w.heap.size (fun _ => True) v480 t479) ∧ Aside0 (Below w.heap.size w w'))
  case atStart => exact ⟨(t476), (0), (by first | rfl | (simp; done) | (simp [*]; done)), H', ⟨zbi _⟩, ⟨by (with_reducible repeat (first | apply zab | apply zac | apply zae)); exact HO478.out⟩, ⟨by (with_reducible repeat (first | apply zab | apply zac | apply zae)); exact HO481.out⟩, ⟨by repeat (first | (with_reducible first | exact HB.out | apply zai | apply zad | apply zah) | exact HB.out)⟩⟩
  case round =>
   clear H'
   try clear c2
   try clear c2b0
   try clear c2b1
   try clear p2
   try clear c3
   obtain ⟨x3_1, x5_1, rfl, HA, HK1, HO_3, HO_4, HB⟩ := hrel
   cases gk with
   | zero => exact absurd HA.out (by simp [impl_Hash.l0])
   | succ k1 =>
    have H := HA.out
    clear HA
    simp only [impl_Hash.l0] at H
    by_cases c7 : x5_1 < (t479.length : Int)
    ·rw [if_pos c7] at H
     have c7b0 : decide (x5_1 < (t479.length : Int)) = true := zaq c7
     clear c7
     by_cases c8 : 0 ≤ x5_1
     ·rw [if_pos c8] at H
      have c8b0 := zbn c8
      have c8b1 : decide (0 ≤ x5_1) = true := zaq c8
      clear c8
      by_cases c9 : x5_1 ≤ (wrap64 (x5_1 + 64))
      ·rw [if_pos c9] at H
       have c9b0 := zbn c9
       have c9b1 : decide (x5_1 ≤ (wrap64 (x5_1 + 64))) = true := zaq c9
       by_cases c10 : (wrap64 (x5_1 + 64)) ≤ (t479.length : Int)
       ·rw [if_pos c10] at H
        have c10b0 := zbn c10
        have c10b1 : decide ((wrap64 (x5_1 + 64)) ≤ (t479.length : Int)) = true := zaq c10
        obtain ⟨y482, hy482⟩ : ∃ y_ : List Int, y_ = ((t479.take ((wrap64 (x5_1 + 64)) : Int).toNat).drop (x5_1 : Int).toNat) := ⟨_, rfl⟩
        replace H : ((impl_HashBlock.f k1 x3_1 y482).bind fun t486 => (impl_Hash.l0 k1 t486 t479 (wrap64 (x5_1 + 64)))) = some r := by first | (rw [hy482]; with_reducible first | exact H | exact bind_ofs H) | (with_reducible first | exact H | exact bind_ofs H) | (rw [hy482]; exact H) | exact H
        have Ny482 := Aside0.mk hy482
        clear hy482
        replace H := zaj.mp H
        obtain ⟨t486, A110, H⟩ := H
        try dsimp only at H
        have A11 := Aside0.mk A110
        clear A110
        have H' := Aside0.mk H
        clear H
        obtain ⟨Ao12, co12, eo12⟩ := zbm HO_4.out
        subst eo12
        have q13 : ((wrap64 (x5_1 + 64)) : Int) ≤ ((t479.length : Int) : Int) := zar (by first | (with_reducible assumption) | assumption)
        obtain ⟨i013, hi013, _, hsz13, _⟩ := info_parts info5
        have hroom13 : t479.length ≤ co12 := (zao HO_4.out).2.1
        have hC13 : Kd.C (Kd.int .u8) _ Ao12 t479.length t479 := (zao HO_4.out).2.2
        have ql13 : (x5_1 : Int) ≤ ((wrap64 (x5_1 + 64)) : Int) := zar (by first | (with_reducible assumption) | assumption)
        have q013 : (0 : Int) ≤ (x5_1 : Int) := zar (by first | (with_reducible assumption) | assumption)
        have hcut13 := cut_mid (P := Try.prog) 23 5 .i64 .i64 Try.underlying23 hi013 1 hsz13 Ao12 t479.length co12 x5_1 (wrap64 (x5_1 + 64)) q013 ql13 q13 hroom13
        have hr13 := Kd.C_mid (lo := (x5_1 : Int).toNat) (hi := ((wrap64 (x5_1 + 64)) : Int).toNat) (c := co12) hC13 (by omega) (by omega) hroom13
        obtain ⟨A13, hA13⟩ : ∃ A1, A1 = (if co12 = (x5_1 : Int).toNat then Ao12 else (Ao12 : Option Addr).map (·.add ((x5_1 : Int).toNat * 1))) := ⟨_, rfl⟩
        obtain ⟨c13, hc13⟩ : ∃ c1, c1 = co12 - (x5_1 : Int).toNat := ⟨_, rfl⟩
        have hy13 : y482.length = ((wrap64 (x5_1 + 64)) : Int).toNat - (x5_1 : Int).toNat := (by rw [Ny482.out, zbp, zbo] <;> omega)
        rw [show ((t479).take ((wrap64 (x5_1 + 64)) : Int).toNat).drop (x5_1 : Int).toNat = y482 from Ny482.out.symm] at hr13
        replace hr13 : Kd.C (Kd.int .u8) _ A13 y482.length y482 := (by rw [hA13]; exact hr13)
        rw [← hy13, ← hA13, ← hc13] at hcut13
        have HR485 := Aside0.mk hr13
        have HC485 := Aside0.mk (show y482.length ≤ c13 from by rw [hy13, hc13]; exact Nat.sub_le_sub_right (zff (by omega) hroom13) _)
        clear hr13 hC13 hroom13 hi013 hsz13 hc13
        have KY13 := Aside0.mk hy13
        have KA13 := Aside0.mk hA13
        clear hy13 hA13
        have KL13 := Aside0.mk (show ((wrap64 (x5_1 + 64)) : Int).toNat ≤ t479.length from by omega)
        have KM13 := Aside0.mk (show (x5_1 : Int).toNat ≤ ((wrap64 (x5_1 + 64)) : Int).toNat from by omega)
        replace q13 := zbn q13
        obtain ⟨Ao14, co14, eo14⟩ := zbm HO_3.out
        subst eo14
        go_wp2_with (first | ((with_reducible refine zbc (f := 18) rfl ?_); refine goesL_ (some 24) rfl rfl Try.func18 (by kernel_rfl) rfl #[.slice Ao14 x3_1.length co14, .slice A13 y482.length c13] rfl (by (try simp only [zap, zau, zav]); first | done | rfl) ?_; (with_reducible refine (impl_HashBlock.calls k1 _ _ x3_1 _ _ y482 t486 _ ?side1 ?side2 ?side3 ?side4 A11.out).mono ?_); (case side1 => repeat (first | exact (zao HO_3.out).2.2 | (with_reducible first | apply zba | apply zbb | apply zbg))); (case side2 => exact (zao HO_3.out).2.1); (case side3 => repeat (first | exact (by repeat (first | (with_reducible exact HR485.out) | (with_reducible first | apply zba | apply zbb | apply zbg) | exact HR485.out)) | (with_reducible first | apply zba | apply zbb | apply zbg))); (case side4 => exact HC485.out); rintro e w15 ⟨v487, rfl, ho0, hb⟩; refine ⟨_, rfl, ?_⟩; have xb_ := below_ofs (by repeat (first | (with_reducible first | exact HB.out | apply zai | apply zad | apply zah) | exact HB.out)) hb; have qHO_3 := Kd.R_ofs (by (with_reducible repeat (first | apply zab | apply zac | apply zae)); exact HO_3.out) hb; have n0_ := Aside0.mk (zak qHO_3 (zal ho0) hb); have n1_ := Aside0.mk (Kd.R_below (by (with_reducible repeat (first | apply zab | apply zac | apply zae)); exact HO_4.out) hb); have n2_ := Aside0.mk (zbj (zam ho0 (zat qHO_3)) (zax xb_)); have n3_ := Aside0.mk (zey (by repeat (first | (with_reducible exact HR485.out) | (with_reducible first | apply zba | apply zbb | apply zbg) | exact HR485.out)) hb); have n4_ := Aside0.mk (zbf xb_ hb); clear qHO_3 HO_3; clear HO_4 HR485 HB; have HO_3 := n0_; have HO_4 := n1_; have HO488 := n2_; have HR485 := n3_; have HB := n4_; clear n0_ n1_ n2_ n3_ n4_; clear xb_ hb ho0))
        go_roundg k1
        case measure => have := HK1.out; omega
        case rel => exact ⟨(t486), (wrap64 (x5_1 + 64)), (by first | rfl | (simp; done) | (simp [*]; done)), H', ⟨by have := HK1.out; omega⟩, ⟨by (with_reducible repeat (first | apply zab | apply zac | apply zae)); exact zbe HO488.out (fun _ hk => zbw)⟩, ⟨by (with_reducible repeat (first | apply zab | apply zac | apply zae)); exact HO_4.out⟩, ⟨by repeat (first | (with_reducible first | exact HB.out | apply zai | apply zad | apply zah) | exact HB.out)⟩⟩
       ·rw [if_neg c10] at H
        exact absurd H (by simp)
      ·rw [if_neg c9] at H
       exact absurd H (by simp)
     ·rw [if_neg c8] at H
      exact absurd H (by simp)
    ·rw [if_neg c7] at H
     have c7b0 : decide (x5_1 < (t479.length : Int)) = false := zbr c7
     clear c7
     replace H := zaj.mp H
     obtain ⟨t489, A160, H⟩ := H
     try dsimp only at H
     have A16 := Aside0.mk A160
     clear A160
     obtain rfl := Option.some.inj H
     obtain ⟨Ao17, co17, eo17⟩ := zbm HO_4.out
     subst eo17
     obtain ⟨Ao18, co18, eo18⟩ := zbm HO_3.out
     subst eo18
     go_wp2_with (first | ((with_reducible refine zbc (f := 36) rfl ?_); refine goesL_ (some 26) rfl rfl Try.func36 (by kernel_rfl) rfl #[.slice Ao18 x3_1.length co18, .bool true] rfl (by (try simp only [zap, zau, zav]); first | done | rfl) ?_; (with_reducible refine (impl_WordBytes.calls k1 _ _ x3_1 true t489 _ ?side1 ?side2 A16.out).mono ?_); (case side1 => repeat (first | exact (zao HO_3.out).2.2 | (with_reducible first | apply zba | apply zbb | apply zbg))); (case side2 => exact (zao HO_3.out).2.1); rintro e w19 ⟨v490, rfl, ho0, hb⟩; refine ⟨_, rfl, ?_⟩; have xb_ := below_ofs (by repeat (first | (with_reducible first | exact HB.out | apply zai | apply zad | apply zah) | exact HB.out)) hb; have n0_ := Aside0.mk (Kd.R_below (by (with_reducible repeat (first | apply zab | apply zac | apply zae)); exact HO_3.out) hb); have qHO_4 := Kd.R_ofs (by (with_reducible repeat (first | apply zab | apply zac | apply zae)); exact HO_4.out) hb; have n1_ := Aside0.mk (zak qHO_4 (zal ho0) hb); have n2_ := Aside0.mk (zbj (zam ho0 (zat qHO_4)) (zax xb_)); have n3_ := Aside0.mk (zbf xb_ hb); clear qHO_4 HO_3; clear HO_4 HB; have HO_3 := n0_; have HO_4 := n1_; have HO491 := n2_; have HB := n3_; clear n0_ n1_ n2_ n3_; clear xb_ hb ho0))
     go_ret
     exact ⟨_, by first | rfl | (simp [zbk, zbl] <;> rfl) | (simp [*, zbk, zbl] <;> rfl), by (with_reducible repeat (first | apply zab | apply zac | apply zae)); exact zbe HO491.out (fun _ hk => zbw), by repeat (first | (with_reducible first | exact HB.out | apply zai | apply zad | apply zah) | exact HB.out)⟩
def laws_big.f (l0 : List Int) : Option (Bool) := some (decide ((l0.length : Int) > 1048576))
set_option maxHeartbeats 8000000 in
set_option maxRecDepth 100000 in
theorem laws_big.calls (A0 : Option Addr) (c0 : Nat) (l0 : List Int) (r : Bool) (w : World) (hr0 : Kd.C (Kd.int .u8) w A0 l0.length l0) (hc0 : l0.length ≤ c0) (h : laws_big.f l0 = some r) :
  Calls Try.prog 27 #[.slice A0 l0.length c0] w fun e w' => e = .returned (.bool r) ∧ Drawn0 w w' := by
 have HR0 := Aside0.mk hr0
 have HC0 := Aside0.mk hc0
 clear hr0 hc0
 have H : (some (decide ((l0.length : Int) > 1048576))) = some r := h
 clear h
 obtain rfl := Option.some.inj H
 go_enter Try.func27, Try.ntmps27
 go_wp2
 go_ret
 exact ⟨by first | rfl | (simp; done) | (simp [*]; done), by repeat (first | exact Drawn0.refl _ | apply Drawn0.step)⟩
def bytes_Equal.f (l0 : List Int) (l1 : List Int) : Option (Bool) := some ((strOfNums l0).toList == (strOfNums l1).toList)
set_option maxHeartbeats 8000000 in
set_option maxRecDepth 100000 in
theorem bytes_Equal.calls (A0 : Option Addr) (c0 : Nat) (l0 : List Int) (A1 : Option Addr) (c1 : Nat) (l1 : List Int) (r : Bool) (w : World) (hr0 : Kd.C (Kd.int .u8) w A0 l0.length l0) (hc0 : l0.length ≤ c0) (hr1 : Kd.C (Kd.int .u8) w A1 l1.length l1) (hc1 : l1.length ≤ c1) (h : bytes_Equal.f l0 l1 = some r) :
  Calls Try.prog 85 #[.slice A0 l0.length c0, .slice A1 l1.length c1] w fun e w' => e = .returned (.bool r) ∧ Drawn0 w w' := by
 have HR0 := Aside0.mk hr0
 have HC0 := Aside0.mk hc0
 clear hr0 hc0
 have HR1 := Aside0.mk hr1
 have HC1 := Aside0.mk hc1
 clear hr1 hc1
 have H : (some ((strOfNums l0).toList == (strOfNums l1).toList)) = some r := h
 clear h
 obtain rfl := Option.some.inj H
 have hcv3 := Kd.C_string (P := Try.prog) (A := A0) (c := c0) Try.underlying23 Try.underlying5 Try.underlying9 HR0.out
 have hcv4 := Kd.C_string (P := Try.prog) (A := A1) (c := c1) Try.underlying23 Try.underlying5 Try.underlying9 HR1.out
 go_enter Try.func85, Try.ntmps85
 go_wp2
 go_ret
 exact ⟨by first | rfl | (simp; done) | (simp [*]; done), by repeat (first | exact Drawn0.refl _ | apply Drawn0.step)⟩
def impl_Same.f (l0 : List Int) (l1 : List Int) : Option (Bool) := (bytes_Equal.f l0 l1).bind fun t670 => (some t670)
set_option maxHeartbeats 8000000 in
set_option maxRecDepth 100000 in
theorem impl_Same.calls (A0 : Option Addr) (c0 : Nat) (l0 : List Int) (A1 : Option Addr) (c1 : Nat) (l1 : List Int) (r : Bool) (w : World) (hr0 : Kd.C (Kd.int .u8) w A0 l0.length l0) (hc0 : l0.length ≤ c0) (hr1 : Kd.C (Kd.int .u8) w A1 l1.length l1) (hc1 : l1.length ≤ c1) (h : impl_Same.f l0 l1 = some r) :
  Calls Try.prog 32 #[.slice A0 l0.length c0, .slice A1 l1.length c1] w fun e w' => e = .returned (.bool r) ∧ Drawn0 w w' := by
 have HR0 := Aside0.mk hr0
 have HC0 := Aside0.mk hc0
 clear hr0 hc0
 have HR1 := Aside0.mk hr1
 have HC1 := Aside0.mk hc1
 clear hr1 hc1
 have H : ((bytes_Equal.f l0 l1).bind fun t670 => (some t670)) = some r := h
 clear h
 replace H := zaj.mp H
 obtain ⟨t670, A30, H⟩ := H
 try dsimp only at H
 have A3 := Aside0.mk A30
 clear A30
 obtain rfl := Option.some.inj H
 go_enter Try.func32, Try.ntmps32
 go_wp2_with (first | ((with_reducible refine zbc (f := 85) rfl ?_); refine goesL_ (some 7) rfl rfl Try.func85 (by kernel_rfl) rfl #[.slice A0 l0.length c0, .slice A1 l1.length c1] rfl (by (try simp only [zap, zau, zav]); first | done | rfl) ?_; (with_reducible refine (bytes_Equal.calls _ _ l0 _ _ l1 t670 _ ?side1 ?side2 ?side3 ?side4 A3.out).mono ?_); (case side1 => repeat (first | exact HR0.out | (with_reducible first | apply zba | apply zbb | apply zbg))); (case side2 => exact HC0.out); (case side3 => repeat (first | exact HR1.out | (with_reducible first | apply zba | apply zbb | apply zbg))); (case side4 => exact HC1.out); rintro e w' ⟨rfl, ⟨nd, rfl⟩⟩; refine ⟨_, rfl, ?_⟩))
 go_ret
 exact ⟨by first | rfl | (simp; done) | (simp [*]; done), by repeat (first | exact Drawn0.refl _ | apply Drawn0.step)⟩
def spec_Word.f (a0 : Int) : Option (Int) := some (Go.bits .and .i64 a0 4294967295)
set_option maxHeartbeats 8000000 in
set_option maxRecDepth 100000 in
theorem spec_Word.calls (a0 : Int) (r : Int) (w : World) (h : spec_Word.f a0 = some r) :
  Calls Try.prog 69 #[.int .i64 a0] w fun e w' => e = .returned (.int .i64 r) ∧ Drawn0 w w' := by
 have H : (some (Go.bits .and .i64 a0 4294967295)) = some r := h
 clear h
 obtain rfl := Option.some.inj H
 go_enter Try.func69, Try.ntmps69
 go_wp2
 go_ret
 exact ⟨by first | rfl | (simp; done) | (simp [*]; done), by repeat (first | exact Drawn0.refl _ | apply Drawn0.step)⟩
end Go.Proofs.Ytienlgcjohpphaa.P
