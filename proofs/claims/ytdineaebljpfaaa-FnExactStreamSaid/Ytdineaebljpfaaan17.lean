import Derived.Test.Ytdineaebljpfaaan16
namespace Go.Proofs.Ytdineaebljpfaaa.P
open Go.RowKit Go.Proofs.YtdineaebljpfaaaW.PrintWords Go.Proofs.YtdineaebljpfaaaW.PrintLast Go.Proofs.YtdineaebljpfaaaW.PrintMore
attribute [local go_sem] zcu zcv zdf zdg zci zcj zcw zcx   -- for this text's walks alone
set_option linter.unusedVariables false
set_option linter.unusedSimpArgs false

def impl_placesOk.l0 : Nat → List Int → Int → List Int → Int → Int → Option (Bool)
 | 0, _, _, _, _, _ => none
 | k + 1, x0, x1, x7, x8, x9 => if x9 < x8 then (if 0 ≤ x9 then (if x9 < (x7.length : Int) then ((impl_in.f (rd x7 x9) 0 (wrap64 (x1 - 1))).bind fun t276 => (if t276 = true then (if x9 ≤ (x0.length : Int) then ((slices_Contains_int_int.f k (x0.take (x9 : Int).toNat) (rd x7 x9)).bind fun t278 => (if t278 = true then (some false) else (impl_placesOk.l0 k x0 x1 x7 x8 (wrap64 (x9 + 1))))) else (none)) else (some false))) else (none)) else (none)) else (some true)
def impl_placesOk.f (k : Nat) (l0 : List Int) (a1 : Int) : Option (Bool) := impl_placesOk.l0 k l0 a1 l0 (l0.length : Int) 0
theorem impl_placesOk.mono_l : ∀ k, (∀ y0 y1 y2 y3 y4, LeO (impl_placesOk.l0 k y0 y1 y2 y3 y4) (impl_placesOk.l0 (k + 1) y0 y1 y2 y3 y4))
 | 0 => fun _ _ _ _ _ r h => by simp [impl_placesOk.l0] at h
 | k + 1 => by
  have ih0 := impl_placesOk.mono_l k
  ·intro y0 y1 y2 y3 y4
   unfold impl_placesOk.l0
   repeat' first
   | (with_reducible exact ih0 _ _ _ _ _)
   | (with_reducible exact slices_Contains_int_int.mono _ _ _)
   | (with_reducible exact zcc _)
   | (with_reducible exact zcg _)
   | (with_reducible refine zcr ?_ ?_)
   | (with_reducible refine zcd ?_ (fun _ => ?_))
   | exact ih0 _ _ _ _ _
theorem impl_placesOk.mono : ∀ a0 a1 k, LeO (impl_placesOk.f k a0 a1) (impl_placesOk.f (k + 1) a0 a1) := by
 intro a0 a1 k
 have ih0 := impl_placesOk.mono_l k
 unfold impl_placesOk.f
 repeat' first
   | (with_reducible exact ih0 _ _ _ _ _)
   | (with_reducible exact slices_Contains_int_int.mono _ _ _)
   | (with_reducible exact zcc _)
   | (with_reducible exact zcg _)
   | (with_reducible refine zcr ?_ ?_)
   | (with_reducible refine zcd ?_ (fun _ => ?_))
   | exact ih0 _ _ _ _ _
set_option maxHeartbeats 8000000 in
set_option maxRecDepth 100000 in
theorem impl_placesOk.calls (k : Nat) (A0 : Option Addr) (c0 : Nat) (l0 : List Int) (a1 : Int) (r : Bool) (w : World) (hr0 : Kd.C (Kd.int .i64) w A0 l0.length l0) (hc0 : l0.length ≤ c0) (h : impl_placesOk.f k l0 a1 = some r) :
  Calls Try.prog 41 #[.slice A0 l0.length c0, .int .i64 a1] w fun e w' => e = .returned (.bool r) ∧ Drawn0 w w' := by
 have HR0 := Aside0.mk hr0
 have HC0 := Aside0.mk hc0
 clear hr0 hc0
 have H : (impl_placesOk.l0 k l0 a1 l0 (l0.length : Int) 0) = some r := h
 clear h
 have H' := Aside0.mk H
 clear H
 go_enter Try.func41, Try.ntmps41
 go_wp2
 go_loopg [9] k (fun kq v9 w' => ∃ (x9_1 : Int), v9 = .int .i64 x9_1 ∧ Aside0 (impl_placesOk.l0 kq l0 a1 l0 (l0.length : Int) x9_1 = some r) ∧ Aside0 (kq ≤ k) ∧ Drawn0 w w')
 case atStart => exact ⟨(0), (by first | rfl | (simp; done) | (simp [*]; done)), H', ⟨zbp _⟩, by repeat (first | exact Drawn0.refl _ | apply Drawn0.step)⟩
 case round =>
  clear H'
  try clear p2
  obtain ⟨x9_1, rfl, HA, HK1, ⟨m1, rfl⟩⟩ := hrel
  cases gk with
  | zero => exact absurd HA.out (by simp [impl_placesOk.l0])
  | succ k1 =>
   have H := HA.out
   clear HA
   simp only [impl_placesOk.l0] at H
   by_cases c3 : x9_1 < (l0.length : Int)
   ·rw [if_pos c3] at H
    have c3b0 : decide (x9_1 < (l0.length : Int)) = true := zax c3
    clear c3
    by_cases c4 : 0 ≤ x9_1
    ·rw [if_pos c4] at H
     have c4b0 : decide (0 ≤ x9_1) = true := zax c4
     clear c4
     by_cases c5 : x9_1 < (l0.length : Int)
     ·rw [if_pos c5] at H
      have c5b0 : decide (x9_1 < (l0.length : Int)) = true := zax c5
      clear c5
      replace H := zam.mp H
      obtain ⟨t276, A60, H⟩ := H
      try dsimp only at H
      have A6 := Aside0.mk A60
      clear A60
      by_cases c7 : t276 = true
      ·subst c7
       have H1 : (if x9_1 ≤ (l0.length : Int) then ((slices_Contains_int_int.f k1 (l0.take (x9_1 : Int).toNat) (rd l0 x9_1)).bind fun t278 => (if t278 = true then (some false) else (impl_placesOk.l0 k1 l0 a1 l0 (l0.length : Int) (wrap64 (x9_1 + 1))))) else (none)) = some r := by rw [if_pos rfl] at H; exact H
       clear H
       have H := H1
       clear H1
       have c8b0 := zbn (zap (by first | (with_reducible assumption) | assumption) : 0 ≤ x9_1)
       by_cases c9 : x9_1 ≤ (l0.length : Int)
       ·rw [if_pos c9] at H
        have c9b0 := zbn c9
        have c9b1 : decide (x9_1 ≤ (l0.length : Int)) = true := zax c9
        clear c9
        replace H := zam.mp H
        obtain ⟨t278, A100, H⟩ := H
        try dsimp only at H
        have A10 := Aside0.mk A100
        clear A100
        by_cases c11 : t278 = true
        ·subst c11
         have H1 : (some false) = some r := by rw [if_pos rfl] at H; exact H
         clear H
         have H := H1
         clear H1
         obtain rfl := Option.some.inj H
         have p275 : 0 ≤ (x9_1 : Int) := zap (by first | (with_reducible assumption) | assumption)
         have q275 : x9_1 < (l0.length : Int) := zap (by first | (with_reducible assumption) | assumption)
         obtain ⟨ad275, e275, hx275_0⟩ := zca HR0.out x9_1 p275 q275
         cases e275
         replace p275 := zbn p275
         replace q275 := zbn q275
         go_wp2_with (first | ((with_reducible refine zau (f := 46) rfl ?_); refine goesL_ (some 17) rfl rfl Try.func46 (by kernel_rfl) rfl #[.int .i64 (rd l0 x9_1), .int .i64 0, .int .i64 (wrap64 (a1 - 1))] rfl (by (try simp only [zal, zaq, zar]); first | done | rfl) ?_; (with_reducible refine (impl_in.calls (rd l0 x9_1) 0 (wrap64 (a1 - 1)) true _ A6.out).mono ?_); rintro e w' ⟨rfl, ⟨nd, rfl⟩⟩; refine ⟨_, rfl, ?_⟩; obtain ⟨i012, hi012, _, hsz12, _⟩ := info_parts info3; obtain ⟨hcut12, hA12, hC12⟩ := print_take_of (P := Try.prog) (Value.int .i64) 0 33 3 .i64 Try.underlying33 hi012 hsz12 (some ad275) c0 l0 x9_1 (zap (by first | (with_reducible assumption) | assumption)) (zap (by first | (with_reducible assumption) | assumption)) HC0.out; have HR277 := Aside0.mk (zem (h1 := fun _ => rfl) (hA12 _ (Kd.reads_of_C HR0.out))); have HC277 := Aside0.mk hC12; clear hA12 hC12 hi012 hsz12) | (go_at_call 62; (try rw [show x9_1.toNat = (l0.take x9_1.toNat).length from (by rw [zbi, zcm (zda.mpr (zdl (by assumption)))])]); (with_reducible refine (slices_Contains_int_int.calls k1 _ _ (l0.take (x9_1 : Int).toNat) (rd l0 x9_1) true _ ?side1 ?side2 A10.out).mono ?_); (case side1 => repeat (first | exact HR277.out | (with_reducible first | apply zas | apply zat | apply zaw))); (case side2 => exact HC277.out); rintro e w' ⟨rfl, ⟨nd, rfl⟩⟩))
         go_ret
         exact ⟨by first | rfl | (simp; done) | (simp [*]; done), by repeat (first | exact Drawn0.refl _ | apply Drawn0.step)⟩
        ·replace c11 := zbu.mpr c11
         subst c11
         have H1 : (impl_placesOk.l0 k1 l0 a1 l0 (l0.length : Int) (wrap64 (x9_1 + 1))) = some r := by rw [if_neg (show ¬ (false = true) by decide)] at H; exact H
         clear H
         have H := H1
         clear H1
         have H' := Aside0.mk H
         clear H
         have p275 : 0 ≤ (x9_1 : Int) := zap (by first | (with_reducible assumption) | assumption)
         have q275 : x9_1 < (l0.length : Int) := zap (by first | (with_reducible assumption) | assumption)
         obtain ⟨ad275, e275, hx275_0⟩ := zca HR0.out x9_1 p275 q275
         cases e275
         replace p275 := zbn p275
         replace q275 := zbn q275
         go_wp2_with (first | ((with_reducible refine zau (f := 46) rfl ?_); refine goesL_ (some 17) rfl rfl Try.func46 (by kernel_rfl) rfl #[.int .i64 (rd l0 x9_1), .int .i64 0, .int .i64 (wrap64 (a1 - 1))] rfl (by (try simp only [zal, zaq, zar]); first | done | rfl) ?_; (with_reducible refine (impl_in.calls (rd l0 x9_1) 0 (wrap64 (a1 - 1)) true _ A6.out).mono ?_); rintro e w' ⟨rfl, ⟨nd, rfl⟩⟩; refine ⟨_, rfl, ?_⟩; obtain ⟨i013, hi013, _, hsz13, _⟩ := info_parts info3; obtain ⟨hcut13, hA13, hC13⟩ := print_take_of (P := Try.prog) (Value.int .i64) 0 33 3 .i64 Try.underlying33 hi013 hsz13 (some ad275) c0 l0 x9_1 (zap (by first | (with_reducible assumption) | assumption)) (zap (by first | (with_reducible assumption) | assumption)) HC0.out; have HR277 := Aside0.mk (zem (h1 := fun _ => rfl) (hA13 _ (Kd.reads_of_C HR0.out))); have HC277 := Aside0.mk hC13; clear hA13 hC13 hi013 hsz13) | (go_at_call 62; (try rw [show x9_1.toNat = (l0.take x9_1.toNat).length from (by rw [zbi, zcm (zda.mpr (zdl (by assumption)))])]); (with_reducible refine (slices_Contains_int_int.calls k1 _ _ (l0.take (x9_1 : Int).toNat) (rd l0 x9_1) false _ ?side1 ?side2 A10.out).mono ?_); (case side1 => repeat (first | exact HR277.out | (with_reducible first | apply zas | apply zat | apply zaw))); (case side2 => exact HC277.out); rintro e w' ⟨rfl, ⟨nd, rfl⟩⟩))
         go_roundg k1
         case measure => have := HK1.out; omega
         case rel => exact ⟨(wrap64 (x9_1 + 1)), (by first | rfl | (simp; done) | (simp [*]; done)), H', ⟨by have := HK1.out; omega⟩, by repeat (first | exact Drawn0.refl _ | apply Drawn0.step)⟩
       ·rw [if_neg c9] at H
        exact absurd H (by simp)
      ·replace c7 := zbu.mpr c7
       subst c7
       have H1 : (some false) = some r := by rw [if_neg (show ¬ (false = true) by decide)] at H; exact H
       clear H
       have H := H1
       clear H1
       obtain rfl := Option.some.inj H
       have p275 : 0 ≤ (x9_1 : Int) := zap (by first | (with_reducible assumption) | assumption)
       have q275 : x9_1 < (l0.length : Int) := zap (by first | (with_reducible assumption) | assumption)
       obtain ⟨ad275, e275, hx275_0⟩ := zca HR0.out x9_1 p275 q275
       cases e275
       replace p275 := zbn p275
       replace q275 := zbn q275
       go_wp2_with (first | ((with_reducible refine zau (f := 46) rfl ?_); refine goesL_ (some 17) rfl rfl Try.func46 (by kernel_rfl) rfl #[.int .i64 (rd l0 x9_1), .int .i64 0, .int .i64 (wrap64 (a1 - 1))] rfl (by (try simp only [zal, zaq, zar]); first | done | rfl) ?_; (with_reducible refine (impl_in.calls (rd l0 x9_1) 0 (wrap64 (a1 - 1)) false _ A6.out).mono ?_); rintro e w' ⟨rfl, ⟨nd, rfl⟩⟩; refine ⟨_, rfl, ?_⟩))
       go_ret
       exact ⟨by first | rfl | (simp; done) | (simp [*]; done), by repeat (first | exact Drawn0.refl _ | apply Drawn0.step)⟩
     ·rw [if_neg c5] at H
      exact absurd H (by simp)
    ·rw [if_neg c4] at H
     exact absurd H (by simp)
   ·rw [if_neg c3] at H
    have c3b0 : decide (x9_1 < (l0.length : Int)) = false := zbq c3
    clear c3
    obtain rfl := Option.some.inj H
    go_wp2
    go_ret
    exact ⟨by first | rfl | (simp; done) | (simp [*]; done), by repeat (first | exact Drawn0.refl _ | apply Drawn0.step)⟩
def impl_Turn.f (a0 : Int) (a1 : Int) : Option (Int) := (impl_Word.f a0).bind fun t279 => (if 0 ≤ (Go.bits .and .i64 a1 31) then (if 0 ≤ (wrap64 (32 - (Go.bits .and .i64 a1 31))) then ((impl_Word.f (Go.bits .or .i64 (shl .i64 t279 (Go.bits .and .i64 a1 31)) (shr .i64 t279 (wrap64 (32 - (Go.bits .and .i64 a1 31)))))).bind fun t280 => (some t280)) else (none)) else (none))
set_option maxHeartbeats 8000000 in
set_option maxRecDepth 100000 in
theorem impl_Turn.calls (a0 : Int) (a1 : Int) (r : Int) (w : World) (h : impl_Turn.f a0 a1 = some r) :
  Calls Try.prog 63 #[.int .i64 a0, .int .i64 a1] w fun e w' => e = .returned (.int .i64 r) ∧ Drawn0 w w' := by
 have H : ((impl_Word.f a0).bind fun t279 => (if 0 ≤ (Go.bits .and .i64 a1 31) then (if 0 ≤ (wrap64 (32 - (Go.bits .and .i64 a1 31))) then ((impl_Word.f (Go.bits .or .i64 (shl .i64 t279 (Go.bits .and .i64 a1 31)) (shr .i64 t279 (wrap64 (32 - (Go.bits .and .i64 a1 31)))))).bind fun t280 => (some t280)) else (none)) else (none))) = some r := h
 clear h
 replace H := zam.mp H
 obtain ⟨t279, A30, H⟩ := H
 try dsimp only at H
 have A3 := Aside0.mk A30
 clear A30
 by_cases c4 : 0 ≤ (Go.bits .and .i64 a1 31)
 ·rw [if_pos c4] at H
  have c4b0 := zbn c4
  have c4b1 : decide (0 ≤ (Go.bits .and .i64 a1 31)) = true := zax c4
  clear c4
  obtain ⟨ji5, hji5⟩ : ∃ j_ : Int, (shl .i64 t279 (Go.bits .and .i64 a1 31)) = j_ := ⟨_, rfl⟩
  replace H : (if 0 ≤ (wrap64 (32 - (Go.bits .and .i64 a1 31))) then ((impl_Word.f (Go.bits .or .i64 (ji5) (shr .i64 t279 (wrap64 (32 - (Go.bits .and .i64 a1 31)))))).bind fun t280 => (some t280)) else (none)) = some r := by first | (rw [hji5] at H; exact H) | (simp only [hji5] at H ⊢; exact H)
  (try rw [hji5] at A3)
  have hji5_ : (IntKind.i64.wrap (t279 * 2 ^ min (Go.bits .and .i64 a1 31).toNat 64)) = ji5 := hji5
  have hji5z : (Go.bits .and .i64 a1 31) ≤ 64 → (IntKind.i64.wrap (t279 * 2 ^ (Go.bits .and .i64 a1 31).toNat)) = ji5 := shl_small hji5
  have hji5y : (wrap64 (t279 * 2 ^ min (Go.bits .and .i64 a1 31).toNat 64)) = ji5 := (i64_w _).symm.trans hji5_
  have hji5x : (Go.bits .and .i64 a1 31) ≤ 64 → (wrap64 (t279 * 2 ^ (Go.bits .and .i64 a1 31).toNat)) = ji5 := fun h_ => (i64_w _).symm.trans (hji5z h_)
  obtain ⟨ji6, hji6⟩ : ∃ j_ : Int, (wrap64 (32 - (Go.bits .and .i64 a1 31))) = j_ := ⟨_, rfl⟩
  replace H : (if 0 ≤ (ji6) then ((impl_Word.f (Go.bits .or .i64 (ji5) (shr .i64 t279 (ji6)))).bind fun t280 => (some t280)) else (none)) = some r := by first | (rw [hji6] at H; exact H) | (simp only [hji6] at H ⊢; exact H)
  (try rw [hji6] at A3)
  have hji6w : (IntKind.i64.wrap (32 - (Go.bits .and .i64 a1 31))) = ji6 := (i64_w _).trans hji6
  by_cases c7 : 0 ≤ (ji6)
  ·rw [if_pos c7] at H
   have c7b0 := zbn c7
   have c7b1 : decide (0 ≤ (ji6)) = true := zax c7
   clear c7
   obtain ⟨ji8, hji8⟩ : ∃ j_ : Int, (shr .i64 t279 (ji6)) = j_ := ⟨_, rfl⟩
   replace H : ((impl_Word.f (Go.bits .or .i64 (ji5) (ji8))).bind fun t280 => (some t280)) = some r := by first | (rw [hji8] at H; exact H) | (simp only [hji8] at H ⊢; exact H)
   (try rw [hji8] at A3)
   have hji8_ : (t279 / 2 ^ min (ji6).toNat 64) = ji8 := hji8
   have hji8z : (ji6) ≤ 64 → (t279 / 2 ^ (ji6).toNat) = ji8 := shr_small hji8
   replace H := zam.mp H
   obtain ⟨t280, A90, H⟩ := H
   try dsimp only at H
   have A9 := Aside0.mk A90
   clear A90
   obtain rfl := Option.some.inj H
   go_enter Try.func63, Try.ntmps63
   go_wp2_with (first | (go_at_call 49; (with_reducible refine (impl_Word.calls a0 t279 _ A3.out).mono ?_); rintro e w' ⟨rfl, ⟨nd, rfl⟩⟩; (try first | exact ⟨rfl, _, zcl _ _ _⟩ | exact ⟨rfl, _, Eq.trans (zcl _ _ _) (congrArg (World.drewN _) (zek _ _ _))⟩)) | (go_at_call 49; (with_reducible refine (impl_Word.calls (Go.bits .or .i64 (ji5) (ji8)) t280 _ A9.out).mono ?_); rintro e w' ⟨rfl, ⟨nd, rfl⟩⟩; (try first | exact ⟨rfl, _, zcl _ _ _⟩ | exact ⟨rfl, _, Eq.trans (zcl _ _ _) (congrArg (World.drewN _) (zek _ _ _))⟩)))
   repeat (go_quiet (first | (go_at_call 49; (with_reducible refine (impl_Word.calls a0 t279 _ A3.out).mono ?_); rintro e w' ⟨rfl, ⟨nd, rfl⟩⟩; (try first | exact ⟨rfl, _, zcl _ _ _⟩ | exact ⟨rfl, _, Eq.trans (zcl _ _ _) (congrArg (World.drewN _) (zek _ _ _))⟩)) | (go_at_call 49; (with_reducible refine (impl_Word.calls (Go.bits .or .i64 (ji5) (ji8)) t280 _ A9.out).mono ?_); rintro e w' ⟨rfl, ⟨nd, rfl⟩⟩; (try first | exact ⟨rfl, _, zcl _ _ _⟩ | exact ⟨rfl, _, Eq.trans (zcl _ _ _) (congrArg (World.drewN _) (zek _ _ _))⟩))); try go_wp2_with (first | (go_at_call 49; (with_reducible refine (impl_Word.calls a0 t279 _ A3.out).mono ?_); rintro e w' ⟨rfl, ⟨nd, rfl⟩⟩; (try first | exact ⟨rfl, _, zcl _ _ _⟩ | exact ⟨rfl, _, Eq.trans (zcl _ _ _) (congrArg (World.drewN _) (zek _ _ _))⟩)) | (go_at_call 49; (with_reducible refine (impl_Word.calls (Go.bits .or .i64 (ji5) (ji8)) t280 _ A9.out).mono ?_); rintro e w' ⟨rfl, ⟨nd, rfl⟩⟩; (try first | exact ⟨rfl, _, zcl _ _ _⟩ | exact ⟨rfl, _, Eq.trans (zcl _ _ _) (congrArg (World.drewN _) (zek _ _ _))⟩))))
   go_ret
   exact ⟨by first | rfl | (simp; done) | (simp only [← hji5, ← hji6, ← hji8] <;> (first | rfl | simp)) | (simp [*]; done), by repeat (first | exact Drawn0.refl _ | apply Drawn0.step)⟩
  ·rw [if_neg c7] at H
   exact absurd H (by simp)
 ·rw [if_neg c4] at H
  exact absurd H (by simp)
end Go.Proofs.Ytdineaebljpfaaa.P
