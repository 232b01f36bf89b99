import Derived.Test.Ytienlgcjohpphaas23
namespace Go.Proofs.Ytienlgcjohpphaa.P
open Go.RowKit Go.Proofs.YtienlgcjohpphaaW.PrintWords Go.Proofs.YtienlgcjohpphaaW.PrintLast Go.Proofs.YtienlgcjohpphaaW.PrintMore
attribute [local go_sem] zcx zcy zdl zdm zcm zcn zcz zda   -- for this text's walks alone
set_option linter.unusedVariables false
set_option linter.unusedSimpArgs false

def impl_mixed.f (a0 : Int) (a1 : Int) (a2 : Int) (a3 : Int) (a4 : Bool) : Option (Int) := (impl_Turn.f a0 (wrap64 (-a3))).bind fun t201 => (if a4 = true then (if 0 ≤ a3 then ((impl_Turn.f a0 (wrap64 (-a1))).bind fun t202 => ((impl_Turn.f a0 (wrap64 (-a2))).bind fun t203 => (some (Go.bits .xor .i64 (Go.bits .xor .i64 t202 t203) (shr .i64 a0 a3))))) else (none)) else ((impl_Turn.f a0 (wrap64 (-a1))).bind fun t204 => ((impl_Turn.f a0 (wrap64 (-a2))).bind fun t205 => (some (Go.bits .xor .i64 (Go.bits .xor .i64 t204 t205) t201)))))
set_option maxHeartbeats 8000000 in
set_option maxRecDepth 100000 in
theorem impl_mixed.calls (a0 : Int) (a1 : Int) (a2 : Int) (a3 : Int) (a4 : Bool) (r : Int) (w : World) (h : impl_mixed.f a0 a1 a2 a3 a4 = some r) :
  Calls Try.prog 74 #[.int .i64 a0, .int .i64 a1, .int .i64 a2, .int .i64 a3, .bool a4] w fun e w' => e = .returned (.int .i64 r) ∧ Drawn0 w w' := by
 have H : ((impl_Turn.f a0 (wrap64 (-a3))).bind fun t201 => (if a4 = true then (if 0 ≤ a3 then ((impl_Turn.f a0 (wrap64 (-a1))).bind fun t202 => ((impl_Turn.f a0 (wrap64 (-a2))).bind fun t203 => (some (Go.bits .xor .i64 (Go.bits .xor .i64 t202 t203) (shr .i64 a0 a3))))) else (none)) else ((impl_Turn.f a0 (wrap64 (-a1))).bind fun t204 => ((impl_Turn.f a0 (wrap64 (-a2))).bind fun t205 => (some (Go.bits .xor .i64 (Go.bits .xor .i64 t204 t205) t201)))))) = some r := h
 clear h
 replace H := zal.mp H
 obtain ⟨t201, A60, H⟩ := H
 replace H : (if a4 = true then (if 0 ≤ a3 then ((impl_Turn.f a0 (wrap64 (-a1))).bind fun t202 => ((impl_Turn.f a0 (wrap64 (-a2))).bind fun t203 => (some (Go.bits .xor .i64 (Go.bits .xor .i64 t202 t203) (shr .i64 a0 a3))))) else (none)) else ((impl_Turn.f a0 (wrap64 (-a1))).bind fun t204 => ((impl_Turn.f a0 (wrap64 (-a2))).bind fun t205 => (some (Go.bits .xor .i64 (Go.bits .xor .i64 t204 t205) t201))))) = some r := H
 have A6 := Aside0.mk A60
 clear A60
 by_cases c7 : a4 = true
 ·subst c7
  have H1 : (if 0 ≤ a3 then ((impl_Turn.f a0 (wrap64 (-a1))).bind fun t202 => ((impl_Turn.f a0 (wrap64 (-a2))).bind fun t203 => (some (Go.bits .xor .i64 (Go.bits .xor .i64 t202 t203) (shr .i64 a0 a3))))) else (none)) = some r := by rw [if_pos rfl] at H; exact H
  clear H
  have H := H1
  clear H1
  by_cases c8 : 0 ≤ a3
  ·rw [if_pos c8] at H
   have c8b0 := zbk c8
   have c8b1 : decide (0 ≤ a3) = true := zap c8
   clear c8
   obtain ⟨ji9, hji9⟩ : ∃ j_ : Int, (shr .i64 a0 a3) = j_ := ⟨_, rfl⟩
   replace H : ((impl_Turn.f a0 (wrap64 (-a1))).bind fun t202 => ((impl_Turn.f a0 (wrap64 (-a2))).bind fun t203 => (some (Go.bits .xor .i64 (Go.bits .xor .i64 t202 t203) (ji9))))) = some r := by first | (rw [hji9] at H; exact H) | (simp only [hji9] at H ⊢; exact H)
   (try rw [hji9] at A6)
   have hji9_ : (a0 / 2 ^ min a3.toNat 64) = ji9 := hji9
   have hji9z : a3 ≤ 64 → (a0 / 2 ^ a3.toNat) = ji9 := shr_small hji9
   replace H := zal.mp H
   obtain ⟨t202, A100, H⟩ := H
   replace H : ((impl_Turn.f a0 (wrap64 (-a2))).bind fun t203 => (some (Go.bits .xor .i64 (Go.bits .xor .i64 t202 t203) (ji9)))) = some r := H
   have A10 := Aside0.mk A100
   clear A100
   replace H := zal.mp H
   obtain ⟨t203, A110, H⟩ := H
   replace H : (some (Go.bits .xor .i64 (Go.bits .xor .i64 t202 t203) (ji9))) = some r := H
   have A11 := Aside0.mk A110
   clear A110
   obtain rfl := Option.some.inj H
   go_enter Try.func74, Try.ntmps74
   go_wp2_with (first | ((with_reducible refine zax (f := 103) rfl ?_); refine goesL_ (some 15) rfl rfl Try.func103 (by kernel_rfl) rfl #[.int .i64 a0, .int .i64 (wrap64 (-a3))] rfl (by (try simp only [zan, zar, zav]); first | done | rfl | (simp only [zah, zag]; rfl) | (simp only [zah, zag]; rw [zat (zay.mpr (zbg (by assumption)))])) ?_; (with_reducible refine (impl_Turn.calls a0 (wrap64 (-a3)) t201 _ A6.out).mono ?_); rintro e w' ⟨rfl, ⟨nd, rfl⟩⟩; refine ⟨_, rfl, ?_⟩) | ((with_reducible refine zax (f := 103) rfl ?_); refine goesL_ (some 23) rfl rfl Try.func103 (by kernel_rfl) rfl #[.int .i64 a0, .int .i64 (wrap64 (-a1))] rfl (by (try simp only [zan, zar, zav]); first | done | rfl | (simp only [zah, zag]; rfl) | (simp only [zah, zag]; rw [zat (zay.mpr (zbg (by assumption)))])) ?_; (with_reducible refine (impl_Turn.calls a0 (wrap64 (-a1)) t202 _ A10.out).mono ?_); rintro e w' ⟨rfl, ⟨nd, rfl⟩⟩; refine ⟨_, rfl, ?_⟩) | ((with_reducible refine zax (f := 103) rfl ?_); refine goesL_ (some 27) rfl rfl Try.func103 (by kernel_rfl) rfl #[.int .i64 a0, .int .i64 (wrap64 (-a2))] rfl (by (try simp only [zan, zar, zav]); first | done | rfl | (simp only [zah, zag]; rfl) | (simp only [zah, zag]; rw [zat (zay.mpr (zbg (by assumption)))])) ?_; (with_reducible refine (impl_Turn.calls a0 (wrap64 (-a2)) t203 _ A11.out).mono ?_); rintro e w' ⟨rfl, ⟨nd, rfl⟩⟩; refine ⟨_, rfl, ?_⟩))
   go_ret
   exact ⟨by first | rfl | (simp; done) | (simp only [← hji9] <;> (first | rfl | simp)) | (simp [*]; done), by repeat (first | exact Drawn0.refl _ | apply Drawn0.step)⟩
  ·rw [if_neg c8] at H
   exact absurd H (by simp)
 ·replace c7 := zcu.mpr c7
  subst c7
  have H1 : ((impl_Turn.f a0 (wrap64 (-a1))).bind fun t204 => ((impl_Turn.f a0 (wrap64 (-a2))).bind fun t205 => (some (Go.bits .xor .i64 (Go.bits .xor .i64 t204 t205) t201)))) = some r := by rw [if_neg (show ¬ (false = true) by decide)] at H; exact H
  clear H
  have H := H1
  clear H1
  replace H := zal.mp H
  obtain ⟨t204, A120, H⟩ := H
  replace H : ((impl_Turn.f a0 (wrap64 (-a2))).bind fun t205 => (some (Go.bits .xor .i64 (Go.bits .xor .i64 t204 t205) t201))) = some r := H
  have A12 := Aside0.mk A120
  clear A120
  replace H := zal.mp H
  obtain ⟨t205, A130, H⟩ := H
  replace H : (some (Go.bits .xor .i64 (Go.bits .xor .i64 t204 t205) t201)) = some r := H
  have A13 := Aside0.mk A130
  clear A130
  obtain rfl := Option.some.inj H
  go_enter Try.func74, Try.ntmps74
  go_wp2_with (first | ((with_reducible refine zax (f := 103) rfl ?_); refine goesL_ (some 15) rfl rfl Try.func103 (by kernel_rfl) rfl #[.int .i64 a0, .int .i64 (wrap64 (-a3))] rfl (by (try simp only [zan, zar, zav]); first | done | rfl | (simp only [zah, zag]; rfl) | (simp only [zah, zag]; rw [zat (zay.mpr (zbg (by assumption)))])) ?_; (with_reducible refine (impl_Turn.calls a0 (wrap64 (-a3)) t201 _ A6.out).mono ?_); rintro e w' ⟨rfl, ⟨nd, rfl⟩⟩; refine ⟨_, rfl, ?_⟩) | ((with_reducible refine zax (f := 103) rfl ?_); refine goesL_ (some 23) rfl rfl Try.func103 (by kernel_rfl) rfl #[.int .i64 a0, .int .i64 (wrap64 (-a1))] rfl (by (try simp only [zan, zar, zav]); first | done | rfl | (simp only [zah, zag]; rfl) | (simp only [zah, zag]; rw [zat (zay.mpr (zbg (by assumption)))])) ?_; (with_reducible refine (impl_Turn.calls a0 (wrap64 (-a1)) t204 _ A12.out).mono ?_); rintro e w' ⟨rfl, ⟨nd, rfl⟩⟩; refine ⟨_, rfl, ?_⟩) | ((with_reducible refine zax (f := 103) rfl ?_); refine goesL_ (some 27) rfl rfl Try.func103 (by kernel_rfl) rfl #[.int .i64 a0, .int .i64 (wrap64 (-a2))] rfl (by (try simp only [zan, zar, zav]); first | done | rfl | (simp only [zah, zag]; rfl) | (simp only [zah, zag]; rw [zat (zay.mpr (zbg (by assumption)))])) ?_; (with_reducible refine (impl_Turn.calls a0 (wrap64 (-a2)) t205 _ A13.out).mono ?_); rintro e w' ⟨rfl, ⟨nd, rfl⟩⟩; refine ⟨_, rfl, ?_⟩))
  go_ret
  exact ⟨by first | rfl | (simp; done) | (simp [*]; done), by repeat (first | exact Drawn0.refl _ | apply Drawn0.step)⟩
def impl_wordOf.f (l0 : List Int) (a1 : Bool) : Option (Int) := if a1 = true then (if 0 < (l0.length : Int) then (if 1 < (l0.length : Int) then (if 2 < (l0.length : Int) then (if 3 < (l0.length : Int) then (some (Go.bits .or .i64 (Go.bits .or .i64 (Go.bits .or .i64 (wrap64 ((wrap64 (rd l0 0)) * 16777216)) (wrap64 ((wrap64 (rd l0 1)) * 65536))) (wrap64 ((wrap64 (rd l0 2)) * 256))) (wrap64 (rd l0 3)))) else (none)) else (none)) else (none)) else (none)) else (if 3 < (l0.length : Int) then (if 2 < (l0.length : Int) then (if 1 < (l0.length : Int) then (if 0 < (l0.length : Int) then (some (Go.bits .or .i64 (Go.bits .or .i64 (Go.bits .or .i64 (wrap64 ((wrap64 (rd l0 3)) * 16777216)) (wrap64 ((wrap64 (rd l0 2)) * 65536))) (wrap64 ((wrap64 (rd l0 1)) * 256))) (wrap64 (rd l0 0)))) else (none)) else (none)) else (none)) else (none))
set_option maxHeartbeats 8000000 in
set_option maxRecDepth 100000 in
theorem impl_wordOf.calls (A0 : Option Addr) (c0 : Nat) (l0 : List Int) (a1 : Bool) (r : Int) (w : World) (hr0 : Kd.C (Kd.int .u8) w A0 l0.length l0) (hc0 : l0.length ≤ c0) (h : impl_wordOf.f l0 a1 = some r) :
  Calls Try.prog 113 #[.slice A0 l0.length c0, .bool a1] w fun e w' => e = .returned (.int .i64 r) ∧ Drawn0 w w' := by
 have HR0 := Aside0.mk hr0
 have HC0 := Aside0.mk hc0
 clear hr0 hc0
 have H : (if a1 = true then (if 0 < (l0.length : Int) then (if 1 < (l0.length : Int) then (if 2 < (l0.length : Int) then (if 3 < (l0.length : Int) then (some (Go.bits .or .i64 (Go.bits .or .i64 (Go.bits .or .i64 (wrap64 ((wrap64 (rd l0 0)) * 16777216)) (wrap64 ((wrap64 (rd l0 1)) * 65536))) (wrap64 ((wrap64 (rd l0 2)) * 256))) (wrap64 (rd l0 3)))) else (none)) else (none)) else (none)) else (none)) else (if 3 < (l0.length : Int) then (if 2 < (l0.length : Int) then (if 1 < (l0.length : Int) then (if 0 < (l0.length : Int) then (some (Go.bits .or .i64 (Go.bits .or .i64 (Go.bits .or .i64 (wrap64 ((wrap64 (rd l0 3)) * 16777216)) (wrap64 ((wrap64 (rd l0 2)) * 65536))) (wrap64 ((wrap64 (rd l0 1)) * 256))) (wrap64 (rd l0 0)))) else (none)) else (none)) else (none)) else (none))) = some r := h
 clear h
 by_cases c3 : a1 = true
 ·subst c3
  have H1 : (if 0 < (l0.length : Int) then (if 1 < (l0.length : Int) then (if 2 < (l0.length : Int) then (if 3 < (l0.length : Int) then (some (Go.bits .or .i64 (Go.bits .or .i64 (Go.bits .or .i64 (wrap64 ((wrap64 (rd l0 0)) * 16777216)) (wrap64 ((wrap64 (rd l0 1)) * 65536))) (wrap64 ((wrap64 (rd l0 2)) * 256))) (wrap64 (rd l0 3)))) else (none)) else (none)) else (none)) else (none)) = some r := by rw [if_pos rfl] at H; exact H
  clear H
  have H := H1
  clear H1
  by_cases c4 : 0 < (l0.length : Int)
  ·rw [if_pos c4] at H
   have c4b0 : decide (0 < (l0.length : Int)) = true := zap c4
   have c4b1 : decide (0 < l0.length) = true := zap (by omega)
   clear c4
   by_cases c5 : 1 < (l0.length : Int)
   ·rw [if_pos c5] at H
    have c5b0 : decide (1 < (l0.length : Int)) = true := zap c5
    have c5b1 : decide (1 < l0.length) = true := zap (by omega)
    clear c5
    by_cases c6 : 2 < (l0.length : Int)
    ·rw [if_pos c6] at H
     have c6b0 : decide (2 < (l0.length : Int)) = true := zap c6
     have c6b1 : decide (2 < l0.length) = true := zap (by omega)
     clear c6
     by_cases c7 : 3 < (l0.length : Int)
     ·rw [if_pos c7] at H
      have c7b0 : decide (3 < (l0.length : Int)) = true := zap c7
      have c7b1 : decide (3 < l0.length) = true := zap (by omega)
      clear c7
      obtain rfl := Option.some.inj H
      have p206 : 0 ≤ (0 : Int) := (by omega)
      have q206 : 0 < (l0.length : Int) := zaq (by first | (with_reducible assumption) | assumption)
      obtain ⟨ad206, e206, hx206_0⟩ := zcg HR0.out 0 p206 q206
      cases e206
      have qi206 : (0 < l0.length) = True := zbk (by omega)
      (try rw [show ((0 : Int)).toNat = 0 from rfl] at hx206_0)
      (try rw [Addr.add_zero'] at hx206_0)
      replace p206 := zbk p206
      replace q206 := zbk q206
      have p207 : 0 ≤ (1 : Int) := (by omega)
      have q207 : 1 < (l0.length : Int) := zaq (by first | (with_reducible assumption) | assumption)
      obtain ⟨ad207, e207, hx207_0⟩ := zcg HR0.out 1 p207 q207
      obtain rfl : ad206 = ad207 := (by injection e207)
      (try simp only [show (1 : Int).toNat = 1 from rfl, Nat.reduceMul, Nat.reduceEqDiff, Go.Addr.add, ↓reduceIte] at hx207_0)
      have qi207 : (1 < l0.length) = True := zbk (by omega)
      (try rw [show ((1 : Int)).toNat = 1 from rfl] at hx207_0)
      replace p207 := zbk p207
      replace q207 := zbk q207
      have p208 : 0 ≤ (2 : Int) := (by omega)
      have q208 : 2 < (l0.length : Int) := zaq (by first | (with_reducible assumption) | assumption)
      obtain ⟨ad208, e208, hx208_0⟩ := zcg HR0.out 2 p208 q208
      obtain rfl : ad206 = ad208 := (by injection e208)
      (try simp only [show (2 : Int).toNat = 2 from rfl, Nat.reduceMul, Nat.reduceEqDiff, Go.Addr.add, ↓reduceIte] at hx208_0)
      have qi208 : (2 < l0.length) = True := zbk (by omega)
      (try rw [show ((2 : Int)).toNat = 2 from rfl] at hx208_0)
      replace p208 := zbk p208
      replace q208 := zbk q208
      have p209 : 0 ≤ (3 : Int) := (by omega)
      have q209 : 3 < (l0.length : Int) := zaq (by first | (with_reducible assumption) | assumption)
      obtain ⟨ad209, e209, hx209_0⟩ := zcg HR0.out 3 p209 q209
      obtain rfl : ad206 = ad209 := (by injection e209)
      (try simp only [show (3 : Int).toNat = 3 from rfl, Nat.reduceMul, Nat.reduceEqDiff, Go.Addr.add, ↓reduceIte] at hx209_0)
      have qi209 : (3 < l0.length) = True := zbk (by omega)
      (try rw [show ((3 : Int)).toNat = 3 from rfl] at hx209_0)
      replace p209 := zbk p209
      replace q209 := zbk q209
      go_enter Try.func113, Try.ntmps113
      go_wp2
      repeat (go_quiet (fail); try go_wp2)
      go_ret
      exact ⟨by first | rfl | (simp; done) | (simp [*]; done), by repeat (first | exact Drawn0.refl _ | apply Drawn0.step)⟩
     ·rw [if_neg c7] at H
      exact absurd H (by simp)
    ·rw [if_neg c6] at H
     exact absurd H (by simp)
   ·rw [if_neg c5] at H
    exact absurd H (by simp)
  ·rw [if_neg c4] at H
   exact absurd H (by simp)
 ·replace c3 := zcu.mpr c3
  subst c3
  have H1 : (if 3 < (l0.length : Int) then (if 2 < (l0.length : Int) then (if 1 < (l0.length : Int) then (if 0 < (l0.length : Int) then (some (Go.bits .or .i64 (Go.bits .or .i64 (Go.bits .or .i64 (wrap64 ((wrap64 (rd l0 3)) * 16777216)) (wrap64 ((wrap64 (rd l0 2)) * 65536))) (wrap64 ((wrap64 (rd l0 1)) * 256))) (wrap64 (rd l0 0)))) else (none)) else (none)) else (none)) else (none)) = some r := by rw [if_neg (show ¬ (false = true) by decide)] at H; exact H
  clear H
  have H := H1
  clear H1
  by_cases c8 : 3 < (l0.length : Int)
  ·rw [if_pos c8] at H
   have c8b0 : decide (3 < (l0.length : Int)) = true := zap c8
   have c8b1 : decide (3 < l0.length) = true := zap (by omega)
   clear c8
   by_cases c9 : 2 < (l0.length : Int)
   ·rw [if_pos c9] at H
    have c9b0 : decide (2 < (l0.length : Int)) = true := zap c9
    have c9b1 : decide (2 < l0.length) = true := zap (by omega)
    clear c9
    by_cases c10 : 1 < (l0.length : Int)
    ·rw [if_pos c10] at H
     have c10b0 : decide (1 < (l0.length : Int)) = true := zap c10
     have c10b1 : decide (1 < l0.length) = true := zap (by omega)
     clear c10
     by_cases c11 : 0 < (l0.length : Int)
     ·rw [if_pos c11] at H
      have c11b0 : decide (0 < (l0.length : Int)) = true := zap c11
      have c11b1 : decide (0 < l0.length) = true := zap (by omega)
      clear c11
      obtain rfl := Option.some.inj H
      have p210 : 0 ≤ (3 : Int) := (by omega)
      have q210 : 3 < (l0.length : Int) := zaq (by first | (with_reducible assumption) | assumption)
      obtain ⟨ad210, e210, hx210_0⟩ := zcg HR0.out 3 p210 q210
      cases e210
      (try simp only [show (3 : Int).toNat = 3 from rfl, Nat.reduceMul, Nat.reduceEqDiff, Go.Addr.add, ↓reduceIte] at hx210_0)
      have qi210 : (3 < l0.length) = True := zbk (by omega)
      (try rw [show ((3 : Int)).toNat = 3 from rfl] at hx210_0)
      replace p210 := zbk p210
      replace q210 := zbk q210
      have p211 : 0 ≤ (2 : Int) := (by omega)
      have q211 : 2 < (l0.length : Int) := zaq (by first | (with_reducible assumption) | assumption)
      obtain ⟨ad211, e211, hx211_0⟩ := zcg HR0.out 2 p211 q211
      obtain rfl : ad210 = ad211 := (by injection e211)
      (try simp only [show (2 : Int).toNat = 2 from rfl, Nat.reduceMul, Nat.reduceEqDiff, Go.Addr.add, ↓reduceIte] at hx211_0)
      have qi211 : (2 < l0.length) = True := zbk (by omega)
      (try rw [show ((2 : Int)).toNat = 2 from rfl] at hx211_0)
      replace p211 := zbk p211
      replace q211 := zbk q211
      have p212 : 0 ≤ (1 : Int) := (by omega)
      have q212 : 1 < (l0.length : Int) := zaq (by first | (with_reducible assumption) | assumption)
      obtain ⟨ad212, e212, hx212_0⟩ := zcg HR0.out 1 p212 q212
      obtain rfl : ad210 = ad212 := (by injection e212)
      (try simp only [show (1 : Int).toNat = 1 from rfl, Nat.reduceMul, Nat.reduceEqDiff, Go.Addr.add, ↓reduceIte] at hx212_0)
      have qi212 : (1 < l0.length) = True := zbk (by omega)
      (try rw [show ((1 : Int)).toNat = 1 from rfl] at hx212_0)
      replace p212 := zbk p212
      replace q212 := zbk q212
      have p213 : 0 ≤ (0 : Int) := (by omega)
      have q213 : 0 < (l0.length : Int) := zaq (by first | (with_reducible assumption) | assumption)
      obtain ⟨ad213, e213, hx213_0⟩ := zcg HR0.out 0 p213 q213
      obtain rfl : ad210 = ad213 := (by injection e213)
      have qi213 : (0 < l0.length) = True := zbk (by omega)
      (try rw [show ((0 : Int)).toNat = 0 from rfl] at hx213_0)
      (try rw [Addr.add_zero'] at hx213_0)
      replace p213 := zbk p213
      replace q213 := zbk q213
      go_enter Try.func113, Try.ntmps113
      go_wp2
      repeat (go_quiet (fail); try go_wp2)
      go_ret
      exact ⟨by first | rfl | (simp; done) | (simp [*]; done), by repeat (first | exact Drawn0.refl _ | apply Drawn0.step)⟩
     ·rw [if_neg c11] at H
      exact absurd H (by simp)
    ·rw [if_neg c10] at H
     exact absurd H (by simp)
   ·rw [if_neg c9] at H
    exact absurd H (by simp)
  ·rw [if_neg c8] at H
   exact absurd H (by simp)
end Go.Proofs.Ytienlgcjohpphaa.P
