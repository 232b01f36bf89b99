import Derived.Test.Ytienlgcjohpphaam7
namespace Go.Proofs.Ytienlgcjohpphaa.P
open Go.RowKit Go.Proofs.YtienlgcjohpphaaW.PrintWords Go.Proofs.YtienlgcjohpphaaW.PrintLast Go.Proofs.YtienlgcjohpphaaW.PrintMore
attribute [local go_sem] zcz zda zdp zdq zcs zct zdb zdc   -- for this text's walks alone
set_option linter.unusedVariables false
set_option linter.unusedSimpArgs false

def spec_l3Mix.f (a0 : Int) (a1 : Int) (a2 : Int) (a3 : Int) (a4 : Bool) : Option (Int) := (spec_Turn.f a0 (wrap64 (32 - a3))).bind fun t103 => (if a4 = true then ((spec_Word.f a0).bind fun t104 => (if 0 ≤ a3 then ((spec_Turn.f a0 (wrap64 (32 - a1))).bind fun t105 => ((spec_Turn.f a0 (wrap64 (32 - a2))).bind fun t106 => (some (Go.bits .xor .i64 (Go.bits .xor .i64 t105 t106) (shr .i64 t104 a3))))) else (none))) else ((spec_Turn.f a0 (wrap64 (32 - a1))).bind fun t107 => ((spec_Turn.f a0 (wrap64 (32 - a2))).bind fun t108 => (some (Go.bits .xor .i64 (Go.bits .xor .i64 t107 t108) t103)))))
set_option maxHeartbeats 8000000 in
set_option maxRecDepth 100000 in
theorem spec_l3Mix.calls (a0 : Int) (a1 : Int) (a2 : Int) (a3 : Int) (a4 : Bool) (r : Int) (w : World) (h : spec_l3Mix.f a0 a1 a2 a3 a4 = some r) :
  Calls Try.prog 70 #[.int .i64 a0, .int .i64 a1, .int .i64 a2, .int .i64 a3, .bool a4] w fun e w' => e = .returned (.int .i64 r) ∧ Drawn0 w w' := by
 have H : ((spec_Turn.f a0 (wrap64 (32 - a3))).bind fun t103 => (if a4 = true then ((spec_Word.f a0).bind fun t104 => (if 0 ≤ a3 then ((spec_Turn.f a0 (wrap64 (32 - a1))).bind fun t105 => ((spec_Turn.f a0 (wrap64 (32 - a2))).bind fun t106 => (some (Go.bits .xor .i64 (Go.bits .xor .i64 t105 t106) (shr .i64 t104 a3))))) else (none))) else ((spec_Turn.f a0 (wrap64 (32 - a1))).bind fun t107 => ((spec_Turn.f a0 (wrap64 (32 - a2))).bind fun t108 => (some (Go.bits .xor .i64 (Go.bits .xor .i64 t107 t108) t103)))))) = some r := h
 clear h
 replace H := zas.mp H
 obtain ⟨t103, A60, H⟩ := H
 replace H : (if a4 = true then ((spec_Word.f a0).bind fun t104 => (if 0 ≤ a3 then ((spec_Turn.f a0 (wrap64 (32 - a1))).bind fun t105 => ((spec_Turn.f a0 (wrap64 (32 - a2))).bind fun t106 => (some (Go.bits .xor .i64 (Go.bits .xor .i64 t105 t106) (shr .i64 t104 a3))))) else (none))) else ((spec_Turn.f a0 (wrap64 (32 - a1))).bind fun t107 => ((spec_Turn.f a0 (wrap64 (32 - a2))).bind fun t108 => (some (Go.bits .xor .i64 (Go.bits .xor .i64 t107 t108) t103))))) = some r := H
 have A6 := Aside0.mk A60
 clear A60
 by_cases c7 : a4 = true
 ·subst c7
  have H1 : ((spec_Word.f a0).bind fun t104 => (if 0 ≤ a3 then ((spec_Turn.f a0 (wrap64 (32 - a1))).bind fun t105 => ((spec_Turn.f a0 (wrap64 (32 - a2))).bind fun t106 => (some (Go.bits .xor .i64 (Go.bits .xor .i64 t105 t106) (shr .i64 t104 a3))))) else (none))) = some r := by rw [if_pos rfl] at H; exact H
  clear H
  have H := H1
  clear H1
  replace H := zas.mp H
  obtain ⟨t104, A80, H⟩ := H
  replace H : (if 0 ≤ a3 then ((spec_Turn.f a0 (wrap64 (32 - a1))).bind fun t105 => ((spec_Turn.f a0 (wrap64 (32 - a2))).bind fun t106 => (some (Go.bits .xor .i64 (Go.bits .xor .i64 t105 t106) (shr .i64 t104 a3))))) else (none)) = some r := H
  have A8 := Aside0.mk A80
  clear A80
  by_cases c9 : 0 ≤ a3
  ·rw [if_pos c9] at H
   have c9b0 := zbw c9
   have c9b1 : decide (0 ≤ a3) = true := zbc c9
   clear c9
   obtain ⟨ji10, hji10⟩ : ∃ j_ : Int, (shr .i64 t104 a3) = j_ := ⟨_, rfl⟩
   replace H : ((spec_Turn.f a0 (wrap64 (32 - a1))).bind fun t105 => ((spec_Turn.f a0 (wrap64 (32 - a2))).bind fun t106 => (some (Go.bits .xor .i64 (Go.bits .xor .i64 t105 t106) (ji10))))) = some r := by first | (rw [hji10] at H; exact H) | (simp only [hji10] at H ⊢; exact H)
   (try rw [hji10] at A6)
   (try rw [hji10] at A8)
   have hji10_ : (t104 / 2 ^ min a3.toNat 64) = ji10 := hji10
   have hji10z : a3 ≤ 64 → (t104 / 2 ^ a3.toNat) = ji10 := shr_small hji10
   replace H := zas.mp H
   obtain ⟨t105, A110, H⟩ := H
   replace H : ((spec_Turn.f a0 (wrap64 (32 - a2))).bind fun t106 => (some (Go.bits .xor .i64 (Go.bits .xor .i64 t105 t106) (ji10)))) = some r := H
   have A11 := Aside0.mk A110
   clear A110
   replace H := zas.mp H
   obtain ⟨t106, A120, H⟩ := H
   replace H : (some (Go.bits .xor .i64 (Go.bits .xor .i64 t105 t106) (ji10))) = some r := H
   have A12 := Aside0.mk A120
   clear A120
   obtain rfl := Option.some.inj H
   go_enter Try.func70, Try.ntmps70
   go_wp2_with (first | ((with_reducible refine zax (f := 101) rfl ?_); refine goesL_ (some 15) rfl rfl Try.func101 (by kernel_rfl) rfl #[.int .i64 a0, .int .i64 (wrap64 (32 - a3))] rfl (by (try simp only [zal, zar, zat]); first | done | rfl | (simp only [zae, zad]; rfl) | (simp only [zae, zad]; rw [zao (zaw.mpr (zba (by assumption)))])) ?_; (with_reducible refine (spec_Turn.calls a0 (wrap64 (32 - a3)) t103 _ A6.out).mono ?_); rintro e w' ⟨rfl, ⟨nd, rfl⟩⟩; refine ⟨_, rfl, ?_⟩) | ((with_reducible refine zax (f := 69) rfl ?_); refine goesL_ (some 18) rfl rfl Try.func69 (by kernel_rfl) rfl #[.int .i64 a0] rfl (by (try simp only [zal, zar, zat]); first | done | rfl | (simp only [zae, zad]; rfl) | (simp only [zae, zad]; rw [zao (zaw.mpr (zba (by assumption)))])) ?_; (with_reducible refine (spec_Word.calls a0 t104 _ A8.out).mono ?_); rintro e w' ⟨rfl, ⟨nd, rfl⟩⟩; refine ⟨_, rfl, ?_⟩) | ((with_reducible refine zax (f := 101) rfl ?_); refine goesL_ (some 24) rfl rfl Try.func101 (by kernel_rfl) rfl #[.int .i64 a0, .int .i64 (wrap64 (32 - a1))] rfl (by (try simp only [zal, zar, zat]); first | done | rfl | (simp only [zae, zad]; rfl) | (simp only [zae, zad]; rw [zao (zaw.mpr (zba (by assumption)))])) ?_; (with_reducible refine (spec_Turn.calls a0 (wrap64 (32 - a1)) t105 _ A11.out).mono ?_); rintro e w' ⟨rfl, ⟨nd, rfl⟩⟩; refine ⟨_, rfl, ?_⟩) | ((with_reducible refine zax (f := 101) rfl ?_); refine goesL_ (some 28) rfl rfl Try.func101 (by kernel_rfl) rfl #[.int .i64 a0, .int .i64 (wrap64 (32 - a2))] rfl (by (try simp only [zal, zar, zat]); first | done | rfl | (simp only [zae, zad]; rfl) | (simp only [zae, zad]; rw [zao (zaw.mpr (zba (by assumption)))])) ?_; (with_reducible refine (spec_Turn.calls a0 (wrap64 (32 - a2)) t106 _ A12.out).mono ?_); rintro e w' ⟨rfl, ⟨nd, rfl⟩⟩; refine ⟨_, rfl, ?_⟩))
   go_ret
   exact ⟨by first | rfl | (simp; done) | (simp only [← hji10] <;> (first | rfl | simp)) | (simp [*]; done), by repeat (first | exact Drawn0.refl _ | apply Drawn0.step)⟩
  ·rw [if_neg c9] at H
   exact absurd H (by simp)
 ·replace c7 := zce.mpr c7
  subst c7
  have H1 : ((spec_Turn.f a0 (wrap64 (32 - a1))).bind fun t107 => ((spec_Turn.f a0 (wrap64 (32 - a2))).bind fun t108 => (some (Go.bits .xor .i64 (Go.bits .xor .i64 t107 t108) t103)))) = some r := by rw [if_neg (show ¬ (false = true) by decide)] at H; exact H
  clear H
  have H := H1
  clear H1
  replace H := zas.mp H
  obtain ⟨t107, A130, H⟩ := H
  replace H : ((spec_Turn.f a0 (wrap64 (32 - a2))).bind fun t108 => (some (Go.bits .xor .i64 (Go.bits .xor .i64 t107 t108) t103))) = some r := H
  have A13 := Aside0.mk A130
  clear A130
  replace H := zas.mp H
  obtain ⟨t108, A140, H⟩ := H
  replace H : (some (Go.bits .xor .i64 (Go.bits .xor .i64 t107 t108) t103)) = some r := H
  have A14 := Aside0.mk A140
  clear A140
  obtain rfl := Option.some.inj H
  go_enter Try.func70, Try.ntmps70
  go_wp2_with (first | ((with_reducible refine zax (f := 101) rfl ?_); refine goesL_ (some 15) rfl rfl Try.func101 (by kernel_rfl) rfl #[.int .i64 a0, .int .i64 (wrap64 (32 - a3))] rfl (by (try simp only [zal, zar, zat]); first | done | rfl | (simp only [zae, zad]; rfl) | (simp only [zae, zad]; rw [zao (zaw.mpr (zba (by assumption)))])) ?_; (with_reducible refine (spec_Turn.calls a0 (wrap64 (32 - a3)) t103 _ A6.out).mono ?_); rintro e w' ⟨rfl, ⟨nd, rfl⟩⟩; refine ⟨_, rfl, ?_⟩) | ((with_reducible refine zax (f := 101) rfl ?_); refine goesL_ (some 24) rfl rfl Try.func101 (by kernel_rfl) rfl #[.int .i64 a0, .int .i64 (wrap64 (32 - a1))] rfl (by (try simp only [zal, zar, zat]); first | done | rfl | (simp only [zae, zad]; rfl) | (simp only [zae, zad]; rw [zao (zaw.mpr (zba (by assumption)))])) ?_; (with_reducible refine (spec_Turn.calls a0 (wrap64 (32 - a1)) t107 _ A13.out).mono ?_); rintro e w' ⟨rfl, ⟨nd, rfl⟩⟩; refine ⟨_, rfl, ?_⟩) | ((with_reducible refine zax (f := 101) rfl ?_); refine goesL_ (some 28) rfl rfl Try.func101 (by kernel_rfl) rfl #[.int .i64 a0, .int .i64 (wrap64 (32 - a2))] rfl (by (try simp only [zal, zar, zat]); first | done | rfl | (simp only [zae, zad]; rfl) | (simp only [zae, zad]; rw [zao (zaw.mpr (zba (by assumption)))])) ?_; (with_reducible refine (spec_Turn.calls a0 (wrap64 (32 - a2)) t108 _ A14.out).mono ?_); rintro e w' ⟨rfl, ⟨nd, rfl⟩⟩; refine ⟨_, rfl, ?_⟩))
  go_ret
  exact ⟨by first | rfl | (simp; done) | (simp [*]; done), by repeat (first | exact Drawn0.refl _ | apply Drawn0.step)⟩
end Go.Proofs.Ytienlgcjohpphaa.P
