import Derived.Test.YtienlgcjohpphaaM5
namespace Go.Proofs.Ytienlgcjohpphaa.P
open Go.RowKit Go.Proofs.YtienlgcjohpphaaW.PrintWords Go.Proofs.YtienlgcjohpphaaW.PrintLast Go.Proofs.YtienlgcjohpphaaW.PrintMore
attribute [local go_sem] zdd zde zdy zdz zcb zcc zdf zdg   -- for this text's walks alone
set_option linter.unusedVariables false
set_option linter.unusedSimpArgs false

def impl_Turn.f (a0 : Int) (a1 : Int) : Option (Int) := (impl_Word.f a0).bind fun t199 => (if 0 ≤ (Go.bits .and .i64 a1 31) then (if 0 ≤ (wrap64 (32 - (Go.bits .and .i64 a1 31))) then ((impl_Word.f (Go.bits .or .i64 (shl .i64 t199 (Go.bits .and .i64 a1 31)) (shr .i64 t199 (wrap64 (32 - (Go.bits .and .i64 a1 31)))))).bind fun t200 => (some t200)) else (none)) else (none))
set_option maxHeartbeats 8000000 in
set_option maxRecDepth 100000 in
theorem impl_Turn.calls (a0 : Int) (a1 : Int) (r : Int) (w : World) (h : impl_Turn.f a0 a1 = some r) :
  Calls Try.prog 103 #[.int .i64 a0, .int .i64 a1] w fun e w' => e = .returned (.int .i64 r) ∧ Drawn0 w w' := by
 have H : ((impl_Word.f a0).bind fun t199 => (if 0 ≤ (Go.bits .and .i64 a1 31) then (if 0 ≤ (wrap64 (32 - (Go.bits .and .i64 a1 31))) then ((impl_Word.f (Go.bits .or .i64 (shl .i64 t199 (Go.bits .and .i64 a1 31)) (shr .i64 t199 (wrap64 (32 - (Go.bits .and .i64 a1 31)))))).bind fun t200 => (some t200)) else (none)) else (none))) = some r := h
 clear h
 replace H := zaj.mp H
 obtain ⟨t199, A30, H⟩ := H
 try dsimp only at H
 have A3 := Aside0.mk A30
 clear A30
 by_cases c4 : 0 ≤ (Go.bits .and .i64 a1 31)
 ·rw [if_pos c4] at H
  have c4b0 := zbn c4
  have c4b1 : decide (0 ≤ (Go.bits .and .i64 a1 31)) = true := zaq c4
  clear c4
  obtain ⟨ji5, hji5⟩ : ∃ j_ : Int, (shl .i64 t199 (Go.bits .and .i64 a1 31)) = j_ := ⟨_, rfl⟩
  replace H : (if 0 ≤ (wrap64 (32 - (Go.bits .and .i64 a1 31))) then ((impl_Word.f (Go.bits .or .i64 (ji5) (shr .i64 t199 (wrap64 (32 - (Go.bits .and .i64 a1 31)))))).bind fun t200 => (some t200)) else (none)) = some r := by first | (rw [hji5] at H; exact H) | (simp only [hji5] at H ⊢; exact H)
  (try rw [hji5] at A3)
  have hji5_ : (IntKind.i64.wrap (t199 * 2 ^ min (Go.bits .and .i64 a1 31).toNat 64)) = ji5 := hji5
  have hji5z : (Go.bits .and .i64 a1 31) ≤ 64 → (IntKind.i64.wrap (t199 * 2 ^ (Go.bits .and .i64 a1 31).toNat)) = ji5 := shl_small hji5
  have hji5y : (wrap64 (t199 * 2 ^ min (Go.bits .and .i64 a1 31).toNat 64)) = ji5 := (i64_w _).symm.trans hji5_
  have hji5x : (Go.bits .and .i64 a1 31) ≤ 64 → (wrap64 (t199 * 2 ^ (Go.bits .and .i64 a1 31).toNat)) = ji5 := fun h_ => (i64_w _).symm.trans (hji5z h_)
  obtain ⟨ji6, hji6⟩ : ∃ j_ : Int, (wrap64 (32 - (Go.bits .and .i64 a1 31))) = j_ := ⟨_, rfl⟩
  replace H : (if 0 ≤ (ji6) then ((impl_Word.f (Go.bits .or .i64 (ji5) (shr .i64 t199 (ji6)))).bind fun t200 => (some t200)) else (none)) = some r := by first | (rw [hji6] at H; exact H) | (simp only [hji6] at H ⊢; exact H)
  (try rw [hji6] at A3)
  have hji6w : (IntKind.i64.wrap (32 - (Go.bits .and .i64 a1 31))) = ji6 := (i64_w _).trans hji6
  by_cases c7 : 0 ≤ (ji6)
  ·rw [if_pos c7] at H
   have c7b0 := zbn c7
   have c7b1 : decide (0 ≤ (ji6)) = true := zaq c7
   clear c7
   obtain ⟨ji8, hji8⟩ : ∃ j_ : Int, (shr .i64 t199 (ji6)) = j_ := ⟨_, rfl⟩
   replace H : ((impl_Word.f (Go.bits .or .i64 (ji5) (ji8))).bind fun t200 => (some t200)) = some r := by first | (rw [hji8] at H; exact H) | (simp only [hji8] at H ⊢; exact H)
   (try rw [hji8] at A3)
   have hji8_ : (t199 / 2 ^ min (ji6).toNat 64) = ji8 := hji8
   have hji8z : (ji6) ≤ 64 → (t199 / 2 ^ (ji6).toNat) = ji8 := shr_small hji8
   replace H := zaj.mp H
   obtain ⟨t200, A90, H⟩ := H
   try dsimp only at H
   have A9 := Aside0.mk A90
   clear A90
   obtain rfl := Option.some.inj H
   go_enter Try.func103, Try.ntmps103
   go_wp2_with (first | (go_at_call 71; (with_reducible refine (impl_Word.calls a0 t199 _ A3.out).mono ?_); rintro e w' ⟨rfl, ⟨nd, rfl⟩⟩; (try first | exact ⟨rfl, _, zcu _ _ _⟩ | exact ⟨rfl, _, Eq.trans (zcu _ _ _) (congrArg (World.drewN _) (zfa _ _ _))⟩)) | (go_at_call 71; (with_reducible refine (impl_Word.calls (Go.bits .or .i64 (ji5) (ji8)) t200 _ A9.out).mono ?_); rintro e w' ⟨rfl, ⟨nd, rfl⟩⟩; (try first | exact ⟨rfl, _, zcu _ _ _⟩ | exact ⟨rfl, _, Eq.trans (zcu _ _ _) (congrArg (World.drewN _) (zfa _ _ _))⟩)))
   repeat (go_quiet (first | (go_at_call 71; (with_reducible refine (impl_Word.calls a0 t199 _ A3.out).mono ?_); rintro e w' ⟨rfl, ⟨nd, rfl⟩⟩; (try first | exact ⟨rfl, _, zcu _ _ _⟩ | exact ⟨rfl, _, Eq.trans (zcu _ _ _) (congrArg (World.drewN _) (zfa _ _ _))⟩)) | (go_at_call 71; (with_reducible refine (impl_Word.calls (Go.bits .or .i64 (ji5) (ji8)) t200 _ A9.out).mono ?_); rintro e w' ⟨rfl, ⟨nd, rfl⟩⟩; (try first | exact ⟨rfl, _, zcu _ _ _⟩ | exact ⟨rfl, _, Eq.trans (zcu _ _ _) (congrArg (World.drewN _) (zfa _ _ _))⟩))); try go_wp2_with (first | (go_at_call 71; (with_reducible refine (impl_Word.calls a0 t199 _ A3.out).mono ?_); rintro e w' ⟨rfl, ⟨nd, rfl⟩⟩; (try first | exact ⟨rfl, _, zcu _ _ _⟩ | exact ⟨rfl, _, Eq.trans (zcu _ _ _) (congrArg (World.drewN _) (zfa _ _ _))⟩)) | (go_at_call 71; (with_reducible refine (impl_Word.calls (Go.bits .or .i64 (ji5) (ji8)) t200 _ A9.out).mono ?_); rintro e w' ⟨rfl, ⟨nd, rfl⟩⟩; (try first | exact ⟨rfl, _, zcu _ _ _⟩ | exact ⟨rfl, _, Eq.trans (zcu _ _ _) (congrArg (World.drewN _) (zfa _ _ _))⟩))))
   go_ret
   exact ⟨by first | rfl | (simp; done) | (simp only [← hji5, ← hji6, ← hji8] <;> (first | rfl | simp)) | (simp [*]; done), by repeat (first | exact Drawn0.refl _ | apply Drawn0.step)⟩
  ·rw [if_neg c7] at H
   exact absurd H (by simp)
 ·rw [if_neg c4] at H
  exact absurd H (by simp)
def impl_mixed.f (a0 : Int) (a1 : Int) (a2 : Int) (a3 : Int) (a4 : Bool) : Option (Int) := (impl_Turn.f a0 (wrap64 (-a3))).bind fun t201 => (if a4 = true then (if 0 ≤ a3 then ((impl_Turn.f a0 (wrap64 (-a1))).bind fun t202 => ((impl_Turn.f a0 (wrap64 (-a2))).bind fun t203 => (some (Go.bits .xor .i64 (Go.bits .xor .i64 t202 t203) (shr .i64 a0 a3))))) else (none)) else ((impl_Turn.f a0 (wrap64 (-a1))).bind fun t204 => ((impl_Turn.f a0 (wrap64 (-a2))).bind fun t205 => (some (Go.bits .xor .i64 (Go.bits .xor .i64 t204 t205) t201)))))
set_option maxHeartbeats 8000000 in
set_option maxRecDepth 100000 in
theorem impl_mixed.calls (a0 : Int) (a1 : Int) (a2 : Int) (a3 : Int) (a4 : Bool) (r : Int) (w : World) (h : impl_mixed.f a0 a1 a2 a3 a4 = some r) :
  Calls Try.prog 74 #[.int .i64 a0, .int .i64 a1, .int .i64 a2, .int .i64 a3, .bool a4] w fun e w' => e = .returned (.int .i64 r) ∧ Drawn0 w w' := by
 have H : ((impl_Turn.f a0 (wrap64 (-a3))).bind fun t201 => (if a4 = true then (if 0 ≤ a3 then ((impl_Turn.f a0 (wrap64 (-a1))).bind fun t202 => ((impl_Turn.f a0 (wrap64 (-a2))).bind fun t203 => (some (Go.bits .xor .i64 (Go.bits .xor .i64 t202 t203) (shr .i64 a0 a3))))) else (none)) else ((impl_Turn.f a0 (wrap64 (-a1))).bind fun t204 => ((impl_Turn.f a0 (wrap64 (-a2))).bind fun t205 => (some (Go.bits .xor .i64 (Go.bits .xor .i64 t204 t205) t201)))))) = some r := h
 clear h
 replace H := zaj.mp H
 obtain ⟨t201, A60, H⟩ := H
 try dsimp only at H
 have A6 := Aside0.mk A60
 clear A60
 by_cases c7 : a4 = true
 ·subst c7
  have H1 : (if 0 ≤ a3 then ((impl_Turn.f a0 (wrap64 (-a1))).bind fun t202 => ((impl_Turn.f a0 (wrap64 (-a2))).bind fun t203 => (some (Go.bits .xor .i64 (Go.bits .xor .i64 t202 t203) (shr .i64 a0 a3))))) else (none)) = some r := by rw [if_pos rfl] at H; exact H
  clear H
  have H := H1
  clear H1
  by_cases c8 : 0 ≤ a3
  ·rw [if_pos c8] at H
   have c8b0 := zbn c8
   have c8b1 : decide (0 ≤ a3) = true := zaq c8
   clear c8
   obtain ⟨ji9, hji9⟩ : ∃ j_ : Int, (shr .i64 a0 a3) = j_ := ⟨_, rfl⟩
   replace H : ((impl_Turn.f a0 (wrap64 (-a1))).bind fun t202 => ((impl_Turn.f a0 (wrap64 (-a2))).bind fun t203 => (some (Go.bits .xor .i64 (Go.bits .xor .i64 t202 t203) (ji9))))) = some r := by first | (rw [hji9] at H; exact H) | (simp only [hji9] at H ⊢; exact H)
   (try rw [hji9] at A6)
   have hji9_ : (a0 / 2 ^ min a3.toNat 64) = ji9 := hji9
   have hji9z : a3 ≤ 64 → (a0 / 2 ^ a3.toNat) = ji9 := shr_small hji9
   replace H := zaj.mp H
   obtain ⟨t202, A100, H⟩ := H
   try dsimp only at H
   have A10 := Aside0.mk A100
   clear A100
   replace H := zaj.mp H
   obtain ⟨t203, A110, H⟩ := H
   try dsimp only at H
   have A11 := Aside0.mk A110
   clear A110
   obtain rfl := Option.some.inj H
   go_enter Try.func74, Try.ntmps74
   go_wp2_with (first | ((with_reducible refine zbc (f := 103) rfl ?_); refine goesL_ (some 15) rfl rfl Try.func103 (by kernel_rfl) rfl #[.int .i64 a0, .int .i64 (wrap64 (-a3))] rfl (by (try simp only [zap, zau, zav]); first | done | rfl) ?_; (with_reducible refine (impl_Turn.calls a0 (wrap64 (-a3)) t201 _ A6.out).mono ?_); rintro e w' ⟨rfl, ⟨nd, rfl⟩⟩; refine ⟨_, rfl, ?_⟩) | ((with_reducible refine zbc (f := 103) rfl ?_); refine goesL_ (some 23) rfl rfl Try.func103 (by kernel_rfl) rfl #[.int .i64 a0, .int .i64 (wrap64 (-a1))] rfl (by (try simp only [zap, zau, zav]); first | done | rfl) ?_; (with_reducible refine (impl_Turn.calls a0 (wrap64 (-a1)) t202 _ A10.out).mono ?_); rintro e w' ⟨rfl, ⟨nd, rfl⟩⟩; refine ⟨_, rfl, ?_⟩) | ((with_reducible refine zbc (f := 103) rfl ?_); refine goesL_ (some 27) rfl rfl Try.func103 (by kernel_rfl) rfl #[.int .i64 a0, .int .i64 (wrap64 (-a2))] rfl (by (try simp only [zap, zau, zav]); first | done | rfl) ?_; (with_reducible refine (impl_Turn.calls a0 (wrap64 (-a2)) t203 _ A11.out).mono ?_); rintro e w' ⟨rfl, ⟨nd, rfl⟩⟩; refine ⟨_, rfl, ?_⟩))
   go_ret
   exact ⟨by first | rfl | (simp; done) | (simp only [← hji9] <;> (first | rfl | simp)) | (simp [*]; done), by repeat (first | exact Drawn0.refl _ | apply Drawn0.step)⟩
  ·rw [if_neg c8] at H
   exact absurd H (by simp)
 ·replace c7 := zcv.mpr c7
  subst c7
  have H1 : ((impl_Turn.f a0 (wrap64 (-a1))).bind fun t204 => ((impl_Turn.f a0 (wrap64 (-a2))).bind fun t205 => (some (Go.bits .xor .i64 (Go.bits .xor .i64 t204 t205) t201)))) = some r := by rw [if_neg (show ¬ (false = true) by decide)] at H; exact H
  clear H
  have H := H1
  clear H1
  replace H := zaj.mp H
  obtain ⟨t204, A120, H⟩ := H
  try dsimp only at H
  have A12 := Aside0.mk A120
  clear A120
  replace H := zaj.mp H
  obtain ⟨t205, A130, H⟩ := H
  try dsimp only at H
  have A13 := Aside0.mk A130
  clear A130
  obtain rfl := Option.some.inj H
  go_enter Try.func74, Try.ntmps74
  go_wp2_with (first | ((with_reducible refine zbc (f := 103) rfl ?_); refine goesL_ (some 15) rfl rfl Try.func103 (by kernel_rfl) rfl #[.int .i64 a0, .int .i64 (wrap64 (-a3))] rfl (by (try simp only [zap, zau, zav]); first | done | rfl) ?_; (with_reducible refine (impl_Turn.calls a0 (wrap64 (-a3)) t201 _ A6.out).mono ?_); rintro e w' ⟨rfl, ⟨nd, rfl⟩⟩; refine ⟨_, rfl, ?_⟩) | ((with_reducible refine zbc (f := 103) rfl ?_); refine goesL_ (some 23) rfl rfl Try.func103 (by kernel_rfl) rfl #[.int .i64 a0, .int .i64 (wrap64 (-a1))] rfl (by (try simp only [zap, zau, zav]); first | done | rfl) ?_; (with_reducible refine (impl_Turn.calls a0 (wrap64 (-a1)) t204 _ A12.out).mono ?_); rintro e w' ⟨rfl, ⟨nd, rfl⟩⟩; refine ⟨_, rfl, ?_⟩) | ((with_reducible refine zbc (f := 103) rfl ?_); refine goesL_ (some 27) rfl rfl Try.func103 (by kernel_rfl) rfl #[.int .i64 a0, .int .i64 (wrap64 (-a2))] rfl (by (try simp only [zap, zau, zav]); first | done | rfl) ?_; (with_reducible refine (impl_Turn.calls a0 (wrap64 (-a2)) t205 _ A13.out).mono ?_); rintro e w' ⟨rfl, ⟨nd, rfl⟩⟩; refine ⟨_, rfl, ?_⟩))
  go_ret
  exact ⟨by first | rfl | (simp; done) | (simp [*]; done), by repeat (first | exact Drawn0.refl _ | apply Drawn0.step)⟩
def impl_wordOf.f (l0 : List Int) (a1 : Bool) : Option (Int) := if a1 = true then (if 0 < (l0.length : Int) then (if 1 < (l0.length : Int) then (if 2 < (l0.length : Int) then (if 3 < (l0.length : Int) then (some (Go.bits .or .i64 (Go.bits .or .i64 (Go.bits .or .i64 (wrap64 ((wrap64 (rd l0 0)) * 16777216)) (wrap64 ((wrap64 (rd l0 1)) * 65536))) (wrap64 ((wrap64 (rd l0 2)) * 256))) (wrap64 (rd l0 3)))) else (none)) else (none)) else (none)) else (none)) else (if 3 < (l0.length : Int) then (if 2 < (l0.length : Int) then (if 1 < (l0.length : Int) then (if 0 < (l0.length : Int) then (some (Go.bits .or .i64 (Go.bits .or .i64 (Go.bits .or .i64 (wrap64 ((wrap64 (rd l0 3)) * 16777216)) (wrap64 ((wrap64 (rd l0 2)) * 65536))) (wrap64 ((wrap64 (rd l0 1)) * 256))) (wrap64 (rd l0 0)))) else (none)) else (none)) else (none)) else (none))
set_option maxHeartbeats 8000000 in
set_option maxRecDepth 100000 in
theorem impl_wordOf.calls (A0 : Option Addr) (c0 : Nat) (l0 : List Int) (a1 : Bool) (r : Int) (w : World) (hr0 : Kd.C (Kd.int .u8) w A0 l0.length l0) (hc0 : l0.length ≤ c0) (h : impl_wordOf.f l0 a1 = some r) :
  Calls Try.prog 113 #[.slice A0 l0.length c0, .bool a1] w fun e w' => e = .returned (.int .i64 r) ∧ Drawn0 w w' := by
 have HR0 := Aside0.mk hr0
 have HC0 := Aside0.mk hc0
 clear hr0 hc0
 have H : (if a1 = true then (if 0 < (l0.length : Int) then (if 1 < (l0.length : Int) then (if 2 < (l0.length : Int) then (if 3 < (l0.length : Int) then (some (Go.bits .or .i64 (Go.bits .or .i64 (Go.bits .or .i64 (wrap64 ((wrap64 (rd l0 0)) * 16777216)) (wrap64 ((wrap64 (rd l0 1)) * 65536))) (wrap64 ((wrap64 (rd l0 2)) * 256))) (wrap64 (rd l0 3)))) else (none)) else (none)) else (none)) else (none)) else (if 3 < (l0.length : Int) then (if 2 < (l0.length : Int) then (if 1 < (l0.length : Int) then (if 0 < (l0.length : Int) then (some (Go.bits .or .i64 (Go.bits .or .i64 (Go.bits .or .i64 (wrap64 ((wrap64 (rd l0 3)) * 16777216)) (wrap64 ((wrap64 (rd l0 2)) * 65536))) (wrap64 ((wrap64 (rd l0 1)) * 256))) (wrap64 (rd l0 0)))) else (none)) else (none)) else (none)) else (none))) = some r := h
 clear h
 by_cases c3 : a1 = true
 ·subst c3
  have H1 : (if 0 < (l0.length : Int) then (if 1 < (l0.length : Int) then (if 2 < (l0.length : Int) then (if 3 < (l0.length : Int) then (some (Go.bits .or .i64 (Go.bits .or .i64 (Go.bits .or .i64 (wrap64 ((wrap64 (rd l0 0)) * 16777216)) (wrap64 ((wrap64 (rd l0 1)) * 65536))) (wrap64 ((wrap64 (rd l0 2)) * 256))) (wrap64 (rd l0 3)))) else (none)) else (none)) else (none)) else (none)) = some r := by rw [if_pos rfl] at H; exact H
  clear H
  have H := H1
  clear H1
  by_cases c4 : 0 < (l0.length : Int)
  ·rw [if_pos c4] at H
   have c4b0 : decide (0 < (l0.length : Int)) = true := zaq c4
   have c4b1 : decide (0 < l0.length) = true := zaq (by omega)
   clear c4
   by_cases c5 : 1 < (l0.length : Int)
   ·rw [if_pos c5] at H
    have c5b0 : decide (1 < (l0.length : Int)) = true := zaq c5
    have c5b1 : decide (1 < l0.length) = true := zaq (by omega)
    clear c5
    by_cases c6 : 2 < (l0.length : Int)
    ·rw [if_pos c6] at H
     have c6b0 : decide (2 < (l0.length : Int)) = true := zaq c6
     have c6b1 : decide (2 < l0.length) = true := zaq (by omega)
     clear c6
     by_cases c7 : 3 < (l0.length : Int)
     ·rw [if_pos c7] at H
      have c7b0 : decide (3 < (l0.length : Int)) = true := zaq c7
      have c7b1 : decide (3 < l0.length) = true := zaq (by omega)
      clear c7
      obtain rfl := Option.some.inj H
      have p206 : 0 ≤ (0 : Int) := (by omega)
      have q206 : 0 < (l0.length : Int) := zar (by first | (with_reducible assumption) | assumption)
      obtain ⟨ad206, e206, hx206_0⟩ := zca HR0.out 0 p206 q206
      cases e206
      have qi206 : (0 < l0.length) = True := zbn (by omega)
      (try rw [show ((0 : Int)).toNat = 0 from rfl] at hx206_0)
      (try rw [Addr.add_zero'] at hx206_0)
      replace p206 := zbn p206
      replace q206 := zbn q206
      have p207 : 0 ≤ (1 : Int) := (by omega)
      have q207 : 1 < (l0.length : Int) := zar (by first | (with_reducible assumption) | assumption)
      obtain ⟨ad207, e207, hx207_0⟩ := zca HR0.out 1 p207 q207
      obtain rfl : ad206 = ad207 := (by injection e207)
      (try simp only [show (1 : Int).toNat = 1 from rfl, Nat.reduceMul, Nat.reduceEqDiff, Go.Addr.add, ↓reduceIte] at hx207_0)
      have qi207 : (1 < l0.length) = True := zbn (by omega)
      (try rw [show ((1 : Int)).toNat = 1 from rfl] at hx207_0)
      replace p207 := zbn p207
      replace q207 := zbn q207
      have p208 : 0 ≤ (2 : Int) := (by omega)
      have q208 : 2 < (l0.length : Int) := zar (by first | (with_reducible assumption) | assumption)
      obtain ⟨ad208, e208, hx208_0⟩ := zca HR0.out 2 p208 q208
      obtain rfl : ad206 = ad208 := (by injection e208)
      (try simp only [show (2 : Int).toNat = 2 from rfl, Nat.reduceMul, Nat.reduceEqDiff, Go.Addr.add, ↓reduceIte] at hx208_0)
      have qi208 : (2 < l0.length) = True := zbn (by omega)
      (try rw [show ((2 : Int)).toNat = 2 from rfl] at hx208_0)
      replace p208 := zbn p208
      replace q208 := zbn q208
      have p209 : 0 ≤ (3 : Int) := (by omega)
      have q209 : 3 < (l0.length : Int) := zar (by first | (with_reducible assumption) | assumption)
      obtain ⟨ad209, e209, hx209_0⟩ := zca HR0.out 3 p209 q209
      obtain rfl : ad206 = ad209 := (by injection e209)
      (try simp only [show (3 : Int).toNat = 3 from rfl, Nat.reduceMul, Nat.reduceEqDiff, Go.Addr.add, ↓reduceIte] at hx209_0)
      have qi209 : (3 < l0.length) = True := zbn (by omega)
      (try rw [show ((3 : Int)).toNat = 3 from rfl] at hx209_0)
      replace p209 := zbn p209
      replace q209 := zbn q209
      go_enter Try.func113, Try.ntmps113
      go_wp2
      repeat (go_quiet (fail); try go_wp2)
      go_ret
      exact ⟨by first | rfl | (simp; done) | (simp [*]; done), by repeat (first | exact Drawn0.refl _ | apply Drawn0.step)⟩
     ·rw [if_neg c7] at H
      exact absurd H (by simp)
    ·rw [if_neg c6] at H
     exact absurd H (by simp)
   ·rw [if_neg c5] at H
    exact absurd H (by simp)
  ·rw [if_neg c4] at H
   exact absurd H (by simp)
 ·replace c3 := zcv.mpr c3
  subst c3
  have H1 : (if 3 < (l0.length : Int) then (if 2 < (l0.length : Int) then (if 1 < (l0.length : Int) then (if 0 < (l0.length : Int) then (some (Go.bits .or .i64 (Go.bits .or .i64 (Go.bits .or .i64 (wrap64 ((wrap64 (rd l0 3)) * 16777216)) (wrap64 ((wrap64 (rd l0 2)) * 65536))) (wrap64 ((wrap64 (rd l0 1)) * 256))) (wrap64 (rd l0 0)))) else (none)) else (none)) else (none)) else (none)) = some r := by rw [if_neg (show ¬ (false = true) by decide)] at H; exact H
  clear H
  have H := H1
  clear H1
  by_cases c8 : 3 < (l0.length : Int)
  ·rw [if_pos c8] at H
   have c8b0 : decide (3 < (l0.length : Int)) = true := zaq c8
   have c8b1 : decide (3 < l0.length) = true := zaq (by omega)
   clear c8
   by_cases c9 : 2 < (l0.length : Int)
   ·rw [if_pos c9] at H
    have c9b0 : decide (2 < (l0.length : Int)) = true := zaq c9
    have c9b1 : decide (2 < l0.length) = true := zaq (by omega)
    clear c9
    by_cases c10 : 1 < (l0.length : Int)
    ·rw [if_pos c10] at H
     have c10b0 : decide (1 < (l0.length : Int)) = true := zaq c10
     have c10b1 : decide (1 < l0.length) = true := zaq (by omega)
     clear c10
     by_cases c11 : 0 < (l0.length : Int)
     ·rw [if_pos c11] at H
      have c11b0 : decide (0 < (l0.length : Int)) = true := zaq c11
      have c11b1 : decide (0 < l0.length) = true := zaq (by omega)
      clear c11
      obtain rfl := Option.some.inj H
      have p210 : 0 ≤ (3 : Int) := (by omega)
      have q210 : 3 < (l0.length : Int) := zar (by first | (with_reducible assumption) | assumption)
      obtain ⟨ad210, e210, hx210_0⟩ := zca HR0.out 3 p210 q210
      cases e210
      (try simp only [show (3 : Int).toNat = 3 from rfl, Nat.reduceMul, Nat.reduceEqDiff, Go.Addr.add, ↓reduceIte] at hx210_0)
      have qi210 : (3 < l0.length) = True := zbn (by omega)
      (try rw [show ((3 : Int)).toNat = 3 from rfl] at hx210_0)
      replace p210 := zbn p210
      replace q210 := zbn q210
      have p211 : 0 ≤ (2 : Int) := (by omega)
      have q211 : 2 < (l0.length : Int) := zar (by first | (with_reducible assumption) | assumption)
      obtain ⟨ad211, e211, hx211_0⟩ := zca HR0.out 2 p211 q211
      obtain rfl : ad210 = ad211 := (by injection e211)
      (try simp only [show (2 : Int).toNat = 2 from rfl, Nat.reduceMul, Nat.reduceEqDiff, Go.Addr.add, ↓reduceIte] at hx211_0)
      have qi211 : (2 < l0.length) = True := zbn (by omega)
      (try rw [show ((2 : Int)).toNat = 2 from rfl] at hx211_0)
      replace p211 := zbn p211
      replace q211 := zbn q211
      have p212 : 0 ≤ (1 : Int) := (by omega)
      have q212 : 1 < (l0.length : Int) := zar (by first | (with_reducible assumption) | assumption)
      obtain ⟨ad212, e212, hx212_0⟩ := zca HR0.out 1 p212 q212
      obtain rfl : ad210 = ad212 := (by injection e212)
      (try simp only [show (1 : Int).toNat = 1 from rfl, Nat.reduceMul, Nat.reduceEqDiff, Go.Addr.add, ↓reduceIte] at hx212_0)
      have qi212 : (1 < l0.length) = True := zbn (by omega)
      (try rw [show ((1 : Int)).toNat = 1 from rfl] at hx212_0)
      replace p212 := zbn p212
      replace q212 := zbn q212
      have p213 : 0 ≤ (0 : Int) := (by omega)
      have q213 : 0 < (l0.length : Int) := zar (by first | (with_reducible assumption) | assumption)
      obtain ⟨ad213, e213, hx213_0⟩ := zca HR0.out 0 p213 q213
      obtain rfl : ad210 = ad213 := (by injection e213)
      have qi213 : (0 < l0.length) = True := zbn (by omega)
      (try rw [show ((0 : Int)).toNat = 0 from rfl] at hx213_0)
      (try rw [Addr.add_zero'] at hx213_0)
      replace p213 := zbn p213
      replace q213 := zbn q213
      go_enter Try.func113, Try.ntmps113
      go_wp2
      repeat (go_quiet (fail); try go_wp2)
      go_ret
      exact ⟨by first | rfl | (simp; done) | (simp [*]; done), by repeat (first | exact Drawn0.refl _ | apply Drawn0.step)⟩
     ·rw [if_neg c11] at H
      exact absurd H (by simp)
    ·rw [if_neg c10] at H
     exact absurd H (by simp)
   ·rw [if_neg c9] at H
    exact absurd H (by simp)
  ·rw [if_neg c8] at H
   exact absurd H (by simp)
end Go.Proofs.Ytienlgcjohpphaa.P
