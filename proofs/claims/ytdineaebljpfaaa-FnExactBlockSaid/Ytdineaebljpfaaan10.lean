import Derived.Test.Ytdineaebljpfaaan8
namespace Go.Proofs.Ytdineaebljpfaaa.P
open Go.RowKit Go.Proofs.YtdineaebljpfaaaW.PrintWords Go.Proofs.YtdineaebljpfaaaW.PrintLast Go.Proofs.YtdineaebljpfaaaW.PrintMore
attribute [local go_sem] zcu zcv zdf zdg zci zcj zcw zcx   -- for this text's walks alone
set_option linter.unusedVariables false
set_option linter.unusedSimpArgs false

def spec_Turn.f (a0 : Int) (a1 : Int) : Option (Int) := (spec_Word.f a0).bind fun t224 => (if 0 ≤ (Go.bits .and .i64 a1 31) then (if 0 ≤ (wrap64 (32 - (Go.bits .and .i64 a1 31))) then ((spec_Word.f (Go.bits .or .i64 (shl .i64 t224 (Go.bits .and .i64 a1 31)) (shr .i64 t224 (wrap64 (32 - (Go.bits .and .i64 a1 31)))))).bind fun t225 => (some t225)) else (none)) else (none))
set_option maxHeartbeats 8000000 in
set_option maxRecDepth 100000 in
theorem spec_Turn.calls (a0 : Int) (a1 : Int) (r : Int) (w : World) (h : spec_Turn.f a0 a1 = some r) :
  Calls Try.prog 39 #[.int .i64 a0, .int .i64 a1] w fun e w' => e = .returned (.int .i64 r) ∧ Drawn0 w w' := by
 have H : ((spec_Word.f a0).bind fun t224 => (if 0 ≤ (Go.bits .and .i64 a1 31) then (if 0 ≤ (wrap64 (32 - (Go.bits .and .i64 a1 31))) then ((spec_Word.f (Go.bits .or .i64 (shl .i64 t224 (Go.bits .and .i64 a1 31)) (shr .i64 t224 (wrap64 (32 - (Go.bits .and .i64 a1 31)))))).bind fun t225 => (some t225)) else (none)) else (none))) = some r := h
 clear h
 replace H := zam.mp H
 obtain ⟨t224, A30, H⟩ := H
 try dsimp only at H
 have A3 := Aside0.mk A30
 clear A30
 by_cases c4 : 0 ≤ (Go.bits .and .i64 a1 31)
 ·rw [if_pos c4] at H
  have c4b0 := zbn c4
  have c4b1 : decide (0 ≤ (Go.bits .and .i64 a1 31)) = true := zax c4
  clear c4
  obtain ⟨ji5, hji5⟩ : ∃ j_ : Int, (shl .i64 t224 (Go.bits .and .i64 a1 31)) = j_ := ⟨_, rfl⟩
  replace H : (if 0 ≤ (wrap64 (32 - (Go.bits .and .i64 a1 31))) then ((spec_Word.f (Go.bits .or .i64 (ji5) (shr .i64 t224 (wrap64 (32 - (Go.bits .and .i64 a1 31)))))).bind fun t225 => (some t225)) else (none)) = some r := by first | (rw [hji5] at H; exact H) | (simp only [hji5] at H ⊢; exact H)
  (try rw [hji5] at A3)
  have hji5_ : (IntKind.i64.wrap (t224 * 2 ^ min (Go.bits .and .i64 a1 31).toNat 64)) = ji5 := hji5
  have hji5z : (Go.bits .and .i64 a1 31) ≤ 64 → (IntKind.i64.wrap (t224 * 2 ^ (Go.bits .and .i64 a1 31).toNat)) = ji5 := shl_small hji5
  have hji5y : (wrap64 (t224 * 2 ^ min (Go.bits .and .i64 a1 31).toNat 64)) = ji5 := (i64_w _).symm.trans hji5_
  have hji5x : (Go.bits .and .i64 a1 31) ≤ 64 → (wrap64 (t224 * 2 ^ (Go.bits .and .i64 a1 31).toNat)) = ji5 := fun h_ => (i64_w _).symm.trans (hji5z h_)
  obtain ⟨ji6, hji6⟩ : ∃ j_ : Int, (wrap64 (32 - (Go.bits .and .i64 a1 31))) = j_ := ⟨_, rfl⟩
  replace H : (if 0 ≤ (ji6) then ((spec_Word.f (Go.bits .or .i64 (ji5) (shr .i64 t224 (ji6)))).bind fun t225 => (some t225)) else (none)) = some r := by first | (rw [hji6] at H; exact H) | (simp only [hji6] at H ⊢; exact H)
  (try rw [hji6] at A3)
  have hji6w : (IntKind.i64.wrap (32 - (Go.bits .and .i64 a1 31))) = ji6 := (i64_w _).trans hji6
  by_cases c7 : 0 ≤ (ji6)
  ·rw [if_pos c7] at H
   have c7b0 := zbn c7
   have c7b1 : decide (0 ≤ (ji6)) = true := zax c7
   clear c7
   obtain ⟨ji8, hji8⟩ : ∃ j_ : Int, (shr .i64 t224 (ji6)) = j_ := ⟨_, rfl⟩
   replace H : ((spec_Word.f (Go.bits .or .i64 (ji5) (ji8))).bind fun t225 => (some t225)) = some r := by first | (rw [hji8] at H; exact H) | (simp only [hji8] at H ⊢; exact H)
   (try rw [hji8] at A3)
   have hji8_ : (t224 / 2 ^ min (ji6).toNat 64) = ji8 := hji8
   have hji8z : (ji6) ≤ 64 → (t224 / 2 ^ (ji6).toNat) = ji8 := shr_small hji8
   replace H := zam.mp H
   obtain ⟨t225, A90, H⟩ := H
   try dsimp only at H
   have A9 := Aside0.mk A90
   clear A90
   obtain rfl := Option.some.inj H
   go_enter Try.func39, Try.ntmps39
   go_wp2_with (first | (go_at_call 38; (with_reducible refine (spec_Word.calls a0 t224 _ A3.out).mono ?_); rintro e w' ⟨rfl, ⟨nd, rfl⟩⟩; (try first | exact ⟨rfl, _, zcl _ _ _⟩ | exact ⟨rfl, _, Eq.trans (zcl _ _ _) (congrArg (World.drewN _) (zek _ _ _))⟩)) | (go_at_call 38; (with_reducible refine (spec_Word.calls (Go.bits .or .i64 (ji5) (ji8)) t225 _ A9.out).mono ?_); rintro e w' ⟨rfl, ⟨nd, rfl⟩⟩; (try first | exact ⟨rfl, _, zcl _ _ _⟩ | exact ⟨rfl, _, Eq.trans (zcl _ _ _) (congrArg (World.drewN _) (zek _ _ _))⟩)))
   repeat (go_quiet (first | (go_at_call 38; (with_reducible refine (spec_Word.calls a0 t224 _ A3.out).mono ?_); rintro e w' ⟨rfl, ⟨nd, rfl⟩⟩; (try first | exact ⟨rfl, _, zcl _ _ _⟩ | exact ⟨rfl, _, Eq.trans (zcl _ _ _) (congrArg (World.drewN _) (zek _ _ _))⟩)) | (go_at_call 38; (with_reducible refine (spec_Word.calls (Go.bits .or .i64 (ji5) (ji8)) t225 _ A9.out).mono ?_); rintro e w' ⟨rfl, ⟨nd, rfl⟩⟩; (try first | exact ⟨rfl, _, zcl _ _ _⟩ | exact ⟨rfl, _, Eq.trans (zcl _ _ _) (congrArg (World.drewN _) (zek _ _ _))⟩))); try go_wp2_with (first | (go_at_call 38; (with_reducible refine (spec_Word.calls a0 t224 _ A3.out).mono ?_); rintro e w' ⟨rfl, ⟨nd, rfl⟩⟩; (try first | exact ⟨rfl, _, zcl _ _ _⟩ | exact ⟨rfl, _, Eq.trans (zcl _ _ _) (congrArg (World.drewN _) (zek _ _ _))⟩)) | (go_at_call 38; (with_reducible refine (spec_Word.calls (Go.bits .or .i64 (ji5) (ji8)) t225 _ A9.out).mono ?_); rintro e w' ⟨rfl, ⟨nd, rfl⟩⟩; (try first | exact ⟨rfl, _, zcl _ _ _⟩ | exact ⟨rfl, _, Eq.trans (zcl _ _ _) (congrArg (World.drewN _) (zek _ _ _))⟩))))
   go_ret
   exact ⟨by first | rfl | (simp; done) | (simp only [← hji5, ← hji6, ← hji8] <;> (first | rfl | simp)) | (simp [*]; done), by repeat (first | exact Drawn0.refl _ | apply Drawn0.step)⟩
  ·rw [if_neg c7] at H
   exact absurd H (by simp)
 ·rw [if_neg c4] at H
  exact absurd H (by simp)
end Go.Proofs.Ytdineaebljpfaaa.P
