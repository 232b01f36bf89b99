import Derived.Test.Ytdineaebljpfaaaq4
namespace Go.Proofs.Ytdineaebljpfaaa.P
open Go.RowKit Go.Proofs.YtdineaebljpfaaaW.PrintWords Go.Proofs.YtdineaebljpfaaaW.PrintLast Go.Proofs.YtdineaebljpfaaaW.PrintMore
attribute [local go_sem] max2_int min2_int max_two min_two zcg zch max_four min_four   -- for this text's walks alone
set_option linter.unusedVariables false
set_option linter.unusedSimpArgs false

def impl_Word.f (a0 : Int) : Option (Int) := some (Go.bits .and .i64 a0 4294967295)
set_option maxHeartbeats 8000000 in
set_option maxRecDepth 100000 in
theorem impl_Word.calls (a0 : Int) (r : Int) (w : World) (h : impl_Word.f a0 = some r) :
  Calls Try.prog 49 #[.int .i64 a0] w fun e w' => e = .returned (.int .i64 r) ∧ Drawn0 w w' := by
 have H : (some (Go.bits .and .i64 a0 4294967295)) = some r := h
 clear h
 obtain rfl := Option.some.inj H
 go_enter Try.func49, Try.ntmps49
 go_wp2
 go_ret
 exact ⟨by first | rfl | (simp; done) | (simp [*]; done), by repeat (first | exact Drawn0.refl _ | apply Drawn0.step)⟩
def impl_Turn.f (a0 : Int) (a1 : Int) : Option (Int) := (impl_Word.f a0).bind fun t279 => (if 0 ≤ (Go.bits .and .i64 a1 31) then (if 0 ≤ (wrap64 (32 - (Go.bits .and .i64 a1 31))) then ((impl_Word.f (Go.bits .or .i64 (shl .i64 t279 (Go.bits .and .i64 a1 31)) (shr .i64 t279 (wrap64 (32 - (Go.bits .and .i64 a1 31)))))).bind fun t280 => (some t280)) else (none)) else (none))
set_option maxHeartbeats 8000000 in
set_option maxRecDepth 100000 in
theorem impl_Turn.calls (a0 : Int) (a1 : Int) (r : Int) (w : World) (h : impl_Turn.f a0 a1 = some r) :
  Calls Try.prog 63 #[.int .i64 a0, .int .i64 a1] w fun e w' => e = .returned (.int .i64 r) ∧ Drawn0 w w' := by
 have H : ((impl_Word.f a0).bind fun t279 => (if 0 ≤ (Go.bits .and .i64 a1 31) then (if 0 ≤ (wrap64 (32 - (Go.bits .and .i64 a1 31))) then ((impl_Word.f (Go.bits .or .i64 (shl .i64 t279 (Go.bits .and .i64 a1 31)) (shr .i64 t279 (wrap64 (32 - (Go.bits .and .i64 a1 31)))))).bind fun t280 => (some t280)) else (none)) else (none))) = some r := h
 clear h
 replace H := zai.mp H
 obtain ⟨t279, A30, H⟩ := H
 try dsimp only at H
 have A3 := Aside0.mk A30
 clear A30
 by_cases c4 : 0 ≤ (Go.bits .and .i64 a1 31)
 ·rw [if_pos c4] at H
  have c4b0 := zas c4
  have c4b1 : decide (0 ≤ (Go.bits .and .i64 a1 31)) = true := zar c4
  clear c4
  obtain ⟨ji5, hji5⟩ : ∃ j_ : Int, (shl .i64 t279 (Go.bits .and .i64 a1 31)) = j_ := ⟨_, rfl⟩
  replace H : (if 0 ≤ (wrap64 (32 - (Go.bits .and .i64 a1 31))) then ((impl_Word.f (Go.bits .or .i64 (ji5) (shr .i64 t279 (wrap64 (32 - (Go.bits .and .i64 a1 31)))))).bind fun t280 => (some t280)) else (none)) = some r := by first | (rw [hji5] at H; exact H) | (simp only [hji5] at H ⊢; exact H)
  (try rw [hji5] at A3)
  have hji5_ : (IntKind.i64.wrap (t279 * 2 ^ min (Go.bits .and .i64 a1 31).toNat 64)) = ji5 := hji5
  have hji5z : (Go.bits .and .i64 a1 31) ≤ 64 → (IntKind.i64.wrap (t279 * 2 ^ (Go.bits .and .i64 a1 31).toNat)) = ji5 := shl_small hji5
  have hji5y : (wrap64 (t279 * 2 ^ min (Go.bits .and .i64 a1 31).toNat 64)) = ji5 := (i64_w _).symm.trans hji5_
  have hji5x : (Go.bits .and .i64 a1 31) ≤ 64 → (wrap64 (t279 * 2 ^ (Go.bits .and .i64 a1 31).toNat)) = ji5 := fun h_ => (i64_w _).symm.trans (hji5z h_)
  obtain ⟨ji6, hji6⟩ : ∃ j_ : Int, (wrap64 (32 - (Go.bits .and .i64 a1 31))) = j_ := ⟨_, rfl⟩
  replace H : (if 0 ≤ (ji6) then ((impl_Word.f (Go.bits .or .i64 (ji5) (shr .i64 t279 (ji6)))).bind fun t280 => (some t280)) else (none)) = some r := by first | (rw [hji6] at H; exact H) | (simp only [hji6] at H ⊢; exact H)
  (try rw [hji6] at A3)
  have hji6w : (IntKind.i64.wrap (32 - (Go.bits .and .i64 a1 31))) = ji6 := (i64_w _).trans hji6
  by_cases c7 : 0 ≤ (ji6)
  ·rw [if_pos c7] at H
   have c7b0 := zas c7
   have c7b1 : decide (0 ≤ (ji6)) = true := zar c7
   clear c7
   obtain ⟨ji8, hji8⟩ : ∃ j_ : Int, (shr .i64 t279 (ji6)) = j_ := ⟨_, rfl⟩
   replace H : ((impl_Word.f (Go.bits .or .i64 (ji5) (ji8))).bind fun t280 => (some t280)) = some r := by first | (rw [hji8] at H; exact H) | (simp only [hji8] at H ⊢; exact H)
   (try rw [hji8] at A3)
   have hji8_ : (t279 / 2 ^ min (ji6).toNat 64) = ji8 := hji8
   have hji8z : (ji6) ≤ 64 → (t279 / 2 ^ (ji6).toNat) = ji8 := shr_small hji8
   replace H := zai.mp H
   obtain ⟨t280, A90, H⟩ := H
   try dsimp only at H
   have A9 := Aside0.mk A90
   clear A90
   obtain rfl := Option.some.inj H
   go_enter Try.func63, Try.ntmps63
   go_wp2_with (first | (go_at_call 49; (with_reducible refine (impl_Word.calls a0 t279 _ A3.out).mono ?_); rintro e w' ⟨rfl, ⟨nd, rfl⟩⟩; (try first | exact ⟨rfl, _, zbc _ _ _⟩ | exact ⟨rfl, _, Eq.trans (zbc _ _ _) (congrArg (World.drewN _) (zce _ _ _))⟩)) | (go_at_call 49; (with_reducible refine (impl_Word.calls (Go.bits .or .i64 (ji5) (ji8)) t280 _ A9.out).mono ?_); rintro e w' ⟨rfl, ⟨nd, rfl⟩⟩; (try first | exact ⟨rfl, _, zbc _ _ _⟩ | exact ⟨rfl, _, Eq.trans (zbc _ _ _) (congrArg (World.drewN _) (zce _ _ _))⟩)))
   repeat (go_quiet (first | (go_at_call 49; (with_reducible refine (impl_Word.calls a0 t279 _ A3.out).mono ?_); rintro e w' ⟨rfl, ⟨nd, rfl⟩⟩; (try first | exact ⟨rfl, _, zbc _ _ _⟩ | exact ⟨rfl, _, Eq.trans (zbc _ _ _) (congrArg (World.drewN _) (zce _ _ _))⟩)) | (go_at_call 49; (with_reducible refine (impl_Word.calls (Go.bits .or .i64 (ji5) (ji8)) t280 _ A9.out).mono ?_); rintro e w' ⟨rfl, ⟨nd, rfl⟩⟩; (try first | exact ⟨rfl, _, zbc _ _ _⟩ | exact ⟨rfl, _, Eq.trans (zbc _ _ _) (congrArg (World.drewN _) (zce _ _ _))⟩))); try go_wp2_with (first | (go_at_call 49; (with_reducible refine (impl_Word.calls a0 t279 _ A3.out).mono ?_); rintro e w' ⟨rfl, ⟨nd, rfl⟩⟩; (try first | exact ⟨rfl, _, zbc _ _ _⟩ | exact ⟨rfl, _, Eq.trans (zbc _ _ _) (congrArg (World.drewN _) (zce _ _ _))⟩)) | (go_at_call 49; (with_reducible refine (impl_Word.calls (Go.bits .or .i64 (ji5) (ji8)) t280 _ A9.out).mono ?_); rintro e w' ⟨rfl, ⟨nd, rfl⟩⟩; (try first | exact ⟨rfl, _, zbc _ _ _⟩ | exact ⟨rfl, _, Eq.trans (zbc _ _ _) (congrArg (World.drewN _) (zce _ _ _))⟩))))
   go_ret
   exact ⟨by first | rfl | (simp; done) | (simp only [← hji5, ← hji6, ← hji8] <;> (first | rfl | simp)) | (simp [*]; done), by repeat (first | exact Drawn0.refl _ | apply Drawn0.step)⟩
  ·rw [if_neg c7] at H
   exact absurd H (by simp)
 ·rw [if_neg c4] at H
  exact absurd H (by simp)
end Go.Proofs.Ytdineaebljpfaaa.P
