import Derived.Test.Ytienlgcjohpphaake5
namespace Go.Proofs.Ytienlgcjohpphaa.P
open Go.RowKit Go.Proofs.YtienlgcjohpphaaW.PrintWords Go.Proofs.YtienlgcjohpphaaW.PrintLast Go.Proofs.YtienlgcjohpphaaW.PrintMore
attribute [local go_sem] zbz zca zcn zco zbt zbu zcb zcc   -- for this text's walks alone
set_option linter.unusedVariables false
set_option linter.unusedSimpArgs false
set_option maxHeartbeats 8000000
set_option maxRecDepth 100000

def spec_Word.f (a0 : Int) : Option (Int) := some (Go.bits .and .i64 a0 4294967295)
theorem spec_Word.calls (a0 : Int) (r : Int) (w : World) (h : spec_Word.f a0 = some r) :
  Calls Try.prog 69 #[.int .i64 a0] w fun e w' => e = .returned (.int .i64 r) ∧ Drawn0 w w' := by
 have H : (some (Go.bits .and .i64 a0 4294967295)) = some r := h
 clear h
 obtain rfl := Option.some.inj H
 go_enter Try.func69, Try.ntmps69
 go_wp2
 go_ret
 exact ⟨by first | rfl | (simp; done) | (simp [*]; done), by repeat (first | exact Drawn0.refl _ | apply Drawn0.step)⟩
def spec_Turn.f (a0 : Int) (a1 : Int) : Option (Int) := (spec_Word.f a0).bind fun t101 => (if 0 ≤ (Go.bits .and .i64 a1 31) then (if 0 ≤ (wrap64 (32 - (Go.bits .and .i64 a1 31))) then ((spec_Word.f (Go.bits .or .i64 (shl .i64 t101 (Go.bits .and .i64 a1 31)) (shr .i64 t101 (wrap64 (32 - (Go.bits .and .i64 a1 31)))))).bind fun t102 => (some t102)) else (none)) else (none))
theorem spec_Turn.calls (a0 : Int) (a1 : Int) (r : Int) (w : World) (h : spec_Turn.f a0 a1 = some r) :
  Calls Try.prog 101 #[.int .i64 a0, .int .i64 a1] w fun e w' => e = .returned (.int .i64 r) ∧ Drawn0 w w' := by
 have H : ((spec_Word.f a0).bind fun t101 => (if 0 ≤ (Go.bits .and .i64 a1 31) then (if 0 ≤ (wrap64 (32 - (Go.bits .and .i64 a1 31))) then ((spec_Word.f (Go.bits .or .i64 (shl .i64 t101 (Go.bits .and .i64 a1 31)) (shr .i64 t101 (wrap64 (32 - (Go.bits .and .i64 a1 31)))))).bind fun t102 => (some t102)) else (none)) else (none))) = some r := h
 clear h
 obtain ⟨t101, A3, H⟩ := bnd H
 by_cases c4 : 0 ≤ (Go.bits .and .i64 a1 31)
 ·rw [if_pos c4] at H
  have c4b0 := zan c4
  have c4b1 := zaa c4
  clear c4
  obtain ⟨ji5, hji5⟩ : ∃ j_ : Int, (shl .i64 t101 (Go.bits .and .i64 a1 31)) = j_ := ⟨_, rfl⟩
  replace H : (if 0 ≤ (wrap64 (32 - (Go.bits .and .i64 a1 31))) then ((spec_Word.f (Go.bits .or .i64 (ji5) (shr .i64 t101 (wrap64 (32 - (Go.bits .and .i64 a1 31)))))).bind fun t102 => (some t102)) else (none)) = some r := by first | (rw [hji5] at H; exact H) | (simp only [hji5] at H ⊢; exact H)
  (try rw [hji5] at A3)
  have hji5_ : (IntKind.i64.wrap (t101 * 2 ^ min (Go.bits .and .i64 a1 31).toNat 64)) = ji5 := hji5
  have hji5z : (Go.bits .and .i64 a1 31) ≤ 64 → (IntKind.i64.wrap (t101 * 2 ^ (Go.bits .and .i64 a1 31).toNat)) = ji5 := shl_small hji5
  have hji5y : (wrap64 (t101 * 2 ^ min (Go.bits .and .i64 a1 31).toNat 64)) = ji5 := (i64_w _).symm.trans hji5_
  have hji5x : (Go.bits .and .i64 a1 31) ≤ 64 → (wrap64 (t101 * 2 ^ (Go.bits .and .i64 a1 31).toNat)) = ji5 := fun h_ => (i64_w _).symm.trans (hji5z h_)
  obtain ⟨ji6, hji6⟩ : ∃ j_ : Int, (wrap64 (32 - (Go.bits .and .i64 a1 31))) = j_ := ⟨_, rfl⟩
  replace H : (if 0 ≤ (ji6) then ((spec_Word.f (Go.bits .or .i64 (ji5) (shr .i64 t101 (ji6)))).bind fun t102 => (some t102)) else (none)) = some r := by first | (rw [hji6] at H; exact H) | (simp only [hji6] at H ⊢; exact H)
  (try rw [hji6] at A3)
  have hji6w : (IntKind.i64.wrap (32 - (Go.bits .and .i64 a1 31))) = ji6 := (i64_w _).trans hji6
  by_cases c7 : 0 ≤ (ji6)
  ·rw [if_pos c7] at H
   have c7b0 := zan c7
   have c7b1 := zaa c7
   clear c7
   obtain ⟨ji8, hji8⟩ : ∃ j_ : Int, (shr .i64 t101 (ji6)) = j_ := ⟨_, rfl⟩
   replace H : ((spec_Word.f (Go.bits .or .i64 (ji5) (ji8))).bind fun t102 => (some t102)) = some r := by first | (rw [hji8] at H; exact H) | (simp only [hji8] at H ⊢; exact H)
   (try rw [hji8] at A3)
   have hji8_ : (t101 / 2 ^ min (ji6).toNat 64) = ji8 := hji8
   have hji8z : (ji6) ≤ 64 → (t101 / 2 ^ (ji6).toNat) = ji8 := shr_small hji8
   obtain ⟨t102, A9, H⟩ := bnd H
   obtain rfl := Option.some.inj H
   go_enter Try.func101, Try.ntmps101
   go_wp2_with (first | (go_at_call 69; (with_reducible refine (spec_Word.calls a0 t101 _ A3.out).mono ?_); rintro e w' ⟨rfl, ⟨nd, rfl⟩⟩; (try first | exact ⟨rfl, _, zbm _ _ _⟩ | exact ⟨rfl, _, Eq.trans (zbm _ _ _) (congrArg (World.drewN _) (zdi _ _ _))⟩)) | (go_at_call 69; (with_reducible refine (spec_Word.calls (Go.bits .or .i64 (ji5) (ji8)) t102 _ A9.out).mono ?_); rintro e w' ⟨rfl, ⟨nd, rfl⟩⟩; (try first | exact ⟨rfl, _, zbm _ _ _⟩ | exact ⟨rfl, _, Eq.trans (zbm _ _ _) (congrArg (World.drewN _) (zdi _ _ _))⟩)))
   repeat (go_quiet (first | (go_at_call 69; (with_reducible refine (spec_Word.calls a0 t101 _ A3.out).mono ?_); rintro e w' ⟨rfl, ⟨nd, rfl⟩⟩; (try first | exact ⟨rfl, _, zbm _ _ _⟩ | exact ⟨rfl, _, Eq.trans (zbm _ _ _) (congrArg (World.drewN _) (zdi _ _ _))⟩)) | (go_at_call 69; (with_reducible refine (spec_Word.calls (Go.bits .or .i64 (ji5) (ji8)) t102 _ A9.out).mono ?_); rintro e w' ⟨rfl, ⟨nd, rfl⟩⟩; (try first | exact ⟨rfl, _, zbm _ _ _⟩ | exact ⟨rfl, _, Eq.trans (zbm _ _ _) (congrArg (World.drewN _) (zdi _ _ _))⟩))); try go_wp2_with (first | (go_at_call 69; (with_reducible refine (spec_Word.calls a0 t101 _ A3.out).mono ?_); rintro e w' ⟨rfl, ⟨nd, rfl⟩⟩; (try first | exact ⟨rfl, _, zbm _ _ _⟩ | exact ⟨rfl, _, Eq.trans (zbm _ _ _) (congrArg (World.drewN _) (zdi _ _ _))⟩)) | (go_at_call 69; (with_reducible refine (spec_Word.calls (Go.bits .or .i64 (ji5) (ji8)) t102 _ A9.out).mono ?_); rintro e w' ⟨rfl, ⟨nd, rfl⟩⟩; (try first | exact ⟨rfl, _, zbm _ _ _⟩ | exact ⟨rfl, _, Eq.trans (zbm _ _ _) (congrArg (World.drewN _) (zdi _ _ _))⟩))))
   go_ret
   exact ⟨by first | rfl | (simp; done) | (simp only [← hji5, ← hji6, ← hji8] <;> (first | rfl | simp)) | (simp [*]; done), by repeat (first | exact Drawn0.refl _ | apply Drawn0.step)⟩
  ·rw [if_neg c7] at H
   exact absurd H (by simp)
 ·rw [if_neg c4] at H
  exact absurd H (by simp)
def spec_l3Mix.f (a0 : Int) (a1 : Int) (a2 : Int) (a3 : Int) (a4 : Bool) : Option (Int) := (spec_Turn.f a0 (wrap64 (32 - a3))).bind fun t103 => (if a4 = true then ((spec_Word.f a0).bind fun t104 => (if 0 ≤ a3 then ((spec_Turn.f a0 (wrap64 (32 - a1))).bind fun t105 => ((spec_Turn.f a0 (wrap64 (32 - a2))).bind fun t106 => (some (Go.bits .xor .i64 (Go.bits .xor .i64 t105 t106) (shr .i64 t104 a3))))) else (none))) else ((spec_Turn.f a0 (wrap64 (32 - a1))).bind fun t107 => ((spec_Turn.f a0 (wrap64 (32 - a2))).bind fun t108 => (some (Go.bits .xor .i64 (Go.bits .xor .i64 t107 t108) t103)))))
theorem spec_l3Mix.wk {P : Prop} (h : P := by
 go_enter Try.func70, Try.ntmps70
 go_wp2_with (first | (refine jgc 101 ?_; refine jgs 15 Try.func101 #[.int .i64 a0, .int .i64 (wrap64 (32 - a3))] ?_; (with_reducible refine (spec_Turn.calls a0 (wrap64 (32 - a3)) t103 _ A6.out).mono ?_); rintro e w' ⟨rfl, ⟨nd, rfl⟩⟩; refine ⟨_, rfl, ?_⟩) | (refine jgc 69 ?_; refine jgs 18 Try.func69 #[.int .i64 a0] ?_; (with_reducible refine (spec_Word.calls a0 t104 _ A8.out).mono ?_); rintro e w' ⟨rfl, ⟨nd, rfl⟩⟩; refine ⟨_, rfl, ?_⟩) | (refine jgc 101 ?_; refine jgs 24 Try.func101 #[.int .i64 a0, .int .i64 (wrap64 (32 - a1))] ?_; (with_reducible refine (spec_Turn.calls a0 (wrap64 (32 - a1)) t105 _ A11.out).mono ?_); rintro e w' ⟨rfl, ⟨nd, rfl⟩⟩; refine ⟨_, rfl, ?_⟩) | (refine jgc 101 ?_; refine jgs 28 Try.func101 #[.int .i64 a0, .int .i64 (wrap64 (32 - a2))] ?_; (with_reducible refine (spec_Turn.calls a0 (wrap64 (32 - a2)) t106 _ A12.out).mono ?_); rintro e w' ⟨rfl, ⟨nd, rfl⟩⟩; refine ⟨_, rfl, ?_⟩) | (refine jgc 101 ?_; refine jgs 24 Try.func101 #[.int .i64 a0, .int .i64 (wrap64 (32 - a1))] ?_; (with_reducible refine (spec_Turn.calls a0 (wrap64 (32 - a1)) t107 _ A13.out).mono ?_); rintro e w' ⟨rfl, ⟨nd, rfl⟩⟩; refine ⟨_, rfl, ?_⟩) | (refine jgc 101 ?_; refine jgs 28 Try.func101 #[.int .i64 a0, .int .i64 (wrap64 (32 - a2))] ?_; (with_reducible refine (spec_Turn.calls a0 (wrap64 (32 - a2)) t108 _ A14.out).mono ?_); rintro e w' ⟨rfl, ⟨nd, rfl⟩⟩; refine ⟨_, rfl, ?_⟩))
 go_ret
 first | (exact ⟨by first | rfl | (simp; done) | (simp only [← hji10] <;> (first | rfl | simp)) | (simp [*]; done), by repeat (first | exact Drawn0.refl _ | apply Drawn0.step)⟩) | (exact ⟨by first | rfl | (simp; done) | (simp [*]; done), by repeat (first | exact Drawn0.refl _ | apply Drawn0.step)⟩)) : P := h
theorem spec_l3Mix.calls (a0 : Int) (a1 : Int) (a2 : Int) (a3 : Int) (a4 : Bool) (r : Int) (w : World) (h : spec_l3Mix.f a0 a1 a2 a3 a4 = some r) :
  Calls Try.prog 70 #[.int .i64 a0, .int .i64 a1, .int .i64 a2, .int .i64 a3, .bool a4] w fun e w' => e = .returned (.int .i64 r) ∧ Drawn0 w w' := by
 have H : ((spec_Turn.f a0 (wrap64 (32 - a3))).bind fun t103 => (if a4 = true then ((spec_Word.f a0).bind fun t104 => (if 0 ≤ a3 then ((spec_Turn.f a0 (wrap64 (32 - a1))).bind fun t105 => ((spec_Turn.f a0 (wrap64 (32 - a2))).bind fun t106 => (some (Go.bits .xor .i64 (Go.bits .xor .i64 t105 t106) (shr .i64 t104 a3))))) else (none))) else ((spec_Turn.f a0 (wrap64 (32 - a1))).bind fun t107 => ((spec_Turn.f a0 (wrap64 (32 - a2))).bind fun t108 => (some (Go.bits .xor .i64 (Go.bits .xor .i64 t107 t108) t103)))))) = some r := h
 clear h
 obtain ⟨t103, A6, H⟩ := bnd H
 by_cases c7 : a4 = true
 ·subst c7
  rw [if_pos rfl] at H
  obtain ⟨t104, A8, H⟩ := bnd H
  by_cases c9 : 0 ≤ a3
  ·rw [if_pos c9] at H
   have c9b0 := zan c9
   have c9b1 := zaa c9
   clear c9
   obtain ⟨ji10, hji10⟩ : ∃ j_ : Int, (shr .i64 t104 a3) = j_ := ⟨_, rfl⟩
   replace H : ((spec_Turn.f a0 (wrap64 (32 - a1))).bind fun t105 => ((spec_Turn.f a0 (wrap64 (32 - a2))).bind fun t106 => (some (Go.bits .xor .i64 (Go.bits .xor .i64 t105 t106) (ji10))))) = some r := by first | (rw [hji10] at H; exact H) | (simp only [hji10] at H ⊢; exact H)
   (try rw [hji10] at A6)
   (try rw [hji10] at A8)
   have hji10_ : (t104 / 2 ^ min a3.toNat 64) = ji10 := hji10
   have hji10z : a3 ≤ 64 → (t104 / 2 ^ a3.toNat) = ji10 := shr_small hji10
   obtain ⟨t105, A11, H⟩ := bnd H
   obtain ⟨t106, A12, H⟩ := bnd H
   obtain rfl := Option.some.inj H
   exact spec_l3Mix.wk
  ·rw [if_neg c9] at H
   exact absurd H (by simp)
 ·replace c7 := zbn.mpr c7
  subst c7
  rw [if_neg (show ¬ (false = true) by decide)] at H
  obtain ⟨t107, A13, H⟩ := bnd H
  obtain ⟨t108, A14, H⟩ := bnd H
  obtain rfl := Option.some.inj H
  exact spec_l3Mix.wk
end Go.Proofs.Ytienlgcjohpphaa.P
