import Derived.Test.Ytienlgcjohpphaam5
namespace Go.Proofs.Ytienlgcjohpphaa.P
open Go.RowKit Go.Proofs.YtienlgcjohpphaaW.PrintWords Go.Proofs.YtienlgcjohpphaaW.PrintLast Go.Proofs.YtienlgcjohpphaaW.PrintMore
attribute [local go_sem] zcz zda zdp zdq zcs zct zdb zdc   -- for this text's walks alone
set_option linter.unusedVariables false
set_option linter.unusedSimpArgs false

def laws_heldByteS.l0 : Nat → List Int → Int → Int → Option (Int)
 | 0, _, _, _ => none
 | k + 1, x0, x1, x5 => if x5 < (x0.length : Int) then (if 0 ≤ x5 then (if (rd x0 x5) = ((x1) % 256) then (laws_heldByteS.l0 k x0 (wrap64 (x1 + 1)) (wrap64 (x5 + 1))) else (some (-1))) else (none)) else (some x1)
def laws_heldByteS.f (k : Nat) (l0 : List Int) (a1 : Int) : Option (Int) := laws_heldByteS.l0 k l0 a1 0
theorem laws_heldByteS.mono_l : ∀ k, (∀ y0 y1 y2, LeO (laws_heldByteS.l0 k y0 y1 y2) (laws_heldByteS.l0 (k + 1) y0 y1 y2))
 | 0 => fun _ _ _ r h => by simp [laws_heldByteS.l0] at h
 | k + 1 => by
  have ih0 := laws_heldByteS.mono_l k
  ·intro y0 y1 y2
   unfold laws_heldByteS.l0
   repeat' first
   | (with_reducible exact ih0 _ _ _)
   | (with_reducible exact zcj _)
   | (with_reducible exact zby _)
   | (with_reducible refine zcb ?_ ?_)
   | (with_reducible refine zbx ?_ (fun _ => ?_))
   | exact ih0 _ _ _
   | exact zby _
   | refine zcb ?_ ?_
   | refine zbx ?_ (fun _ => ?_)
theorem laws_heldByteS.mono : ∀ a0 a1 k, LeO (laws_heldByteS.f k a0 a1) (laws_heldByteS.f (k + 1) a0 a1) := by
 intro a0 a1 k
 have ih0 := laws_heldByteS.mono_l k
 unfold laws_heldByteS.f
 repeat' first
   | (with_reducible exact ih0 _ _ _)
   | (with_reducible exact zcj _)
   | (with_reducible exact zby _)
   | (with_reducible refine zcb ?_ ?_)
   | (with_reducible refine zbx ?_ (fun _ => ?_))
   | exact ih0 _ _ _
   | exact zby _
   | refine zcb ?_ ?_
   | refine zbx ?_ (fun _ => ?_)
set_option maxHeartbeats 8000000 in
set_option maxRecDepth 100000 in
theorem laws_heldByteS.calls (k : Nat) (A0 : Option Addr) (c0 : Nat) (l0 : List Int) (a1 : Int) (r : Int) (w : World) (hr0 : Kd.C (Kd.int .u8) w A0 l0.length l0) (hc0 : l0.length ≤ c0) (h : laws_heldByteS.f k l0 a1 = some r) :
  Calls Try.prog 26 #[.slice A0 l0.length c0, .int .i64 a1] w fun e w' => e = .returned (.int .i64 r) ∧ Drawn0 w w' := by
 have HR0 := Aside0.mk hr0
 have HC0 := Aside0.mk hc0
 clear hr0 hc0
 have H : (laws_heldByteS.l0 k l0 a1 0) = some r := h
 clear h
 have H' := Aside0.mk H
 clear H
 go_enter Try.func26, Try.ntmps26
 go_wp2
 go_loopg [1, 5] k (fun kq v1 v5 w' => ∃ (x1_1 : Int) (x5_1 : Int), v1 = .int .i64 x1_1 ∧ v5 = .int .i64 x5_1 ∧ Aside0 (laws_heldByteS.l0 kq l0 x1_1 x5_1 = some r) ∧ Aside0 (kq ≤ k) ∧ Drawn0 w w')
 case atStart => exact ⟨(a1), (0), (by first | rfl | (simp; done) | (simp [*]; done)), (by first | rfl | (simp; done) | (simp [*]; done)), H', ⟨zbu _⟩, by repeat (first | exact Drawn0.refl _ | apply Drawn0.step)⟩
 case round =>
  clear H'
  try clear c2
  try clear p2
  obtain ⟨x1_1, x5_1, rfl, rfl, HA, HK1, ⟨m1, rfl⟩⟩ := hrel
  cases gk with
  | zero => exact absurd HA.out (by simp [laws_heldByteS.l0])
  | succ k1 =>
   have H := HA.out
   clear HA
   simp only [laws_heldByteS.l0] at H
   by_cases c3 : x5_1 < (l0.length : Int)
   ·rw [if_pos c3] at H
    have c3b0 : decide (x5_1 < (l0.length : Int)) = true := zbc c3
    clear c3
    by_cases c4 : 0 ≤ x5_1
    ·rw [if_pos c4] at H
     have c4b0 : decide (0 ≤ x5_1) = true := zbc c4
     clear c4
     by_cases c5 : (rd l0 x5_1) = ((x1_1) % 256)
     ·rw [if_pos c5] at H
      have c5b0 : ((rd l0 x5_1) == ((x1_1) % 256)) = true := zek.mpr c5
      have c5b1 : ((rd l0 x5_1) != ((x1_1) % 256)) = false := zcx.mpr c5
      clear c5
      have H' := Aside0.mk H
      clear H
      have p492 : 0 ≤ (x5_1 : Int) := zbg (by first | (with_reducible assumption) | assumption)
      have q492 : x5_1 < (l0.length : Int) := zbg (by first | (with_reducible assumption) | assumption)
      obtain ⟨ad492, e492, hx492_0⟩ := zcg HR0.out x5_1 p492 q492
      cases e492
      replace p492 := zbw p492
      replace q492 := zbw q492
      go_wp2
      go_roundg k1
      case measure => have := HK1.out; omega
      case rel => exact ⟨(wrap64 (x1_1 + 1)), (wrap64 (x5_1 + 1)), (by first | rfl | (simp; done) | (simp [*]; done)), (by first | rfl | (simp; done) | (simp [*]; done)), H', ⟨by have := HK1.out; omega⟩, by repeat (first | exact Drawn0.refl _ | apply Drawn0.step)⟩
     ·rw [if_neg c5] at H
      have c5b0 : ((rd l0 x5_1) == ((x1_1) % 256)) = false := zcr.mpr c5
      have c5b1 : ((rd l0 x5_1) != ((x1_1) % 256)) = true := zel.mpr c5
      obtain rfl := Option.some.inj H
      have p492 : 0 ≤ (x5_1 : Int) := zbg (by first | (with_reducible assumption) | assumption)
      have q492 : x5_1 < (l0.length : Int) := zbg (by first | (with_reducible assumption) | assumption)
      obtain ⟨ad492, e492, hx492_0⟩ := zcg HR0.out x5_1 p492 q492
      cases e492
      replace p492 := zbw p492
      replace q492 := zbw q492
      go_wp2
      go_ret
      exact ⟨by first | rfl | (simp; done) | (simp [*]; done), by repeat (first | exact Drawn0.refl _ | apply Drawn0.step)⟩
    ·rw [if_neg c4] at H
     exact absurd H (by simp)
   ·rw [if_neg c3] at H
    have c3b0 : decide (x5_1 < (l0.length : Int)) = false := zbt c3
    clear c3
    obtain rfl := Option.some.inj H
    go_wp2
    go_ret
    exact ⟨by first | rfl | (simp; done) | (simp [*]; done), by repeat (first | exact Drawn0.refl _ | apply Drawn0.step)⟩
def spec_Word.f (a0 : Int) : Option (Int) := some (Go.bits .and .i64 a0 4294967295)
set_option maxHeartbeats 8000000 in
set_option maxRecDepth 100000 in
theorem spec_Word.calls (a0 : Int) (r : Int) (w : World) (h : spec_Word.f a0 = some r) :
  Calls Try.prog 69 #[.int .i64 a0] w fun e w' => e = .returned (.int .i64 r) ∧ Drawn0 w w' := by
 have H : (some (Go.bits .and .i64 a0 4294967295)) = some r := h
 clear h
 obtain rfl := Option.some.inj H
 go_enter Try.func69, Try.ntmps69
 go_wp2
 go_ret
 exact ⟨by first | rfl | (simp; done) | (simp [*]; done), by repeat (first | exact Drawn0.refl _ | apply Drawn0.step)⟩
def spec_Turn.f (a0 : Int) (a1 : Int) : Option (Int) := (spec_Word.f a0).bind fun t101 => (if 0 ≤ (Go.bits .and .i64 a1 31) then (if 0 ≤ (wrap64 (32 - (Go.bits .and .i64 a1 31))) then ((spec_Word.f (Go.bits .or .i64 (shl .i64 t101 (Go.bits .and .i64 a1 31)) (shr .i64 t101 (wrap64 (32 - (Go.bits .and .i64 a1 31)))))).bind fun t102 => (some t102)) else (none)) else (none))
set_option maxHeartbeats 8000000 in
set_option maxRecDepth 100000 in
theorem spec_Turn.calls (a0 : Int) (a1 : Int) (r : Int) (w : World) (h : spec_Turn.f a0 a1 = some r) :
  Calls Try.prog 101 #[.int .i64 a0, .int .i64 a1] w fun e w' => e = .returned (.int .i64 r) ∧ Drawn0 w w' := by
 have H : ((spec_Word.f a0).bind fun t101 => (if 0 ≤ (Go.bits .and .i64 a1 31) then (if 0 ≤ (wrap64 (32 - (Go.bits .and .i64 a1 31))) then ((spec_Word.f (Go.bits .or .i64 (shl .i64 t101 (Go.bits .and .i64 a1 31)) (shr .i64 t101 (wrap64 (32 - (Go.bits .and .i64 a1 31)))))).bind fun t102 => (some t102)) else (none)) else (none))) = some r := h
 clear h
 replace H := zas.mp H
 obtain ⟨t101, A30, H⟩ := H
 replace H : (if 0 ≤ (Go.bits .and .i64 a1 31) then (if 0 ≤ (wrap64 (32 - (Go.bits .and .i64 a1 31))) then ((spec_Word.f (Go.bits .or .i64 (shl .i64 t101 (Go.bits .and .i64 a1 31)) (shr .i64 t101 (wrap64 (32 - (Go.bits .and .i64 a1 31)))))).bind fun t102 => (some t102)) else (none)) else (none)) = some r := H
 have A3 := Aside0.mk A30
 clear A30
 by_cases c4 : 0 ≤ (Go.bits .and .i64 a1 31)
 ·rw [if_pos c4] at H
  have c4b0 := zbw c4
  have c4b1 : decide (0 ≤ (Go.bits .and .i64 a1 31)) = true := zbc c4
  clear c4
  obtain ⟨ji5, hji5⟩ : ∃ j_ : Int, (shl .i64 t101 (Go.bits .and .i64 a1 31)) = j_ := ⟨_, rfl⟩
  replace H : (if 0 ≤ (wrap64 (32 - (Go.bits .and .i64 a1 31))) then ((spec_Word.f (Go.bits .or .i64 (ji5) (shr .i64 t101 (wrap64 (32 - (Go.bits .and .i64 a1 31)))))).bind fun t102 => (some t102)) else (none)) = some r := by first | (rw [hji5] at H; exact H) | (simp only [hji5] at H ⊢; exact H)
  (try rw [hji5] at A3)
  have hji5_ : (IntKind.i64.wrap (t101 * 2 ^ min (Go.bits .and .i64 a1 31).toNat 64)) = ji5 := hji5
  have hji5z : (Go.bits .and .i64 a1 31) ≤ 64 → (IntKind.i64.wrap (t101 * 2 ^ (Go.bits .and .i64 a1 31).toNat)) = ji5 := shl_small hji5
  have hji5y : (wrap64 (t101 * 2 ^ min (Go.bits .and .i64 a1 31).toNat 64)) = ji5 := (i64_w _).symm.trans hji5_
  have hji5x : (Go.bits .and .i64 a1 31) ≤ 64 → (wrap64 (t101 * 2 ^ (Go.bits .and .i64 a1 31).toNat)) = ji5 := fun h_ => (i64_w _).symm.trans (hji5z h_)
  obtain ⟨ji6, hji6⟩ : ∃ j_ : Int, (wrap64 (32 - (Go.bits .and .i64 a1 31))) = j_ := ⟨_, rfl⟩
  replace H : (if 0 ≤ (ji6) then ((spec_Word.f (Go.bits .or .i64 (ji5) (shr .i64 t101 (ji6)))).bind fun t102 => (some t102)) else (none)) = some r := by first | (rw [hji6] at H; exact H) | (simp only [hji6] at H ⊢; exact H)
  (try rw [hji6] at A3)
  have hji6w : (IntKind.i64.wrap (32 - (Go.bits .and .i64 a1 31))) = ji6 := (i64_w _).trans hji6
  by_cases c7 : 0 ≤ (ji6)
  ·rw [if_pos c7] at H
   have c7b0 := zbw c7
   have c7b1 : decide (0 ≤ (ji6)) = true := zbc c7
   clear c7
   obtain ⟨ji8, hji8⟩ : ∃ j_ : Int, (shr .i64 t101 (ji6)) = j_ := ⟨_, rfl⟩
   replace H : ((spec_Word.f (Go.bits .or .i64 (ji5) (ji8))).bind fun t102 => (some t102)) = some r := by first | (rw [hji8] at H; exact H) | (simp only [hji8] at H ⊢; exact H)
   (try rw [hji8] at A3)
   have hji8_ : (t101 / 2 ^ min (ji6).toNat 64) = ji8 := hji8
   have hji8z : (ji6) ≤ 64 → (t101 / 2 ^ (ji6).toNat) = ji8 := shr_small hji8
   replace H := zas.mp H
   obtain ⟨t102, A90, H⟩ := H
   replace H : (some t102) = some r := H
   have A9 := Aside0.mk A90
   clear A90
   obtain rfl := Option.some.inj H
   go_enter Try.func101, Try.ntmps101
   go_wp2_with (first | (go_at_call 69; (with_reducible refine (spec_Word.calls a0 t101 _ A3.out).mono ?_); rintro e w' ⟨rfl, ⟨nd, rfl⟩⟩; (try first | exact ⟨rfl, _, zcn _ _ _⟩ | exact ⟨rfl, _, Eq.trans (zcn _ _ _) (congrArg (World.drewN _) (zef _ _ _))⟩)) | (go_at_call 69; (with_reducible refine (spec_Word.calls (Go.bits .or .i64 (ji5) (ji8)) t102 _ A9.out).mono ?_); rintro e w' ⟨rfl, ⟨nd, rfl⟩⟩; (try first | exact ⟨rfl, _, zcn _ _ _⟩ | exact ⟨rfl, _, Eq.trans (zcn _ _ _) (congrArg (World.drewN _) (zef _ _ _))⟩)))
   repeat (go_quiet (first | (go_at_call 69; (with_reducible refine (spec_Word.calls a0 t101 _ A3.out).mono ?_); rintro e w' ⟨rfl, ⟨nd, rfl⟩⟩; (try first | exact ⟨rfl, _, zcn _ _ _⟩ | exact ⟨rfl, _, Eq.trans (zcn _ _ _) (congrArg (World.drewN _) (zef _ _ _))⟩)) | (go_at_call 69; (with_reducible refine (spec_Word.calls (Go.bits .or .i64 (ji5) (ji8)) t102 _ A9.out).mono ?_); rintro e w' ⟨rfl, ⟨nd, rfl⟩⟩; (try first | exact ⟨rfl, _, zcn _ _ _⟩ | exact ⟨rfl, _, Eq.trans (zcn _ _ _) (congrArg (World.drewN _) (zef _ _ _))⟩))); try go_wp2_with (first | (go_at_call 69; (with_reducible refine (spec_Word.calls a0 t101 _ A3.out).mono ?_); rintro e w' ⟨rfl, ⟨nd, rfl⟩⟩; (try first | exact ⟨rfl, _, zcn _ _ _⟩ | exact ⟨rfl, _, Eq.trans (zcn _ _ _) (congrArg (World.drewN _) (zef _ _ _))⟩)) | (go_at_call 69; (with_reducible refine (spec_Word.calls (Go.bits .or .i64 (ji5) (ji8)) t102 _ A9.out).mono ?_); rintro e w' ⟨rfl, ⟨nd, rfl⟩⟩; (try first | exact ⟨rfl, _, zcn _ _ _⟩ | exact ⟨rfl, _, Eq.trans (zcn _ _ _) (congrArg (World.drewN _) (zef _ _ _))⟩))))
   go_ret
   exact ⟨by first | rfl | (simp; done) | (simp only [← hji5, ← hji6, ← hji8] <;> (first | rfl | simp)) | (simp [*]; done), by repeat (first | exact Drawn0.refl _ | apply Drawn0.step)⟩
  ·rw [if_neg c7] at H
   exact absurd H (by simp)
 ·rw [if_neg c4] at H
  exact absurd H (by simp)
end Go.Proofs.Ytienlgcjohpphaa.P
