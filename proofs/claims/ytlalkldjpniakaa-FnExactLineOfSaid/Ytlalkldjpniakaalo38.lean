import Derived.Test.Ytlalkldjpniakaalo8
namespace Go.Proofs.Ytlalkldjpniakaa.P
open Go.RowKit Go.Proofs.YtlalkldjpniakaaW.PrintWords Go.Proofs.YtlalkldjpniakaaW.PrintLast Go.Proofs.YtlalkldjpniakaaW.PrintMore
attribute [local go_sem] zdk zdl zeh zei zcz zda zdm zdn   -- for this text's walks alone
set_option linter.unusedVariables false
set_option linter.unusedSimpArgs false

def impl_wordOf.f (l0 : List Int) (a1 : Bool) : Option (Int) := if a1 = true then (if 0 < (l0.length : Int) then (if 1 < (l0.length : Int) then (if 2 < (l0.length : Int) then (if 3 < (l0.length : Int) then (some (Go.bits .or .i64 (Go.bits .or .i64 (Go.bits .or .i64 (wrap64 ((wrap64 (rd l0 0)) * 16777216)) (wrap64 ((wrap64 (rd l0 1)) * 65536))) (wrap64 ((wrap64 (rd l0 2)) * 256))) (wrap64 (rd l0 3)))) else (none)) else (none)) else (none)) else (none)) else (if 3 < (l0.length : Int) then (if 2 < (l0.length : Int) then (if 1 < (l0.length : Int) then (if 0 < (l0.length : Int) then (some (Go.bits .or .i64 (Go.bits .or .i64 (Go.bits .or .i64 (wrap64 ((wrap64 (rd l0 3)) * 16777216)) (wrap64 ((wrap64 (rd l0 2)) * 65536))) (wrap64 ((wrap64 (rd l0 1)) * 256))) (wrap64 (rd l0 0)))) else (none)) else (none)) else (none)) else (none))
set_option maxHeartbeats 8000000 in
set_option maxRecDepth 100000 in
theorem impl_wordOf.calls (A0 : Option Addr) (c0 : Nat) (l0 : List Int) (a1 : Bool) (r : Int) (w : World) (hr0 : Kd.C (Kd.int .u8) w A0 l0.length l0) (hc0 : l0.length ≤ c0) (h : impl_wordOf.f l0 a1 = some r) :
  Calls Try.prog 115 #[.slice A0 l0.length c0, .bool a1] w fun e w' => e = .returned (.int .i64 r) ∧ Drawn0 w w' := by
 have HR0 := Aside0.mk hr0
 have HC0 := Aside0.mk hc0
 clear hr0 hc0
 have H : (if a1 = true then (if 0 < (l0.length : Int) then (if 1 < (l0.length : Int) then (if 2 < (l0.length : Int) then (if 3 < (l0.length : Int) then (some (Go.bits .or .i64 (Go.bits .or .i64 (Go.bits .or .i64 (wrap64 ((wrap64 (rd l0 0)) * 16777216)) (wrap64 ((wrap64 (rd l0 1)) * 65536))) (wrap64 ((wrap64 (rd l0 2)) * 256))) (wrap64 (rd l0 3)))) else (none)) else (none)) else (none)) else (none)) else (if 3 < (l0.length : Int) then (if 2 < (l0.length : Int) then (if 1 < (l0.length : Int) then (if 0 < (l0.length : Int) then (some (Go.bits .or .i64 (Go.bits .or .i64 (Go.bits .or .i64 (wrap64 ((wrap64 (rd l0 3)) * 16777216)) (wrap64 ((wrap64 (rd l0 2)) * 65536))) (wrap64 ((wrap64 (rd l0 1)) * 256))) (wrap64 (rd l0 0)))) else (none)) else (none)) else (none)) else (none))) = some r := h
 clear h
 by_cases c3 : a1 = true
 ·subst c3
  have H1 : (if 0 < (l0.length : Int) then (if 1 < (l0.length : Int) then (if 2 < (l0.length : Int) then (if 3 < (l0.length : Int) then (some (Go.bits .or .i64 (Go.bits .or .i64 (Go.bits .or .i64 (wrap64 ((wrap64 (rd l0 0)) * 16777216)) (wrap64 ((wrap64 (rd l0 1)) * 65536))) (wrap64 ((wrap64 (rd l0 2)) * 256))) (wrap64 (rd l0 3)))) else (none)) else (none)) else (none)) else (none)) = some r := by rw [if_pos rfl] at H; exact H
  clear H
  have H := H1
  clear H1
  by_cases c4 : 0 < (l0.length : Int)
  ·rw [if_pos c4] at H
   have c4b0 : decide (0 < (l0.length : Int)) = true := zay c4
   have c4b1 : decide (0 < l0.length) = true := zay (by omega)
   clear c4
   by_cases c5 : 1 < (l0.length : Int)
   ·rw [if_pos c5] at H
    have c5b0 : decide (1 < (l0.length : Int)) = true := zay c5
    have c5b1 : decide (1 < l0.length) = true := zay (by omega)
    clear c5
    by_cases c6 : 2 < (l0.length : Int)
    ·rw [if_pos c6] at H
     have c6b0 : decide (2 < (l0.length : Int)) = true := zay c6
     have c6b1 : decide (2 < l0.length) = true := zay (by omega)
     clear c6
     by_cases c7 : 3 < (l0.length : Int)
     ·rw [if_pos c7] at H
      have c7b0 : decide (3 < (l0.length : Int)) = true := zay c7
      have c7b1 : decide (3 < l0.length) = true := zay (by omega)
      clear c7
      obtain rfl := Option.some.inj H
      have p680 : 0 ≤ (0 : Int) := (by omega)
      have q680 : 0 < (l0.length : Int) := zap (by first | (with_reducible assumption) | assumption)
      obtain ⟨ad680, e680, hx680_0⟩ := zer HR0.out 0 p680 q680
      cases e680
      have qi680 : (0 < l0.length) = True := zbs (by omega)
      (try rw [show ((0 : Int)).toNat = 0 from rfl] at hx680_0)
      (try rw [Addr.add_zero'] at hx680_0)
      replace p680 := zbs p680
      replace q680 := zbs q680
      have p681 : 0 ≤ (1 : Int) := (by omega)
      have q681 : 1 < (l0.length : Int) := zap (by first | (with_reducible assumption) | assumption)
      obtain ⟨ad681, e681, hx681_0⟩ := zer HR0.out 1 p681 q681
      obtain rfl : ad680 = ad681 := (by injection e681)
      (try simp only [show (1 : Int).toNat = 1 from rfl, Nat.reduceMul, Nat.reduceEqDiff, Go.Addr.add, ↓reduceIte] at hx681_0)
      have qi681 : (1 < l0.length) = True := zbs (by omega)
      (try rw [show ((1 : Int)).toNat = 1 from rfl] at hx681_0)
      replace p681 := zbs p681
      replace q681 := zbs q681
      have p682 : 0 ≤ (2 : Int) := (by omega)
      have q682 : 2 < (l0.length : Int) := zap (by first | (with_reducible assumption) | assumption)
      obtain ⟨ad682, e682, hx682_0⟩ := zer HR0.out 2 p682 q682
      obtain rfl : ad680 = ad682 := (by injection e682)
      (try simp only [show (2 : Int).toNat = 2 from rfl, Nat.reduceMul, Nat.reduceEqDiff, Go.Addr.add, ↓reduceIte] at hx682_0)
      have qi682 : (2 < l0.length) = True := zbs (by omega)
      (try rw [show ((2 : Int)).toNat = 2 from rfl] at hx682_0)
      replace p682 := zbs p682
      replace q682 := zbs q682
      have p683 : 0 ≤ (3 : Int) := (by omega)
      have q683 : 3 < (l0.length : Int) := zap (by first | (with_reducible assumption) | assumption)
      obtain ⟨ad683, e683, hx683_0⟩ := zer HR0.out 3 p683 q683
      obtain rfl : ad680 = ad683 := (by injection e683)
      (try simp only [show (3 : Int).toNat = 3 from rfl, Nat.reduceMul, Nat.reduceEqDiff, Go.Addr.add, ↓reduceIte] at hx683_0)
      have qi683 : (3 < l0.length) = True := zbs (by omega)
      (try rw [show ((3 : Int)).toNat = 3 from rfl] at hx683_0)
      replace p683 := zbs p683
      replace q683 := zbs q683
      go_enter Try.func115, Try.ntmps115
      go_wp2
      repeat (go_quiet (fail); try go_wp2)
      go_ret
      exact ⟨by first | rfl | (simp; done) | (simp [*]; done), by repeat (first | exact Drawn0.refl _ | apply Drawn0.step)⟩
     ·rw [if_neg c7] at H
      exact absurd H (by simp)
    ·rw [if_neg c6] at H
     exact absurd H (by simp)
   ·rw [if_neg c5] at H
    exact absurd H (by simp)
  ·rw [if_neg c4] at H
   exact absurd H (by simp)
 ·replace c3 := zcn.mpr c3
  subst c3
  have H1 : (if 3 < (l0.length : Int) then (if 2 < (l0.length : Int) then (if 1 < (l0.length : Int) then (if 0 < (l0.length : Int) then (some (Go.bits .or .i64 (Go.bits .or .i64 (Go.bits .or .i64 (wrap64 ((wrap64 (rd l0 3)) * 16777216)) (wrap64 ((wrap64 (rd l0 2)) * 65536))) (wrap64 ((wrap64 (rd l0 1)) * 256))) (wrap64 (rd l0 0)))) else (none)) else (none)) else (none)) else (none)) = some r := by rw [if_neg (show ¬ (false = true) by decide)] at H; exact H
  clear H
  have H := H1
  clear H1
  by_cases c8 : 3 < (l0.length : Int)
  ·rw [if_pos c8] at H
   have c8b0 : decide (3 < (l0.length : Int)) = true := zay c8
   have c8b1 : decide (3 < l0.length) = true := zay (by omega)
   clear c8
   by_cases c9 : 2 < (l0.length : Int)
   ·rw [if_pos c9] at H
    have c9b0 : decide (2 < (l0.length : Int)) = true := zay c9
    have c9b1 : decide (2 < l0.length) = true := zay (by omega)
    clear c9
    by_cases c10 : 1 < (l0.length : Int)
    ·rw [if_pos c10] at H
     have c10b0 : decide (1 < (l0.length : Int)) = true := zay c10
     have c10b1 : decide (1 < l0.length) = true := zay (by omega)
     clear c10
     by_cases c11 : 0 < (l0.length : Int)
     ·rw [if_pos c11] at H
      have c11b0 : decide (0 < (l0.length : Int)) = true := zay c11
      have c11b1 : decide (0 < l0.length) = true := zay (by omega)
      clear c11
      obtain rfl := Option.some.inj H
      have p684 : 0 ≤ (3 : Int) := (by omega)
      have q684 : 3 < (l0.length : Int) := zap (by first | (with_reducible assumption) | assumption)
      obtain ⟨ad684, e684, hx684_0⟩ := zer HR0.out 3 p684 q684
      cases e684
      (try simp only [show (3 : Int).toNat = 3 from rfl, Nat.reduceMul, Nat.reduceEqDiff, Go.Addr.add, ↓reduceIte] at hx684_0)
      have qi684 : (3 < l0.length) = True := zbs (by omega)
      (try rw [show ((3 : Int)).toNat = 3 from rfl] at hx684_0)
      replace p684 := zbs p684
      replace q684 := zbs q684
      have p685 : 0 ≤ (2 : Int) := (by omega)
      have q685 : 2 < (l0.length : Int) := zap (by first | (with_reducible assumption) | assumption)
      obtain ⟨ad685, e685, hx685_0⟩ := zer HR0.out 2 p685 q685
      obtain rfl : ad684 = ad685 := (by injection e685)
      (try simp only [show (2 : Int).toNat = 2 from rfl, Nat.reduceMul, Nat.reduceEqDiff, Go.Addr.add, ↓reduceIte] at hx685_0)
      have qi685 : (2 < l0.length) = True := zbs (by omega)
      (try rw [show ((2 : Int)).toNat = 2 from rfl] at hx685_0)
      replace p685 := zbs p685
      replace q685 := zbs q685
      have p686 : 0 ≤ (1 : Int) := (by omega)
      have q686 : 1 < (l0.length : Int) := zap (by first | (with_reducible assumption) | assumption)
      obtain ⟨ad686, e686, hx686_0⟩ := zer HR0.out 1 p686 q686
      obtain rfl : ad684 = ad686 := (by injection e686)
      (try simp only [show (1 : Int).toNat = 1 from rfl, Nat.reduceMul, Nat.reduceEqDiff, Go.Addr.add, ↓reduceIte] at hx686_0)
      have qi686 : (1 < l0.length) = True := zbs (by omega)
      (try rw [show ((1 : Int)).toNat = 1 from rfl] at hx686_0)
      replace p686 := zbs p686
      replace q686 := zbs q686
      have p687 : 0 ≤ (0 : Int) := (by omega)
      have q687 : 0 < (l0.length : Int) := zap (by first | (with_reducible assumption) | assumption)
      obtain ⟨ad687, e687, hx687_0⟩ := zer HR0.out 0 p687 q687
      obtain rfl : ad684 = ad687 := (by injection e687)
      have qi687 : (0 < l0.length) = True := zbs (by omega)
      (try rw [show ((0 : Int)).toNat = 0 from rfl] at hx687_0)
      (try rw [Addr.add_zero'] at hx687_0)
      replace p687 := zbs p687
      replace q687 := zbs q687
      go_enter Try.func115, Try.ntmps115
      go_wp2
      repeat (go_quiet (fail); try go_wp2)
      go_ret
      exact ⟨by first | rfl | (simp; done) | (simp [*]; done), by repeat (first | exact Drawn0.refl _ | apply Drawn0.step)⟩
     ·rw [if_neg c11] at H
      exact absurd H (by simp)
    ·rw [if_neg c10] at H
     exact absurd H (by simp)
   ·rw [if_neg c9] at H
    exact absurd H (by simp)
  ·rw [if_neg c8] at H
   exact absurd H (by simp)
end Go.Proofs.Ytlalkldjpniakaa.P
