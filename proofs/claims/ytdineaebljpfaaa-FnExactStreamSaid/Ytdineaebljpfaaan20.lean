import Derived.Test.Ytdineaebljpfaaan5
namespace Go.Proofs.Ytdineaebljpfaaa.P
open Go.RowKit Go.Proofs.YtdineaebljpfaaaW.PrintWords Go.Proofs.YtdineaebljpfaaaW.PrintLast Go.Proofs.YtdineaebljpfaaaW.PrintMore
attribute [local go_sem] zcu zcv zdf zdg zci zcj zcw zcx   -- for this text's walks alone
set_option linter.unusedVariables false
set_option linter.unusedSimpArgs false

def impl_wordOf.f (l0 : List Int) (a1 : Bool) : Option (Int) := if a1 = true then (if 0 < (l0.length : Int) then (if 1 < (l0.length : Int) then (if 2 < (l0.length : Int) then (if 3 < (l0.length : Int) then (some (Go.bits .or .i64 (Go.bits .or .i64 (Go.bits .or .i64 (wrap64 ((wrap64 (rd l0 0)) * 16777216)) (wrap64 ((wrap64 (rd l0 1)) * 65536))) (wrap64 ((wrap64 (rd l0 2)) * 256))) (wrap64 (rd l0 3)))) else (none)) else (none)) else (none)) else (none)) else (if 3 < (l0.length : Int) then (if 2 < (l0.length : Int) then (if 1 < (l0.length : Int) then (if 0 < (l0.length : Int) then (some (Go.bits .or .i64 (Go.bits .or .i64 (Go.bits .or .i64 (wrap64 ((wrap64 (rd l0 3)) * 16777216)) (wrap64 ((wrap64 (rd l0 2)) * 65536))) (wrap64 ((wrap64 (rd l0 1)) * 256))) (wrap64 (rd l0 0)))) else (none)) else (none)) else (none)) else (none))
set_option maxHeartbeats 8000000 in
set_option maxRecDepth 100000 in
theorem impl_wordOf.calls (A0 : Option Addr) (c0 : Nat) (l0 : List Int) (a1 : Bool) (r : Int) (w : World) (hr0 : Kd.C (Kd.int .u8) w A0 l0.length l0) (hc0 : l0.length ≤ c0) (h : impl_wordOf.f l0 a1 = some r) :
  Calls Try.prog 67 #[.slice A0 l0.length c0, .bool a1] w fun e w' => e = .returned (.int .i64 r) ∧ Drawn0 w w' := by
 have HR0 := Aside0.mk hr0
 have HC0 := Aside0.mk hc0
 clear hr0 hc0
 have H : (if a1 = true then (if 0 < (l0.length : Int) then (if 1 < (l0.length : Int) then (if 2 < (l0.length : Int) then (if 3 < (l0.length : Int) then (some (Go.bits .or .i64 (Go.bits .or .i64 (Go.bits .or .i64 (wrap64 ((wrap64 (rd l0 0)) * 16777216)) (wrap64 ((wrap64 (rd l0 1)) * 65536))) (wrap64 ((wrap64 (rd l0 2)) * 256))) (wrap64 (rd l0 3)))) else (none)) else (none)) else (none)) else (none)) else (if 3 < (l0.length : Int) then (if 2 < (l0.length : Int) then (if 1 < (l0.length : Int) then (if 0 < (l0.length : Int) then (some (Go.bits .or .i64 (Go.bits .or .i64 (Go.bits .or .i64 (wrap64 ((wrap64 (rd l0 3)) * 16777216)) (wrap64 ((wrap64 (rd l0 2)) * 65536))) (wrap64 ((wrap64 (rd l0 1)) * 256))) (wrap64 (rd l0 0)))) else (none)) else (none)) else (none)) else (none))) = some r := h
 clear h
 by_cases c3 : a1 = true
 ·subst c3
  have H1 : (if 0 < (l0.length : Int) then (if 1 < (l0.length : Int) then (if 2 < (l0.length : Int) then (if 3 < (l0.length : Int) then (some (Go.bits .or .i64 (Go.bits .or .i64 (Go.bits .or .i64 (wrap64 ((wrap64 (rd l0 0)) * 16777216)) (wrap64 ((wrap64 (rd l0 1)) * 65536))) (wrap64 ((wrap64 (rd l0 2)) * 256))) (wrap64 (rd l0 3)))) else (none)) else (none)) else (none)) else (none)) = some r := by rw [if_pos rfl] at H; exact H
  clear H
  have H := H1
  clear H1
  by_cases c4 : 0 < (l0.length : Int)
  ·rw [if_pos c4] at H
   have c4b0 : decide (0 < (l0.length : Int)) = true := zax c4
   have c4b1 : decide (0 < l0.length) = true := zax (by omega)
   clear c4
   by_cases c5 : 1 < (l0.length : Int)
   ·rw [if_pos c5] at H
    have c5b0 : decide (1 < (l0.length : Int)) = true := zax c5
    have c5b1 : decide (1 < l0.length) = true := zax (by omega)
    clear c5
    by_cases c6 : 2 < (l0.length : Int)
    ·rw [if_pos c6] at H
     have c6b0 : decide (2 < (l0.length : Int)) = true := zax c6
     have c6b1 : decide (2 < l0.length) = true := zax (by omega)
     clear c6
     by_cases c7 : 3 < (l0.length : Int)
     ·rw [if_pos c7] at H
      have c7b0 : decide (3 < (l0.length : Int)) = true := zax c7
      have c7b1 : decide (3 < l0.length) = true := zax (by omega)
      clear c7
      obtain rfl := Option.some.inj H
      have p426 : 0 ≤ (0 : Int) := (by omega)
      have q426 : 0 < (l0.length : Int) := zap (by first | (with_reducible assumption) | assumption)
      obtain ⟨ad426, e426, hx426_0⟩ := zca HR0.out 0 p426 q426
      cases e426
      have qi426 : (0 < l0.length) = True := zbn (by omega)
      (try rw [show ((0 : Int)).toNat = 0 from rfl] at hx426_0)
      (try rw [Addr.add_zero'] at hx426_0)
      replace p426 := zbn p426
      replace q426 := zbn q426
      have p427 : 0 ≤ (1 : Int) := (by omega)
      have q427 : 1 < (l0.length : Int) := zap (by first | (with_reducible assumption) | assumption)
      obtain ⟨ad427, e427, hx427_0⟩ := zca HR0.out 1 p427 q427
      obtain rfl : ad426 = ad427 := (by injection e427)
      (try simp only [show (1 : Int).toNat = 1 from rfl, Nat.reduceMul, Nat.reduceEqDiff, Go.Addr.add, ↓reduceIte] at hx427_0)
      have qi427 : (1 < l0.length) = True := zbn (by omega)
      (try rw [show ((1 : Int)).toNat = 1 from rfl] at hx427_0)
      replace p427 := zbn p427
      replace q427 := zbn q427
      have p428 : 0 ≤ (2 : Int) := (by omega)
      have q428 : 2 < (l0.length : Int) := zap (by first | (with_reducible assumption) | assumption)
      obtain ⟨ad428, e428, hx428_0⟩ := zca HR0.out 2 p428 q428
      obtain rfl : ad426 = ad428 := (by injection e428)
      (try simp only [show (2 : Int).toNat = 2 from rfl, Nat.reduceMul, Nat.reduceEqDiff, Go.Addr.add, ↓reduceIte] at hx428_0)
      have qi428 : (2 < l0.length) = True := zbn (by omega)
      (try rw [show ((2 : Int)).toNat = 2 from rfl] at hx428_0)
      replace p428 := zbn p428
      replace q428 := zbn q428
      have p429 : 0 ≤ (3 : Int) := (by omega)
      have q429 : 3 < (l0.length : Int) := zap (by first | (with_reducible assumption) | assumption)
      obtain ⟨ad429, e429, hx429_0⟩ := zca HR0.out 3 p429 q429
      obtain rfl : ad426 = ad429 := (by injection e429)
      (try simp only [show (3 : Int).toNat = 3 from rfl, Nat.reduceMul, Nat.reduceEqDiff, Go.Addr.add, ↓reduceIte] at hx429_0)
      have qi429 : (3 < l0.length) = True := zbn (by omega)
      (try rw [show ((3 : Int)).toNat = 3 from rfl] at hx429_0)
      replace p429 := zbn p429
      replace q429 := zbn q429
      go_enter Try.func67, Try.ntmps67
      go_wp2
      repeat (go_quiet (fail); try go_wp2)
      go_ret
      exact ⟨by first | rfl | (simp; done) | (simp [*]; done), by repeat (first | exact Drawn0.refl _ | apply Drawn0.step)⟩
     ·rw [if_neg c7] at H
      exact absurd H (by simp)
    ·rw [if_neg c6] at H
     exact absurd H (by simp)
   ·rw [if_neg c5] at H
    exact absurd H (by simp)
  ·rw [if_neg c4] at H
   exact absurd H (by simp)
 ·replace c3 := zbu.mpr c3
  subst c3
  have H1 : (if 3 < (l0.length : Int) then (if 2 < (l0.length : Int) then (if 1 < (l0.length : Int) then (if 0 < (l0.length : Int) then (some (Go.bits .or .i64 (Go.bits .or .i64 (Go.bits .or .i64 (wrap64 ((wrap64 (rd l0 3)) * 16777216)) (wrap64 ((wrap64 (rd l0 2)) * 65536))) (wrap64 ((wrap64 (rd l0 1)) * 256))) (wrap64 (rd l0 0)))) else (none)) else (none)) else (none)) else (none)) = some r := by rw [if_neg (show ¬ (false = true) by decide)] at H; exact H
  clear H
  have H := H1
  clear H1
  by_cases c8 : 3 < (l0.length : Int)
  ·rw [if_pos c8] at H
   have c8b0 : decide (3 < (l0.length : Int)) = true := zax c8
   have c8b1 : decide (3 < l0.length) = true := zax (by omega)
   clear c8
   by_cases c9 : 2 < (l0.length : Int)
   ·rw [if_pos c9] at H
    have c9b0 : decide (2 < (l0.length : Int)) = true := zax c9
    have c9b1 : decide (2 < l0.length) = true := zax (by omega)
    clear c9
    by_cases c10 : 1 < (l0.length : Int)
    ·rw [if_pos c10] at H
     have c10b0 : decide (1 < (l0.length : Int)) = true := zax c10
     have c10b1 : decide (1 < l0.length) = true := zax (by omega)
     clear c10
     by_cases c11 : 0 < (l0.length : Int)
     ·rw [if_pos c11] at H
      have c11b0 : decide (0 < (l0.length : Int)) = true := zax c11
      have c11b1 : decide (0 < l0.length) = true := zax (by omega)
      clear c11
      obtain rfl := Option.some.inj H
      have p430 : 0 ≤ (3 : Int) := (by omega)
      have q430 : 3 < (l0.length : Int) := zap (by first | (with_reducible assumption) | assumption)
      obtain ⟨ad430, e430, hx430_0⟩ := zca HR0.out 3 p430 q430
      cases e430
      (try simp only [show (3 : Int).toNat = 3 from rfl, Nat.reduceMul, Nat.reduceEqDiff, Go.Addr.add, ↓reduceIte] at hx430_0)
      have qi430 : (3 < l0.length) = True := zbn (by omega)
      (try rw [show ((3 : Int)).toNat = 3 from rfl] at hx430_0)
      replace p430 := zbn p430
      replace q430 := zbn q430
      have p431 : 0 ≤ (2 : Int) := (by omega)
      have q431 : 2 < (l0.length : Int) := zap (by first | (with_reducible assumption) | assumption)
      obtain ⟨ad431, e431, hx431_0⟩ := zca HR0.out 2 p431 q431
      obtain rfl : ad430 = ad431 := (by injection e431)
      (try simp only [show (2 : Int).toNat = 2 from rfl, Nat.reduceMul, Nat.reduceEqDiff, Go.Addr.add, ↓reduceIte] at hx431_0)
      have qi431 : (2 < l0.length) = True := zbn (by omega)
      (try rw [show ((2 : Int)).toNat = 2 from rfl] at hx431_0)
      replace p431 := zbn p431
      replace q431 := zbn q431
      have p432 : 0 ≤ (1 : Int) := (by omega)
      have q432 : 1 < (l0.length : Int) := zap (by first | (with_reducible assumption) | assumption)
      obtain ⟨ad432, e432, hx432_0⟩ := zca HR0.out 1 p432 q432
      obtain rfl : ad430 = ad432 := (by injection e432)
      (try simp only [show (1 : Int).toNat = 1 from rfl, Nat.reduceMul, Nat.reduceEqDiff, Go.Addr.add, ↓reduceIte] at hx432_0)
      have qi432 : (1 < l0.length) = True := zbn (by omega)
      (try rw [show ((1 : Int)).toNat = 1 from rfl] at hx432_0)
      replace p432 := zbn p432
      replace q432 := zbn q432
      have p433 : 0 ≤ (0 : Int) := (by omega)
      have q433 : 0 < (l0.length : Int) := zap (by first | (with_reducible assumption) | assumption)
      obtain ⟨ad433, e433, hx433_0⟩ := zca HR0.out 0 p433 q433
      obtain rfl : ad430 = ad433 := (by injection e433)
      have qi433 : (0 < l0.length) = True := zbn (by omega)
      (try rw [show ((0 : Int)).toNat = 0 from rfl] at hx433_0)
      (try rw [Addr.add_zero'] at hx433_0)
      replace p433 := zbn p433
      replace q433 := zbn q433
      go_enter Try.func67, Try.ntmps67
      go_wp2
      repeat (go_quiet (fail); try go_wp2)
      go_ret
      exact ⟨by first | rfl | (simp; done) | (simp [*]; done), by repeat (first | exact Drawn0.refl _ | apply Drawn0.step)⟩
     ·rw [if_neg c11] at H
      exact absurd H (by simp)
    ·rw [if_neg c10] at H
     exact absurd H (by simp)
   ·rw [if_neg c9] at H
    exact absurd H (by simp)
  ·rw [if_neg c8] at H
   exact absurd H (by simp)
def impl_Words.l0 : Nat → List Int → Bool → List Int → Int → Option (List Int)
 | 0, _, _, _, _ => none
 | k + 1, x0, x1, x5, x6 => if (wrap64 (x6 + 4)) ≤ (x0.length : Int) then (if 0 ≤ x6 then (if x6 ≤ (wrap64 (x6 + 4)) then ((impl_wordOf.f ((x0.take ((wrap64 (x6 + 4)) : Int).toNat).drop (x6 : Int).toNat) x1).bind fun t438 => (if x5.length < 17592186044416 then (impl_Words.l0 k x0 x1 (x5 ++ [t438]) (wrap64 (x6 + 4))) else (none))) else (none)) else (none)) else (some x5)
def impl_Words.f (k : Nat) (l0 : List Int) (a1 : Bool) : Option (List Int) := impl_Words.l0 k l0 a1 (([] : List Int)) 0
theorem impl_Words.mono_l : ∀ k, (∀ y0 y1 y2 y3, LeO (impl_Words.l0 k y0 y1 y2 y3) (impl_Words.l0 (k + 1) y0 y1 y2 y3))
 | 0 => fun _ _ _ _ r h => by simp [impl_Words.l0] at h
 | k + 1 => by
  have ih0 := impl_Words.mono_l k
  ·intro y0 y1 y2 y3
   unfold impl_Words.l0
   repeat' first
   | (with_reducible exact ih0 _ _ _ _)
   | (with_reducible exact zcc _)
   | (with_reducible exact zcg _)
   | (with_reducible refine zcr ?_ ?_)
   | (with_reducible refine zcd ?_ (fun _ => ?_))
   | exact ih0 _ _ _ _
theorem impl_Words.mono : ∀ a0 a1 k, LeO (impl_Words.f k a0 a1) (impl_Words.f (k + 1) a0 a1) := by
 intro a0 a1 k
 have ih0 := impl_Words.mono_l k
 unfold impl_Words.f
 repeat' first
   | (with_reducible exact ih0 _ _ _ _)
   | (with_reducible exact zcc _)
   | (with_reducible exact zcg _)
   | (with_reducible refine zcr ?_ ?_)
   | (with_reducible refine zcd ?_ (fun _ => ?_))
   | exact ih0 _ _ _ _
set_option maxHeartbeats 8000000 in
set_option maxRecDepth 100000 in
theorem impl_Words.calls (k : Nat) (A0 : Option Addr) (c0 : Nat) (l0 : List Int) (a1 : Bool) (r : List Int) (w : World) (hr0 : Kd.C (Kd.int .u8) w A0 l0.length l0) (hc0 : l0.length ≤ c0) (h : impl_Words.f k l0 a1 = some r) :
  Calls Try.prog 48 #[.slice A0 l0.length c0, .bool a1] w fun e w' => ∃ v0_ : Value, e = .returned (v0_) ∧ Kd.R (Kd.int .i64) 3 w' w.heap.size (fun _ => True) v0_ r ∧ Below w.heap.size w w' := by
 have HR0 := Aside0.mk hr0
 have HC0 := Aside0.mk hc0
 clear hr0 hc0
 have HB := Aside0.mk (zbx w.heap.size w)
 have H : (impl_Words.l0 k l0 a1 (([] : List Int)) 0) = some r := h
 clear h
 obtain ⟨y434, hy434⟩ : ∃ y_ : List Int, y_ = (([] : List Int)) := ⟨_, rfl⟩
 replace H : (impl_Words.l0 k l0 a1 y434 0) = some r := by first | (rw [hy434]; with_reducible first | exact H | exact bind_ofs H) | (with_reducible first | exact H | exact bind_ofs H) | (rw [hy434]; exact H) | exact H
 have Ny434 := Aside0.mk hy434
 clear hy434
 have H' := Aside0.mk H
 clear H
 go_enter Try.func48, Try.ntmps48
 go_wp2_with (first | ((with_reducible refine zds (N := 7) rfl ?_); refine zec (Kd.int .i64) _ 3 ?hg (N := 7) ?hd (xs := ([] : List Int)) (inner := []) (ok := fun _ => True) (okp := fun _ => True) ?hr ?hp (fun _ hk => hk) trivial (zbx _ _) (zbp _) (by simp) ?_; (case hd => rfl); (case hg => rfl); (case hr => first | (go_simp; done) | (go_simp; rfl)); (case hp => exact (zdp _ _)); intro v435 w3 ho4 hb hg_ hnew_; have xb_ := below_ofs (by repeat (first | (with_reducible first | exact HB.out | apply zaj | apply zad | apply zai) | exact HB.out)) hb; clear hg_ hnew_; (first | rw [← Ny434.out] at ho4 | (simp only [Int.reduceToNat] at ho4; rw [← Ny434.out] at ho4)); have n0_ := Aside0.mk (zbc ho4 (zba xb_)); have n1_ := Aside0.mk (zbb xb_ hb); clear HB; have HO436 := n0_; have HB := n1_; clear n0_ n1_; clear xb_ hb ho4))
 go_loopg [5, 6] k (fun kq v5 v6 w' => ∃ (x5_1 : List Int) (x6_1 : Int), v6 = .int .i64 x6_1 ∧ Aside0 (impl_Words.l0 kq l0 a1 x5_1 x6_1 = some r) ∧ Aside0 (kq ≤ k) ∧ Aside0 (Kd.R (Kd.int .i64) 3 w' w.heap.size (fun _ => True) v5 x5_1) ∧ Aside0 (Below w.heap.size w w'))
 case atStart => exact ⟨(y434), (0), (by first | rfl | (simp; done) | (simp [*]; done)), H', ⟨zbp _⟩, ⟨by (with_reducible repeat (first | apply zab | apply zac | apply zae)); exact HO436.out⟩, ⟨by repeat (first | (with_reducible first | exact HB.out | apply zaj | apply zad | apply zai) | exact HB.out)⟩⟩
 case round =>
  clear H'
  try clear p2
  try clear c4
  obtain ⟨x5_1, x6_1, rfl, HA, HK1, HO_5, HB⟩ := hrel
  cases gk with
  | zero => exact absurd HA.out (by simp [impl_Words.l0])
  | succ k1 =>
   have H := HA.out
   clear HA
   simp only [impl_Words.l0] at H
   by_cases c5 : (wrap64 (x6_1 + 4)) ≤ (l0.length : Int)
   ·rw [if_pos c5] at H
    have c5b0 : decide ((wrap64 (x6_1 + 4)) ≤ (l0.length : Int)) = true := zax c5
    clear c5
    by_cases c6 : 0 ≤ x6_1
    ·rw [if_pos c6] at H
     have c6b0 := zbn c6
     have c6b1 : decide (0 ≤ x6_1) = true := zax c6
     clear c6
     by_cases c7 : x6_1 ≤ (wrap64 (x6_1 + 4))
     ·rw [if_pos c7] at H
      have c7b0 := zbn c7
      have c7b1 : decide (x6_1 ≤ (wrap64 (x6_1 + 4))) = true := zax c7
      have c8b0 := zbn (zap (by first | (with_reducible assumption) | assumption) : (wrap64 (x6_1 + 4)) ≤ (l0.length : Int))
      replace H := zam.mp H
      obtain ⟨t438, A90, H⟩ := H
      try dsimp only at H
      have A9 := Aside0.mk A90
      clear A90
      by_cases c10 : x5_1.length < 17592186044416
      ·rw [if_pos c10] at H
       have LMc10 := Aside0.mk c10
       clear c10
       obtain ⟨y439, hy439⟩ : ∃ y_ : List Int, y_ = (x5_1 ++ [t438]) := ⟨_, rfl⟩
       replace H : (impl_Words.l0 k1 l0 a1 y439 (wrap64 (x6_1 + 4))) = some r := by first | (rw [hy439]; with_reducible first | exact H | exact bind_ofs H) | (with_reducible first | exact H | exact bind_ofs H) | (rw [hy439]; exact H) | exact H
       have Ny439 := Aside0.mk hy439
       clear hy439
       have H' := Aside0.mk H
       clear H
       obtain ⟨i011, hi011, _, hsz11, _⟩ := info_parts info5
       obtain ⟨A11, hcut11, hA11, hC11⟩ := print_mid_of (P := Try.prog) (Value.int .u8) 0 22 5 .i64 .i64 Try.underlying22 hi011 hsz11 A0 c0 l0 x6_1 (wrap64 (x6_1 + 4)) (zap (by first | (with_reducible assumption) | assumption)) (by first | omega | exact zap (by first | (with_reducible assumption) | assumption)) (zap (by first | (with_reducible assumption) | assumption)) HC0.out
       have HR437 := Aside0.mk (zem (h1 := fun _ => rfl) (hA11 _ (Kd.reads_of_C HR0.out)))
       have HC437 := Aside0.mk hC11
       clear hA11 hC11 hi011 hsz11
       go_wp2_with (first | ((with_reducible refine zau (f := 67) rfl ?_); refine goesL_ (some 22) rfl rfl Try.func67 (by kernel_rfl) rfl #[.slice A11 ((l0.take ((wrap64 (x6_1 + 4)) : Int).toNat).drop (x6_1 : Int).toNat).length (c0 - x6_1.toNat), .bool a1] rfl (by (try simp only [zal, zaq, zar]); first | done | (rw [show ((l0.take ((wrap64 (x6_1 + 4)) : Int).toNat).drop (x6_1 : Int).toNat).length = ((wrap64 (x6_1 + 4)).toNat - x6_1.toNat) from (by rw [zbl, zbi]; have h_ : ((wrap64 (x6_1 + 4)) : Int) ≤ (l0.length : Int) := zap (by first | (with_reducible assumption) | assumption); omega)] <;> rfl) | rfl | (simp only [zbl, zbi]; rfl)) ?_; (with_reducible refine (impl_wordOf.calls _ _ ((l0.take ((wrap64 (x6_1 + 4)) : Int).toNat).drop (x6_1 : Int).toNat) a1 t438 _ ?side1 ?side2 A9.out).mono ?_); (case side1 => repeat (first | exact (zbr HR437.out HB.out) | (with_reducible first | apply zas | apply zat | apply zaw))); (case side2 => exact HC437.out); rintro e w' ⟨rfl, ⟨nd, rfl⟩⟩; refine ⟨_, rfl, ?_⟩) | ((with_reducible refine zdk (b := .append) (xs := #[.tmp 15, .tmp 23]) rfl ?_); at_builtin; refine Kd.R_append (Kd.int .i64) (w0 := w) w.heap.size rfl (.tmp 15) (.tmp 23) 33 3 (.int .i64 0) 8 rfl Try.underlying33 info3 rfl (by decide) (by omega) u5 x5_1 t438 [.int .i64 t438] (fun _ => True) (fun _ => False) rfl rfl ?aP (fun _ hk => hk.elim) ?aF ?aO ?aB ?aS ?aL ?_; (case aP => exact rfl); (case aB => exact (by repeat (first | (with_reducible first | exact HB.out | apply zaj | apply zad | apply zai) | exact HB.out))); (case aF => exact (fun _ _ => trivial)); (case aO => exact (by (with_reducible repeat (first | apply zab | apply zac | apply zae)); exact HO_5.out)); (case aS => exact (zba (by repeat (first | (with_reducible first | exact HB.out | apply zaj | apply zad | apply zai) | exact HB.out)))); (case aL => have := LMc10.out; omega); intro v440 w12 ho hb hg hat; rw [← Ny439.out] at ho; have n0_ := Aside0.mk (hb); have n1_ := Aside0.mk (ho); clear HB HO_5; have HB := n0_; have HO441 := n1_; clear n0_ n1_; clear ho hb hg hat))
       go_roundg k1
       case measure => have := HK1.out; omega
       case rel => exact ⟨(y439), (wrap64 (x6_1 + 4)), (by first | rfl | (simp; done) | (simp [*]; done)), H', ⟨by have := HK1.out; omega⟩, ⟨by (with_reducible repeat (first | apply zab | apply zac | apply zae)); exact HO441.out⟩, ⟨by repeat (first | (with_reducible first | exact HB.out | apply zaj | apply zad | apply zai) | exact HB.out)⟩⟩
      ·rw [if_neg c10] at H
       exact absurd H (by simp)
     ·rw [if_neg c7] at H
      exact absurd H (by simp)
    ·rw [if_neg c6] at H
     exact absurd H (by simp)
   ·rw [if_neg c5] at H
    have c5b0 : decide ((wrap64 (x6_1 + 4)) ≤ (l0.length : Int)) = false := zbq c5
    clear c5
    obtain rfl := Option.some.inj H
    go_wp2
    go_ret
    exact ⟨_, by first | rfl | (simp [zbj, zbk] <;> rfl) | (simp [*, zbj, zbk] <;> rfl), by (with_reducible repeat (first | apply zab | apply zac | apply zae)); exact HO_5.out, by repeat (first | (with_reducible first | exact HB.out | apply zaj | apply zad | apply zai) | exact HB.out)⟩
end Go.Proofs.Ytdineaebljpfaaa.P
