import Derived.Test.Ytdineaebljpfaaan9
import Derived.Test.Ytdineaebljpfaaan14
namespace Go.Proofs.Ytdineaebljpfaaa.P
open Go.RowKit Go.Proofs.YtdineaebljpfaaaW.PrintWords Go.Proofs.YtdineaebljpfaaaW.PrintLast Go.Proofs.YtdineaebljpfaaaW.PrintMore
attribute [local go_sem] zcu zcv zdf zdg zci zcj zcw zcx   -- for this text's walks alone
set_option linter.unusedVariables false
set_option linter.unusedSimpArgs false

mutual
def spec_Block.j0 : Nat → List Int → Int → List Int → Bool → Option (List Int)
 | 0, _, _, _, _ => none
 | k + 1, x0, x1, x2, x23 => if x23 = true then (some (([] : List Int))) else ((some (([1634760805, 857760878, 2036477234, 1797285236] : List Int) : List Int)).bind fun y392 => ((spec_Words.f k x0 false).bind fun t395 => (if y392.length + t395.length < 17592186044416 then ((some (y392 ++ t395 : List Int)).bind fun y398 => (if y398.length < 17592186044416 then ((some (y398 ++ [x1] : List Int)).bind fun y401 => ((spec_Words.f k x2 false).bind fun t404 => (if y401.length + t404.length < 17592186044416 then ((some (y401 ++ t404 : List Int)).bind fun y407 => ((some (([] : List Int) : List Int)).bind fun y410 => (if y410.length + y407.length < 17592186044416 then (spec_Block.l0 k y407 (y410 ++ y407) 0) else (none)))) else (none)))) else (none))) else (none))))
def spec_Block.l0 : Nat → List Int → List Int → Int → Option (List Int)
 | 0, _, _, _ => none
 | k + 1, x7, x8, x9 => if x9 < 10 then ((spec_l5Double.f k x8).bind fun t416 => (spec_Block.l0 k x7 t416 (wrap64 (x9 + 1)))) else (spec_Block.l1 k x7 x8 0)
def spec_Block.l1 : Nat → List Int → List Int → Int → Option (List Int)
 | 0, _, _, _ => none
 | k + 1, x7, x8, x10 => if x10 < 16 then (if 0 ≤ x10 then (if x10 < (x8.length : Int) then (if x10 < (x7.length : Int) then ((spec_Word.f (wrap64 ((rd x8 x10) + (rd x7 x10)))).bind fun t421 => (spec_Block.l1 k x7 (x8.set (x10 : Int).toNat t421) (wrap64 (x10 + 1)))) else (none)) else (none)) else (none)) else ((spec_WordBytes.f k x8 false).bind fun t423 => (some t423))
end
def spec_Block.f (k : Nat) (l0 : List Int) (a1 : Int) (l2 : List Int) : Option (List Int) := if (l0.length : Int) = 32 then (if (l2.length : Int) = 12 then ((spec_l1In.f a1 0 4294967295).bind fun t388 => (spec_Block.j0 k l0 a1 l2 (!t388))) else (spec_Block.j0 k l0 a1 l2 true)) else (spec_Block.j0 k l0 a1 l2 true)
theorem spec_Block.mono_l : ∀ k, (∀ y0 y1 y2 y3, LeO (spec_Block.j0 k y0 y1 y2 y3) (spec_Block.j0 (k + 1) y0 y1 y2 y3)) ∧ (∀ y0 y1 y2, LeO (spec_Block.l0 k y0 y1 y2) (spec_Block.l0 (k + 1) y0 y1 y2)) ∧ (∀ y0 y1 y2, LeO (spec_Block.l1 k y0 y1 y2) (spec_Block.l1 (k + 1) y0 y1 y2))
 | 0 => ⟨fun _ _ _ _ r h => by simp [spec_Block.j0] at h, fun _ _ _ r h => by simp [spec_Block.l0] at h, fun _ _ _ r h => by simp [spec_Block.l1] at h⟩
 | k + 1 => by
  obtain ⟨ih0, ih1, ih2⟩ := spec_Block.mono_l k
  refine ⟨?_, ?_, ?_⟩
  ·intro y0 y1 y2 y3
   unfold spec_Block.j0
   repeat' first
   | (with_reducible exact ih0 _ _ _ _)
   | (with_reducible exact ih1 _ _ _)
   | (with_reducible exact ih2 _ _ _)
   | (with_reducible exact spec_WordBytes.mono _ _ _)
   | (with_reducible exact spec_Words.mono _ _ _)
   | (with_reducible exact spec_l5Double.mono _ _)
   | (with_reducible exact zcc _)
   | (with_reducible exact zcg _)
   | (with_reducible refine zcr ?_ ?_)
   | (with_reducible refine zcd ?_ (fun _ => ?_))
   | exact ih0 _ _ _ _
   | exact ih1 _ _ _
   | exact ih2 _ _ _
  ·intro y0 y1 y2
   unfold spec_Block.l0
   repeat' first
   | (with_reducible exact ih0 _ _ _ _)
   | (with_reducible exact ih1 _ _ _)
   | (with_reducible exact ih2 _ _ _)
   | (with_reducible exact spec_WordBytes.mono _ _ _)
   | (with_reducible exact spec_Words.mono _ _ _)
   | (with_reducible exact spec_l5Double.mono _ _)
   | (with_reducible exact zcc _)
   | (with_reducible exact zcg _)
   | (with_reducible refine zcr ?_ ?_)
   | (with_reducible refine zcd ?_ (fun _ => ?_))
   | exact ih0 _ _ _ _
   | exact ih1 _ _ _
   | exact ih2 _ _ _
  ·intro y0 y1 y2
   unfold spec_Block.l1
   repeat' first
   | (with_reducible exact ih0 _ _ _ _)
   | (with_reducible exact ih1 _ _ _)
   | (with_reducible exact ih2 _ _ _)
   | (with_reducible exact spec_WordBytes.mono _ _ _)
   | (with_reducible exact spec_Words.mono _ _ _)
   | (with_reducible exact spec_l5Double.mono _ _)
   | (with_reducible exact zcc _)
   | (with_reducible exact zcg _)
   | (with_reducible refine zcr ?_ ?_)
   | (with_reducible refine zcd ?_ (fun _ => ?_))
   | exact ih0 _ _ _ _
   | exact ih1 _ _ _
   | exact ih2 _ _ _
theorem spec_Block.mono : ∀ a0 a1 a2 k, LeO (spec_Block.f k a0 a1 a2) (spec_Block.f (k + 1) a0 a1 a2) := by
 intro a0 a1 a2 k
 obtain ⟨ih0, ih1, ih2⟩ := spec_Block.mono_l k
 unfold spec_Block.f
 repeat' first
   | (with_reducible exact ih0 _ _ _ _)
   | (with_reducible exact ih1 _ _ _)
   | (with_reducible exact ih2 _ _ _)
   | (with_reducible exact spec_WordBytes.mono _ _ _)
   | (with_reducible exact spec_Words.mono _ _ _)
   | (with_reducible exact spec_l5Double.mono _ _)
   | (with_reducible exact zcc _)
   | (with_reducible exact zcg _)
   | (with_reducible refine zcr ?_ ?_)
   | (with_reducible refine zcd ?_ (fun _ => ?_))
   | exact ih0 _ _ _ _
   | exact ih1 _ _ _
   | exact ih2 _ _ _
def spec_Block.T15 : Bool × List (List Nat × List Nat) := (true, [([], []), ([], []), ([], []), ([], []), ([2, 3], [2, 3]), ([4], [4]), ([], []), ([], []), ([6, 7], [6, 7]), ([8], [8]), ([5, 9], [5, 9]), ([10], [10]), ([0, 1, 0, 1, 2, 3, 4, 5, 6, 7, 8, 9, 10, 11], [0, 1]), ([12, 11, 11, 0, 1, 2, 3, 4, 5, 6, 7, 8, 9, 10, 11], [11, 12])])
def spec_Block.B15 : List Nat := [0, 0, 0, 0, 12, 28, 0, 0, 192, 448, 1020, 2044, 4095, 8191]
theorem spec_Block.tab15 : rtab .any (opsOf Try.f23 15) = spec_Block.T15 := by kernel_rfl
theorem spec_Block.bits15 : waitsOk spec_Block.T15.2 spec_Block.B15 = true := by kernel_rfl
set_option maxHeartbeats 8000000 in
set_option maxRecDepth 100000 in
theorem spec_Block.calls (k : Nat) (A0 : Option Addr) (c0 : Nat) (l0 : List Int) (a1 : Int) (A2 : Option Addr) (c2 : Nat) (l2 : List Int) (r : List Int) (w : World) (hr0 : Kd.C (Kd.int .u8) w A0 l0.length l0) (hc0 : l0.length ≤ c0) (hr2 : Kd.C (Kd.int .u8) w A2 l2.length l2) (hc2 : l2.length ≤ c2) (h : spec_Block.f k l0 a1 l2 = some r) :
  Calls Try.prog 23 #[.slice A0 l0.length c0, .int .i64 a1, .slice A2 l2.length c2] w fun e w' => ∃ v0_ : Value, e = .returned (v0_) ∧ Kd.R (Kd.int .u8) 5 w' w.heap.size (fun _ => True) v0_ r ∧ Below w.heap.size w w' := by
 have HR0 := Aside0.mk hr0
 have HC0 := Aside0.mk hc0
 clear hr0 hc0
 have HR2 := Aside0.mk hr2
 have HC2 := Aside0.mk hc2
 clear hr2 hc2
 have HB := Aside0.mk (zbx w.heap.size w)
 have H : (if (l0.length : Int) = 32 then (if (l2.length : Int) = 12 then ((spec_l1In.f a1 0 4294967295).bind fun t388 => (spec_Block.j0 k l0 a1 l2 (!t388))) else (spec_Block.j0 k l0 a1 l2 true)) else (spec_Block.j0 k l0 a1 l2 true)) = some r := h
 clear h
 have HC4 := Aside0.mk H
 clear H
 go_enter Try.func23, Try.ntmps23
 go_upto_region 1 with (fail)
 go_cut [23] (fun v23 wc => ∃ (kq : Nat) (x23_3 : Bool), v23 = .bool x23_3 ∧ Aside0 (spec_Block.j0 kq l0 a1 l2 x23_3 = some r) ∧ Aside0 (kq ≤ k) ∧ Aside0 (Below w.heap.size w wc))
 case first =>
  have H := HC4.out
  clear HC4
  by_cases c5 : (l0.length : Int) = 32
  ·rw [if_pos c5] at H
   have c5b0 : ((l0.length : Int) == 32) = true := zdn.mpr c5
   have c5b1 : ((l0.length : Int) != 32) = false := zbv.mpr c5
   clear c5
   (first | rw [c5b0] | (simp only [i64_w, i32_w]; rw [c5b0]) | skip)
   by_cases c6 : (l2.length : Int) = 12
   ·rw [if_pos c6] at H
    have c6b0 : ((l2.length : Int) == 12) = true := zdn.mpr c6
    have c6b1 : ((l2.length : Int) != 12) = false := zbv.mpr c6
    clear c6
    replace H := zam.mp H
    obtain ⟨t388, A70, H⟩ := H
    try dsimp only at H
    have A7 := Aside0.mk A70
    clear A70
    have H' := Aside0.mk H
    clear H
    go_wp2_with (first | (go_at_call 37; (with_reducible refine (spec_l1In.calls a1 0 4294967295 t388 _ A7.out).mono ?_); rintro e w' ⟨rfl, ⟨nd, rfl⟩⟩))
    go_meet
    case rel => exact ⟨_, (!t388), (by first | rfl | (simp; done) | (simp [*]; done)), H', ⟨by first | omega | exact zbp _⟩, ⟨by repeat (first | (with_reducible first | exact HB.out | apply zaj | apply zad | apply zai) | exact HB.out)⟩⟩
   ·rw [if_neg c6] at H
    have c6b0 : ((l2.length : Int) == 12) = false := zbz.mpr c6
    have c6b1 : ((l2.length : Int) != 12) = true := zdh.mpr c6
    have H' := Aside0.mk H
    clear H
    go_wp2
    go_meet
    case rel => exact ⟨_, (true), (by first | rfl | (simp; done) | (simp [*]; done)), H', ⟨by first | omega | exact zbp _⟩, ⟨by repeat (first | (with_reducible first | exact HB.out | apply zaj | apply zad | apply zai) | exact HB.out)⟩⟩
  ·rw [if_neg c5] at H
   have c5b0 : ((l0.length : Int) == 32) = false := zbz.mpr c5
   have c5b1 : ((l0.length : Int) != 32) = true := zdh.mpr c5
   (first | rw [c5b0] | (simp only [i64_w, i32_w]; rw [c5b0]) | skip)
   have H' := Aside0.mk H
   clear H
   go_wp2
   go_meet
   case rel => exact ⟨_, (true), (by first | rfl | (simp; done) | (simp [*]; done)), H', ⟨by first | omega | exact zbp _⟩, ⟨by repeat (first | (with_reducible first | exact HB.out | apply zaj | apply zad | apply zai) | exact HB.out)⟩⟩
 case rest =>
  clear HC4
  try clear c2
  try clear p2
  try clear c5
  try clear c5b0
  try clear c5b1
  try clear c6
  try clear c6b0
  try clear c6b1
  obtain ⟨kq, x23_3, rfl, HA, HJ3, HB⟩ := hcut
  cases kq with
  | zero => exact absurd HA.out (by simp [spec_Block.j0])
  | succ kj3 =>
   have H := HA.out
   clear HA
   simp only [spec_Block.j0] at H
   by_cases c8 : x23_3 = true
   ·subst c8
    have H1 : (some (([] : List Int))) = some r := by rw [if_pos rfl] at H; exact H
    clear H
    have H := H1
    clear H1
    obtain ⟨y389, hy389⟩ : ∃ y_ : List Int, y_ = (([] : List Int)) := ⟨_, rfl⟩
    replace H : (some y389) = some r := by first | (rw [hy389]; with_reducible first | exact H | exact bind_ofs H) | (with_reducible first | exact H | exact bind_ofs H) | (rw [hy389]; exact H) | exact H
    have Ny389 := Aside0.mk hy389
    clear hy389
    obtain rfl := Option.some.inj H
    go_wp2_with (first | ((with_reducible refine zds (N := 24) rfl ?_); (try (refine gate_guard (by rfl) ?_; dsimp only)); refine zec (Kd.int .u8) _ 5 ?hg (N := 24) ?hd (xs := ([] : List Int)) (inner := []) (ok := fun _ => True) (okp := fun _ => True) ?hr ?hp (fun _ hk => hk) trivial (zbx _ _) (zbp _) (by simp) ?_; (case hd => rfl); (case hg => rfl); (case hr => first | (go_simp; done) | (go_simp; rfl)); (case hp => exact (zdp _ _)); intro v390 w9 ho10 hb hg_ hnew_; have xb_ := below_ofs (by repeat (first | (with_reducible first | exact HB.out | apply zaj | apply zad | apply zai) | exact HB.out)) hb; clear hg_ hnew_; (first | rw [← Ny389.out] at ho10 | (simp only [Int.reduceToNat] at ho10; rw [← Ny389.out] at ho10)); have n0_ := Aside0.mk (zbc ho10 (zba xb_)); have n1_ := Aside0.mk (zbb xb_ hb); clear HB; have HO391 := n0_; have HB := n1_; clear n0_ n1_; clear xb_ hb ho10))
    go_ret
    exact ⟨_, by first | rfl | (simp [zbj, zbk] <;> rfl) | (simp [*, zbj, zbk] <;> rfl), by (with_reducible repeat (first | apply zab | apply zac | apply zae)); exact HO391.out, by repeat (first | (with_reducible first | exact HB.out | apply zaj | apply zad | apply zai) | exact HB.out)⟩
   ·replace c8 := zbu.mpr c8
    subst c8
    have H1 : ((some (([1634760805, 857760878, 2036477234, 1797285236] : List Int) : List Int)).bind fun y392 => ((spec_Words.f kj3 l0 false).bind fun t395 => (if y392.length + t395.length < 17592186044416 then ((some (y392 ++ t395 : List Int)).bind fun y398 => (if y398.length < 17592186044416 then ((some (y398 ++ [a1] : List Int)).bind fun y401 => ((spec_Words.f kj3 l2 false).bind fun t404 => (if y401.length + t404.length < 17592186044416 then ((some (y401 ++ t404 : List Int)).bind fun y407 => ((some (([] : List Int) : List Int)).bind fun y410 => (if y410.length + y407.length < 17592186044416 then (spec_Block.l0 kj3 y407 (y410 ++ y407) 0) else (none)))) else (none)))) else (none))) else (none)))) = some r := by rw [if_neg (show ¬ (false = true) by decide)] at H; exact H
    clear H
    have H := H1
    clear H1
    obtain ⟨y392, hy392⟩ : ∃ y_ : List Int, y_ = (([1634760805, 857760878, 2036477234, 1797285236] : List Int)) := ⟨_, rfl⟩
    replace H : ((spec_Words.f kj3 l0 false).bind fun t395 => (if y392.length + t395.length < 17592186044416 then ((some (y392 ++ t395 : List Int)).bind fun y398 => (if y398.length < 17592186044416 then ((some (y398 ++ [a1] : List Int)).bind fun y401 => ((spec_Words.f kj3 l2 false).bind fun t404 => (if y401.length + t404.length < 17592186044416 then ((some (y401 ++ t404 : List Int)).bind fun y407 => ((some (([] : List Int) : List Int)).bind fun y410 => (if y410.length + y407.length < 17592186044416 then (spec_Block.l0 kj3 y407 (y410 ++ y407) 0) else (none)))) else (none)))) else (none))) else (none))) = some r := by first | (rw [hy392]; with_reducible first | exact H | exact bind_ofs H) | (with_reducible first | exact H | exact bind_ofs H) | (rw [hy392]; exact H) | exact H
    have Ny392 := Aside0.mk hy392
    clear hy392
    replace H := zam.mp H
    obtain ⟨t395, A110, H⟩ := H
    try dsimp only at H
    have A11 := Aside0.mk A110
    clear A110
    by_cases c12 : y392.length + t395.length < 17592186044416
    ·rw [if_pos c12] at H
     have LMc12 := Aside0.mk c12
     clear c12
     obtain ⟨y398, hy398⟩ : ∃ y_ : List Int, y_ = (y392 ++ t395) := ⟨_, rfl⟩
     replace H : (if y398.length < 17592186044416 then ((some (y398 ++ [a1] : List Int)).bind fun y401 => ((spec_Words.f kj3 l2 false).bind fun t404 => (if y401.length + t404.length < 17592186044416 then ((some (y401 ++ t404 : List Int)).bind fun y407 => ((some (([] : List Int) : List Int)).bind fun y410 => (if y410.length + y407.length < 17592186044416 then (spec_Block.l0 kj3 y407 (y410 ++ y407) 0) else (none)))) else (none)))) else (none)) = some r := by first | (rw [hy398]; with_reducible first | exact H | exact bind_ofs H) | (with_reducible first | exact H | exact bind_ofs H) | (rw [hy398]; exact H) | exact H
     have Ny398 := Aside0.mk hy398
     clear hy398
     by_cases c13 : y398.length < 17592186044416
     ·rw [if_pos c13] at H
      have LMc13 := Aside0.mk c13
      clear c13
      obtain ⟨y401, hy401⟩ : ∃ y_ : List Int, y_ = (y398 ++ [a1]) := ⟨_, rfl⟩
      replace H : ((spec_Words.f kj3 l2 false).bind fun t404 => (if y401.length + t404.length < 17592186044416 then ((some (y401 ++ t404 : List Int)).bind fun y407 => ((some (([] : List Int) : List Int)).bind fun y410 => (if y410.length + y407.length < 17592186044416 then (spec_Block.l0 kj3 y407 (y410 ++ y407) 0) else (none)))) else (none))) = some r := by first | (rw [hy401]; with_reducible first | exact H | exact bind_ofs H) | (with_reducible first | exact H | exact bind_ofs H) | (rw [hy401]; exact H) | exact H
      have Ny401 := Aside0.mk hy401
      clear hy401
      replace H := zam.mp H
      obtain ⟨t404, A140, H⟩ := H
      try dsimp only at H
      have A14 := Aside0.mk A140
      clear A140
      by_cases c15 : y401.length + t404.length < 17592186044416
      ·rw [if_pos c15] at H
       have LMc15 := Aside0.mk c15
       clear c15
       obtain ⟨y407, hy407⟩ : ∃ y_ : List Int, y_ = (y401 ++ t404) := ⟨_, rfl⟩
       replace H : ((some (([] : List Int) : List Int)).bind fun y410 => (if y410.length + y407.length < 17592186044416 then (spec_Block.l0 kj3 y407 (y410 ++ y407) 0) else (none))) = some r := by first | (rw [hy407]; with_reducible first | exact H | exact bind_ofs H) | (with_reducible first | exact H | exact bind_ofs H) | (rw [hy407]; exact H) | exact H
       have Ny407 := Aside0.mk hy407
       clear hy407
       obtain ⟨y410, hy410⟩ : ∃ y_ : List Int, y_ = (([] : List Int)) := ⟨_, rfl⟩
       replace H : (if y410.length + y407.length < 17592186044416 then (spec_Block.l0 kj3 y407 (y410 ++ y407) 0) else (none)) = some r := by first | (rw [hy410]; with_reducible first | exact H | exact bind_ofs H) | (with_reducible first | exact H | exact bind_ofs H) | (rw [hy410]; exact H) | exact H
       have Ny410 := Aside0.mk hy410
       clear hy410
       by_cases c16 : y410.length + y407.length < 17592186044416
       ·rw [if_pos c16] at H
        have LMc16 := Aside0.mk c16
        clear c16
        obtain ⟨y413, hy413⟩ : ∃ y_ : List Int, y_ = (y410 ++ y407) := ⟨_, rfl⟩
        replace H : (spec_Block.l0 kj3 y407 y413 0) = some r := by first | (rw [hy413]; with_reducible first | exact H | exact bind_ofs H) | (with_reducible first | exact H | exact bind_ofs H) | (rw [hy413]; exact H) | exact H
        have Ny413 := Aside0.mk hy413
        clear hy413
        have H' := Aside0.mk H
        clear H
        go_wp2_with (first | ((with_reducible refine zds (N := 25) rfl ?_); (try (refine gate_guard (by rfl) ?_; dsimp only)); refine zec (Kd.int .i64) _ 3 ?hg (N := 25) ?hd (xs := ([1634760805, 857760878, 2036477234, 1797285236] : List Int)) (inner := [.int .i64 1634760805, .int .i64 857760878, .int .i64 2036477234, .int .i64 1797285236]) (ok := fun _ => True) (okp := fun _ => True) ?hr ?hp (fun _ hk => hk) trivial (zbx _ _) (zbp _) (by simp) ?_; (case hd => rfl); (case hg => rfl); (case hr => first | (go_simp; done) | (go_simp; rfl)); (case hp => exact (zdy (show Kd.M (Kd.int .i64) _ _ _ 1634760805 [.int .i64 1634760805] from rfl) (zdy (show Kd.M (Kd.int .i64) _ _ _ 857760878 [.int .i64 857760878] from rfl) (zdy (show Kd.M (Kd.int .i64) _ _ _ 2036477234 [.int .i64 2036477234] from rfl) (zdy (show Kd.M (Kd.int .i64) _ _ _ 1797285236 [.int .i64 1797285236] from rfl) (zdp _ _)))))); intro v393 w17 ho18 hb hg_ hnew_; have xb_ := below_ofs (by repeat (first | (with_reducible first | exact HB.out | apply zaj | apply zad | apply zai) | exact HB.out)) hb; clear hg_ hnew_; (first | rw [← Ny392.out] at ho18 | (simp only [Int.reduceToNat] at ho18; rw [← Ny392.out] at ho18)); have n0_ := Aside0.mk (zbc ho18 (zba xb_)); have n1_ := Aside0.mk (zbb xb_ hb); clear HB; have HO394 := n0_; have HB := n1_; clear n0_ n1_; clear xb_ hb ho18) | ((with_reducible refine zau (f := 43) rfl ?_); refine goesL_ (some 28) rfl rfl Try.func43 (by kernel_rfl) rfl #[.slice A0 l0.length c0, .bool false] rfl (by (try simp only [zal, zaq, zar]); first | done | rfl) ?_; (with_reducible refine (spec_Words.calls kj3 _ _ l0 false t395 _ ?side1 ?side2 A11.out).mono ?_); (case side1 => repeat (first | exact (zbr HR0.out HB.out) | (with_reducible first | apply zas | apply zat | apply zaw))); (case side2 => exact HC0.out); rintro e w19 ⟨v396, rfl, ho0, hb⟩; refine ⟨_, rfl, ?_⟩; have xb_ := below_ofs (by repeat (first | (with_reducible first | exact HB.out | apply zaj | apply zad | apply zai) | exact HB.out)) hb; have qHO394 := Kd.R_ofs (by (with_reducible repeat (first | apply zab | apply zac | apply zae)); exact HO394.out) hb; have n0_ := Aside0.mk (zak qHO394 (zan ho0) hb); have n1_ := Aside0.mk (zbc (zao ho0 (zav qHO394)) (zba xb_)); have n2_ := Aside0.mk (zbb xb_ hb); clear qHO394 HO394; clear HB; have HO394 := n0_; have HO397 := n1_; have HB := n2_; clear n0_ n1_ n2_; clear xb_ hb ho0; obtain ⟨Ao21, co21, eo21⟩ := zbe HO397.out; subst eo21) | ((with_reducible refine zdk (b := .append) (xs := #[.tmp 26, .tmp 28]) rfl ?_); (try (refine gate_guard (by rfl) ?_; dsimp only)); at_builtin; refine zdv (Kd.int .i64) (w0 := w) w.heap.size rfl (.tmp 26) (.tmp 28) 33 3 (.int .i64 0) 8 rfl Try.underlying33 info3 rfl (by decide) (by omega) v393 y392 t395 _ _ _ (fun k_ => some k_ ≠ (.slice Ao21 t395.length co21 : Value).ownBlock) (fun _ => False) rfl rfl ?aO ?aR (fun _ _ h => h) (fun _ h => h.elim) ?aF ?aB ?aS ?aL ?_; (case aR => repeat (first | exact (zaf HO397.out).2.2 | (with_reducible first | apply zas | apply zat | apply zaw))); (case aB => exact (by repeat (first | (with_reducible first | exact HB.out | apply zaj | apply zad | apply zai) | exact HB.out))); (case aF => exact (fun k_ hk => zel (zav (by (with_reducible repeat (first | apply zab | apply zac | apply zae)); exact HO397.out)) k_ hk)); (case aO => exact (by (with_reducible repeat (first | apply zab | apply zac | apply zae)); exact zbm HO394.out (fun _ hk => hk.2))); (case aS => exact (zba (by repeat (first | (with_reducible first | exact HB.out | apply zaj | apply zad | apply zai) | exact HB.out)))); (case aL => have := LMc12.out; omega); intro v399 w20 ho hb hg hat; rw [← Ny398.out] at ho; have n0_ := Aside0.mk (zdw (ok := (fun _ => True)) (by (with_reducible repeat (first | apply zab | apply zac | apply zae)); exact HO397.out) hg hat); have n1_ := Aside0.mk (hb); have n2_ := Aside0.mk (ho); clear HO397 HB HO394; have HO397 := n0_; have HB := n1_; have HO400 := n2_; clear n0_ n1_ n2_; clear ho hb hg hat) | ((with_reducible refine zdk (b := .append) (xs := #[.tmp 30, .tmp 32]) rfl ?_); (try (refine gate_guard (by rfl) ?_; dsimp only)); at_builtin; refine Kd.R_append (Kd.int .i64) (w0 := w) w.heap.size rfl (.tmp 30) (.tmp 32) 33 3 (.int .i64 0) 8 rfl Try.underlying33 info3 rfl (by decide) (by omega) v399 y398 a1 [.int .i64 a1] (fun k_ => some k_ ≠ (.slice Ao21 t395.length co21 : Value).ownBlock) (fun _ => False) rfl rfl ?aP (fun _ hk => hk.elim) ?aF ?aO ?aB ?aS ?aL ?_; (case aP => exact rfl); (case aB => exact (by repeat (first | (with_reducible first | exact HB.out | apply zaj | apply zad | apply zai) | exact HB.out))); (case aF => exact (fun k_ hk => zel (zav (by (with_reducible repeat (first | apply zab | apply zac | apply zae)); exact HO397.out)) k_ hk)); (case aO => exact (by (with_reducible repeat (first | apply zab | apply zac | apply zae)); exact HO400.out)); (case aS => exact (zba (by repeat (first | (with_reducible first | exact HB.out | apply zaj | apply zad | apply zai) | exact HB.out)))); (case aL => have := LMc13.out; omega); intro v402 w22 ho hb hg hat; rw [← Ny401.out] at ho; have n0_ := Aside0.mk (zdw (ok := (fun _ => True)) (by (with_reducible repeat (first | apply zab | apply zac | apply zae)); exact HO397.out) hg hat); have n1_ := Aside0.mk (hb); have n2_ := Aside0.mk (ho); clear HO397 HB HO400; have HO397 := n0_; have HB := n1_; have HO403 := n2_; clear n0_ n1_ n2_; clear ho hb hg hat) | ((with_reducible refine zau (f := 43) rfl ?_); refine goesL_ (some 36) rfl rfl Try.func43 (by kernel_rfl) rfl #[.slice A2 l2.length c2, .bool false] rfl (by (try simp only [zal, zaq, zar]); first | done | rfl) ?_; (with_reducible refine (spec_Words.calls kj3 _ _ l2 false t404 _ ?side1 ?side2 A14.out).mono ?_); (case side1 => repeat (first | exact (zbr HR2.out HB.out) | (with_reducible first | apply zas | apply zat | apply zaw))); (case side2 => exact HC2.out); rintro e w23 ⟨v405, rfl, ho0, hb⟩; refine ⟨_, rfl, ?_⟩; have xb_ := below_ofs (by repeat (first | (with_reducible first | exact HB.out | apply zaj | apply zad | apply zai) | exact HB.out)) hb; have qHO397 := Kd.R_ofs (by (with_reducible repeat (first | apply zab | apply zac | apply zae)); exact HO397.out) hb; have n0_ := Aside0.mk (zak qHO397 (zan ho0) hb); have qHO403 := Kd.R_ofs (by (with_reducible repeat (first | apply zab | apply zac | apply zae)); exact HO403.out) hb; have n1_ := Aside0.mk (zak qHO403 (zan ho0) hb); have n2_ := Aside0.mk (zbc (zao (zao ho0 (zav qHO397)) (zav qHO403)) (zba xb_)); have n3_ := Aside0.mk (zbb xb_ hb); clear qHO397 HO397; clear qHO403 HO403; clear HB; have HO397 := n0_; have HO403 := n1_; have HO406 := n2_; have HB := n3_; clear n0_ n1_ n2_ n3_; clear xb_ hb ho0; obtain ⟨Ao25, co25, eo25⟩ := zbe HO406.out; subst eo25) | ((with_reducible refine zdk (b := .append) (xs := #[.tmp 34, .tmp 36]) rfl ?_); (try (refine gate_guard (by rfl) ?_; dsimp only)); at_builtin; refine zdv (Kd.int .i64) (w0 := w) w.heap.size rfl (.tmp 34) (.tmp 36) 33 3 (.int .i64 0) 8 rfl Try.underlying33 info3 rfl (by decide) (by omega) v402 y401 t404 _ _ _ (fun k_ => some k_ ≠ (.slice Ao21 t395.length co21 : Value).ownBlock ∧ some k_ ≠ (.slice Ao25 t404.length co25 : Value).ownBlock) (fun _ => False) rfl rfl ?aO ?aR (fun _ _ h => h) (fun _ h => h.elim) ?aF ?aB ?aS ?aL ?_; (case aR => repeat (first | exact (zaf HO406.out).2.2 | (with_reducible first | apply zas | apply zat | apply zaw))); (case aB => exact (by repeat (first | (with_reducible first | exact HB.out | apply zaj | apply zad | apply zai) | exact HB.out))); (case aF => exact (fun k_ hk => ⟨zel (zav (by (with_reducible repeat (first | apply zab | apply zac | apply zae)); exact HO397.out)) k_ hk, zel (zav (by (with_reducible repeat (first | apply zab | apply zac | apply zae)); exact HO406.out)) k_ hk⟩)); (case aO => exact (by (with_reducible repeat (first | apply zab | apply zac | apply zae)); exact HO403.out)); (case aS => exact (zba (by repeat (first | (with_reducible first | exact HB.out | apply zaj | apply zad | apply zai) | exact HB.out)))); (case aL => have := LMc15.out; omega); intro v408 w24 ho hb hg hat; rw [← Ny407.out] at ho; have n0_ := Aside0.mk (zdw (ok := (fun k_ => some k_ ≠ (.slice Ao25 t404.length co25 : Value).ownBlock)) (by (with_reducible repeat (first | apply zab | apply zac | apply zae)); exact zbm HO397.out (fun _ hk => ⟨hk.2, hk.1.2⟩)) hg hat); have n1_ := Aside0.mk (zdw (ok := (fun k_ => some k_ ≠ (.slice Ao21 t395.length co21 : Value).ownBlock)) (by (with_reducible repeat (first | apply zab | apply zac | apply zae)); exact zbm HO406.out (fun _ hk => ⟨hk.1.2, hk.2⟩)) hg hat); have n2_ := Aside0.mk (hb); have n3_ := Aside0.mk (ho); clear HO397 HO406 HB HO403; have HO397 := n0_; have HO406 := n1_; have HB := n2_; have HO409 := n3_; clear n0_ n1_ n2_ n3_; clear ho hb hg hat) | ((with_reducible refine zds (N := 38) rfl ?_); (try (refine gate_guard (by rfl) ?_; dsimp only)); refine zec (Kd.int .i64) _ 3 ?hg (N := 38) ?hd (xs := ([] : List Int)) (inner := []) (ok := fun _ => True) (okp := fun _ => True) ?hr ?hp (fun _ hk => hk) trivial (zbx _ _) (zbp _) (by simp) ?_; (case hd => rfl); (case hg => rfl); (case hr => first | (go_simp; done) | (go_simp; rfl)); (case hp => exact (zdp _ _)); intro v411 w26 ho27 hb hg_ hnew_; have xb_ := below_ofs (by repeat (first | (with_reducible first | exact HB.out | apply zaj | apply zad | apply zai) | exact HB.out)) hb; clear hg_ hnew_; (first | rw [← Ny410.out] at ho27 | (simp only [Int.reduceToNat] at ho27; rw [← Ny410.out] at ho27)); have qHO397 := Kd.R_ofs (by (with_reducible repeat (first | apply zab | apply zac | apply zae)); exact HO397.out) hb; have n0_ := Aside0.mk (zak qHO397 (zan ho27) hb); have qHO406 := Kd.R_ofs (by (with_reducible repeat (first | apply zab | apply zac | apply zae)); exact HO406.out) hb; have n1_ := Aside0.mk (zak qHO406 (zan ho27) hb); have qHO409 := Kd.R_ofs (by (with_reducible repeat (first | apply zab | apply zac | apply zae)); exact HO409.out) hb; have n2_ := Aside0.mk (zak qHO409 (zan ho27) hb); have n3_ := Aside0.mk (zbc (zao (zao (zao ho27 (zav qHO397)) (zav qHO406)) (zav qHO409)) (zba xb_)); have n4_ := Aside0.mk (zbb xb_ hb); clear qHO397 HO397; clear qHO406 HO406; clear qHO409 HO409; clear HB; have HO397 := n0_; have HO406 := n1_; have HO409 := n2_; have HO412 := n3_; have HB := n4_; clear n0_ n1_ n2_ n3_ n4_; clear xb_ hb ho27; obtain ⟨Ao29, co29, eo29⟩ := zbe HO409.out; subst eo29) | ((with_reducible refine zdk (b := .append) (xs := #[.tmp 38, .tmp 39]) rfl ?_); (try (refine gate_guard (by rfl) ?_; dsimp only)); at_builtin; refine zdv (Kd.int .i64) (w0 := w) w.heap.size rfl (.tmp 38) (.tmp 39) 33 3 (.int .i64 0) 8 rfl Try.underlying33 info3 rfl (by decide) (by omega) v411 y410 y407 _ _ _ (fun k_ => some k_ ≠ (.slice Ao21 t395.length co21 : Value).ownBlock ∧ some k_ ≠ (.slice Ao25 t404.length co25 : Value).ownBlock ∧ some k_ ≠ (.slice Ao29 y407.length co29 : Value).ownBlock) (fun _ => False) rfl rfl ?aO ?aR (fun _ _ h => h) (fun _ h => h.elim) ?aF ?aB ?aS ?aL ?_; (case aR => repeat (first | exact (zaf HO409.out).2.2 | (with_reducible first | apply zas | apply zat | apply zaw))); (case aB => exact (by repeat (first | (with_reducible first | exact HB.out | apply zaj | apply zad | apply zai) | exact HB.out))); (case aF => exact (fun k_ hk => ⟨zel (zav (by (with_reducible repeat (first | apply zab | apply zac | apply zae)); exact HO397.out)) k_ hk, zel (zav (by (with_reducible repeat (first | apply zab | apply zac | apply zae)); exact HO406.out)) k_ hk, zel (zav (by (with_reducible repeat (first | apply zab | apply zac | apply zae)); exact HO409.out)) k_ hk⟩)); (case aO => exact (by (with_reducible repeat (first | apply zab | apply zac | apply zae)); exact zbm HO412.out (fun _ hk => ⟨hk.1.1.2, ⟨hk.1.2, hk.2⟩⟩))); (case aS => exact (zba (by repeat (first | (with_reducible first | exact HB.out | apply zaj | apply zad | apply zai) | exact HB.out)))); (case aL => have := LMc16.out; omega); intro v414 w28 ho hb hg hat; rw [← Ny413.out] at ho; have n0_ := Aside0.mk (zdw (ok := (fun k_ => some k_ ≠ (.slice Ao25 t404.length co25 : Value).ownBlock ∧ some k_ ≠ (.slice Ao29 y407.length co29 : Value).ownBlock)) (by (with_reducible repeat (first | apply zab | apply zac | apply zae)); exact HO397.out) hg hat); have n1_ := Aside0.mk (zdw (ok := (fun k_ => some k_ ≠ (.slice Ao21 t395.length co21 : Value).ownBlock ∧ some k_ ≠ (.slice Ao29 y407.length co29 : Value).ownBlock)) (by (with_reducible repeat (first | apply zab | apply zac | apply zae)); exact HO406.out) hg hat); have n2_ := Aside0.mk (zdw (ok := (fun k_ => some k_ ≠ (.slice Ao21 t395.length co21 : Value).ownBlock ∧ some k_ ≠ (.slice Ao25 t404.length co25 : Value).ownBlock)) (by (with_reducible repeat (first | apply zab | apply zac | apply zae)); exact HO409.out) hg hat); have n3_ := Aside0.mk (hb); have n4_ := Aside0.mk (ho); clear HO397 HO406 HO409 HB HO412; have HO397 := n0_; have HO406 := n1_; have HO409 := n2_; have HB := n3_; have HO415 := n4_; clear n0_ n1_ n2_ n3_ n4_; clear ho hb hg hat))
        go_loopg [8, 9] kj3 (fun kq v8 v9 w' => ∃ (x8_2 : List Int) (x9_2 : Int), v9 = .int .i64 x9_2 ∧ Aside0 (spec_Block.l0 kq y407 x8_2 x9_2 = some r) ∧ Aside0 (kq ≤ kj3) ∧ Aside0 (Kd.R (Kd.int .i64) 3 w' w.heap.size (fun k_ => some k_ ≠ (v8 : Value).ownBlock) (.slice Ao29 y407.length co29) y407) ∧ Aside0 (Kd.R (Kd.int .i64) 3 w' w.heap.size (fun k_ => some k_ ≠ ((.slice Ao29 y407.length co29) : Value).ownBlock) v8 x8_2) ∧ Aside0 (Below w.heap.size w w'))
        case atStart => exact ⟨(y413), (0), (by first | rfl | (simp; done) | (simp [*]; done)), H', ⟨zbp _⟩, ⟨by (with_reducible repeat (first | apply zab | apply zac | apply zae)); exact zbm HO409.out (fun _ hk => hk.2)⟩, ⟨by (with_reducible repeat (first | apply zab | apply zac | apply zae)); exact zbm HO415.out (fun _ hk => hk.2.2)⟩, ⟨by repeat (first | (with_reducible first | exact HB.out | apply zaj | apply zad | apply zai) | exact HB.out)⟩⟩
        case round =>
         clear H'
         try clear c1
         try clear c2
         try clear p2
         try clear c4
         try clear c5
         try clear c5b0
         try clear c5b1
         try clear c6
         try clear c6b0
         try clear c6b1
         try clear c8
         try clear c12
         try clear c13
         try clear c15
         try clear c16
         try clear c23
         try clear p2
         obtain ⟨x8_2, x9_2, rfl, HA, HK2, HO_7, HO_8, HB⟩ := hrel
         cases gk with
         | zero => exact absurd HA.out (by simp [spec_Block.l0])
         | succ k2 =>
          have H := HA.out
          clear HA
          simp only [spec_Block.l0] at H
          by_cases c30 : x9_2 < 10
          ·rw [if_pos c30] at H
           have c30b0 : decide (x9_2 < 10) = true := zax c30
           clear c30
           replace H := zam.mp H
           obtain ⟨t416, A310, H⟩ := H
           try dsimp only at H
           have A31 := Aside0.mk A310
           clear A310
           have H' := Aside0.mk H
           clear H
           obtain ⟨Ao32, co32, eo32⟩ := zbe HO_8.out
           subst eo32
           go_wp2_with (first | ((with_reducible refine zau (f := 44) rfl ?_); refine goesL_ (some 46) rfl rfl Try.func44 (by kernel_rfl) rfl #[.slice Ao32 x8_2.length co32] rfl (by (try simp only [zal, zaq, zar]); first | done | rfl) ?_; (with_reducible refine (spec_l5Double.calls k2 _ _ x8_2 t416 _ ?side1 ?side2 A31.out).mono ?_); (case side1 => repeat (first | exact (zaf HO_8.out).2.2 | (with_reducible first | apply zas | apply zat | apply zaw))); (case side2 => exact (zaf HO_8.out).2.1); rintro e w33 ⟨v417, rfl, ho0, hb⟩; refine ⟨_, rfl, ?_⟩; have xb_ := below_ofs (by repeat (first | (with_reducible first | exact HB.out | apply zaj | apply zad | apply zai) | exact HB.out)) hb; have qHO_7 := Kd.R_ofs (by (with_reducible repeat (first | apply zab | apply zac | apply zae)); exact HO_7.out) hb; have n0_ := Aside0.mk (zak qHO_7 (zan ho0) hb); have qHO_8 := Kd.R_ofs (by (with_reducible repeat (first | apply zab | apply zac | apply zae)); exact HO_8.out) hb; have n1_ := Aside0.mk (zak qHO_8 (zan ho0) hb); have n2_ := Aside0.mk (zbc (zao (zao ho0 (zav qHO_7)) (zav qHO_8)) (zba xb_)); have n3_ := Aside0.mk (zbb xb_ hb); clear qHO_7 HO_7; clear qHO_8 HO_8; clear HB; have HO_7 := n0_; have HO_8 := n1_; have HO418 := n2_; have HB := n3_; clear n0_ n1_ n2_ n3_; clear xb_ hb ho0))
           go_roundg k2
           case measure => have := HJ3.out; have := HK2.out; omega
           case rel => exact ⟨(t416), (wrap64 (x9_2 + 1)), (by first | rfl | (simp; done) | (simp [*]; done)), H', ⟨by have := HJ3.out; have := HK2.out; omega⟩, ⟨by (with_reducible repeat (first | apply zab | apply zac | apply zae)); exact zbm HO_7.out (fun _ hk => hk.2)⟩, ⟨by (with_reducible repeat (first | apply zab | apply zac | apply zae)); exact zbm HO418.out (fun _ hk => hk.1.2)⟩, ⟨by repeat (first | (with_reducible first | exact HB.out | apply zaj | apply zad | apply zai) | exact HB.out)⟩⟩
          ·rw [if_neg c30] at H
           have c30b0 : decide (x9_2 < 10) = false := zbq c30
           clear c30
           have H' := Aside0.mk H
           clear H
           go_wp2
           go_loopg [10] k2 (fun kq v10 w' => ∃ (x8_3 : List Int) (x10_3 : Int), v10 = .int .i64 x10_3 ∧ Aside0 (spec_Block.l1 kq y407 x8_3 x10_3 = some r) ∧ Aside0 (kq ≤ k2) ∧ Aside0 (Kd.R (Kd.int .i64) 3 w' w.heap.size (fun k_ => some k_ ≠ (u8 : Value).ownBlock) (.slice Ao29 y407.length co29) y407) ∧ Aside0 (Kd.R (Kd.int .i64) 3 w' w.heap.size (fun k_ => some k_ ≠ ((.slice Ao29 y407.length co29) : Value).ownBlock) u8 x8_3) ∧ Aside0 (Below w.heap.size w w'))
           case atStart => exact ⟨(x8_2), (0), (by first | rfl | (simp; done) | (simp [*]; done)), H', ⟨zbp _⟩, ⟨by (with_reducible repeat (first | apply zab | apply zac | apply zae)); exact HO_7.out⟩, ⟨by (with_reducible repeat (first | apply zab | apply zac | apply zae)); exact HO_8.out⟩, ⟨by repeat (first | (with_reducible first | exact HB.out | apply zaj | apply zad | apply zai) | exact HB.out)⟩⟩
           case round =>
            clear H'
            try clear c1
            try clear c2
            try clear p2
            try clear c3
            try clear c4
            try clear c5
            try clear c5b0
            try clear c5b1
            try clear c6
            try clear c6b0
            try clear c6b1
            try clear p6
            try clear c8
            try clear c12
            try clear c13
            try clear c15
            try clear c16
            try clear c23
            try clear c30
            try clear c30b0
            try clear p2
            obtain ⟨x8_3, x10_3, rfl, HA, HK3, HO_7, HO_8, HB⟩ := hrel
            cases gk with
            | zero => exact absurd HA.out (by simp [spec_Block.l1])
            | succ k3 =>
             have H := HA.out
             clear HA
             simp only [spec_Block.l1] at H
             by_cases c34 : x10_3 < 16
             ·rw [if_pos c34] at H
              have c34b0 : decide (x10_3 < 16) = true := zax c34
              clear c34
              by_cases c35 : 0 ≤ x10_3
              ·rw [if_pos c35] at H
               have c35b0 : decide (0 ≤ x10_3) = true := zax c35
               clear c35
               by_cases c36 : x10_3 < (x8_3.length : Int)
               ·rw [if_pos c36] at H
                have c36b0 : decide (x10_3 < (x8_3.length : Int)) = true := zax c36
                clear c36
                by_cases c37 : x10_3 < (y407.length : Int)
                ·rw [if_pos c37] at H
                 have c37b0 : decide (x10_3 < (y407.length : Int)) = true := zax c37
                 clear c37
                 replace H := zam.mp H
                 obtain ⟨t421, A380, H⟩ := H
                 try dsimp only at H
                 have A38 := Aside0.mk A380
                 clear A380
                 obtain ⟨y422, hy422⟩ : ∃ y_ : List Int, y_ = (x8_3.set (x10_3 : Int).toNat t421) := ⟨_, rfl⟩
                 replace H : (spec_Block.l1 k3 y407 y422 (wrap64 (x10_3 + 1))) = some r := by first | (rw [hy422]; with_reducible first | exact H | exact bind_ofs H) | (with_reducible first | exact H | exact bind_ofs H) | (rw [hy422]; exact H) | exact H
                 have Ny422 := Aside0.mk hy422
                 clear hy422
                 have H' := Aside0.mk H
                 clear H
                 try go_wp2
                 have n0_ := Aside0.mk (zae HO_7.out)
                 have n1_ := Aside0.mk (zae HO_8.out)
                 have n2_ := Aside0.mk (zai HB.out)
                 clear HO_7
                 clear HO_8
                 clear HB
                 have HO_7 := n0_
                 have HO_8 := n1_
                 have HB := n2_
                 clear n0_ n1_ n2_
                 obtain ⟨Ao41, co41, eo41⟩ := zbe HO_8.out
                 (first | subst eo41 | (injection eo41 with f1_ f2_ f3_; have f4_ := f1_.symm; have f5_ := f3_.symm; clear f1_ f2_ f3_; subst f4_; subst f5_))
                 have p419 : 0 ≤ (x10_3 : Int) := zap (by first | (with_reducible assumption) | assumption)
                 have q419 : x10_3 < (x8_3.length : Int) := zap (by first | (with_reducible assumption) | assumption)
                 obtain ⟨ad419, e419, hx419_0⟩ := zca (zaf HO_8.out).2.2 x10_3 p419 q419
                 cases e419
                 replace p419 := zbn p419
                 replace q419 := zbn q419
                 have p420 : 0 ≤ (x10_3 : Int) := zap (by first | (with_reducible assumption) | assumption)
                 have q420 : x10_3 < (y407.length : Int) := zap (by first | (with_reducible assumption) | assumption)
                 obtain ⟨ad420, e420, hx420_0⟩ := zca (zaf HO_7.out).2.2 x10_3 p420 q420
                 cases e420
                 replace p420 := zbn p420
                 replace q420 := zbn q420
                 refine start_ (n := 14) (S := fun w' => w'.cell? (ad419.add (x10_3).toNat) = some (.int .i64 (rd x8_3 x10_3)) ∧ w'.cell? (ad420.add (x10_3).toNat) = some (.int .i64 (rd y407 x10_3))) (ds := [13]) #[false, false, false, false, false, false, false, false, false, false, false, false, false, false] (by kernel_rfl) rfl rfl ⟨hx419_0, hx420_0⟩ (fun hHeld => ?_); refine zeq spec_Block.tab15 spec_Block.bits15 (fun HT_ HW_ => ?_)
                 generalize wr.drew = w40 at HO_7 HO_8 HB hx419_0 hx420_0 hHeld ⊢
                 refine pure_ (i := 0) (N := some 51) (v := ?_) (a' := ?_) #[true, false, false, false, false, false, false, false, false, false, false, false, false, false] rfl rfl (any_of HT_.out (by kernel_rfl)) (fun _ _ _ h => h) (Or.inl ⟨by rfl, ?_⟩) ?_ ?_
                 rotate_left
                 ·intro w'
                  go_simp
                  with_reducible rfl
                 rotate_left
                 ·simp only [Act.put, zaa, zag, zah, i64_w, i32_w]
                  rfl
                 refine pure_ (i := 1) (N := some 52) (v := ?_) (a' := ?_) #[true, true, false, false, false, false, false, false, false, false, false, false, false, false] rfl rfl (any_of HT_.out (by kernel_rfl)) (fun _ _ _ h => h) (Or.inl ⟨by rfl, ?_⟩) ?_ ?_
                 rotate_left
                 ·intro w'
                  go_simp
                  with_reducible rfl
                 rotate_left
                 ·simp only [Act.put, zaa, zag, zah, i64_w, i32_w]
                  rfl
                 refine pure_ (i := 2) (N := some 53) (v := ?_) (a' := ?_) #[true, true, true, false, false, false, false, false, false, false, false, false, false, false] rfl rfl (any_of HT_.out (by kernel_rfl)) (fun _ _ _ h => h) (Or.inl ⟨by rfl, ?_⟩) ?_ ?_
                 rotate_left
                 ·intro w'
                  go_simp
                  with_reducible rfl
                 rotate_left
                 ·simp only [Act.put, zaa, zag, zah, i64_w, i32_w]
                  rfl
                 refine pure_ (i := 3) (N := some 54) (v := ?_) (a' := ?_) #[true, true, true, true, false, false, false, false, false, false, false, false, false, false] rfl rfl (any_of HT_.out (by kernel_rfl)) (fun _ _ _ h => h) (Or.inl ⟨by rfl, ?_⟩) ?_ ?_
                 rotate_left
                 ·intro w'
                  go_simp
                  with_reducible rfl
                 rotate_left
                 ·simp only [Act.put, zaa, zag, zah, i64_w, i32_w]
                  rfl
                 refine pure_ (i := 4) (N := some 55) (v := ?_) (a' := ?_) #[true, true, true, true, true, false, false, false, false, false, false, false, false, false] rfl rfl (any_of HT_.out (by kernel_rfl)) (fun _ _ _ h => h) (Or.inl ⟨by rfl, ?_⟩) ?_ ?_
                 rotate_left
                 ·intro w'
                  go_simp
                  with_reducible rfl
                 rotate_left
                 ·simp only [Act.put, zaa, zag, zah, i64_w, i32_w]
                  rfl
                 refine pure_ (i := 6) (N := some 57) (v := ?_) (a' := ?_) #[true, true, true, true, true, false, true, false, false, false, false, false, false, false] rfl rfl (any_of HT_.out (by kernel_rfl)) (fun _ _ _ h => h) (Or.inl ⟨by rfl, ?_⟩) ?_ ?_
                 rotate_left
                 ·intro w'
                  go_simp
                  with_reducible rfl
                 rotate_left
                 ·simp only [Act.put, zaa, zag, zah, i64_w, i32_w]
                  rfl
                 refine pure_ (i := 7) (N := some 58) (v := ?_) (a' := ?_) #[true, true, true, true, true, false, true, true, false, false, false, false, false, false] rfl rfl (any_of HT_.out (by kernel_rfl)) (fun _ _ _ h => h) (Or.inl ⟨by rfl, ?_⟩) ?_ ?_
                 rotate_left
                 ·intro w'
                  go_simp
                  with_reducible rfl
                 rotate_left
                 ·simp only [Act.put, zaa, zag, zah, i64_w, i32_w]
                  rfl
                 refine pure_ (i := 8) (N := some 59) (v := ?_) (a' := ?_) #[true, true, true, true, true, false, true, true, true, false, false, false, false, false] rfl rfl (any_of HT_.out (by kernel_rfl)) (fun _ _ _ h => h) (Or.inl ⟨by rfl, ?_⟩) ?_ ?_
                 rotate_left
                 ·intro w'
                  go_simp
                  with_reducible rfl
                 rotate_left
                 ·simp only [Act.put, zaa, zag, zah, i64_w, i32_w]
                  rfl
                 refine take_ (i := 5) (N := some 56) (v := ?_) (a' := ?_) #[true, true, true, true, true, true, true, true, true, false, false, false, false, false] rfl rfl (zdt HT_.out HW_.out (by kernel_rfl)) (fun _ _ _ h => h) (Or.inl ⟨by rfl, ?_⟩) hHeld ?_ ?_
                 rotate_left
                 ·rintro w' ⟨s0, s1⟩
                  go_simp
                  with_reducible rfl
                 rotate_left
                 ·simp only [Act.put, zaa, zag, zah, i64_w, i32_w]
                  rfl
                 refine take_ (i := 9) (N := some 60) (v := ?_) (a' := ?_) #[true, true, true, true, true, true, true, true, true, true, false, false, false, false] rfl rfl (zdt HT_.out HW_.out (by kernel_rfl)) (fun _ _ _ h => h) (Or.inl ⟨by rfl, ?_⟩) hHeld ?_ ?_
                 rotate_left
                 ·rintro w' ⟨s0, s1⟩
                  go_simp
                  with_reducible rfl
                 rotate_left
                 ·simp only [Act.put, zaa, zag, zah, i64_w, i32_w]
                  rfl
                 refine pure_ (i := 10) (N := some 61) (v := ?_) (a' := ?_) #[true, true, true, true, true, true, true, true, true, true, true, false, false, false] rfl rfl (any_of HT_.out (by kernel_rfl)) (fun _ _ _ h => h) (Or.inl ⟨by rfl, ?_⟩) ?_ ?_
                 rotate_left
                 ·intro w'
                  go_simp
                  with_reducible rfl
                 rotate_left
                 ·simp only [Act.put, zaa, zag, zah, i64_w, i32_w]
                  rfl
                 refine one_ (i := 11) (N := some 62) #[true, true, true, true, true, true, true, true, true, true, true, true, false, false] rfl rfl (one_of HT_.out (by kernel_rfl)) (by decide) (fun K hK => ?_)
                 refine goes_ Try.func38 (by kernel_rfl) rfl #[.int .i64 (wrap64 ((rd x8_3 x10_3) + (rd y407 x10_3)))] (by rfl) rfl rfl (by (try simp only [zal, zaq, zar]); first | done | rfl | (simp only [zbl, zbi]; rfl) | (simp only [zbl, zbi]; rw [zcm (zda.mpr (zdl (by assumption)))])) ?_
                 with_reducible refine (spec_Word.calls (wrap64 ((rd x8_3 x10_3) + (rd y407 x10_3))) t421 _ A38.out).mono ?_
                 rintro e w' ⟨rfl, ⟨nd, rfl⟩⟩
                 refine ⟨_, rfl, ?_⟩
                 have p39 : 0 ≤ (x10_3 : Int) := zap (by first | (with_reducible assumption) | assumption)
                 have q39 : (x10_3 : Int) < ((x8_3.length : Int) : Int) := zap (by first | (with_reducible assumption) | assumption)
                 obtain ⟨go39, co39, eo39, gb39, gl39, cl39, HG39⟩ := Kd.R_form HO_8.out (by omega)
                 (first | cases eo39 | (injection eo39 with ea_ en_ ec_; (first | subst ea_ | (injection ea_ with ea_; subst ea_)); subst ec_; clear en_))
                 have GB39 := Aside0.mk gb39
                 have GG39 := Aside0.mk HG39
                 clear gb39 gl39 HG39
                 (first | simp only [zeg] at hx419_0 | skip)
                 obtain ⟨hx39_0, hf39_0⟩ := zer 0 HO_8.out (x10_3 : Int) p39 q39
                 replace p39 := zbn p39
                 replace q39 := zbn q39
                 have HP42 := Kd.R_putn HO_8.out (x10_3 : Int) t421
                 rw [← Ny422.out] at HP42
                 have HQ42 := Aside0.mk HP42
                 clear HP42
                 refine hK.out _ _ ⟨hHeld.1, hHeld.2⟩ (fun hHeld => ?_)
                 clear hK K
                 refine norm_ (a' := ?_) ?_ ?_
                 rotate_left
                 ·show Act.put _ (some 62) _ = _
                  simp only [Act.put, zaa, zag, zah, i64_w, i32_w]
                  rfl
                 refine pure_ (i := 12) (N := some 63) (v := ?_) (a' := ?_) #[true, true, true, true, true, true, true, true, true, true, true, true, true, false] rfl rfl (any_of HT_.out (by kernel_rfl)) (fun _ _ _ h => h) (Or.inl ⟨by rfl, ?_⟩) ?_ ?_
                 rotate_left
                 ·intro w'
                  go_simp
                  with_reducible rfl
                 rotate_left
                 ·simp only [Act.put, zaa, zag, zah, i64_w, i32_w]
                  rfl
                 refine last_ (i := 13) (N := none) #[true, true, true, true, true, true, true, true, true, true, true, true, true, true] rfl rfl (one_of HT_.out (by kernel_rfl)) (by decide) (fun K hK => ?_)
                 refine skip_ (w1 := ?_) (by rfl) rfl ?_ ?_
                 rotate_left
                 ·go_simp
                  rfl
                 refine hK.out _ _ ?_
                 clear hK K
                 refine done_ (done_of HT_.out (by kernel_rfl)) ?_
                 try go_wp2
                 go_roundg k3
                 case measure => have := HJ3.out; have := HK2.out; have := HK3.out; omega
                 case rel => exact ⟨(y422), (wrap64 (x10_3 + 1)), (by first | rfl | (simp; done) | (simp [*]; done)), H', ⟨by have := HJ3.out; have := HK2.out; have := HK3.out; omega⟩, ⟨by (with_reducible repeat (first | apply zab | apply zac | apply zae)); exact zbm (Kd.R_far (p := ⟨go39, (x10_3 : Int).toNat, none⟩) (zbm HO_7.out (fun k_ hk => (⟨hk, fun e_ => hk (by rw [e_]; rfl)⟩ : _ ∧ k_ ≠ go39))) (fun _ hk => hk.2) (.int .i64 t421)) (fun _ hk => hk.1)⟩, ⟨by (with_reducible repeat (first | apply zab | apply zac | apply zae)); exact HQ42.out⟩, ⟨by repeat (first | (with_reducible first | exact HB.out | apply zaj | apply zad | apply zai | refine zbs ?_ GB39.out) | exact HB.out)⟩⟩
                ·rw [if_neg c37] at H
                 exact absurd H (by simp)
               ·rw [if_neg c36] at H
                exact absurd H (by simp)
              ·rw [if_neg c35] at H
               exact absurd H (by simp)
             ·rw [if_neg c34] at H
              have c34b0 : decide (x10_3 < 16) = false := zbq c34
              clear c34
              replace H := zam.mp H
              obtain ⟨t423, A430, H⟩ := H
              try dsimp only at H
              have A43 := Aside0.mk A430
              clear A430
              obtain rfl := Option.some.inj H
              obtain ⟨Ao44, co44, eo44⟩ := zbe HO_8.out
              subst eo44
              go_wp2_with (first | ((with_reducible refine zau (f := 45) rfl ?_); refine goesL_ (some 65) rfl rfl Try.func45 (by kernel_rfl) rfl #[.slice Ao44 x8_3.length co44, .bool false] rfl (by (try simp only [zal, zaq, zar]); first | done | rfl) ?_; (with_reducible refine (spec_WordBytes.calls k3 _ _ x8_3 false t423 _ ?side1 ?side2 A43.out).mono ?_); (case side1 => repeat (first | exact (zaf HO_8.out).2.2 | (with_reducible first | apply zas | apply zat | apply zaw))); (case side2 => exact (zaf HO_8.out).2.1); rintro e w45 ⟨v424, rfl, ho0, hb⟩; refine ⟨_, rfl, ?_⟩; have xb_ := below_ofs (by repeat (first | (with_reducible first | exact HB.out | apply zaj | apply zad | apply zai) | exact HB.out)) hb; have n0_ := Aside0.mk (zcz (by (with_reducible repeat (first | apply zab | apply zac | apply zae)); exact HO_7.out) hb); have n1_ := Aside0.mk (zcz (by (with_reducible repeat (first | apply zab | apply zac | apply zae)); exact HO_8.out) hb); have n2_ := Aside0.mk (zbc ho0 (zba xb_)); have n3_ := Aside0.mk (zbb xb_ hb); clear HO_7 HO_8 HB; have HO_7 := n0_; have HO_8 := n1_; have HO425 := n2_; have HB := n3_; clear n0_ n1_ n2_ n3_; clear xb_ hb ho0))
              go_ret
              exact ⟨_, by first | rfl | (simp [zbj, zbk] <;> rfl) | (simp [*, zbj, zbk] <;> rfl), by (with_reducible repeat (first | apply zab | apply zac | apply zae)); exact HO425.out, by repeat (first | (with_reducible first | exact HB.out | apply zaj | apply zad | apply zai) | exact HB.out)⟩
       ·rw [if_neg c16] at H
        exact absurd H (by simp)
      ·rw [if_neg c15] at H
       exact absurd H (by simp)
     ·rw [if_neg c13] at H
      exact absurd H (by simp)
    ·rw [if_neg c12] at H
     exact absurd H (by simp)
end Go.Proofs.Ytdineaebljpfaaa.P
