import Derived.Test.Ytlalkldjpniakaaqm3
namespace Go.Proofs.Ytlalkldjpniakaa.P
open Go.RowKit Go.Proofs.YtlalkldjpniakaaW.PrintWords Go.Proofs.YtlalkldjpniakaaW.PrintLast Go.Proofs.YtlalkldjpniakaaW.PrintMore
attribute [local go_sem] zcm zcn zdd zde zbw zbx zco zcp   -- for this text's walks alone
set_option linter.unusedVariables false
set_option linter.unusedSimpArgs false
set_option maxHeartbeats 8000000
set_option maxRecDepth 100000

def spec_Words.l0 : Nat → List Int → Bool → List Int → Int → Option (List Int)
 | 0, _, _, _, _ => none
 | k + 1, x0, x1, x5, x6 => if (wrap64 (x6 + 3)) < (x0.length : Int) then (if x1 = true then (if 0 ≤ x6 then (if x6 < (x0.length : Int) then (if 0 ≤ (wrap64 (x6 + 1)) then (if (wrap64 (x6 + 1)) < (x0.length : Int) then (if 0 ≤ (wrap64 (x6 + 2)) then (if (wrap64 (x6 + 2)) < (x0.length : Int) then (if 0 ≤ (wrap64 (x6 + 3)) then (if x5.length < 17592186044416 then (spec_Words.l0 k x0 x1 (x5 ++ [Go.bits .or .i64 (Go.bits .or .i64 (Go.bits .or .i64 (wrap64 ((wrap64 (rd x0 x6)) * 16777216)) (wrap64 ((wrap64 (rd x0 (wrap64 (x6 + 1)))) * 65536))) (wrap64 ((wrap64 (rd x0 (wrap64 (x6 + 2)))) * 256))) (wrap64 (rd x0 (wrap64 (x6 + 3))))]) (wrap64 (x6 + 4))) else (none)) else (none)) else (none)) else (none)) else (none)) else (none)) else (none)) else (none)) else (if 0 ≤ (wrap64 (x6 + 3)) then (if 0 ≤ (wrap64 (x6 + 2)) then (if (wrap64 (x6 + 2)) < (x0.length : Int) then (if 0 ≤ (wrap64 (x6 + 1)) then (if (wrap64 (x6 + 1)) < (x0.length : Int) then (if 0 ≤ x6 then (if x6 < (x0.length : Int) then (if x5.length < 17592186044416 then (spec_Words.l0 k x0 x1 (x5 ++ [Go.bits .or .i64 (Go.bits .or .i64 (Go.bits .or .i64 (wrap64 ((wrap64 (rd x0 (wrap64 (x6 + 3)))) * 16777216)) (wrap64 ((wrap64 (rd x0 (wrap64 (x6 + 2)))) * 65536))) (wrap64 ((wrap64 (rd x0 (wrap64 (x6 + 1)))) * 256))) (wrap64 (rd x0 x6))]) (wrap64 (x6 + 4))) else (none)) else (none)) else (none)) else (none)) else (none)) else (none)) else (none)) else (none))) else (some x5)
def spec_Words.f (k : Nat) (l0 : List Int) (a1 : Bool) : Option (List Int) := spec_Words.l0 k l0 a1 (([] : List Int)) 0
theorem spec_Words.mono_l : ∀ k, (∀ y0 y1 y2 y3, LeO (spec_Words.l0 k y0 y1 y2 y3) (spec_Words.l0 (k + 1) y0 y1 y2 y3))
 | 0 => fun _ _ _ _ r h => by simp [spec_Words.l0] at h
 | k + 1 => by
  have ih0 := spec_Words.mono_l k
  ·intro y0 y1 y2 y3
   unfold spec_Words.l0
   exact mt
theorem spec_Words.mono : ∀ a0 a1 k, LeO (spec_Words.f k a0 a1) (spec_Words.f (k + 1) a0 a1) := by
 intro a0 a1 k
 have ih0 := spec_Words.mono_l k
 unfold spec_Words.f
 exact mt
def spec_Words.T6 : Bool × List (List Nat × List Nat) := (true, [([], []), ([], []), ([], []), ([1, 2], [1, 2]), ([3], [3]), ([4], [4]), ([5], [5]), ([], []), ([], []), ([8], [8]), ([7, 9], [7, 9]), ([10], [10]), ([11], [11]), ([12], [12]), ([6, 13], [6, 13]), ([], []), ([], []), ([16], [16]), ([15, 17], [15, 17]), ([18], [18]), ([19], [19]), ([20], [20]), ([14, 21], [14, 21]), ([], []), ([], []), ([24], [24]), ([23, 25], [23, 25]), ([26], [26]), ([27], [27]), ([22, 28], [22, 28]), ([29], [29]), ([0, 30], [0, 30]), ([31, 31, 0, 1, 2, 3, 4, 5, 6, 7, 8, 9, 10, 11, 12, 13, 14, 15, 16, 17, 18, 19, 20, 21, 22, 23, 24, 25, 26, 27, 28, 29, 30, 31], [0, 31])])
def spec_Words.B6 : List Nat := [0, 0, 0, 6, 14, 30, 62, 0, 0, 256, 896, 1920, 3968, 8064, 16382, 0, 0, 65536, 229376, 491520, 1015808, 2064384, 4194302, 0, 0, 16777216, 58720256, 125829120, 260046848, 536870910, 1073741822, 2147483647, 4294967295]
theorem spec_Words.tab6 : rtab .any (opsOf Try.f111 6) = spec_Words.T6 := by kernel_rfl
theorem spec_Words.bits6 : waitsOk spec_Words.T6.2 spec_Words.B6 = true := by kernel_rfl
def spec_Words.T7 : Bool × List (List Nat × List Nat) := (true, [([], []), ([], []), ([], []), ([2], [2]), ([1, 3], [1, 3]), ([4], [4]), ([5], [5]), ([6], [6]), ([], []), ([], []), ([9], [9]), ([8, 10], [8, 10]), ([11], [11]), ([12], [12]), ([13], [13]), ([7, 14], [7, 14]), ([], []), ([], []), ([17], [17]), ([16, 18], [16, 18]), ([19], [19]), ([20], [20]), ([21], [21]), ([15, 22], [15, 22]), ([], []), ([], []), ([24, 25], [24, 25]), ([26], [26]), ([27], [27]), ([23, 28], [23, 28]), ([29], [29]), ([0, 30], [0, 30]), ([31, 31, 0, 1, 2, 3, 4, 5, 6, 7, 8, 9, 10, 11, 12, 13, 14, 15, 16, 17, 18, 19, 20, 21, 22, 23, 24, 25, 26, 27, 28, 29, 30, 31], [0, 31])])
def spec_Words.B7 : List Nat := [0, 0, 0, 4, 14, 30, 62, 126, 0, 0, 512, 1792, 3840, 7936, 16128, 32766, 0, 0, 131072, 458752, 983040, 2031616, 4128768, 8388606, 0, 0, 50331648, 117440512, 251658240, 536870910, 1073741822, 2147483647, 4294967295]
theorem spec_Words.tab7 : rtab .any (opsOf Try.f111 7) = spec_Words.T7 := by kernel_rfl
theorem spec_Words.bits7 : waitsOk spec_Words.T7.2 spec_Words.B7 = true := by kernel_rfl
theorem spec_Words.calls (k : Nat) (A0 : Option Addr) (c0 : Nat) (l0 : List Int) (a1 : Bool) (r : List Int) (w : World) (hr0 : Kd.C (Kd.int .u8) w A0 l0.length l0) (hc0 : l0.length ≤ c0) (h : spec_Words.f k l0 a1 = some r) :
  Calls Try.prog 111 #[.slice A0 l0.length c0, .bool a1] w fun e w' => ∃ v0_ : Value, e = .returned (v0_) ∧ Kd.R (Kd.int .i64) 3 w' w.heap.size (fun _ => True) v0_ r ∧ Below w.heap.size w w' := by
 have HR0 := Aside0.mk hr0
 have HC0 := Aside0.mk hc0
 clear hr0 hc0
 have HB := Aside0.mk (zbk w.heap.size w)
 have H : (spec_Words.l0 k l0 a1 (([] : List Int)) 0) = some r := h
 clear h
 obtain ⟨y641, hy641⟩ : ∃ y_ : List Int, y_ = (([] : List Int)) := ⟨_, rfl⟩
 replace H : (spec_Words.l0 k l0 a1 y641 0) = some r := jrw hy641 H
 have Ny641 := Aside0.mk hy641
 clear hy641
 have H' := Aside0.mk H
 clear H
 go_enter Try.func111, Try.ntmps111
 go_wp2_with (first | (refine jgd 7 ?_; refine jlt 7 (Kd.int .i64) 3 ?_; intro v642 w3 ho4 hb; have xb_ := below_ofs bq hb; (first | rw [← Ny641.out] at ho4 | (simp only [Int.reduceToNat] at ho4; rw [← Ny641.out] at ho4)); have n_ := jA2 (zbc ho4 (zak xb_)) (zab xb_ hb); clear HB; obtain ⟨HO643, HB⟩ := n_; clear xb_ hb ho4))
 go_loopg [5, 6] k (fun kq v5 v6 w' => ∃ (x5_1 : List Int) (x6_1 : Int), v6 = .int .i64 x6_1 ∧ Aside0 (spec_Words.l0 kq l0 a1 x5_1 x6_1 = some r) ∧ Aside0 (kq ≤ k) ∧ Aside0 (Kd.R (Kd.int .i64) 3 w' w.heap.size (fun _ => True) v5 x5_1) ∧ Aside0 (Below w.heap.size w w'))
 case atStart => exact ⟨(y641), (0), jer, H', ⟨zaf _⟩, ⟨pR HO643.out⟩, ⟨bq⟩⟩
 case round =>
  clear H'
  try clear c1
  try clear p2
  obtain ⟨x5_1, x6_1, rfl, HA, HK1, HO_5, HB⟩ := hrel
  cases gk with
  | zero => exact absurd HA.out (by simp [spec_Words.l0])
  | succ k1 =>
   have H := HA.out
   clear HA
   simp only [spec_Words.l0] at H
   by_cases c5 : (wrap64 (x6_1 + 3)) < (l0.length : Int)
   ·rw [if_pos c5] at H
    have c5b0 := zae c5
    clear c5
    by_cases c6 : a1 = true
    ·subst c6
     rw [if_pos rfl] at H
     by_cases c7 : 0 ≤ x6_1
     ·rw [if_pos c7] at H
      have c7b0 := zae c7
      clear c7
      by_cases c8 : x6_1 < (l0.length : Int)
      ·rw [if_pos c8] at H
       have c8b0 := zae c8
       clear c8
       obtain ⟨ji9, hji9⟩ : ∃ j_ : Int, (wrap64 (x6_1 + 1)) = j_ := ⟨_, rfl⟩
       replace H : (if 0 ≤ (ji9) then (if (ji9) < (l0.length : Int) then (if 0 ≤ (wrap64 (x6_1 + 2)) then (if (wrap64 (x6_1 + 2)) < (l0.length : Int) then (if 0 ≤ (wrap64 (x6_1 + 3)) then (if x5_1.length < 17592186044416 then (spec_Words.l0 k1 l0 true (x5_1 ++ [Go.bits .or .i64 (Go.bits .or .i64 (Go.bits .or .i64 (wrap64 ((wrap64 (rd l0 x6_1)) * 16777216)) (wrap64 ((wrap64 (rd l0 (ji9))) * 65536))) (wrap64 ((wrap64 (rd l0 (wrap64 (x6_1 + 2)))) * 256))) (wrap64 (rd l0 (wrap64 (x6_1 + 3))))]) (wrap64 (x6_1 + 4))) else (none)) else (none)) else (none)) else (none)) else (none)) else (none)) = some r := by first | (rw [hji9] at H; exact H) | (simp only [hji9] at H ⊢; exact H)
       have hji9w : (IntKind.i64.wrap (x6_1 + 1)) = ji9 := (i64_w _).trans hji9
       by_cases c10 : 0 ≤ (ji9)
       ·rw [if_pos c10] at H
        have c10b0 := zae c10
        clear c10
        by_cases c11 : (ji9) < (l0.length : Int)
        ·rw [if_pos c11] at H
         have c11b0 := zae c11
         clear c11
         obtain ⟨ji12, hji12⟩ : ∃ j_ : Int, (wrap64 (x6_1 + 2)) = j_ := ⟨_, rfl⟩
         replace H : (if 0 ≤ (ji12) then (if (ji12) < (l0.length : Int) then (if 0 ≤ (wrap64 (x6_1 + 3)) then (if x5_1.length < 17592186044416 then (spec_Words.l0 k1 l0 true (x5_1 ++ [Go.bits .or .i64 (Go.bits .or .i64 (Go.bits .or .i64 (wrap64 ((wrap64 (rd l0 x6_1)) * 16777216)) (wrap64 ((wrap64 (rd l0 (ji9))) * 65536))) (wrap64 ((wrap64 (rd l0 (ji12))) * 256))) (wrap64 (rd l0 (wrap64 (x6_1 + 3))))]) (wrap64 (x6_1 + 4))) else (none)) else (none)) else (none)) else (none)) = some r := by first | (rw [hji12] at H; exact H) | (simp only [hji12] at H ⊢; exact H)
         have hji12w : (IntKind.i64.wrap (x6_1 + 2)) = ji12 := (i64_w _).trans hji12
         by_cases c13 : 0 ≤ (ji12)
         ·rw [if_pos c13] at H
          have c13b0 := zae c13
          clear c13
          by_cases c14 : (ji12) < (l0.length : Int)
          ·rw [if_pos c14] at H
           have c14b0 := zae c14
           clear c14
           obtain ⟨ji15, hji15⟩ : ∃ j_ : Int, (wrap64 (x6_1 + 3)) = j_ := ⟨_, rfl⟩
           replace H : (if 0 ≤ (ji15) then (if x5_1.length < 17592186044416 then (spec_Words.l0 k1 l0 true (x5_1 ++ [Go.bits .or .i64 (Go.bits .or .i64 (Go.bits .or .i64 (wrap64 ((wrap64 (rd l0 x6_1)) * 16777216)) (wrap64 ((wrap64 (rd l0 (ji9))) * 65536))) (wrap64 ((wrap64 (rd l0 (ji12))) * 256))) (wrap64 (rd l0 (ji15)))]) (wrap64 (x6_1 + 4))) else (none)) else (none)) = some r := by first | (rw [hji15] at H; exact H) | (simp only [hji15] at H ⊢; exact H)
           (try rw [hji15] at c5b0)
           have hji15w : (IntKind.i64.wrap (x6_1 + 3)) = ji15 := (i64_w _).trans hji15
           by_cases c16 : 0 ≤ (ji15)
           ·rw [if_pos c16] at H
            have c16b0 := zae c16
            clear c16
            by_cases c17 : x5_1.length < 17592186044416
            ·rw [if_pos c17] at H
             have LMc17 := Aside0.mk c17
             clear c17
             obtain ⟨y648, hy648⟩ : ∃ y_ : List Int, y_ = (x5_1 ++ [Go.bits .or .i64 (Go.bits .or .i64 (Go.bits .or .i64 (wrap64 ((wrap64 (rd l0 x6_1)) * 16777216)) (wrap64 ((wrap64 (rd l0 (ji9))) * 65536))) (wrap64 ((wrap64 (rd l0 (ji12))) * 256))) (wrap64 (rd l0 (ji15)))]) := ⟨_, rfl⟩
             replace H : (spec_Words.l0 k1 l0 true y648 (wrap64 (x6_1 + 4))) = some r := jrw hy648 H
             have Ny648 := Aside0.mk hy648
             clear hy648
             have H' := Aside0.mk H
             clear H
             try go_wp2
             have n_ := jA2 (zbs HO_5.out) (zev HB.out)
             clear HO_5 HB
             obtain ⟨HO_5, HB⟩ := n_
             have p644 : 0 ≤ (x6_1 : Int) := zac jab
             have q644 : x6_1 < (l0.length : Int) := zac jab
             obtain ⟨ad644, e644, hx644_0⟩ := zek HR0.out x6_1 p644 q644
             have hw644_0 := hx644_0
             cases e644
             replace hx644_0 := jcB HB.out hx644_0
             replace p644 := zbd p644
             replace q644 := zbd q644
             have p645 : 0 ≤ ((ji9) : Int) := zac jab
             have q645 : (ji9) < (l0.length : Int) := zac jab
             obtain ⟨ad645, e645, hx645_0⟩ := zek HR0.out (ji9) p645 q645
             have hw645_0 := hx645_0
             obtain rfl : ad644 = ad645 := (by injection e645)
             replace hx645_0 := jcB HB.out hx645_0
             replace p645 := zbd p645
             replace q645 := zbd q645
             have p646 : 0 ≤ ((ji12) : Int) := zac jab
             have q646 : (ji12) < (l0.length : Int) := zac jab
             obtain ⟨ad646, e646, hx646_0⟩ := zek HR0.out (ji12) p646 q646
             have hw646_0 := hx646_0
             obtain rfl : ad644 = ad646 := (by injection e646)
             replace hx646_0 := jcB HB.out hx646_0
             replace p646 := zbd p646
             replace q646 := zbd q646
             have p647 : 0 ≤ ((ji15) : Int) := zac jab
             have q647 : (ji15) < (l0.length : Int) := zac jab
             obtain ⟨ad647, e647, hx647_0⟩ := zek HR0.out (ji15) p647 q647
             have hw647_0 := hx647_0
             obtain rfl : ad644 = ad647 := (by injection e647)
             replace hx647_0 := jcB HB.out hx647_0
             replace p647 := zbd p647
             replace q647 := zbd q647
             refine start_ (n := 33) (S := fun w' => w'.cell? (ad644.add (x6_1).toNat) = some (.int .u8 (rd l0 x6_1)) ∧ w'.cell? (ad644.add ((ji9)).toNat) = some (.int .u8 (rd l0 (ji9))) ∧ w'.cell? (ad644.add ((ji12)).toNat) = some (.int .u8 (rd l0 (ji12))) ∧ w'.cell? (ad644.add ((ji15)).toNat) = some (.int .u8 (rd l0 (ji15)))) (ds := []) #[false, false, false, false, false, false, false, false, false, false, false, false, false, false, false, false, false, false, false, false, false, false, false, false, false, false, false, false, false, false, false, false, false] (by kernel_rfl) rfl rfl ⟨(jcB HB.out hw644_0 :), (jcB HB.out hw645_0 :), (jcB HB.out hw646_0 :), (jcB HB.out hw647_0 :)⟩ (fun hHeld => ?_); refine zgf spec_Words.tab6 spec_Words.bits6 (fun HT_ HW_ => ?_)
             generalize wr.drew = w18 at HO_5 HB hx644_0 hx645_0 hx646_0 hx647_0 hHeld ⊢
             refine pu 0 16 HT_.out ?_
             refine pu 1 17 HT_.out ?_
             refine pu 2 18 HT_.out ?_
             refine pu 3 19 HT_.out ?_
             refine pu 7 23 HT_.out ?_
             refine pu 8 24 HT_.out ?_
             refine pu 9 25 HT_.out ?_
             refine pu 10 26 HT_.out ?_
             refine pu 15 31 HT_.out ?_
             refine pu 16 32 HT_.out ?_
             refine pu 17 33 HT_.out ?_
             refine pu 18 34 HT_.out ?_
             refine pu 23 39 HT_.out ?_
             refine pu 24 40 HT_.out ?_
             refine pu 25 41 HT_.out ?_
             refine pu 26 42 HT_.out ?_
             refine tk 4 20 HT_.out HW_.out hHeld ?_
             refine pu 5 21 HT_.out ?_
             refine pu 6 22 HT_.out ?_
             refine tk 11 27 HT_.out HW_.out hHeld ?_
             refine pu 12 28 HT_.out ?_
             refine pu 13 29 HT_.out ?_
             refine pu 14 30 HT_.out ?_
             refine tk 19 35 HT_.out HW_.out hHeld ?_
             refine pu 20 36 HT_.out ?_
             refine pu 21 37 HT_.out ?_
             refine pu 22 38 HT_.out ?_
             refine tk 27 43 HT_.out HW_.out hHeld ?_
             refine pu 28 44 HT_.out ?_
             refine pu 29 45 HT_.out ?_
             refine one_ (i := 30) (N := some 46) #[true, true, true, true, true, true, true, true, true, true, true, true, true, true, true, true, true, true, true, true, true, true, true, true, true, true, true, true, true, true, true, false, false] rfl rfl (one_of HT_.out (by kernel_rfl)) (by decide) (fun K hK => ?_)
             refine value_ (w1 := ?_) (v := ?_) (by rfl) rfl ?_ ?_
             rotate_left 2
             ·go_simp
              constructor
              ·rfl
              ·rfl
             refine hK.out _ _ ⟨(World.cell?_alloc_lt _ _ _ (World.block_lt_of_cell? _ _ ((jcB HB.out hw644_0 :)))).trans ((jcB HB.out hw644_0 :)), (World.cell?_alloc_lt _ _ _ (World.block_lt_of_cell? _ _ ((jcB HB.out hw645_0 :)))).trans ((jcB HB.out hw645_0 :)), (World.cell?_alloc_lt _ _ _ (World.block_lt_of_cell? _ _ ((jcB HB.out hw646_0 :)))).trans ((jcB HB.out hw646_0 :)), (World.cell?_alloc_lt _ _ _ (World.block_lt_of_cell? _ _ ((jcB HB.out hw647_0 :)))).trans ((jcB HB.out hw647_0 :))⟩ (fun hHeld => ?_)
             clear hK K
             refine norm_ (a' := ?_) ?_ ?_
             rotate_left
             ·show Act.put _ (some 46) _ = _
              simp only [Act.put, zal, zaw, zax, i64_w, i32_w]
              rfl
             refine one_ (i := 31) (N := some 47) #[true, true, true, true, true, true, true, true, true, true, true, true, true, true, true, true, true, true, true, true, true, true, true, true, true, true, true, true, true, true, true, true, false] rfl rfl (one_of HT_.out (by kernel_rfl)) (by decide) (fun K hK => ?_)
             refine Kd.R_append_step (Kd.int .i64) (w0 := w) w.heap.size (by rfl) (.tmp 16) (.tmp 46) 110 3 (.int .i64 0) 8 rfl Try.underlying110 info3 rfl (by decide) (by omega) u5 x5_1 (Go.bits .or .i64 (Go.bits .or .i64 (Go.bits .or .i64 (wrap64 ((wrap64 (rd l0 x6_1)) * 16777216)) (wrap64 ((wrap64 (rd l0 (ji9))) * 65536))) (wrap64 ((wrap64 (rd l0 (ji12))) * 256))) (wrap64 (rd l0 (ji15)))) [.int .i64 (Go.bits .or .i64 (Go.bits .or .i64 (Go.bits .or .i64 (wrap64 ((wrap64 (rd l0 x6_1)) * 16777216)) (wrap64 ((wrap64 (rd l0 (ji9))) * 65536))) (wrap64 ((wrap64 (rd l0 (ji12))) * 256))) (wrap64 (rd l0 (ji15))))] (fun _ => True) (fun _ => False) rfl rfl ?aP (fun _ hk => hk.elim) ?aF ?aO ?aB ?aS ?aL ?_
             (case aP => exact rfl)
             (case aB => exact bq)
             (case aF => exact (fun _ _ => trivial))
             (case aO => exact (pR HO_5.out))
             (case aS => exact (zak bq))
             (case aL => have := LMc17.out; omega)
             intro v649 w19 ho hb hg hat
             rw [← Ny648.out] at ho
             have n_ := jA2 (hb) (ho)
             clear HB HO_5
             obtain ⟨HB, HO650⟩ := n_
             clear ho hb hg hat
             refine hK.out _ _ ⟨(jcB HB.out hw644_0 :), (jcB HB.out hw645_0 :), (jcB HB.out hw646_0 :), (jcB HB.out hw647_0 :)⟩ (fun hHeld => ?_)
             clear hK K
             refine norm_ (a' := ?_) ?_ ?_
             rotate_left
             ·show Act.put _ (some 47) _ = _
              simp only [Act.put, zal, zaw, zax, i64_w, i32_w]
              rfl
             refine pu 32 5 HT_.out ?_
             refine done_ (done_of HT_.out (by kernel_rfl)) ?_
             try go_wp2
             go_roundg k1
             case measure => have := HK1.out; omega
             case rel => exact ⟨(y648), (wrap64 (x6_1 + 4)), jer, H', ⟨by have := HK1.out; omega⟩, ⟨pR HO650.out⟩, ⟨bq⟩⟩
            ·rw [if_neg c17] at H
             exact absurd H (by simp)
           ·rw [if_neg c16] at H
            exact absurd H (by simp)
          ·rw [if_neg c14] at H
           exact absurd H (by simp)
         ·rw [if_neg c13] at H
          exact absurd H (by simp)
        ·rw [if_neg c11] at H
         exact absurd H (by simp)
       ·rw [if_neg c10] at H
        exact absurd H (by simp)
      ·rw [if_neg c8] at H
       exact absurd H (by simp)
     ·rw [if_neg c7] at H
      exact absurd H (by simp)
    ·replace c6 := zbn.mpr c6
     subst c6
     rw [if_neg (show ¬ (false = true) by decide)] at H
     obtain ⟨ji20, hji20⟩ : ∃ j_ : Int, (wrap64 (x6_1 + 3)) = j_ := ⟨_, rfl⟩
     replace H : (if 0 ≤ (ji20) then (if 0 ≤ (wrap64 (x6_1 + 2)) then (if (wrap64 (x6_1 + 2)) < (l0.length : Int) then (if 0 ≤ (wrap64 (x6_1 + 1)) then (if (wrap64 (x6_1 + 1)) < (l0.length : Int) then (if 0 ≤ x6_1 then (if x6_1 < (l0.length : Int) then (if x5_1.length < 17592186044416 then (spec_Words.l0 k1 l0 false (x5_1 ++ [Go.bits .or .i64 (Go.bits .or .i64 (Go.bits .or .i64 (wrap64 ((wrap64 (rd l0 (ji20))) * 16777216)) (wrap64 ((wrap64 (rd l0 (wrap64 (x6_1 + 2)))) * 65536))) (wrap64 ((wrap64 (rd l0 (wrap64 (x6_1 + 1)))) * 256))) (wrap64 (rd l0 x6_1))]) (wrap64 (x6_1 + 4))) else (none)) else (none)) else (none)) else (none)) else (none)) else (none)) else (none)) else (none)) = some r := by first | (rw [hji20] at H; exact H) | (simp only [hji20] at H ⊢; exact H)
     (try rw [hji20] at c5b0)
     have hji20w : (IntKind.i64.wrap (x6_1 + 3)) = ji20 := (i64_w _).trans hji20
     by_cases c21 : 0 ≤ (ji20)
     ·rw [if_pos c21] at H
      have c21b0 := zae c21
      clear c21
      obtain ⟨ji22, hji22⟩ : ∃ j_ : Int, (wrap64 (x6_1 + 2)) = j_ := ⟨_, rfl⟩
      replace H : (if 0 ≤ (ji22) then (if (ji22) < (l0.length : Int) then (if 0 ≤ (wrap64 (x6_1 + 1)) then (if (wrap64 (x6_1 + 1)) < (l0.length : Int) then (if 0 ≤ x6_1 then (if x6_1 < (l0.length : Int) then (if x5_1.length < 17592186044416 then (spec_Words.l0 k1 l0 false (x5_1 ++ [Go.bits .or .i64 (Go.bits .or .i64 (Go.bits .or .i64 (wrap64 ((wrap64 (rd l0 (ji20))) * 16777216)) (wrap64 ((wrap64 (rd l0 (ji22))) * 65536))) (wrap64 ((wrap64 (rd l0 (wrap64 (x6_1 + 1)))) * 256))) (wrap64 (rd l0 x6_1))]) (wrap64 (x6_1 + 4))) else (none)) else (none)) else (none)) else (none)) else (none)) else (none)) else (none)) = some r := by first | (rw [hji22] at H; exact H) | (simp only [hji22] at H ⊢; exact H)
      have hji22w : (IntKind.i64.wrap (x6_1 + 2)) = ji22 := (i64_w _).trans hji22
      by_cases c23 : 0 ≤ (ji22)
      ·rw [if_pos c23] at H
       have c23b0 := zae c23
       clear c23
       by_cases c24 : (ji22) < (l0.length : Int)
       ·rw [if_pos c24] at H
        have c24b0 := zae c24
        clear c24
        obtain ⟨ji25, hji25⟩ : ∃ j_ : Int, (wrap64 (x6_1 + 1)) = j_ := ⟨_, rfl⟩
        replace H : (if 0 ≤ (ji25) then (if (ji25) < (l0.length : Int) then (if 0 ≤ x6_1 then (if x6_1 < (l0.length : Int) then (if x5_1.length < 17592186044416 then (spec_Words.l0 k1 l0 false (x5_1 ++ [Go.bits .or .i64 (Go.bits .or .i64 (Go.bits .or .i64 (wrap64 ((wrap64 (rd l0 (ji20))) * 16777216)) (wrap64 ((wrap64 (rd l0 (ji22))) * 65536))) (wrap64 ((wrap64 (rd l0 (ji25))) * 256))) (wrap64 (rd l0 x6_1))]) (wrap64 (x6_1 + 4))) else (none)) else (none)) else (none)) else (none)) else (none)) = some r := by first | (rw [hji25] at H; exact H) | (simp only [hji25] at H ⊢; exact H)
        have hji25w : (IntKind.i64.wrap (x6_1 + 1)) = ji25 := (i64_w _).trans hji25
        by_cases c26 : 0 ≤ (ji25)
        ·rw [if_pos c26] at H
         have c26b0 := zae c26
         clear c26
         by_cases c27 : (ji25) < (l0.length : Int)
         ·rw [if_pos c27] at H
          have c27b0 := zae c27
          clear c27
          by_cases c28 : 0 ≤ x6_1
          ·rw [if_pos c28] at H
           have c28b0 := zae c28
           clear c28
           by_cases c29 : x6_1 < (l0.length : Int)
           ·rw [if_pos c29] at H
            have c29b0 := zae c29
            clear c29
            by_cases c30 : x5_1.length < 17592186044416
            ·rw [if_pos c30] at H
             have LMc30 := Aside0.mk c30
             clear c30
             obtain ⟨y655, hy655⟩ : ∃ y_ : List Int, y_ = (x5_1 ++ [Go.bits .or .i64 (Go.bits .or .i64 (Go.bits .or .i64 (wrap64 ((wrap64 (rd l0 (ji20))) * 16777216)) (wrap64 ((wrap64 (rd l0 (ji22))) * 65536))) (wrap64 ((wrap64 (rd l0 (ji25))) * 256))) (wrap64 (rd l0 x6_1))]) := ⟨_, rfl⟩
             replace H : (spec_Words.l0 k1 l0 false y655 (wrap64 (x6_1 + 4))) = some r := jrw hy655 H
             have Ny655 := Aside0.mk hy655
             clear hy655
             have H' := Aside0.mk H
             clear H
             try go_wp2
             have n_ := jA2 (zbs HO_5.out) (zev HB.out)
             clear HO_5 HB
             obtain ⟨HO_5, HB⟩ := n_
             have p651 : 0 ≤ ((ji20) : Int) := zac jab
             have q651 : (ji20) < (l0.length : Int) := zac jab
             obtain ⟨ad651, e651, hx651_0⟩ := zek HR0.out (ji20) p651 q651
             have hw651_0 := hx651_0
             cases e651
             replace hx651_0 := jcB HB.out hx651_0
             replace p651 := zbd p651
             replace q651 := zbd q651
             have p652 : 0 ≤ ((ji22) : Int) := zac jab
             have q652 : (ji22) < (l0.length : Int) := zac jab
             obtain ⟨ad652, e652, hx652_0⟩ := zek HR0.out (ji22) p652 q652
             have hw652_0 := hx652_0
             obtain rfl : ad651 = ad652 := (by injection e652)
             replace hx652_0 := jcB HB.out hx652_0
             replace p652 := zbd p652
             replace q652 := zbd q652
             have p653 : 0 ≤ ((ji25) : Int) := zac jab
             have q653 : (ji25) < (l0.length : Int) := zac jab
             obtain ⟨ad653, e653, hx653_0⟩ := zek HR0.out (ji25) p653 q653
             have hw653_0 := hx653_0
             obtain rfl : ad651 = ad653 := (by injection e653)
             replace hx653_0 := jcB HB.out hx653_0
             replace p653 := zbd p653
             replace q653 := zbd q653
             have p654 : 0 ≤ (x6_1 : Int) := zac jab
             have q654 : x6_1 < (l0.length : Int) := zac jab
             obtain ⟨ad654, e654, hx654_0⟩ := zek HR0.out x6_1 p654 q654
             have hw654_0 := hx654_0
             obtain rfl : ad651 = ad654 := (by injection e654)
             replace hx654_0 := jcB HB.out hx654_0
             replace p654 := zbd p654
             replace q654 := zbd q654
             refine start_ (n := 33) (S := fun w' => w'.cell? (ad651.add ((ji20)).toNat) = some (.int .u8 (rd l0 (ji20))) ∧ w'.cell? (ad651.add ((ji22)).toNat) = some (.int .u8 (rd l0 (ji22))) ∧ w'.cell? (ad651.add ((ji25)).toNat) = some (.int .u8 (rd l0 (ji25))) ∧ w'.cell? (ad651.add (x6_1).toNat) = some (.int .u8 (rd l0 x6_1))) (ds := []) #[false, false, false, false, false, false, false, false, false, false, false, false, false, false, false, false, false, false, false, false, false, false, false, false, false, false, false, false, false, false, false, false, false] (by kernel_rfl) rfl rfl ⟨(jcB HB.out hw651_0 :), (jcB HB.out hw652_0 :), (jcB HB.out hw653_0 :), (jcB HB.out hw654_0 :)⟩ (fun hHeld => ?_); refine zgf spec_Words.tab7 spec_Words.bits7 (fun HT_ HW_ => ?_)
             generalize wr.drew = w31 at HO_5 HB hx651_0 hx652_0 hx653_0 hx654_0 hHeld ⊢
             refine pu 0 48 HT_.out ?_
             refine pu 1 49 HT_.out ?_
             refine pu 2 50 HT_.out ?_
             refine pu 3 51 HT_.out ?_
             refine pu 4 52 HT_.out ?_
             refine pu 8 56 HT_.out ?_
             refine pu 9 57 HT_.out ?_
             refine pu 10 58 HT_.out ?_
             refine pu 11 59 HT_.out ?_
             refine pu 16 64 HT_.out ?_
             refine pu 17 65 HT_.out ?_
             refine pu 18 66 HT_.out ?_
             refine pu 19 67 HT_.out ?_
             refine pu 24 72 HT_.out ?_
             refine pu 25 73 HT_.out ?_
             refine pu 26 74 HT_.out ?_
             refine tk 5 53 HT_.out HW_.out hHeld ?_
             refine pu 6 54 HT_.out ?_
             refine pu 7 55 HT_.out ?_
             refine tk 12 60 HT_.out HW_.out hHeld ?_
             refine pu 13 61 HT_.out ?_
             refine pu 14 62 HT_.out ?_
             refine pu 15 63 HT_.out ?_
             refine tk 20 68 HT_.out HW_.out hHeld ?_
             refine pu 21 69 HT_.out ?_
             refine pu 22 70 HT_.out ?_
             refine pu 23 71 HT_.out ?_
             refine tk 27 75 HT_.out HW_.out hHeld ?_
             refine pu 28 76 HT_.out ?_
             refine pu 29 77 HT_.out ?_
             refine one_ (i := 30) (N := some 78) #[true, true, true, true, true, true, true, true, true, true, true, true, true, true, true, true, true, true, true, true, true, true, true, true, true, true, true, true, true, true, true, false, false] rfl rfl (one_of HT_.out (by kernel_rfl)) (by decide) (fun K hK => ?_)
             refine value_ (w1 := ?_) (v := ?_) (by rfl) rfl ?_ ?_
             rotate_left 2
             ·go_simp
              constructor
              ·rfl
              ·rfl
             refine hK.out _ _ ⟨(World.cell?_alloc_lt _ _ _ (World.block_lt_of_cell? _ _ ((jcB HB.out hw651_0 :)))).trans ((jcB HB.out hw651_0 :)), (World.cell?_alloc_lt _ _ _ (World.block_lt_of_cell? _ _ ((jcB HB.out hw652_0 :)))).trans ((jcB HB.out hw652_0 :)), (World.cell?_alloc_lt _ _ _ (World.block_lt_of_cell? _ _ ((jcB HB.out hw653_0 :)))).trans ((jcB HB.out hw653_0 :)), (World.cell?_alloc_lt _ _ _ (World.block_lt_of_cell? _ _ ((jcB HB.out hw654_0 :)))).trans ((jcB HB.out hw654_0 :))⟩ (fun hHeld => ?_)
             clear hK K
             refine norm_ (a' := ?_) ?_ ?_
             rotate_left
             ·show Act.put _ (some 78) _ = _
              simp only [Act.put, zal, zaw, zax, i64_w, i32_w]
              rfl
             refine one_ (i := 31) (N := some 79) #[true, true, true, true, true, true, true, true, true, true, true, true, true, true, true, true, true, true, true, true, true, true, true, true, true, true, true, true, true, true, true, true, false] rfl rfl (one_of HT_.out (by kernel_rfl)) (by decide) (fun K hK => ?_)
             refine Kd.R_append_step (Kd.int .i64) (w0 := w) w.heap.size (by rfl) (.tmp 48) (.tmp 78) 110 3 (.int .i64 0) 8 rfl Try.underlying110 info3 rfl (by decide) (by omega) u5 x5_1 (Go.bits .or .i64 (Go.bits .or .i64 (Go.bits .or .i64 (wrap64 ((wrap64 (rd l0 (ji20))) * 16777216)) (wrap64 ((wrap64 (rd l0 (ji22))) * 65536))) (wrap64 ((wrap64 (rd l0 (ji25))) * 256))) (wrap64 (rd l0 x6_1))) [.int .i64 (Go.bits .or .i64 (Go.bits .or .i64 (Go.bits .or .i64 (wrap64 ((wrap64 (rd l0 (ji20))) * 16777216)) (wrap64 ((wrap64 (rd l0 (ji22))) * 65536))) (wrap64 ((wrap64 (rd l0 (ji25))) * 256))) (wrap64 (rd l0 x6_1)))] (fun _ => True) (fun _ => False) rfl rfl ?aP (fun _ hk => hk.elim) ?aF ?aO ?aB ?aS ?aL ?_
             (case aP => exact rfl)
             (case aB => exact bq)
             (case aF => exact (fun _ _ => trivial))
             (case aO => exact (pR HO_5.out))
             (case aS => exact (zak bq))
             (case aL => have := LMc30.out; omega)
             intro v656 w32 ho hb hg hat
             rw [← Ny655.out] at ho
             have n_ := jA2 (hb) (ho)
             clear HB HO_5
             obtain ⟨HB, HO657⟩ := n_
             clear ho hb hg hat
             refine hK.out _ _ ⟨(jcB HB.out hw651_0 :), (jcB HB.out hw652_0 :), (jcB HB.out hw653_0 :), (jcB HB.out hw654_0 :)⟩ (fun hHeld => ?_)
             clear hK K
             refine norm_ (a' := ?_) ?_ ?_
             rotate_left
             ·show Act.put _ (some 79) _ = _
              simp only [Act.put, zal, zaw, zax, i64_w, i32_w]
              rfl
             refine pu 32 5 HT_.out ?_
             refine done_ (done_of HT_.out (by kernel_rfl)) ?_
             try go_wp2
             go_roundg k1
             case measure => have := HK1.out; omega
             case rel => exact ⟨(y655), (wrap64 (x6_1 + 4)), jer, H', ⟨by have := HK1.out; omega⟩, ⟨pR HO657.out⟩, ⟨bq⟩⟩
            ·rw [if_neg c30] at H
             exact absurd H (by simp)
           ·rw [if_neg c29] at H
            exact absurd H (by simp)
          ·rw [if_neg c28] at H
           exact absurd H (by simp)
         ·rw [if_neg c27] at H
          exact absurd H (by simp)
        ·rw [if_neg c26] at H
         exact absurd H (by simp)
       ·rw [if_neg c24] at H
        exact absurd H (by simp)
      ·rw [if_neg c23] at H
       exact absurd H (by simp)
     ·rw [if_neg c21] at H
      exact absurd H (by simp)
   ·rw [if_neg c5] at H
    have c5b0 := zas c5
    clear c5
    obtain rfl := Option.some.inj H
    go_wp2
    go_ret
    exact ⟨_, jex, by (with_reducible repeat (first | apply zbo | apply zbp | apply zbs)); exact HO_5.out, bq⟩
def spec_Hex.l0 : Nat → List Int → ByteArray → List Int → Int → Option (ByteArray)
 | 0, _, _, _, _ => none
 | k + 1, x0, x3, x4, x5 => if x5 < (x0.length : Int) then (if 0 ≤ x5 then (if 0 ≤ ((rd x0 x5) / 16) then (if ((rd x0 x5) / 16) < (x3.size : Int) then (if 0 ≤ (Go.bits .and .u8 (rd x0 x5) 15) then (if (Go.bits .and .u8 (rd x0 x5) 15) < (x3.size : Int) then ((some (([bt x3 ((rd x0 x5) / 16), bt x3 (Go.bits .and .u8 (rd x0 x5) 15)] : List Int) : List Int)).bind fun y663 => (if x4.length + y663.length < 140737488355328 then (spec_Hex.l0 k x0 x3 (x4 ++ y663) (wrap64 (x5 + 1))) else (none))) else (none)) else (none)) else (none)) else (none)) else (none)) else (some (strOfNums x4))
def spec_Hex.f (k : Nat) (l0 : List Int) : Option (ByteArray) := spec_Hex.l0 k l0 (⟨#[48, 49, 50, 51, 52, 53, 54, 55, 56, 57, 97, 98, 99, 100, 101, 102]⟩ : ByteArray) (([] : List Int)) 0
theorem spec_Hex.mono_l : ∀ k, (∀ y0 y1 y2 y3, LeO (spec_Hex.l0 k y0 y1 y2 y3) (spec_Hex.l0 (k + 1) y0 y1 y2 y3))
 | 0 => fun _ _ _ _ r h => by simp [spec_Hex.l0] at h
 | k + 1 => by
  have ih0 := spec_Hex.mono_l k
  ·intro y0 y1 y2 y3
   unfold spec_Hex.l0
   exact mt
theorem spec_Hex.mono : ∀ a0 k, LeO (spec_Hex.f k a0) (spec_Hex.f (k + 1) a0) := by
 intro a0 k
 have ih0 := spec_Hex.mono_l k
 unfold spec_Hex.f
 exact mt
def spec_Hex.T6 : Bool × List (List Nat × List Nat) := (true, [([], []), ([], []), ([], []), ([], []), ([2, 3], [2, 3]), ([4], [4]), ([5], [5]), ([1, 6], [1, 6]), ([], []), ([], []), ([], []), ([9, 10], [9, 10]), ([11], [11]), ([12], [12]), ([8, 13], [8, 13]), ([7, 14], [7, 14]), ([0, 15], [0, 15]), ([16, 16, 0, 1, 2, 3, 4, 5, 6, 7, 8, 9, 10, 11, 12, 13, 14, 15, 16], [0, 16])])
def spec_Hex.B6 : List Nat := [0, 0, 0, 0, 12, 28, 60, 126, 0, 0, 0, 1536, 3584, 7680, 16128, 32766, 65535, 131071]
theorem spec_Hex.tab6 : rtab .any (opsOf Try.f112 6) = spec_Hex.T6 := by kernel_rfl
theorem spec_Hex.bits6 : waitsOk spec_Hex.T6.2 spec_Hex.B6 = true := by kernel_rfl
theorem spec_Hex.calls (k : Nat) (A0 : Option Addr) (c0 : Nat) (l0 : List Int) (r : ByteArray) (w : World) (hr0 : Kd.C (Kd.int .u8) w A0 l0.length l0) (hc0 : l0.length ≤ c0) (h : spec_Hex.f k l0 = some r) :
  Calls Try.prog 112 #[.slice A0 l0.length c0] w fun e w' => e = .returned (.string r) ∧ Below w.heap.size w w' := by
 have HR0 := Aside0.mk hr0
 have HC0 := Aside0.mk hc0
 clear hr0 hc0
 have HB := Aside0.mk (zbk w.heap.size w)
 have H : (spec_Hex.l0 k l0 (⟨#[48, 49, 50, 51, 52, 53, 54, 55, 56, 57, 97, 98, 99, 100, 101, 102]⟩ : ByteArray) (([] : List Int)) 0) = some r := h
 clear h
 obtain ⟨y658, hy658⟩ : ∃ y_ : List Int, y_ = (([] : List Int)) := ⟨_, rfl⟩
 replace H : (spec_Hex.l0 k l0 (⟨#[48, 49, 50, 51, 52, 53, 54, 55, 56, 57, 97, 98, 99, 100, 101, 102]⟩ : ByteArray) y658 0) = some r := jrw hy658 H
 have Ny658 := Aside0.mk hy658
 clear hy658
 have H' := Aside0.mk H
 clear H
 go_enter Try.func112, Try.ntmps112
 go_wp2_with (first | (refine jgd 6 ?_; refine jlt 6 (Kd.int .u8) 5 ?_; intro v659 w2 ho3 hb; have xb_ := below_ofs bq hb; (first | rw [← Ny658.out] at ho3 | (simp only [Int.reduceToNat] at ho3; rw [← Ny658.out] at ho3)); have n_ := jA2 (zbc ho3 (zak xb_)) (zab xb_ hb); clear HB; obtain ⟨HO660, HB⟩ := n_; clear xb_ hb ho3))
 go_loopg [4, 5] k (fun kq v4 v5 w' => ∃ (x4_1 : List Int) (x5_1 : Int), v5 = .int .i64 x5_1 ∧ Aside0 (spec_Hex.l0 kq l0 (⟨#[48, 49, 50, 51, 52, 53, 54, 55, 56, 57, 97, 98, 99, 100, 101, 102]⟩ : ByteArray) x4_1 x5_1 = some r) ∧ Aside0 (kq ≤ k) ∧ Aside0 (Kd.R (Kd.int .u8) 5 w' w.heap.size (fun _ => True) v4 x4_1) ∧ Aside0 (Below w.heap.size w w'))
 case atStart => exact ⟨(y658), (0), jer, H', ⟨zaf _⟩, ⟨pR HO660.out⟩, ⟨bq⟩⟩
 case round =>
  clear H'
  try clear c1
  try clear p2
  obtain ⟨x4_1, x5_1, rfl, HA, HK1, HO_4, HB⟩ := hrel
  cases gk with
  | zero => exact absurd HA.out (by simp [spec_Hex.l0])
  | succ k1 =>
   have H := HA.out
   clear HA
   simp only [spec_Hex.l0] at H
   by_cases c4 : x5_1 < (l0.length : Int)
   ·rw [if_pos c4] at H
    have c4b0 := zae c4
    clear c4
    by_cases c5 : 0 ≤ x5_1
    ·rw [if_pos c5] at H
     have c5b0 := zae c5
     clear c5
     obtain ⟨ji6, hji6⟩ : ∃ j_ : Int, ((rd l0 x5_1) / 16) = j_ := ⟨_, rfl⟩
     replace H : (if 0 ≤ (ji6) then (if (ji6) < ((⟨#[48, 49, 50, 51, 52, 53, 54, 55, 56, 57, 97, 98, 99, 100, 101, 102]⟩ : ByteArray).size : Int) then (if 0 ≤ (Go.bits .and .u8 (rd l0 x5_1) 15) then (if (Go.bits .and .u8 (rd l0 x5_1) 15) < ((⟨#[48, 49, 50, 51, 52, 53, 54, 55, 56, 57, 97, 98, 99, 100, 101, 102]⟩ : ByteArray).size : Int) then ((some (([bt (⟨#[48, 49, 50, 51, 52, 53, 54, 55, 56, 57, 97, 98, 99, 100, 101, 102]⟩ : ByteArray) (ji6), bt (⟨#[48, 49, 50, 51, 52, 53, 54, 55, 56, 57, 97, 98, 99, 100, 101, 102]⟩ : ByteArray) (Go.bits .and .u8 (rd l0 x5_1) 15)] : List Int) : List Int)).bind fun y663 => (if x4_1.length + y663.length < 140737488355328 then (spec_Hex.l0 k1 l0 (⟨#[48, 49, 50, 51, 52, 53, 54, 55, 56, 57, 97, 98, 99, 100, 101, 102]⟩ : ByteArray) (x4_1 ++ y663) (wrap64 (x5_1 + 1))) else (none))) else (none)) else (none)) else (none)) else (none)) = some r := by first | (rw [hji6] at H; exact H) | (simp only [hji6] at H ⊢; exact H)
     by_cases c7 : 0 ≤ (ji6)
     ·rw [if_pos c7] at H
      have c7b0 := zae c7
      clear c7
      by_cases c8 : (ji6) < ((⟨#[48, 49, 50, 51, 52, 53, 54, 55, 56, 57, 97, 98, 99, 100, 101, 102]⟩ : ByteArray).size : Int)
      ·rw [if_pos c8] at H
       have c8b0 := zae c8
       clear c8
       by_cases c10 : 0 ≤ (Go.bits .and .u8 (rd l0 x5_1) 15)
       ·rw [if_pos c10] at H
        have c10b0 := zae c10
        clear c10
        by_cases c11 : (Go.bits .and .u8 (rd l0 x5_1) 15) < ((⟨#[48, 49, 50, 51, 52, 53, 54, 55, 56, 57, 97, 98, 99, 100, 101, 102]⟩ : ByteArray).size : Int)
        ·rw [if_pos c11] at H
         have c11b0 := zae c11
         clear c11
         obtain ⟨y663, hy663⟩ : ∃ y_ : List Int, y_ = (([bt (⟨#[48, 49, 50, 51, 52, 53, 54, 55, 56, 57, 97, 98, 99, 100, 101, 102]⟩ : ByteArray) (ji6), bt (⟨#[48, 49, 50, 51, 52, 53, 54, 55, 56, 57, 97, 98, 99, 100, 101, 102]⟩ : ByteArray) (Go.bits .and .u8 (rd l0 x5_1) 15)] : List Int)) := ⟨_, rfl⟩
         replace H := bto hy663 H
         have Ny663 := Aside0.mk hy663
         clear hy663
         by_cases c13 : x4_1.length + y663.length < 140737488355328
         ·rw [if_pos c13] at H
          have LMc13 := Aside0.mk c13
          clear c13
          obtain ⟨y666, hy666⟩ : ∃ y_ : List Int, y_ = (x4_1 ++ y663) := ⟨_, rfl⟩
          replace H : (spec_Hex.l0 k1 l0 (⟨#[48, 49, 50, 51, 52, 53, 54, 55, 56, 57, 97, 98, 99, 100, 101, 102]⟩ : ByteArray) y666 (wrap64 (x5_1 + 1))) = some r := jrw hy666 H
          have Ny666 := Aside0.mk hy666
          clear hy666
          have H' := Aside0.mk H
          clear H
          try go_wp2
          have n_ := jA2 (zbs HO_4.out) (zev HB.out)
          clear HO_4 HB
          obtain ⟨HO_4, HB⟩ := n_
          have p661 : 0 ≤ (x5_1 : Int) := zac jab
          have q661 : x5_1 < (l0.length : Int) := zac jab
          obtain ⟨ad661, e661, hx661_0⟩ := zek HR0.out x5_1 p661 q661
          have hw661_0 := hx661_0
          cases e661
          replace hx661_0 := jcB HB.out hx661_0
          replace p661 := zbd p661
          replace q661 := zbd q661
          have p9 : 0 ≤ ((ji6) : Int) := zac jab
          have q9 : (ji6) < (16 : Int) := zac jab
          have hx9 := bt_at (⟨#[48, 49, 50, 51, 52, 53, 54, 55, 56, 57, 97, 98, 99, 100, 101, 102]⟩ : ByteArray) (ji6)
          replace p9 := zbd p9
          replace q9 := zbd q9
          have p662 : 0 ≤ (x5_1 : Int) := zac jab
          have q662 : x5_1 < (l0.length : Int) := zac jab
          obtain ⟨ad662, e662, hx662_0⟩ := zek HR0.out x5_1 p662 q662
          have hw662_0 := hx662_0
          obtain rfl : ad661 = ad662 := (by injection e662)
          replace hx662_0 := jcB HB.out hx662_0
          replace p662 := zbd p662
          replace q662 := zbd q662
          have p12 : 0 ≤ ((Go.bits .and .u8 (rd l0 x5_1) 15) : Int) := zac jab
          have q12 : (Go.bits .and .u8 (rd l0 x5_1) 15) < (16 : Int) := zac jab
          have hx12 := bt_at (⟨#[48, 49, 50, 51, 52, 53, 54, 55, 56, 57, 97, 98, 99, 100, 101, 102]⟩ : ByteArray) (Go.bits .and .u8 (rd l0 x5_1) 15)
          replace p12 := zbd p12
          replace q12 := zbd q12
          refine start_ (n := 18) (S := fun w' => w'.cell? (ad661.add (x5_1).toNat) = some (.int .u8 (rd l0 x5_1)) ∧ w'.cell? (ad661.add (x5_1).toNat) = some (.int .u8 (rd l0 x5_1))) (ds := []) #[false, false, false, false, false, false, false, false, false, false, false, false, false, false, false, false, false, false] (by kernel_rfl) rfl rfl ⟨(jcB HB.out hw661_0 :), (jcB HB.out hw662_0 :)⟩ (fun hHeld => ?_); refine zgf spec_Hex.tab6 spec_Hex.bits6 (fun HT_ HW_ => ?_)
          generalize wr.drew = w14 at HO_4 HB hx661_0 hx662_0 hHeld ⊢
          refine pu 0 13 HT_.out ?_
          refine pu 1 14 HT_.out ?_
          refine pu 2 15 HT_.out ?_
          refine pu 3 16 HT_.out ?_
          refine pu 4 17 HT_.out ?_
          refine pu 8 21 HT_.out ?_
          refine pu 9 22 HT_.out ?_
          refine pu 10 23 HT_.out ?_
          refine pu 11 24 HT_.out ?_
          refine tk 5 18 HT_.out HW_.out hHeld ?_
          refine pu 6 19 HT_.out ?_
          refine tk 7 20 HT_.out HW_.out hHeld ?_
          refine tk 12 25 HT_.out HW_.out hHeld ?_
          refine pu 13 26 HT_.out ?_
          refine tk 14 27 HT_.out HW_.out hHeld ?_
          refine one_ (i := 15) (N := some 28) #[true, true, true, true, true, true, true, true, true, true, true, true, true, true, true, true, false, false] rfl rfl (one_of HT_.out (by kernel_rfl)) (by decide) (fun K hK => ?_)
          refine Kd.R_lit_step (Kd.int .u8) _ 5 ?hg (N := 28) ?hd (xs := ([bt (⟨#[48, 49, 50, 51, 52, 53, 54, 55, 56, 57, 97, 98, 99, 100, 101, 102]⟩ : ByteArray) (ji6), bt (⟨#[48, 49, 50, 51, 52, 53, 54, 55, 56, 57, 97, 98, 99, 100, 101, 102]⟩ : ByteArray) (Go.bits .and .u8 (rd l0 x5_1) 15)] : List Int)) (inner := [.int .u8 (bt (⟨#[48, 49, 50, 51, 52, 53, 54, 55, 56, 57, 97, 98, 99, 100, 101, 102]⟩ : ByteArray) (ji6)), .int .u8 (bt (⟨#[48, 49, 50, 51, 52, 53, 54, 55, 56, 57, 97, 98, 99, 100, 101, 102]⟩ : ByteArray) (Go.bits .and .u8 (rd l0 x5_1) 15))]) (ok := fun _ => True) (okp := fun _ => True) ?hr ?hp (fun _ hk => hk) trivial (zbk _ _) (zaf _) (by simp) ?_; (case hd => rfl); (case hg => rfl); (case hr => first | (go_simp; done) | (go_simp; rfl)); (case hp => exact (Reps.one (show Kd.M (Kd.int .u8) _ _ _ (bt (⟨#[48, 49, 50, 51, 52, 53, 54, 55, 56, 57, 97, 98, 99, 100, 101, 102]⟩ : ByteArray) (ji6)) [.int .u8 (bt (⟨#[48, 49, 50, 51, 52, 53, 54, 55, 56, 57, 97, 98, 99, 100, 101, 102]⟩ : ByteArray) (ji6))] from rfl) (Reps.one (show Kd.M (Kd.int .u8) _ _ _ (bt (⟨#[48, 49, 50, 51, 52, 53, 54, 55, 56, 57, 97, 98, 99, 100, 101, 102]⟩ : ByteArray) (Go.bits .and .u8 (rd l0 x5_1) 15)) [.int .u8 (bt (⟨#[48, 49, 50, 51, 52, 53, 54, 55, 56, 57, 97, 98, 99, 100, 101, 102]⟩ : ByteArray) (Go.bits .and .u8 (rd l0 x5_1) 15))] from rfl) (Reps.none _ _))))
          intro v664 w15 ho16 hb hg_ hnew_
          clear hg_ hnew_
          (first | rw [← Ny663.out] at ho16 | (simp only [Int.reduceToNat] at ho16; rw [← Ny663.out] at ho16))
          have n_ := jA3 (zbr (pR HO_4.out) (zbe ho16) hb) (zbc (zcz ho16 (zcd (pR HO_4.out))) (zak bq)) (zab bq hb)
          clear HO_4 HB
          obtain ⟨HO_4, HO665, HB⟩ := n_
          clear hb ho16
          obtain ⟨Ao18, co18, eo18⟩ := zbm HO665.out
          (first | subst eo18 | (injection eo18 with f1_ f2_ f3_; have f4_ := f1_.symm; have f5_ := f3_.symm; clear f1_ f2_ f3_; subst f4_; subst f5_))
          refine hK.out _ _ ⟨(jcB HB.out hw661_0 :), (jcB HB.out hw662_0 :)⟩ (fun hHeld => ?_)
          clear hK K
          refine norm_ (a' := ?_) ?_ ?_
          rotate_left
          ·show Act.put _ (some 28) _ = _
           simp only [Act.put, zal, zaw, zax, i64_w, i32_w]
           rfl
          refine one_ (i := 16) (N := some 29) #[true, true, true, true, true, true, true, true, true, true, true, true, true, true, true, true, true, false] rfl rfl (one_of HT_.out (by kernel_rfl)) (by decide) (fun K hK => ?_)
          refine Kd.R_append_rows_step (Kd.int .u8) (w0 := w) w.heap.size (by rfl) (.tmp 13) (.tmp 28) 29 5 (.int .u8 0) 1 rfl Try.underlying29 info5 rfl (by decide) (by omega) u4 x4_1 y663 _ _ _ (fun k_ => some k_ ≠ (.slice Ao18 y663.length co18 : Value).ownBlock) (fun _ => False) rfl rfl ?aO ?aR (fun _ _ h => h) (fun _ h => h.elim) ?aF ?aB ?aS ?aL ?_
          (case aR => repeat (first | exact (zbq HO665.out).2.2 | (with_reducible refine zcv ?_ _) | (with_reducible refine zdi ?_ _) | (with_reducible refine zdu ?_)))
          (case aB => exact bq)
          (case aF => exact (fun k_ hk => zdn (zcd (pR HO665.out)) k_ hk))
          (case aO => exact (by (with_reducible repeat (first | apply zbo | apply zbp | apply zbs)); exact zav HO_4.out (fun _ hk => hk.2)))
          (case aS => exact (zak bq))
          (case aL => have := LMc13.out; omega)
          intro v667 w17 ho hb hg hat
          rw [← Ny666.out] at ho
          have n_ := jA3 (zdg (ok := (fun _ => True)) (pR HO665.out) hg hat) (hb) (ho)
          clear HO665 HB HO_4
          obtain ⟨HO665, HB, HO668⟩ := n_
          clear ho hb hg hat
          refine hK.out _ _ ⟨(jcB HB.out hw661_0 :), (jcB HB.out hw662_0 :)⟩ (fun hHeld => ?_)
          clear hK K
          refine norm_ (a' := ?_) ?_ ?_
          rotate_left
          ·show Act.put _ (some 29) _ = _
           simp only [Act.put, zal, zaw, zax, i64_w, i32_w]
           rfl
          refine pu 17 4 HT_.out ?_
          refine done_ (done_of HT_.out (by kernel_rfl)) ?_
          try go_wp2
          go_roundg k1
          case measure => have := HK1.out; omega
          case rel => exact ⟨(y666), (wrap64 (x5_1 + 1)), jer, H', ⟨by have := HK1.out; omega⟩, ⟨tqR HO668.out⟩, ⟨bq⟩⟩
         ·rw [if_neg c13] at H
          exact absurd H (by simp)
        ·rw [if_neg c11] at H
         exact absurd H (by simp)
       ·rw [if_neg c10] at H
        exact absurd H (by simp)
      ·rw [if_neg c8] at H
       exact absurd H (by simp)
     ·rw [if_neg c7] at H
      exact absurd H (by simp)
    ·rw [if_neg c5] at H
     exact absurd H (by simp)
   ·rw [if_neg c4] at H
    have c4b0 := zas c4
    clear c4
    obtain rfl := Option.some.inj H
    have hcv19 := own_string (P := Try.prog) Try.underlying29 Try.underlying5 Try.underlying9 (Kd.own_of_R HO_4.out)
    go_wp2
    go_ret
    exact ⟨jex, bq⟩
def spec_Same.f (l0 : List Int) (l1 : List Int) : Option (Bool) := some ((strOfNums l0).toList == (strOfNums l1).toList)
theorem spec_Same.calls (A0 : Option Addr) (c0 : Nat) (l0 : List Int) (A1 : Option Addr) (c1 : Nat) (l1 : List Int) (r : Bool) (w : World) (hr0 : Kd.C (Kd.int .u8) w A0 l0.length l0) (hc0 : l0.length ≤ c0) (hr1 : Kd.C (Kd.int .u8) w A1 l1.length l1) (hc1 : l1.length ≤ c1) (h : spec_Same.f l0 l1 = some r) :
  Calls Try.prog 113 #[.slice A0 l0.length c0, .slice A1 l1.length c1] w fun e w' => e = .returned (.bool r) ∧ Drawn0 w w' := by
 have HR0 := Aside0.mk hr0
 have HC0 := Aside0.mk hc0
 clear hr0 hc0
 have HR1 := Aside0.mk hr1
 have HC1 := Aside0.mk hc1
 clear hr1 hc1
 have H : (some ((strOfNums l0).toList == (strOfNums l1).toList)) = some r := h
 clear h
 obtain rfl := Option.some.inj H
 have hcv3 := Kd.C_string (P := Try.prog) (A := A0) (c := c0) Try.underlying29 Try.underlying5 Try.underlying9 HR0.out
 have hcv4 := Kd.C_string (P := Try.prog) (A := A1) (c := c1) Try.underlying29 Try.underlying5 Try.underlying9 HR1.out
 go_enter Try.func113, Try.ntmps113
 go_wp2
 go_ret
 exact ⟨by first | rfl | (simp; done) | (simp [*]; done), by repeat (first | exact Drawn0.refl _ | apply Drawn0.step)⟩
end Go.Proofs.Ytlalkldjpniakaa.P
