import Derived.Test.Ytlalkldjpniakaaqm10
namespace Go.Proofs.Ytlalkldjpniakaa.P
open Go.RowKit Go.Proofs.YtlalkldjpniakaaW.PrintWords Go.Proofs.YtlalkldjpniakaaW.PrintLast Go.Proofs.YtlalkldjpniakaaW.PrintMore
attribute [local go_sem] zcm zcn zdd zde zbw zbx zco zcp   -- for this text's walks alone
set_option linter.unusedVariables false
set_option linter.unusedSimpArgs false
set_option maxHeartbeats 8000000
set_option maxRecDepth 100000

mutual
def spec_l15Queues.l0 : Nat → List (S34) → List (S34) → Int → Option (Bool)
 | 0, _, _, _ => none
 | k + 1, x0, x1, x5 => if x5 < (x0.length : Int) then (spec_l15Queues.j1 k x0 x1 x5 (decide (x5 < (x1.length : Int)))) else (spec_l15Queues.j1 k x0 x1 x5 false)
def spec_l15Queues.j1 : Nat → List (S34) → List (S34) → Int → Bool → Option (Bool)
 | 0, _, _, _, _ => none
 | k + 1, x0, x1, x5, x15 => if x15 = true then (if 0 ≤ x5 then (if x5 < (x0.length : Int) then (if x5 < (x1.length : Int) then (if ((rd_T34 x0 x5).f0).toList = ((rd_T34 x1 x5).f0).toList then (if ((rd_T34 x0 x5).f1) = ((rd_T34 x1 x5).f1) then (if ((rd_T34 x0 x5).f2) = ((rd_T34 x1 x5).f2) then ((spec_Same.f ((rd_T34 x0 x5).f3) ((rd_T34 x1 x5).f3)).bind fun t1326 => (if t1326 = true then (spec_l15Queues.l0 k x0 x1 (wrap64 (x5 + 1))) else (some false))) else (some false)) else (some false)) else (some false)) else (none)) else (none)) else (none)) else (some ((x0.length : Int) == (x1.length : Int)))
end
def spec_l15Queues.f (k : Nat) (l0 : List (S34)) (l1 : List (S34)) : Option (Bool) := spec_l15Queues.l0 k l0 l1 0
theorem spec_l15Queues.mono_l : ∀ k, (∀ y0 y1 y2, LeO (spec_l15Queues.l0 k y0 y1 y2) (spec_l15Queues.l0 (k + 1) y0 y1 y2)) ∧ (∀ y0 y1 y2 y3, LeO (spec_l15Queues.j1 k y0 y1 y2 y3) (spec_l15Queues.j1 (k + 1) y0 y1 y2 y3))
 | 0 => ⟨fun _ _ _ r h => by simp [spec_l15Queues.l0] at h, fun _ _ _ _ r h => by simp [spec_l15Queues.j1] at h⟩
 | k + 1 => by
  obtain ⟨ih0, ih1⟩ := spec_l15Queues.mono_l k
  refine ⟨?_, ?_⟩
  ·intro y0 y1 y2
   unfold spec_l15Queues.l0
   exact mt
  ·intro y0 y1 y2 y3
   unfold spec_l15Queues.j1
   exact mt
theorem spec_l15Queues.mono : ∀ a0 a1 k, LeO (spec_l15Queues.f k a0 a1) (spec_l15Queues.f (k + 1) a0 a1) := by
 intro a0 a1 k
 obtain ⟨ih0, ih1⟩ := spec_l15Queues.mono_l k
 unfold spec_l15Queues.f
 exact mt
def spec_l15Queues.T4 : Bool × List (List Nat × List Nat) := (true, [([], []), ([], []), ([0, 1], [0, 1]), ([2], [2]), ([3], [3]), ([], []), ([], []), ([5, 6], [5, 6]), ([7], [7]), ([8], [8]), ([4, 9], [4, 9]), ([10], [10]), ([11], [11]), ([11], [11]), ([12, 13, 11], [11, 12, 13]), ([14, 11], [11, 14]), ([15, 11], [11, 15]), ([11], [11]), ([11], [11]), ([17, 18, 11], [11, 17, 18]), ([19, 11], [11, 19]), ([20, 11], [11, 20]), ([16, 21, 11], [11, 16, 21]), ([11, 22], [11, 22]), ([23, 11], [23]), ([24], [24]), ([24], [24]), ([25, 26, 24], [24, 25, 26]), ([27, 24], [24, 27]), ([28, 24], [24, 28]), ([24], [24]), ([24], [24]), ([30, 31, 24], [24, 30, 31]), ([32, 24], [24, 32]), ([33, 24], [24, 33]), ([29, 34, 24], [24, 29, 34]), ([24, 35], [24, 35]), ([36, 24], [36]), ([37], [37]), ([37], [37]), ([38, 39, 37], [37, 38, 39]), ([40, 37], [37, 40]), ([41, 37], [37, 41]), ([37], [37]), ([37], [37]), ([43, 44, 37], [37, 43, 44]), ([45, 37], [37, 45]), ([46, 37], [37, 46]), ([42, 47, 37, 37], [37, 42, 47]), ([48, 37], [37, 48]), ([37, 49], [37, 49])])
def spec_l15Queues.B4 : List Nat := [0, 0, 3, 7, 15, 0, 0, 96, 224, 480, 1023, 2047, 4095, 4095, 16383, 32767, 65535, 4095, 4095, 397311, 921599, 1970175, 4194303, 8388607, 16777215, 33554431, 33554431, 134217727, 268435455, 536870911, 33554431, 33554431, 3254779903, 7549747199, 16139681791, 34359738367, 68719476735, 137438953471, 274877906943, 274877906943, 1099511627775, 2199023255551, 4398046511103, 274877906943, 274877906943, 26663156973567, 61847529062399, 132216273240063, 281474976710655, 562949953421311, 1125899906842623]
theorem spec_l15Queues.tab4 : rtab .any (opsOf Try.f128 4) = spec_l15Queues.T4 := by kernel_rfl
theorem spec_l15Queues.bits4 : waitsOk spec_l15Queues.T4.2 spec_l15Queues.B4 = true := by kernel_rfl
theorem spec_l15Queues.calls (k : Nat) (A0 : Option Addr) (c0 : Nat) (l0 : List (S34)) (A1 : Option Addr) (c1 : Nat) (l1 : List (S34)) (r : Bool) (w : World) (hr0 : Kd.C k34 w A0 l0.length l0) (hc0 : l0.length ≤ c0) (hr1 : Kd.C k34 w A1 l1.length l1) (hc1 : l1.length ≤ c1) (h : spec_l15Queues.f k l0 l1 = some r) :
  Calls Try.prog 128 #[.slice A0 l0.length c0, .slice A1 l1.length c1] w fun e w' => e = .returned (.bool r) ∧ Below w.heap.size w w' := by
 have HR0 := Aside0.mk hr0
 have HC0 := Aside0.mk hc0
 clear hr0 hc0
 have HR1 := Aside0.mk hr1
 have HC1 := Aside0.mk hc1
 clear hr1 hc1
 have HB := Aside0.mk (zbk w.heap.size w)
 have H : (spec_l15Queues.l0 k l0 l1 0) = some r := h
 clear h
 have H' := Aside0.mk H
 clear H
 go_enter Try.func128, Try.ntmps128
 go_wp2
 go_loopg [5] k (fun kq v5 w' => ∃ (x5_1 : Int), v5 = .int .i64 x5_1 ∧ Aside0 (spec_l15Queues.l0 kq l0 l1 x5_1 = some r) ∧ Aside0 (kq ≤ k) ∧ Aside0 (Below w.heap.size w w'))
 case atStart => exact ⟨(0), jer, H', ⟨zaf _⟩, ⟨bq⟩⟩
 case round =>
  clear H'
  try clear c1
  try clear p2
  obtain ⟨x5_1, rfl, HA, HK1, HB⟩ := hrel
  cases gk with
  | zero => exact absurd HA.out (by simp [spec_l15Queues.l0])
  | succ k1 =>
   have H := HA.out
   clear HA
   simp only [spec_l15Queues.l0] at H
   have HC3 := Aside0.mk H
   clear H
   go_upto_region 2 with (fail)
   go_cut [15] (fun v15 wc => ∃ (kq : Nat) (x15_2 : Bool), v15 = .bool x15_2 ∧ Aside0 (spec_l15Queues.j1 kq l0 l1 x5_1 x15_2 = some r) ∧ Aside0 (kq ≤ k1) ∧ Aside0 (Below w.heap.size w wc))
   case first =>
    have H := HC3.out
    clear HC3
    by_cases c4 : x5_1 < (l0.length : Int)
    ·rw [if_pos c4] at H
     have c4b0 := zae c4
     clear c4
     (first | rw [c4b0] | (simp only [i64_w, i32_w]; rw [c4b0]) | skip)
     have H' := Aside0.mk H
     clear H
     go_wp2
     go_meet
     case rel => exact ⟨_, (decide (x5_1 < (l1.length : Int))), jer, H', ⟨by have := HK1.out; first | omega | exact zaf _⟩, ⟨bq⟩⟩
    ·rw [if_neg c4] at H
     have c4b0 := zas c4
     clear c4
     (first | rw [c4b0] | (simp only [i64_w, i32_w]; rw [c4b0]) | skip)
     have H' := Aside0.mk H
     clear H
     go_wp2
     go_meet
     case rel => exact ⟨_, (false), jer, H', ⟨by have := HK1.out; first | omega | exact zaf _⟩, ⟨bq⟩⟩
   case rest =>
    clear HC3
    try clear c1
    try clear p2
    try clear c4
    try clear c4b0
    try clear p2
    obtain ⟨kq, x15_2, rfl, HA, HJ2, HB⟩ := hcut
    cases kq with
    | zero => exact absurd HA.out (by simp [spec_l15Queues.j1])
    | succ kj2 =>
     have H := HA.out
     clear HA
     simp only [spec_l15Queues.j1] at H
     by_cases c5 : x15_2 = true
     ·subst c5
      rw [if_pos rfl] at H
      by_cases c6 : 0 ≤ x5_1
      ·rw [if_pos c6] at H
       have c6b0 := zae c6
       clear c6
       by_cases c7 : x5_1 < (l0.length : Int)
       ·rw [if_pos c7] at H
        have c7b0 := zae c7
        clear c7
        by_cases c8 : x5_1 < (l1.length : Int)
        ·rw [if_pos c8] at H
         have c8b0 := zae c8
         clear c8
         by_cases c9 : ((rd_T34 l0 x5_1).f0).toList = ((rd_T34 l1 x5_1).f0).toList
         ·rw [if_pos c9] at H
          have c9b0 := beqT c9
          have c9b1 := zau.mpr c9
          clear c9
          by_cases c10 : ((rd_T34 l0 x5_1).f1) = ((rd_T34 l1 x5_1).f1)
          ·rw [if_pos c10] at H
           have c10b0 := beqT c10
           have c10b1 := zau.mpr c10
           clear c10
           by_cases c11 : ((rd_T34 l0 x5_1).f2) = ((rd_T34 l1 x5_1).f2)
           ·rw [if_pos c11] at H
            have c11b0 := beqT c11
            have c11b1 := zau.mpr c11
            clear c11
            obtain ⟨t1326, A12, H⟩ := bnd H
            by_cases c13 : t1326 = true
            ·subst c13
             rw [if_pos rfl] at H
             have H' := Aside0.mk H
             clear H
             try go_wp2
             replace HB := Aside0.mk (zev HB.out)
             obtain ⟨p1318, q1318, ad1318, A1318_3, c1318_3, e1318, hw1318_0, hw1318_1, hw1318_2, hw1318_3, hx1318_0, hx1318_1, hx1318_2, hx1318_3, HC1318_3, HR1318_3⟩ := jelw HR0.out HB.out x5_1
             cases e1318
             obtain ⟨p1319, q1319, ad1319, A1319_3, c1319_3, e1319, hw1319_0, hw1319_1, hw1319_2, hw1319_3, hx1319_0, hx1319_1, hx1319_2, hx1319_3, HC1319_3, HR1319_3⟩ := jelw HR1.out HB.out x5_1
             cases e1319
             obtain ⟨p1320, q1320, ad1320, A1320_3, c1320_3, e1320, hw1320_0, hw1320_1, hw1320_2, hw1320_3, hx1320_0, hx1320_1, hx1320_2, hx1320_3, HC1320_3, HR1320_3⟩ := jelw HR0.out HB.out x5_1
             obtain rfl : ad1318 = ad1320 := (by injection e1320)
             have ea_ := Option.some.inj (hx1318_3.symm.trans hx1320_3)
             injection ea_ with ea_ en_ ec_
             subst ea_
             subst ec_
             clear en_
             obtain ⟨p1321, q1321, ad1321, A1321_3, c1321_3, e1321, hw1321_0, hw1321_1, hw1321_2, hw1321_3, hx1321_0, hx1321_1, hx1321_2, hx1321_3, HC1321_3, HR1321_3⟩ := jelw HR1.out HB.out x5_1
             obtain rfl : ad1319 = ad1321 := (by injection e1321)
             have ea_ := Option.some.inj (hx1319_3.symm.trans hx1321_3)
             injection ea_ with ea_ en_ ec_
             subst ea_
             subst ec_
             clear en_
             obtain ⟨p1322, q1322, ad1322, A1322_3, c1322_3, e1322, hw1322_0, hw1322_1, hw1322_2, hw1322_3, hx1322_0, hx1322_1, hx1322_2, hx1322_3, HC1322_3, HR1322_3⟩ := jelw HR0.out HB.out x5_1
             obtain rfl : ad1318 = ad1322 := (by injection e1322)
             have ea_ := Option.some.inj (hx1318_3.symm.trans hx1322_3)
             injection ea_ with ea_ en_ ec_
             subst ea_
             subst ec_
             clear en_
             obtain ⟨p1323, q1323, ad1323, A1323_3, c1323_3, e1323, hw1323_0, hw1323_1, hw1323_2, hw1323_3, hx1323_0, hx1323_1, hx1323_2, hx1323_3, HC1323_3, HR1323_3⟩ := jelw HR1.out HB.out x5_1
             obtain rfl : ad1319 = ad1323 := (by injection e1323)
             have ea_ := Option.some.inj (hx1319_3.symm.trans hx1323_3)
             injection ea_ with ea_ en_ ec_
             subst ea_
             subst ec_
             clear en_
             obtain ⟨p1324, q1324, ad1324, A1324_3, c1324_3, e1324, hw1324_0, hw1324_1, hw1324_2, hw1324_3, hx1324_0, hx1324_1, hx1324_2, hx1324_3, HC1324_3, HR1324_3⟩ := jelw HR0.out HB.out x5_1
             obtain rfl : ad1318 = ad1324 := (by injection e1324)
             have ea_ := Option.some.inj (hx1318_3.symm.trans hx1324_3)
             injection ea_ with ea_ en_ ec_
             subst ea_
             subst ec_
             clear en_
             obtain ⟨p1325, q1325, ad1325, A1325_3, c1325_3, e1325, hw1325_0, hw1325_1, hw1325_2, hw1325_3, hx1325_0, hx1325_1, hx1325_2, hx1325_3, HC1325_3, HR1325_3⟩ := jelw HR1.out HB.out x5_1
             obtain rfl : ad1319 = ad1325 := (by injection e1325)
             have ea_ := Option.some.inj (hx1319_3.symm.trans hx1325_3)
             injection ea_ with ea_ en_ ec_
             subst ea_
             subst ec_
             clear en_
             refine start_ (n := 51) (S := fun w' => w'.cell? (ad1318.add ((x5_1).toNat * 4)) = some (.string ((rd_T34 l0 x5_1).f0)) ∧ w'.cell? ⟨(ad1318.add ((x5_1).toNat * 4)).block, (ad1318.add ((x5_1).toNat * 4)).off + 1, none⟩ = some (.int .i64 ((rd_T34 l0 x5_1).f1)) ∧ w'.cell? ⟨(ad1318.add ((x5_1).toNat * 4)).block, (ad1318.add ((x5_1).toNat * 4)).off + 2, none⟩ = some (.int .i64 ((rd_T34 l0 x5_1).f2)) ∧ w'.cell? ⟨(ad1318.add ((x5_1).toNat * 4)).block, (ad1318.add ((x5_1).toNat * 4)).off + 3, none⟩ = some (.slice A1318_3 ((rd_T34 l0 x5_1).f3).length c1318_3) ∧ w'.cell? (ad1319.add ((x5_1).toNat * 4)) = some (.string ((rd_T34 l1 x5_1).f0)) ∧ w'.cell? ⟨(ad1319.add ((x5_1).toNat * 4)).block, (ad1319.add ((x5_1).toNat * 4)).off + 1, none⟩ = some (.int .i64 ((rd_T34 l1 x5_1).f1)) ∧ w'.cell? ⟨(ad1319.add ((x5_1).toNat * 4)).block, (ad1319.add ((x5_1).toNat * 4)).off + 2, none⟩ = some (.int .i64 ((rd_T34 l1 x5_1).f2)) ∧ w'.cell? ⟨(ad1319.add ((x5_1).toNat * 4)).block, (ad1319.add ((x5_1).toNat * 4)).off + 3, none⟩ = some (.slice A1319_3 ((rd_T34 l1 x5_1).f3).length c1319_3) ∧ w'.cell? (ad1318.add ((x5_1).toNat * 4)) = some (.string ((rd_T34 l0 x5_1).f0)) ∧ w'.cell? ⟨(ad1318.add ((x5_1).toNat * 4)).block, (ad1318.add ((x5_1).toNat * 4)).off + 1, none⟩ = some (.int .i64 ((rd_T34 l0 x5_1).f1)) ∧ w'.cell? ⟨(ad1318.add ((x5_1).toNat * 4)).block, (ad1318.add ((x5_1).toNat * 4)).off + 2, none⟩ = some (.int .i64 ((rd_T34 l0 x5_1).f2)) ∧ w'.cell? ⟨(ad1318.add ((x5_1).toNat * 4)).block, (ad1318.add ((x5_1).toNat * 4)).off + 3, none⟩ = some (.slice A1318_3 ((rd_T34 l0 x5_1).f3).length c1318_3) ∧ w'.cell? (ad1319.add ((x5_1).toNat * 4)) = some (.string ((rd_T34 l1 x5_1).f0)) ∧ w'.cell? ⟨(ad1319.add ((x5_1).toNat * 4)).block, (ad1319.add ((x5_1).toNat * 4)).off + 1, none⟩ = some (.int .i64 ((rd_T34 l1 x5_1).f1)) ∧ w'.cell? ⟨(ad1319.add ((x5_1).toNat * 4)).block, (ad1319.add ((x5_1).toNat * 4)).off + 2, none⟩ = some (.int .i64 ((rd_T34 l1 x5_1).f2)) ∧ w'.cell? ⟨(ad1319.add ((x5_1).toNat * 4)).block, (ad1319.add ((x5_1).toNat * 4)).off + 3, none⟩ = some (.slice A1319_3 ((rd_T34 l1 x5_1).f3).length c1319_3) ∧ w'.cell? (ad1318.add ((x5_1).toNat * 4)) = some (.string ((rd_T34 l0 x5_1).f0)) ∧ w'.cell? ⟨(ad1318.add ((x5_1).toNat * 4)).block, (ad1318.add ((x5_1).toNat * 4)).off + 1, none⟩ = some (.int .i64 ((rd_T34 l0 x5_1).f1)) ∧ w'.cell? ⟨(ad1318.add ((x5_1).toNat * 4)).block, (ad1318.add ((x5_1).toNat * 4)).off + 2, none⟩ = some (.int .i64 ((rd_T34 l0 x5_1).f2)) ∧ w'.cell? ⟨(ad1318.add ((x5_1).toNat * 4)).block, (ad1318.add ((x5_1).toNat * 4)).off + 3, none⟩ = some (.slice A1318_3 ((rd_T34 l0 x5_1).f3).length c1318_3) ∧ w'.cell? (ad1319.add ((x5_1).toNat * 4)) = some (.string ((rd_T34 l1 x5_1).f0)) ∧ w'.cell? ⟨(ad1319.add ((x5_1).toNat * 4)).block, (ad1319.add ((x5_1).toNat * 4)).off + 1, none⟩ = some (.int .i64 ((rd_T34 l1 x5_1).f1)) ∧ w'.cell? ⟨(ad1319.add ((x5_1).toNat * 4)).block, (ad1319.add ((x5_1).toNat * 4)).off + 2, none⟩ = some (.int .i64 ((rd_T34 l1 x5_1).f2)) ∧ w'.cell? ⟨(ad1319.add ((x5_1).toNat * 4)).block, (ad1319.add ((x5_1).toNat * 4)).off + 3, none⟩ = some (.slice A1319_3 ((rd_T34 l1 x5_1).f3).length c1319_3) ∧ w'.cell? (ad1318.add ((x5_1).toNat * 4)) = some (.string ((rd_T34 l0 x5_1).f0)) ∧ w'.cell? ⟨(ad1318.add ((x5_1).toNat * 4)).block, (ad1318.add ((x5_1).toNat * 4)).off + 1, none⟩ = some (.int .i64 ((rd_T34 l0 x5_1).f1)) ∧ w'.cell? ⟨(ad1318.add ((x5_1).toNat * 4)).block, (ad1318.add ((x5_1).toNat * 4)).off + 2, none⟩ = some (.int .i64 ((rd_T34 l0 x5_1).f2)) ∧ w'.cell? ⟨(ad1318.add ((x5_1).toNat * 4)).block, (ad1318.add ((x5_1).toNat * 4)).off + 3, none⟩ = some (.slice A1318_3 ((rd_T34 l0 x5_1).f3).length c1318_3) ∧ w'.cell? (ad1319.add ((x5_1).toNat * 4)) = some (.string ((rd_T34 l1 x5_1).f0)) ∧ w'.cell? ⟨(ad1319.add ((x5_1).toNat * 4)).block, (ad1319.add ((x5_1).toNat * 4)).off + 1, none⟩ = some (.int .i64 ((rd_T34 l1 x5_1).f1)) ∧ w'.cell? ⟨(ad1319.add ((x5_1).toNat * 4)).block, (ad1319.add ((x5_1).toNat * 4)).off + 2, none⟩ = some (.int .i64 ((rd_T34 l1 x5_1).f2)) ∧ w'.cell? ⟨(ad1319.add ((x5_1).toNat * 4)).block, (ad1319.add ((x5_1).toNat * 4)).off + 3, none⟩ = some (.slice A1319_3 ((rd_T34 l1 x5_1).f3).length c1319_3)) (ds := []) #[false, false, false, false, false, false, false, false, false, false, false, false, false, false, false, false, false, false, false, false, false, false, false, false, false, false, false, false, false, false, false, false, false, false, false, false, false, false, false, false, false, false, false, false, false, false, false, false, false, false, false] (by kernel_rfl) rfl rfl ⟨(jcB HB.out hw1318_0 :), (jcB HB.out hw1318_1 :), (jcB HB.out hw1318_2 :), (jcB HB.out hw1318_3 :), (jcB HB.out hw1319_0 :), (jcB HB.out hw1319_1 :), (jcB HB.out hw1319_2 :), (jcB HB.out hw1319_3 :), (jcB HB.out hw1320_0 :), (jcB HB.out hw1320_1 :), (jcB HB.out hw1320_2 :), (jcB HB.out hw1320_3 :), (jcB HB.out hw1321_0 :), (jcB HB.out hw1321_1 :), (jcB HB.out hw1321_2 :), (jcB HB.out hw1321_3 :), (jcB HB.out hw1322_0 :), (jcB HB.out hw1322_1 :), (jcB HB.out hw1322_2 :), (jcB HB.out hw1322_3 :), (jcB HB.out hw1323_0 :), (jcB HB.out hw1323_1 :), (jcB HB.out hw1323_2 :), (jcB HB.out hw1323_3 :), (jcB HB.out hw1324_0 :), (jcB HB.out hw1324_1 :), (jcB HB.out hw1324_2 :), (jcB HB.out hw1324_3 :), (jcB HB.out hw1325_0 :), (jcB HB.out hw1325_1 :), (jcB HB.out hw1325_2 :), (jcB HB.out hw1325_3 :)⟩ (fun hHeld => ?_); refine zgf spec_l15Queues.tab4 spec_l15Queues.bits4 (fun HT_ HW_ => ?_)
             generalize wc.drew = w14 at HB HR1318_3 HR1319_3 HR1320_3 HR1321_3 HR1322_3 HR1323_3 HR1324_3 HR1325_3 hx1318_0 hx1318_1 hx1318_2 hx1318_3 hx1319_0 hx1319_1 hx1319_2 hx1319_3 hx1320_0 hx1320_1 hx1320_2 hx1320_3 hx1321_0 hx1321_1 hx1321_2 hx1321_3 hx1322_0 hx1322_1 hx1322_2 hx1322_3 hx1323_0 hx1323_1 hx1323_2 hx1323_3 hx1324_0 hx1324_1 hx1324_2 hx1324_3 hx1325_0 hx1325_1 hx1325_2 hx1325_3 hHeld ⊢
             refine pu 0 18 HT_.out ?_
             refine pu 1 19 HT_.out ?_
             refine pu 2 20 HT_.out ?_
             refine pu 3 21 HT_.out ?_
             refine pu 5 23 HT_.out ?_
             refine pu 6 24 HT_.out ?_
             refine pu 7 25 HT_.out ?_
             refine pu 8 26 HT_.out ?_
             refine tk 4 22 HT_.out HW_.out hHeld ?_
             refine tk 9 27 HT_.out HW_.out hHeld ?_
             refine pu 10 28 HT_.out ?_
             refine pu 11 29 HT_.out ?_
             refine pu 12 30 HT_.out ?_
             refine pu 13 31 HT_.out ?_
             refine pu 14 32 HT_.out ?_
             refine pu 15 33 HT_.out ?_
             refine pu 17 35 HT_.out ?_
             refine pu 18 36 HT_.out ?_
             refine pu 19 37 HT_.out ?_
             refine pu 20 38 HT_.out ?_
             refine tk 16 34 HT_.out HW_.out hHeld ?_
             refine tk 21 39 HT_.out HW_.out hHeld ?_
             refine pu 22 40 HT_.out ?_
             refine pu 23 41 HT_.out ?_
             refine pu 24 42 HT_.out ?_
             refine pu 25 43 HT_.out ?_
             refine pu 26 44 HT_.out ?_
             refine pu 27 45 HT_.out ?_
             refine pu 28 46 HT_.out ?_
             refine pu 30 48 HT_.out ?_
             refine pu 31 49 HT_.out ?_
             refine pu 32 50 HT_.out ?_
             refine pu 33 51 HT_.out ?_
             refine tk 29 47 HT_.out HW_.out hHeld ?_
             refine tk 34 52 HT_.out HW_.out hHeld ?_
             refine pu 35 53 HT_.out ?_
             refine pu 36 54 HT_.out ?_
             refine pu 37 55 HT_.out ?_
             refine pu 38 56 HT_.out ?_
             refine pu 39 57 HT_.out ?_
             refine pu 40 58 HT_.out ?_
             refine pu 41 59 HT_.out ?_
             refine pu 43 61 HT_.out ?_
             refine pu 44 62 HT_.out ?_
             refine pu 45 63 HT_.out ?_
             refine pu 46 64 HT_.out ?_
             refine tk 42 60 HT_.out HW_.out hHeld ?_
             refine tk 47 65 HT_.out HW_.out hHeld ?_
             refine one_ (i := 48) (N := some 66) #[true, true, true, true, true, true, true, true, true, true, true, true, true, true, true, true, true, true, true, true, true, true, true, true, true, true, true, true, true, true, true, true, true, true, true, true, true, true, true, true, true, true, true, true, true, true, true, true, true, false, false] rfl rfl (one_of HT_.out (by kernel_rfl)) (by decide) (fun K hK => ?_)
             refine goes_ Try.func113 (by kernel_rfl) rfl #[.slice A1318_3 ((rd_T34 l0 x5_1).f3).length c1318_3, .slice A1319_3 ((rd_T34 l1 x5_1).f3).length c1319_3] (by rfl) rfl rfl jhl ?_
             with_reducible refine (spec_Same.calls _ _ ((rd_T34 l0 x5_1).f3) _ _ ((rd_T34 l1 x5_1).f3) true _ ?side1 ?side2 ?side3 ?side4 A12.out).mono ?_
             (case side1 => exact jcs HR1324_3.out)
             (case side2 => exact HC1324_3.out)
             (case side3 => exact jcs HR1325_3.out)
             (case side4 => exact HC1325_3.out)
             rintro e w' ⟨rfl, ⟨nd, rfl⟩⟩
             refine ⟨_, rfl, ?_⟩
             refine hK.out _ _ ⟨(jcB HB.out hw1318_0 :), (jcB HB.out hw1318_1 :), (jcB HB.out hw1318_2 :), (jcB HB.out hw1318_3 :), (jcB HB.out hw1319_0 :), (jcB HB.out hw1319_1 :), (jcB HB.out hw1319_2 :), (jcB HB.out hw1319_3 :), (jcB HB.out hw1320_0 :), (jcB HB.out hw1320_1 :), (jcB HB.out hw1320_2 :), (jcB HB.out hw1320_3 :), (jcB HB.out hw1321_0 :), (jcB HB.out hw1321_1 :), (jcB HB.out hw1321_2 :), (jcB HB.out hw1321_3 :), (jcB HB.out hw1322_0 :), (jcB HB.out hw1322_1 :), (jcB HB.out hw1322_2 :), (jcB HB.out hw1322_3 :), (jcB HB.out hw1323_0 :), (jcB HB.out hw1323_1 :), (jcB HB.out hw1323_2 :), (jcB HB.out hw1323_3 :), (jcB HB.out hw1324_0 :), (jcB HB.out hw1324_1 :), (jcB HB.out hw1324_2 :), (jcB HB.out hw1324_3 :), (jcB HB.out hw1325_0 :), (jcB HB.out hw1325_1 :), (jcB HB.out hw1325_2 :), (jcB HB.out hw1325_3 :)⟩ (fun hHeld => ?_)
             clear hK K
             refine norm_ (a' := ?_) ?_ ?_
             rotate_left
             ·show Act.put _ (some 66) _ = _
              simp only [Act.put, zal, zaw, zax, i64_w, i32_w]
              rfl
             refine pu 49 67 HT_.out ?_
             refine pu 50 68 HT_.out ?_
             refine done_ (done_of HT_.out (by kernel_rfl)) ?_
             try go_wp2
             go_roundg kj2
             case measure => have := HK1.out; have := HJ2.out; omega
             case rel => exact ⟨(wrap64 (x5_1 + 1)), jer, H', ⟨by have := HK1.out; have := HJ2.out; omega⟩, ⟨bq⟩⟩
            ·replace c13 := zbn.mpr c13
             subst c13
             rw [if_neg (show ¬ (false = true) by decide)] at H
             obtain rfl := Option.some.inj H
             try go_wp2
             replace HB := Aside0.mk (zev HB.out)
             obtain ⟨p1318, q1318, ad1318, A1318_3, c1318_3, e1318, hw1318_0, hw1318_1, hw1318_2, hw1318_3, hx1318_0, hx1318_1, hx1318_2, hx1318_3, HC1318_3, HR1318_3⟩ := jelw HR0.out HB.out x5_1
             cases e1318
             obtain ⟨p1319, q1319, ad1319, A1319_3, c1319_3, e1319, hw1319_0, hw1319_1, hw1319_2, hw1319_3, hx1319_0, hx1319_1, hx1319_2, hx1319_3, HC1319_3, HR1319_3⟩ := jelw HR1.out HB.out x5_1
             cases e1319
             obtain ⟨p1320, q1320, ad1320, A1320_3, c1320_3, e1320, hw1320_0, hw1320_1, hw1320_2, hw1320_3, hx1320_0, hx1320_1, hx1320_2, hx1320_3, HC1320_3, HR1320_3⟩ := jelw HR0.out HB.out x5_1
             obtain rfl : ad1318 = ad1320 := (by injection e1320)
             have ea_ := Option.some.inj (hx1318_3.symm.trans hx1320_3)
             injection ea_ with ea_ en_ ec_
             subst ea_
             subst ec_
             clear en_
             obtain ⟨p1321, q1321, ad1321, A1321_3, c1321_3, e1321, hw1321_0, hw1321_1, hw1321_2, hw1321_3, hx1321_0, hx1321_1, hx1321_2, hx1321_3, HC1321_3, HR1321_3⟩ := jelw HR1.out HB.out x5_1
             obtain rfl : ad1319 = ad1321 := (by injection e1321)
             have ea_ := Option.some.inj (hx1319_3.symm.trans hx1321_3)
             injection ea_ with ea_ en_ ec_
             subst ea_
             subst ec_
             clear en_
             obtain ⟨p1322, q1322, ad1322, A1322_3, c1322_3, e1322, hw1322_0, hw1322_1, hw1322_2, hw1322_3, hx1322_0, hx1322_1, hx1322_2, hx1322_3, HC1322_3, HR1322_3⟩ := jelw HR0.out HB.out x5_1
             obtain rfl : ad1318 = ad1322 := (by injection e1322)
             have ea_ := Option.some.inj (hx1318_3.symm.trans hx1322_3)
             injection ea_ with ea_ en_ ec_
             subst ea_
             subst ec_
             clear en_
             obtain ⟨p1323, q1323, ad1323, A1323_3, c1323_3, e1323, hw1323_0, hw1323_1, hw1323_2, hw1323_3, hx1323_0, hx1323_1, hx1323_2, hx1323_3, HC1323_3, HR1323_3⟩ := jelw HR1.out HB.out x5_1
             obtain rfl : ad1319 = ad1323 := (by injection e1323)
             have ea_ := Option.some.inj (hx1319_3.symm.trans hx1323_3)
             injection ea_ with ea_ en_ ec_
             subst ea_
             subst ec_
             clear en_
             obtain ⟨p1324, q1324, ad1324, A1324_3, c1324_3, e1324, hw1324_0, hw1324_1, hw1324_2, hw1324_3, hx1324_0, hx1324_1, hx1324_2, hx1324_3, HC1324_3, HR1324_3⟩ := jelw HR0.out HB.out x5_1
             obtain rfl : ad1318 = ad1324 := (by injection e1324)
             have ea_ := Option.some.inj (hx1318_3.symm.trans hx1324_3)
             injection ea_ with ea_ en_ ec_
             subst ea_
             subst ec_
             clear en_
             obtain ⟨p1325, q1325, ad1325, A1325_3, c1325_3, e1325, hw1325_0, hw1325_1, hw1325_2, hw1325_3, hx1325_0, hx1325_1, hx1325_2, hx1325_3, HC1325_3, HR1325_3⟩ := jelw HR1.out HB.out x5_1
             obtain rfl : ad1319 = ad1325 := (by injection e1325)
             have ea_ := Option.some.inj (hx1319_3.symm.trans hx1325_3)
             injection ea_ with ea_ en_ ec_
             subst ea_
             subst ec_
             clear en_
             refine start_ (n := 51) (S := fun w' => w'.cell? (ad1318.add ((x5_1).toNat * 4)) = some (.string ((rd_T34 l0 x5_1).f0)) ∧ w'.cell? ⟨(ad1318.add ((x5_1).toNat * 4)).block, (ad1318.add ((x5_1).toNat * 4)).off + 1, none⟩ = some (.int .i64 ((rd_T34 l0 x5_1).f1)) ∧ w'.cell? ⟨(ad1318.add ((x5_1).toNat * 4)).block, (ad1318.add ((x5_1).toNat * 4)).off + 2, none⟩ = some (.int .i64 ((rd_T34 l0 x5_1).f2)) ∧ w'.cell? ⟨(ad1318.add ((x5_1).toNat * 4)).block, (ad1318.add ((x5_1).toNat * 4)).off + 3, none⟩ = some (.slice A1318_3 ((rd_T34 l0 x5_1).f3).length c1318_3) ∧ w'.cell? (ad1319.add ((x5_1).toNat * 4)) = some (.string ((rd_T34 l1 x5_1).f0)) ∧ w'.cell? ⟨(ad1319.add ((x5_1).toNat * 4)).block, (ad1319.add ((x5_1).toNat * 4)).off + 1, none⟩ = some (.int .i64 ((rd_T34 l1 x5_1).f1)) ∧ w'.cell? ⟨(ad1319.add ((x5_1).toNat * 4)).block, (ad1319.add ((x5_1).toNat * 4)).off + 2, none⟩ = some (.int .i64 ((rd_T34 l1 x5_1).f2)) ∧ w'.cell? ⟨(ad1319.add ((x5_1).toNat * 4)).block, (ad1319.add ((x5_1).toNat * 4)).off + 3, none⟩ = some (.slice A1319_3 ((rd_T34 l1 x5_1).f3).length c1319_3) ∧ w'.cell? (ad1318.add ((x5_1).toNat * 4)) = some (.string ((rd_T34 l0 x5_1).f0)) ∧ w'.cell? ⟨(ad1318.add ((x5_1).toNat * 4)).block, (ad1318.add ((x5_1).toNat * 4)).off + 1, none⟩ = some (.int .i64 ((rd_T34 l0 x5_1).f1)) ∧ w'.cell? ⟨(ad1318.add ((x5_1).toNat * 4)).block, (ad1318.add ((x5_1).toNat * 4)).off + 2, none⟩ = some (.int .i64 ((rd_T34 l0 x5_1).f2)) ∧ w'.cell? ⟨(ad1318.add ((x5_1).toNat * 4)).block, (ad1318.add ((x5_1).toNat * 4)).off + 3, none⟩ = some (.slice A1318_3 ((rd_T34 l0 x5_1).f3).length c1318_3) ∧ w'.cell? (ad1319.add ((x5_1).toNat * 4)) = some (.string ((rd_T34 l1 x5_1).f0)) ∧ w'.cell? ⟨(ad1319.add ((x5_1).toNat * 4)).block, (ad1319.add ((x5_1).toNat * 4)).off + 1, none⟩ = some (.int .i64 ((rd_T34 l1 x5_1).f1)) ∧ w'.cell? ⟨(ad1319.add ((x5_1).toNat * 4)).block, (ad1319.add ((x5_1).toNat * 4)).off + 2, none⟩ = some (.int .i64 ((rd_T34 l1 x5_1).f2)) ∧ w'.cell? ⟨(ad1319.add ((x5_1).toNat * 4)).block, (ad1319.add ((x5_1).toNat * 4)).off + 3, none⟩ = some (.slice A1319_3 ((rd_T34 l1 x5_1).f3).length c1319_3) ∧ w'.cell? (ad1318.add ((x5_1).toNat * 4)) = some (.string ((rd_T34 l0 x5_1).f0)) ∧ w'.cell? ⟨(ad1318.add ((x5_1).toNat * 4)).block, (ad1318.add ((x5_1).toNat * 4)).off + 1, none⟩ = some (.int .i64 ((rd_T34 l0 x5_1).f1)) ∧ w'.cell? ⟨(ad1318.add ((x5_1).toNat * 4)).block, (ad1318.add ((x5_1).toNat * 4)).off + 2, none⟩ = some (.int .i64 ((rd_T34 l0 x5_1).f2)) ∧ w'.cell? ⟨(ad1318.add ((x5_1).toNat * 4)).block, (ad1318.add ((x5_1).toNat * 4)).off + 3, none⟩ = some (.slice A1318_3 ((rd_T34 l0 x5_1).f3).length c1318_3) ∧ w'.cell? (ad1319.add ((x5_1).toNat * 4)) = some (.string ((rd_T34 l1 x5_1).f0)) ∧ w'.cell? ⟨(ad1319.add ((x5_1).toNat * 4)).block, (ad1319.add ((x5_1).toNat * 4)).off + 1, none⟩ = some (.int .i64 ((rd_T34 l1 x5_1).f1)) ∧ w'.cell? ⟨(ad1319.add ((x5_1).toNat * 4)).block, (ad1319.add ((x5_1).toNat * 4)).off + 2, none⟩ = some (.int .i64 ((rd_T34 l1 x5_1).f2)) ∧ w'.cell? ⟨(ad1319.add ((x5_1).toNat * 4)).block, (ad1319.add ((x5_1).toNat * 4)).off + 3, none⟩ = some (.slice A1319_3 ((rd_T34 l1 x5_1).f3).length c1319_3) ∧ w'.cell? (ad1318.add ((x5_1).toNat * 4)) = some (.string ((rd_T34 l0 x5_1).f0)) ∧ w'.cell? ⟨(ad1318.add ((x5_1).toNat * 4)).block, (ad1318.add ((x5_1).toNat * 4)).off + 1, none⟩ = some (.int .i64 ((rd_T34 l0 x5_1).f1)) ∧ w'.cell? ⟨(ad1318.add ((x5_1).toNat * 4)).block, (ad1318.add ((x5_1).toNat * 4)).off + 2, none⟩ = some (.int .i64 ((rd_T34 l0 x5_1).f2)) ∧ w'.cell? ⟨(ad1318.add ((x5_1).toNat * 4)).block, (ad1318.add ((x5_1).toNat * 4)).off + 3, none⟩ = some (.slice A1318_3 ((rd_T34 l0 x5_1).f3).length c1318_3) ∧ w'.cell? (ad1319.add ((x5_1).toNat * 4)) = some (.string ((rd_T34 l1 x5_1).f0)) ∧ w'.cell? ⟨(ad1319.add ((x5_1).toNat * 4)).block, (ad1319.add ((x5_1).toNat * 4)).off + 1, none⟩ = some (.int .i64 ((rd_T34 l1 x5_1).f1)) ∧ w'.cell? ⟨(ad1319.add ((x5_1).toNat * 4)).block, (ad1319.add ((x5_1).toNat * 4)).off + 2, none⟩ = some (.int .i64 ((rd_T34 l1 x5_1).f2)) ∧ w'.cell? ⟨(ad1319.add ((x5_1).toNat * 4)).block, (ad1319.add ((x5_1).toNat * 4)).off + 3, none⟩ = some (.slice A1319_3 ((rd_T34 l1 x5_1).f3).length c1319_3)) (ds := []) #[false, false, false, false, false, false, false, false, false, false, false, false, false, false, false, false, false, false, false, false, false, false, false, false, false, false, false, false, false, false, false, false, false, false, false, false, false, false, false, false, false, false, false, false, false, false, false, false, false, false, false] (by kernel_rfl) rfl rfl ⟨(jcB HB.out hw1318_0 :), (jcB HB.out hw1318_1 :), (jcB HB.out hw1318_2 :), (jcB HB.out hw1318_3 :), (jcB HB.out hw1319_0 :), (jcB HB.out hw1319_1 :), (jcB HB.out hw1319_2 :), (jcB HB.out hw1319_3 :), (jcB HB.out hw1320_0 :), (jcB HB.out hw1320_1 :), (jcB HB.out hw1320_2 :), (jcB HB.out hw1320_3 :), (jcB HB.out hw1321_0 :), (jcB HB.out hw1321_1 :), (jcB HB.out hw1321_2 :), (jcB HB.out hw1321_3 :), (jcB HB.out hw1322_0 :), (jcB HB.out hw1322_1 :), (jcB HB.out hw1322_2 :), (jcB HB.out hw1322_3 :), (jcB HB.out hw1323_0 :), (jcB HB.out hw1323_1 :), (jcB HB.out hw1323_2 :), (jcB HB.out hw1323_3 :), (jcB HB.out hw1324_0 :), (jcB HB.out hw1324_1 :), (jcB HB.out hw1324_2 :), (jcB HB.out hw1324_3 :), (jcB HB.out hw1325_0 :), (jcB HB.out hw1325_1 :), (jcB HB.out hw1325_2 :), (jcB HB.out hw1325_3 :)⟩ (fun hHeld => ?_); refine zgf spec_l15Queues.tab4 spec_l15Queues.bits4 (fun HT_ HW_ => ?_)
             generalize wc.drew = w15 at HB HR1318_3 HR1319_3 HR1320_3 HR1321_3 HR1322_3 HR1323_3 HR1324_3 HR1325_3 hx1318_0 hx1318_1 hx1318_2 hx1318_3 hx1319_0 hx1319_1 hx1319_2 hx1319_3 hx1320_0 hx1320_1 hx1320_2 hx1320_3 hx1321_0 hx1321_1 hx1321_2 hx1321_3 hx1322_0 hx1322_1 hx1322_2 hx1322_3 hx1323_0 hx1323_1 hx1323_2 hx1323_3 hx1324_0 hx1324_1 hx1324_2 hx1324_3 hx1325_0 hx1325_1 hx1325_2 hx1325_3 hHeld ⊢
             refine pu 0 18 HT_.out ?_
             refine pu 1 19 HT_.out ?_
             refine pu 2 20 HT_.out ?_
             refine pu 3 21 HT_.out ?_
             refine pu 5 23 HT_.out ?_
             refine pu 6 24 HT_.out ?_
             refine pu 7 25 HT_.out ?_
             refine pu 8 26 HT_.out ?_
             refine tk 4 22 HT_.out HW_.out hHeld ?_
             refine tk 9 27 HT_.out HW_.out hHeld ?_
             refine pu 10 28 HT_.out ?_
             refine pu 11 29 HT_.out ?_
             refine pu 12 30 HT_.out ?_
             refine pu 13 31 HT_.out ?_
             refine pu 14 32 HT_.out ?_
             refine pu 15 33 HT_.out ?_
             refine pu 17 35 HT_.out ?_
             refine pu 18 36 HT_.out ?_
             refine pu 19 37 HT_.out ?_
             refine pu 20 38 HT_.out ?_
             refine tk 16 34 HT_.out HW_.out hHeld ?_
             refine tk 21 39 HT_.out HW_.out hHeld ?_
             refine pu 22 40 HT_.out ?_
             refine pu 23 41 HT_.out ?_
             refine pu 24 42 HT_.out ?_
             refine pu 25 43 HT_.out ?_
             refine pu 26 44 HT_.out ?_
             refine pu 27 45 HT_.out ?_
             refine pu 28 46 HT_.out ?_
             refine pu 30 48 HT_.out ?_
             refine pu 31 49 HT_.out ?_
             refine pu 32 50 HT_.out ?_
             refine pu 33 51 HT_.out ?_
             refine tk 29 47 HT_.out HW_.out hHeld ?_
             refine tk 34 52 HT_.out HW_.out hHeld ?_
             refine pu 35 53 HT_.out ?_
             refine pu 36 54 HT_.out ?_
             refine pu 37 55 HT_.out ?_
             refine pu 38 56 HT_.out ?_
             refine pu 39 57 HT_.out ?_
             refine pu 40 58 HT_.out ?_
             refine pu 41 59 HT_.out ?_
             refine pu 43 61 HT_.out ?_
             refine pu 44 62 HT_.out ?_
             refine pu 45 63 HT_.out ?_
             refine pu 46 64 HT_.out ?_
             refine tk 42 60 HT_.out HW_.out hHeld ?_
             refine tk 47 65 HT_.out HW_.out hHeld ?_
             refine one_ (i := 48) (N := some 66) #[true, true, true, true, true, true, true, true, true, true, true, true, true, true, true, true, true, true, true, true, true, true, true, true, true, true, true, true, true, true, true, true, true, true, true, true, true, true, true, true, true, true, true, true, true, true, true, true, true, false, false] rfl rfl (one_of HT_.out (by kernel_rfl)) (by decide) (fun K hK => ?_)
             refine goes_ Try.func113 (by kernel_rfl) rfl #[.slice A1318_3 ((rd_T34 l0 x5_1).f3).length c1318_3, .slice A1319_3 ((rd_T34 l1 x5_1).f3).length c1319_3] (by rfl) rfl rfl jhl ?_
             with_reducible refine (spec_Same.calls _ _ ((rd_T34 l0 x5_1).f3) _ _ ((rd_T34 l1 x5_1).f3) false _ ?side1 ?side2 ?side3 ?side4 A12.out).mono ?_
             (case side1 => exact jcs HR1324_3.out)
             (case side2 => exact HC1324_3.out)
             (case side3 => exact jcs HR1325_3.out)
             (case side4 => exact HC1325_3.out)
             rintro e w' ⟨rfl, ⟨nd, rfl⟩⟩
             refine ⟨_, rfl, ?_⟩
             refine hK.out _ _ ⟨(jcB HB.out hw1318_0 :), (jcB HB.out hw1318_1 :), (jcB HB.out hw1318_2 :), (jcB HB.out hw1318_3 :), (jcB HB.out hw1319_0 :), (jcB HB.out hw1319_1 :), (jcB HB.out hw1319_2 :), (jcB HB.out hw1319_3 :), (jcB HB.out hw1320_0 :), (jcB HB.out hw1320_1 :), (jcB HB.out hw1320_2 :), (jcB HB.out hw1320_3 :), (jcB HB.out hw1321_0 :), (jcB HB.out hw1321_1 :), (jcB HB.out hw1321_2 :), (jcB HB.out hw1321_3 :), (jcB HB.out hw1322_0 :), (jcB HB.out hw1322_1 :), (jcB HB.out hw1322_2 :), (jcB HB.out hw1322_3 :), (jcB HB.out hw1323_0 :), (jcB HB.out hw1323_1 :), (jcB HB.out hw1323_2 :), (jcB HB.out hw1323_3 :), (jcB HB.out hw1324_0 :), (jcB HB.out hw1324_1 :), (jcB HB.out hw1324_2 :), (jcB HB.out hw1324_3 :), (jcB HB.out hw1325_0 :), (jcB HB.out hw1325_1 :), (jcB HB.out hw1325_2 :), (jcB HB.out hw1325_3 :)⟩ (fun hHeld => ?_)
             clear hK K
             refine norm_ (a' := ?_) ?_ ?_
             rotate_left
             ·show Act.put _ (some 66) _ = _
              simp only [Act.put, zal, zaw, zax, i64_w, i32_w]
              rfl
             refine pu 49 67 HT_.out ?_
             refine pu 50 68 HT_.out ?_
             refine done_ (done_of HT_.out (by kernel_rfl)) ?_
             try go_wp2
             go_ret
             exact ⟨jex, bq⟩
           ·rw [if_neg c11] at H
            have c11b0 := zao.mpr c11
            have c11b1 := zcs.mpr c11
            obtain rfl := Option.some.inj H
            try go_wp2
            replace HB := Aside0.mk (zev HB.out)
            obtain ⟨p1318, q1318, ad1318, A1318_3, c1318_3, e1318, hw1318_0, hw1318_1, hw1318_2, hw1318_3, hx1318_0, hx1318_1, hx1318_2, hx1318_3, HC1318_3, HR1318_3⟩ := jelw HR0.out HB.out x5_1
            cases e1318
            obtain ⟨p1319, q1319, ad1319, A1319_3, c1319_3, e1319, hw1319_0, hw1319_1, hw1319_2, hw1319_3, hx1319_0, hx1319_1, hx1319_2, hx1319_3, HC1319_3, HR1319_3⟩ := jelw HR1.out HB.out x5_1
            cases e1319
            obtain ⟨p1320, q1320, ad1320, A1320_3, c1320_3, e1320, hw1320_0, hw1320_1, hw1320_2, hw1320_3, hx1320_0, hx1320_1, hx1320_2, hx1320_3, HC1320_3, HR1320_3⟩ := jelw HR0.out HB.out x5_1
            obtain rfl : ad1318 = ad1320 := (by injection e1320)
            have ea_ := Option.some.inj (hx1318_3.symm.trans hx1320_3)
            injection ea_ with ea_ en_ ec_
            subst ea_
            subst ec_
            clear en_
            obtain ⟨p1321, q1321, ad1321, A1321_3, c1321_3, e1321, hw1321_0, hw1321_1, hw1321_2, hw1321_3, hx1321_0, hx1321_1, hx1321_2, hx1321_3, HC1321_3, HR1321_3⟩ := jelw HR1.out HB.out x5_1
            obtain rfl : ad1319 = ad1321 := (by injection e1321)
            have ea_ := Option.some.inj (hx1319_3.symm.trans hx1321_3)
            injection ea_ with ea_ en_ ec_
            subst ea_
            subst ec_
            clear en_
            obtain ⟨p1322, q1322, ad1322, A1322_3, c1322_3, e1322, hw1322_0, hw1322_1, hw1322_2, hw1322_3, hx1322_0, hx1322_1, hx1322_2, hx1322_3, HC1322_3, HR1322_3⟩ := jelw HR0.out HB.out x5_1
            obtain rfl : ad1318 = ad1322 := (by injection e1322)
            have ea_ := Option.some.inj (hx1318_3.symm.trans hx1322_3)
            injection ea_ with ea_ en_ ec_
            subst ea_
            subst ec_
            clear en_
            obtain ⟨p1323, q1323, ad1323, A1323_3, c1323_3, e1323, hw1323_0, hw1323_1, hw1323_2, hw1323_3, hx1323_0, hx1323_1, hx1323_2, hx1323_3, HC1323_3, HR1323_3⟩ := jelw HR1.out HB.out x5_1
            obtain rfl : ad1319 = ad1323 := (by injection e1323)
            have ea_ := Option.some.inj (hx1319_3.symm.trans hx1323_3)
            injection ea_ with ea_ en_ ec_
            subst ea_
            subst ec_
            clear en_
            refine start_ (n := 51) (S := fun w' => w'.cell? (ad1318.add ((x5_1).toNat * 4)) = some (.string ((rd_T34 l0 x5_1).f0)) ∧ w'.cell? ⟨(ad1318.add ((x5_1).toNat * 4)).block, (ad1318.add ((x5_1).toNat * 4)).off + 1, none⟩ = some (.int .i64 ((rd_T34 l0 x5_1).f1)) ∧ w'.cell? ⟨(ad1318.add ((x5_1).toNat * 4)).block, (ad1318.add ((x5_1).toNat * 4)).off + 2, none⟩ = some (.int .i64 ((rd_T34 l0 x5_1).f2)) ∧ w'.cell? ⟨(ad1318.add ((x5_1).toNat * 4)).block, (ad1318.add ((x5_1).toNat * 4)).off + 3, none⟩ = some (.slice A1318_3 ((rd_T34 l0 x5_1).f3).length c1318_3) ∧ w'.cell? (ad1319.add ((x5_1).toNat * 4)) = some (.string ((rd_T34 l1 x5_1).f0)) ∧ w'.cell? ⟨(ad1319.add ((x5_1).toNat * 4)).block, (ad1319.add ((x5_1).toNat * 4)).off + 1, none⟩ = some (.int .i64 ((rd_T34 l1 x5_1).f1)) ∧ w'.cell? ⟨(ad1319.add ((x5_1).toNat * 4)).block, (ad1319.add ((x5_1).toNat * 4)).off + 2, none⟩ = some (.int .i64 ((rd_T34 l1 x5_1).f2)) ∧ w'.cell? ⟨(ad1319.add ((x5_1).toNat * 4)).block, (ad1319.add ((x5_1).toNat * 4)).off + 3, none⟩ = some (.slice A1319_3 ((rd_T34 l1 x5_1).f3).length c1319_3) ∧ w'.cell? (ad1318.add ((x5_1).toNat * 4)) = some (.string ((rd_T34 l0 x5_1).f0)) ∧ w'.cell? ⟨(ad1318.add ((x5_1).toNat * 4)).block, (ad1318.add ((x5_1).toNat * 4)).off + 1, none⟩ = some (.int .i64 ((rd_T34 l0 x5_1).f1)) ∧ w'.cell? ⟨(ad1318.add ((x5_1).toNat * 4)).block, (ad1318.add ((x5_1).toNat * 4)).off + 2, none⟩ = some (.int .i64 ((rd_T34 l0 x5_1).f2)) ∧ w'.cell? ⟨(ad1318.add ((x5_1).toNat * 4)).block, (ad1318.add ((x5_1).toNat * 4)).off + 3, none⟩ = some (.slice A1318_3 ((rd_T34 l0 x5_1).f3).length c1318_3) ∧ w'.cell? (ad1319.add ((x5_1).toNat * 4)) = some (.string ((rd_T34 l1 x5_1).f0)) ∧ w'.cell? ⟨(ad1319.add ((x5_1).toNat * 4)).block, (ad1319.add ((x5_1).toNat * 4)).off + 1, none⟩ = some (.int .i64 ((rd_T34 l1 x5_1).f1)) ∧ w'.cell? ⟨(ad1319.add ((x5_1).toNat * 4)).block, (ad1319.add ((x5_1).toNat * 4)).off + 2, none⟩ = some (.int .i64 ((rd_T34 l1 x5_1).f2)) ∧ w'.cell? ⟨(ad1319.add ((x5_1).toNat * 4)).block, (ad1319.add ((x5_1).toNat * 4)).off + 3, none⟩ = some (.slice A1319_3 ((rd_T34 l1 x5_1).f3).length c1319_3) ∧ w'.cell? (ad1318.add ((x5_1).toNat * 4)) = some (.string ((rd_T34 l0 x5_1).f0)) ∧ w'.cell? ⟨(ad1318.add ((x5_1).toNat * 4)).block, (ad1318.add ((x5_1).toNat * 4)).off + 1, none⟩ = some (.int .i64 ((rd_T34 l0 x5_1).f1)) ∧ w'.cell? ⟨(ad1318.add ((x5_1).toNat * 4)).block, (ad1318.add ((x5_1).toNat * 4)).off + 2, none⟩ = some (.int .i64 ((rd_T34 l0 x5_1).f2)) ∧ w'.cell? ⟨(ad1318.add ((x5_1).toNat * 4)).block, (ad1318.add ((x5_1).toNat * 4)).off + 3, none⟩ = some (.slice A1318_3 ((rd_T34 l0 x5_1).f3).length c1318_3) ∧ w'.cell? (ad1319.add ((x5_1).toNat * 4)) = some (.string ((rd_T34 l1 x5_1).f0)) ∧ w'.cell? ⟨(ad1319.add ((x5_1).toNat * 4)).block, (ad1319.add ((x5_1).toNat * 4)).off + 1, none⟩ = some (.int .i64 ((rd_T34 l1 x5_1).f1)) ∧ w'.cell? ⟨(ad1319.add ((x5_1).toNat * 4)).block, (ad1319.add ((x5_1).toNat * 4)).off + 2, none⟩ = some (.int .i64 ((rd_T34 l1 x5_1).f2)) ∧ w'.cell? ⟨(ad1319.add ((x5_1).toNat * 4)).block, (ad1319.add ((x5_1).toNat * 4)).off + 3, none⟩ = some (.slice A1319_3 ((rd_T34 l1 x5_1).f3).length c1319_3)) (ds := []) #[false, false, false, false, false, false, false, false, false, false, false, false, false, false, false, false, false, false, false, false, false, false, false, false, false, false, false, false, false, false, false, false, false, false, false, false, false, false, false, false, false, false, false, false, false, false, false, false, false, false, false] (by kernel_rfl) rfl rfl ⟨(jcB HB.out hw1318_0 :), (jcB HB.out hw1318_1 :), (jcB HB.out hw1318_2 :), (jcB HB.out hw1318_3 :), (jcB HB.out hw1319_0 :), (jcB HB.out hw1319_1 :), (jcB HB.out hw1319_2 :), (jcB HB.out hw1319_3 :), (jcB HB.out hw1320_0 :), (jcB HB.out hw1320_1 :), (jcB HB.out hw1320_2 :), (jcB HB.out hw1320_3 :), (jcB HB.out hw1321_0 :), (jcB HB.out hw1321_1 :), (jcB HB.out hw1321_2 :), (jcB HB.out hw1321_3 :), (jcB HB.out hw1322_0 :), (jcB HB.out hw1322_1 :), (jcB HB.out hw1322_2 :), (jcB HB.out hw1322_3 :), (jcB HB.out hw1323_0 :), (jcB HB.out hw1323_1 :), (jcB HB.out hw1323_2 :), (jcB HB.out hw1323_3 :)⟩ (fun hHeld => ?_); refine zgf spec_l15Queues.tab4 spec_l15Queues.bits4 (fun HT_ HW_ => ?_)
            generalize wc.drew = w16 at HB HR1318_3 HR1319_3 HR1320_3 HR1321_3 HR1322_3 HR1323_3 hx1318_0 hx1318_1 hx1318_2 hx1318_3 hx1319_0 hx1319_1 hx1319_2 hx1319_3 hx1320_0 hx1320_1 hx1320_2 hx1320_3 hx1321_0 hx1321_1 hx1321_2 hx1321_3 hx1322_0 hx1322_1 hx1322_2 hx1322_3 hx1323_0 hx1323_1 hx1323_2 hx1323_3 hHeld ⊢
            refine pu 0 18 HT_.out ?_
            refine pu 1 19 HT_.out ?_
            refine pu 2 20 HT_.out ?_
            refine pu 3 21 HT_.out ?_
            refine pu 5 23 HT_.out ?_
            refine pu 6 24 HT_.out ?_
            refine pu 7 25 HT_.out ?_
            refine pu 8 26 HT_.out ?_
            refine tk 4 22 HT_.out HW_.out hHeld ?_
            refine tk 9 27 HT_.out HW_.out hHeld ?_
            refine pu 10 28 HT_.out ?_
            refine pu 11 29 HT_.out ?_
            refine pu 12 30 HT_.out ?_
            refine pu 13 31 HT_.out ?_
            refine pu 14 32 HT_.out ?_
            refine pu 15 33 HT_.out ?_
            refine pu 17 35 HT_.out ?_
            refine pu 18 36 HT_.out ?_
            refine pu 19 37 HT_.out ?_
            refine pu 20 38 HT_.out ?_
            refine tk 16 34 HT_.out HW_.out hHeld ?_
            refine tk 21 39 HT_.out HW_.out hHeld ?_
            refine pu 22 40 HT_.out ?_
            refine pu 23 41 HT_.out ?_
            refine pu 24 42 HT_.out ?_
            refine pu 25 43 HT_.out ?_
            refine pu 26 44 HT_.out ?_
            refine pu 27 45 HT_.out ?_
            refine pu 28 46 HT_.out ?_
            refine pu 30 48 HT_.out ?_
            refine pu 31 49 HT_.out ?_
            refine pu 32 50 HT_.out ?_
            refine pu 33 51 HT_.out ?_
            refine tk 29 47 HT_.out HW_.out hHeld ?_
            refine tk 34 52 HT_.out HW_.out hHeld ?_
            refine pu 35 53 HT_.out ?_
            refine pu 36 54 HT_.out ?_
            refine pu 37 55 HT_.out ?_
            refine pn 38 56 HT_.out ?_
            refine pn 39 57 HT_.out ?_
            refine pn 40 58 HT_.out ?_
            refine pn 41 59 HT_.out ?_
            refine pn 42 60 HT_.out ?_
            refine pn 43 61 HT_.out ?_
            refine pn 44 62 HT_.out ?_
            refine pn 45 63 HT_.out ?_
            refine pn 46 64 HT_.out ?_
            refine pn 47 65 HT_.out ?_
            refine pn 48 66 HT_.out ?_
            refine pn 49 67 HT_.out ?_
            refine pu 50 68 HT_.out ?_
            refine done_ (done_of HT_.out (by kernel_rfl)) ?_
            try go_wp2
            go_ret
            exact ⟨jex, bq⟩
          ·rw [if_neg c10] at H
           have c10b0 := zao.mpr c10
           have c10b1 := zcs.mpr c10
           obtain rfl := Option.some.inj H
           try go_wp2
           replace HB := Aside0.mk (zev HB.out)
           obtain ⟨p1318, q1318, ad1318, A1318_3, c1318_3, e1318, hw1318_0, hw1318_1, hw1318_2, hw1318_3, hx1318_0, hx1318_1, hx1318_2, hx1318_3, HC1318_3, HR1318_3⟩ := jelw HR0.out HB.out x5_1
           cases e1318
           obtain ⟨p1319, q1319, ad1319, A1319_3, c1319_3, e1319, hw1319_0, hw1319_1, hw1319_2, hw1319_3, hx1319_0, hx1319_1, hx1319_2, hx1319_3, HC1319_3, HR1319_3⟩ := jelw HR1.out HB.out x5_1
           cases e1319
           obtain ⟨p1320, q1320, ad1320, A1320_3, c1320_3, e1320, hw1320_0, hw1320_1, hw1320_2, hw1320_3, hx1320_0, hx1320_1, hx1320_2, hx1320_3, HC1320_3, HR1320_3⟩ := jelw HR0.out HB.out x5_1
           obtain rfl : ad1318 = ad1320 := (by injection e1320)
           have ea_ := Option.some.inj (hx1318_3.symm.trans hx1320_3)
           injection ea_ with ea_ en_ ec_
           subst ea_
           subst ec_
           clear en_
           obtain ⟨p1321, q1321, ad1321, A1321_3, c1321_3, e1321, hw1321_0, hw1321_1, hw1321_2, hw1321_3, hx1321_0, hx1321_1, hx1321_2, hx1321_3, HC1321_3, HR1321_3⟩ := jelw HR1.out HB.out x5_1
           obtain rfl : ad1319 = ad1321 := (by injection e1321)
           have ea_ := Option.some.inj (hx1319_3.symm.trans hx1321_3)
           injection ea_ with ea_ en_ ec_
           subst ea_
           subst ec_
           clear en_
           refine start_ (n := 51) (S := fun w' => w'.cell? (ad1318.add ((x5_1).toNat * 4)) = some (.string ((rd_T34 l0 x5_1).f0)) ∧ w'.cell? ⟨(ad1318.add ((x5_1).toNat * 4)).block, (ad1318.add ((x5_1).toNat * 4)).off + 1, none⟩ = some (.int .i64 ((rd_T34 l0 x5_1).f1)) ∧ w'.cell? ⟨(ad1318.add ((x5_1).toNat * 4)).block, (ad1318.add ((x5_1).toNat * 4)).off + 2, none⟩ = some (.int .i64 ((rd_T34 l0 x5_1).f2)) ∧ w'.cell? ⟨(ad1318.add ((x5_1).toNat * 4)).block, (ad1318.add ((x5_1).toNat * 4)).off + 3, none⟩ = some (.slice A1318_3 ((rd_T34 l0 x5_1).f3).length c1318_3) ∧ w'.cell? (ad1319.add ((x5_1).toNat * 4)) = some (.string ((rd_T34 l1 x5_1).f0)) ∧ w'.cell? ⟨(ad1319.add ((x5_1).toNat * 4)).block, (ad1319.add ((x5_1).toNat * 4)).off + 1, none⟩ = some (.int .i64 ((rd_T34 l1 x5_1).f1)) ∧ w'.cell? ⟨(ad1319.add ((x5_1).toNat * 4)).block, (ad1319.add ((x5_1).toNat * 4)).off + 2, none⟩ = some (.int .i64 ((rd_T34 l1 x5_1).f2)) ∧ w'.cell? ⟨(ad1319.add ((x5_1).toNat * 4)).block, (ad1319.add ((x5_1).toNat * 4)).off + 3, none⟩ = some (.slice A1319_3 ((rd_T34 l1 x5_1).f3).length c1319_3) ∧ w'.cell? (ad1318.add ((x5_1).toNat * 4)) = some (.string ((rd_T34 l0 x5_1).f0)) ∧ w'.cell? ⟨(ad1318.add ((x5_1).toNat * 4)).block, (ad1318.add ((x5_1).toNat * 4)).off + 1, none⟩ = some (.int .i64 ((rd_T34 l0 x5_1).f1)) ∧ w'.cell? ⟨(ad1318.add ((x5_1).toNat * 4)).block, (ad1318.add ((x5_1).toNat * 4)).off + 2, none⟩ = some (.int .i64 ((rd_T34 l0 x5_1).f2)) ∧ w'.cell? ⟨(ad1318.add ((x5_1).toNat * 4)).block, (ad1318.add ((x5_1).toNat * 4)).off + 3, none⟩ = some (.slice A1318_3 ((rd_T34 l0 x5_1).f3).length c1318_3) ∧ w'.cell? (ad1319.add ((x5_1).toNat * 4)) = some (.string ((rd_T34 l1 x5_1).f0)) ∧ w'.cell? ⟨(ad1319.add ((x5_1).toNat * 4)).block, (ad1319.add ((x5_1).toNat * 4)).off + 1, none⟩ = some (.int .i64 ((rd_T34 l1 x5_1).f1)) ∧ w'.cell? ⟨(ad1319.add ((x5_1).toNat * 4)).block, (ad1319.add ((x5_1).toNat * 4)).off + 2, none⟩ = some (.int .i64 ((rd_T34 l1 x5_1).f2)) ∧ w'.cell? ⟨(ad1319.add ((x5_1).toNat * 4)).block, (ad1319.add ((x5_1).toNat * 4)).off + 3, none⟩ = some (.slice A1319_3 ((rd_T34 l1 x5_1).f3).length c1319_3)) (ds := []) #[false, false, false, false, false, false, false, false, false, false, false, false, false, false, false, false, false, false, false, false, false, false, false, false, false, false, false, false, false, false, false, false, false, false, false, false, false, false, false, false, false, false, false, false, false, false, false, false, false, false, false] (by kernel_rfl) rfl rfl ⟨(jcB HB.out hw1318_0 :), (jcB HB.out hw1318_1 :), (jcB HB.out hw1318_2 :), (jcB HB.out hw1318_3 :), (jcB HB.out hw1319_0 :), (jcB HB.out hw1319_1 :), (jcB HB.out hw1319_2 :), (jcB HB.out hw1319_3 :), (jcB HB.out hw1320_0 :), (jcB HB.out hw1320_1 :), (jcB HB.out hw1320_2 :), (jcB HB.out hw1320_3 :), (jcB HB.out hw1321_0 :), (jcB HB.out hw1321_1 :), (jcB HB.out hw1321_2 :), (jcB HB.out hw1321_3 :)⟩ (fun hHeld => ?_); refine zgf spec_l15Queues.tab4 spec_l15Queues.bits4 (fun HT_ HW_ => ?_)
           generalize wc.drew = w17 at HB HR1318_3 HR1319_3 HR1320_3 HR1321_3 hx1318_0 hx1318_1 hx1318_2 hx1318_3 hx1319_0 hx1319_1 hx1319_2 hx1319_3 hx1320_0 hx1320_1 hx1320_2 hx1320_3 hx1321_0 hx1321_1 hx1321_2 hx1321_3 hHeld ⊢
           refine pu 0 18 HT_.out ?_
           refine pu 1 19 HT_.out ?_
           refine pu 2 20 HT_.out ?_
           refine pu 3 21 HT_.out ?_
           refine pu 5 23 HT_.out ?_
           refine pu 6 24 HT_.out ?_
           refine pu 7 25 HT_.out ?_
           refine pu 8 26 HT_.out ?_
           refine tk 4 22 HT_.out HW_.out hHeld ?_
           refine tk 9 27 HT_.out HW_.out hHeld ?_
           refine pu 10 28 HT_.out ?_
           refine pu 11 29 HT_.out ?_
           refine pu 12 30 HT_.out ?_
           refine pu 13 31 HT_.out ?_
           refine pu 14 32 HT_.out ?_
           refine pu 15 33 HT_.out ?_
           refine pu 17 35 HT_.out ?_
           refine pu 18 36 HT_.out ?_
           refine pu 19 37 HT_.out ?_
           refine pu 20 38 HT_.out ?_
           refine tk 16 34 HT_.out HW_.out hHeld ?_
           refine tk 21 39 HT_.out HW_.out hHeld ?_
           refine pu 22 40 HT_.out ?_
           refine pu 23 41 HT_.out ?_
           refine pu 24 42 HT_.out ?_
           refine pn 25 43 HT_.out ?_
           refine pn 26 44 HT_.out ?_
           refine pn 27 45 HT_.out ?_
           refine pn 28 46 HT_.out ?_
           refine pn 29 47 HT_.out ?_
           refine pn 30 48 HT_.out ?_
           refine pn 31 49 HT_.out ?_
           refine pn 32 50 HT_.out ?_
           refine pn 33 51 HT_.out ?_
           refine pn 34 52 HT_.out ?_
           refine pn 35 53 HT_.out ?_
           refine pu 36 54 HT_.out ?_
           refine pu 37 55 HT_.out ?_
           refine pn 38 56 HT_.out ?_
           refine pn 39 57 HT_.out ?_
           refine pn 40 58 HT_.out ?_
           refine pn 41 59 HT_.out ?_
           refine pn 42 60 HT_.out ?_
           refine pn 43 61 HT_.out ?_
           refine pn 44 62 HT_.out ?_
           refine pn 45 63 HT_.out ?_
           refine pn 46 64 HT_.out ?_
           refine pn 47 65 HT_.out ?_
           refine pn 48 66 HT_.out ?_
           refine pn 49 67 HT_.out ?_
           refine pu 50 68 HT_.out ?_
           refine done_ (done_of HT_.out (by kernel_rfl)) ?_
           try go_wp2
           go_ret
           exact ⟨jex, bq⟩
         ·rw [if_neg c9] at H
          have c9b0 := zao.mpr c9
          have c9b1 := zcs.mpr c9
          obtain rfl := Option.some.inj H
          try go_wp2
          replace HB := Aside0.mk (zev HB.out)
          obtain ⟨p1318, q1318, ad1318, A1318_3, c1318_3, e1318, hw1318_0, hw1318_1, hw1318_2, hw1318_3, hx1318_0, hx1318_1, hx1318_2, hx1318_3, HC1318_3, HR1318_3⟩ := jelw HR0.out HB.out x5_1
          cases e1318
          obtain ⟨p1319, q1319, ad1319, A1319_3, c1319_3, e1319, hw1319_0, hw1319_1, hw1319_2, hw1319_3, hx1319_0, hx1319_1, hx1319_2, hx1319_3, HC1319_3, HR1319_3⟩ := jelw HR1.out HB.out x5_1
          cases e1319
          refine start_ (n := 51) (S := fun w' => w'.cell? (ad1318.add ((x5_1).toNat * 4)) = some (.string ((rd_T34 l0 x5_1).f0)) ∧ w'.cell? ⟨(ad1318.add ((x5_1).toNat * 4)).block, (ad1318.add ((x5_1).toNat * 4)).off + 1, none⟩ = some (.int .i64 ((rd_T34 l0 x5_1).f1)) ∧ w'.cell? ⟨(ad1318.add ((x5_1).toNat * 4)).block, (ad1318.add ((x5_1).toNat * 4)).off + 2, none⟩ = some (.int .i64 ((rd_T34 l0 x5_1).f2)) ∧ w'.cell? ⟨(ad1318.add ((x5_1).toNat * 4)).block, (ad1318.add ((x5_1).toNat * 4)).off + 3, none⟩ = some (.slice A1318_3 ((rd_T34 l0 x5_1).f3).length c1318_3) ∧ w'.cell? (ad1319.add ((x5_1).toNat * 4)) = some (.string ((rd_T34 l1 x5_1).f0)) ∧ w'.cell? ⟨(ad1319.add ((x5_1).toNat * 4)).block, (ad1319.add ((x5_1).toNat * 4)).off + 1, none⟩ = some (.int .i64 ((rd_T34 l1 x5_1).f1)) ∧ w'.cell? ⟨(ad1319.add ((x5_1).toNat * 4)).block, (ad1319.add ((x5_1).toNat * 4)).off + 2, none⟩ = some (.int .i64 ((rd_T34 l1 x5_1).f2)) ∧ w'.cell? ⟨(ad1319.add ((x5_1).toNat * 4)).block, (ad1319.add ((x5_1).toNat * 4)).off + 3, none⟩ = some (.slice A1319_3 ((rd_T34 l1 x5_1).f3).length c1319_3)) (ds := []) #[false, false, false, false, false, false, false, false, false, false, false, false, false, false, false, false, false, false, false, false, false, false, false, false, false, false, false, false, false, false, false, false, false, false, false, false, false, false, false, false, false, false, false, false, false, false, false, false, false, false, false] (by kernel_rfl) rfl rfl ⟨(jcB HB.out hw1318_0 :), (jcB HB.out hw1318_1 :), (jcB HB.out hw1318_2 :), (jcB HB.out hw1318_3 :), (jcB HB.out hw1319_0 :), (jcB HB.out hw1319_1 :), (jcB HB.out hw1319_2 :), (jcB HB.out hw1319_3 :)⟩ (fun hHeld => ?_); refine zgf spec_l15Queues.tab4 spec_l15Queues.bits4 (fun HT_ HW_ => ?_)
          generalize wc.drew = w18 at HB HR1318_3 HR1319_3 hx1318_0 hx1318_1 hx1318_2 hx1318_3 hx1319_0 hx1319_1 hx1319_2 hx1319_3 hHeld ⊢
          refine pu 0 18 HT_.out ?_
          refine pu 1 19 HT_.out ?_
          refine pu 2 20 HT_.out ?_
          refine pu 3 21 HT_.out ?_
          refine pu 5 23 HT_.out ?_
          refine pu 6 24 HT_.out ?_
          refine pu 7 25 HT_.out ?_
          refine pu 8 26 HT_.out ?_
          refine tk 4 22 HT_.out HW_.out hHeld ?_
          refine tk 9 27 HT_.out HW_.out hHeld ?_
          refine pu 10 28 HT_.out ?_
          refine pu 11 29 HT_.out ?_
          refine pn 12 30 HT_.out ?_
          refine pn 13 31 HT_.out ?_
          refine pn 14 32 HT_.out ?_
          refine pn 15 33 HT_.out ?_
          refine pn 16 34 HT_.out ?_
          refine pn 17 35 HT_.out ?_
          refine pn 18 36 HT_.out ?_
          refine pn 19 37 HT_.out ?_
          refine pn 20 38 HT_.out ?_
          refine pn 21 39 HT_.out ?_
          refine pn 22 40 HT_.out ?_
          refine pu 23 41 HT_.out ?_
          refine pu 24 42 HT_.out ?_
          refine pn 25 43 HT_.out ?_
          refine pn 26 44 HT_.out ?_
          refine pn 27 45 HT_.out ?_
          refine pn 28 46 HT_.out ?_
          refine pn 29 47 HT_.out ?_
          refine pn 30 48 HT_.out ?_
          refine pn 31 49 HT_.out ?_
          refine pn 32 50 HT_.out ?_
          refine pn 33 51 HT_.out ?_
          refine pn 34 52 HT_.out ?_
          refine pn 35 53 HT_.out ?_
          refine pu 36 54 HT_.out ?_
          refine pu 37 55 HT_.out ?_
          refine pn 38 56 HT_.out ?_
          refine pn 39 57 HT_.out ?_
          refine pn 40 58 HT_.out ?_
          refine pn 41 59 HT_.out ?_
          refine pn 42 60 HT_.out ?_
          refine pn 43 61 HT_.out ?_
          refine pn 44 62 HT_.out ?_
          refine pn 45 63 HT_.out ?_
          refine pn 46 64 HT_.out ?_
          refine pn 47 65 HT_.out ?_
          refine pn 48 66 HT_.out ?_
          refine pn 49 67 HT_.out ?_
          refine pu 50 68 HT_.out ?_
          refine done_ (done_of HT_.out (by kernel_rfl)) ?_
          try go_wp2
          go_ret
          exact ⟨jex, bq⟩
        ·rw [if_neg c8] at H
         exact absurd H (by simp)
       ·rw [if_neg c7] at H
        exact absurd H (by simp)
      ·rw [if_neg c6] at H
       exact absurd H (by simp)
     ·replace c5 := zbn.mpr c5
      subst c5
      rw [if_neg (show ¬ (false = true) by decide)] at H
      obtain rfl := Option.some.inj H
      go_wp2
      go_ret
      exact ⟨jex, bq⟩
def spec_PostOk.j0 : Nat → Bool → List (S34) → Int → List Int → Int → Option (Bool)
 | 0, _, _, _, _, _ => none
 | k + 1, x30, x1328000, x1328001, x1328002, x1328003 => if x30 = true then (some false) else ((spec_Play.f k x1328002).bind fun bt1331 => (if bt1331.2.2 = (x1328002.length : Int) then (if bt1331.2.1 = x1328001 then ((spec_l15Queues.f k bt1331.1 x1328000).bind fun t1336 => (some t1336)) else (some false)) else (some false)))
def spec_PostOk.f (k : Nat) (l0_0 : List (S34)) (a0_1 : Int) (l0_2 : List Int) (a0_3 : Int) : Option (Bool) := (spec_QueueOk.f k l0_0).bind fun t1328 => (if t1328 = true then ((spec_l1In.f a0_1 0 100000).bind fun t1329 => (if t1329 = true then (if (l0_2.length : Int) > 12000 then (spec_PostOk.j0 k true l0_0 a0_1 l0_2 a0_3) else ((spec_l1In.f a0_3 0 (l0_2.length : Int)).bind fun t1330 => (spec_PostOk.j0 k (!t1330) l0_0 a0_1 l0_2 a0_3))) else (spec_PostOk.j0 k true l0_0 a0_1 l0_2 a0_3))) else (spec_PostOk.j0 k true l0_0 a0_1 l0_2 a0_3))
theorem spec_PostOk.mono_l : ∀ k, (∀ y0 y1 y2 y3 y4, LeO (spec_PostOk.j0 k y0 y1 y2 y3 y4) (spec_PostOk.j0 (k + 1) y0 y1 y2 y3 y4))
 | 0 => fun _ _ _ _ _ r h => by simp [spec_PostOk.j0] at h
 | k + 1 => by
  have ih0 := spec_PostOk.mono_l k
  ·intro y0 y1 y2 y3 y4
   unfold spec_PostOk.j0
   have m0 := @spec_Play.mono
   have m1 := @spec_QueueOk.mono
   have m2 := @spec_l15Queues.mono
   exact mt
theorem spec_PostOk.mono : ∀ a0 a1 a2 a3 k, LeO (spec_PostOk.f k a0 a1 a2 a3) (spec_PostOk.f (k + 1) a0 a1 a2 a3) := by
 intro a0 a1 a2 a3 k
 have ih0 := spec_PostOk.mono_l k
 unfold spec_PostOk.f
 have m0 := @spec_Play.mono
 have m1 := @spec_QueueOk.mono
 have m2 := @spec_l15Queues.mono
 exact mt
theorem spec_PostOk.calls (k : Nat) (A0_0 : Option Addr) (c0_0 : Nat) (l0_0 : List (S34)) (a0_1 : Int) (A0_2 : Option Addr) (c0_2 : Nat) (l0_2 : List Int) (a0_3 : Int) (r : Bool) (w : World) (hr0_0 : Kd.C k34 w A0_0 l0_0.length l0_0) (hc0_0 : l0_0.length ≤ c0_0) (hr0_2 : Kd.C (Kd.int .u8) w A0_2 l0_2.length l0_2) (hc0_2 : l0_2.length ≤ c0_2) (h : spec_PostOk.f k l0_0 a0_1 l0_2 a0_3 = some r) :
  Calls Try.prog 78 #[.agg #[.slice A0_0 l0_0.length c0_0, .int .i64 a0_1, .slice A0_2 l0_2.length c0_2, .int .i64 a0_3]] w fun e w' => e = .returned (.bool r) ∧ Below w.heap.size w w' := by
 have hu39 := Try.underlying39
 have HR0_0 := Aside0.mk hr0_0
 have HC0_0 := Aside0.mk hc0_0
 clear hr0_0 hc0_0
 have HR0_2 := Aside0.mk hr0_2
 have HC0_2 := Aside0.mk hc0_2
 clear hr0_2 hc0_2
 have HB := Aside0.mk (zbk w.heap.size w)
 have H : ((spec_QueueOk.f k l0_0).bind fun t1328 => (if t1328 = true then ((spec_l1In.f a0_1 0 100000).bind fun t1329 => (if t1329 = true then (if (l0_2.length : Int) > 12000 then (spec_PostOk.j0 k true l0_0 a0_1 l0_2 a0_3) else ((spec_l1In.f a0_3 0 (l0_2.length : Int)).bind fun t1330 => (spec_PostOk.j0 k (!t1330) l0_0 a0_1 l0_2 a0_3))) else (spec_PostOk.j0 k true l0_0 a0_1 l0_2 a0_3))) else (spec_PostOk.j0 k true l0_0 a0_1 l0_2 a0_3))) = some r := h
 clear h
 have HC2 := Aside0.mk H
 clear H
 go_enter Try.func78, Try.ntmps78
 go_upto_region 1 with (first | (refine jgd 1 ?_; (try (refine gate_guard (by rfl) ?_; dsimp only)); refine bx 1 (#[.slice A0_0 l0_0.length c0_0, .int .i64 a0_1, .slice A0_2 l0_2.length c0_2, .int .i64 a0_3]) 39 ?_; intro gb1327 hg w3 hbox hb; have xb_ := below_ofs bq hb; have n_ := jA4 (zab xb_ hb) (hbox) (ge0 hg xb_ : w.heap.size ≤ gb1327) (ge0 hg xb_ : w.heap.size ≤ gb1327); clear HB; obtain ⟨HB, BK1327, GW1327, GE1327⟩ := n_; clear xb_ hb hbox hg))
 (try simp only [Act.put, zal, zaw, zax])
 go_cut [30] (fun v30 wc => ∃ (kq : Nat) (x30_1 : Bool), v30 = .bool x30_1 ∧ Aside0 (spec_PostOk.j0 kq x30_1 l0_0 a0_1 l0_2 a0_3 = some r) ∧ Aside0 (kq ≤ k) ∧ Aside0 (wc.heap[gb1327]? = some (.cells #[(.slice A0_0 l0_0.length c0_0), .int .i64 a0_1, (.slice A0_2 l0_2.length c0_2), .int .i64 a0_3] 39 (0, 0))) ∧ Aside0 (Below w.heap.size w wc))
 case first =>
  have H := HC2.out
  clear HC2
  obtain ⟨t1328, A4, H⟩ := bnd H
  by_cases c5 : t1328 = true
  ·subst c5
   rw [if_pos rfl] at H
   obtain ⟨t1329, A6, H⟩ := bnd H
   by_cases c7 : t1329 = true
   ·subst c7
    rw [if_pos rfl] at H
    by_cases c8 : (l0_2.length : Int) > 12000
    ·rw [if_pos c8] at H
     have c8b0 := zae c8
     have c8b1 : decide (12000 < l0_2.length) = true := zae (by omega)
     clear c8
     (first | rw [c8b0] | (simp only [i64_w, i32_w]; rw [c8b0]) | skip)
     have H' := Aside0.mk H
     clear H
     obtain ⟨hcz9_0, hcz9_1, hcz9_2, hcz9_3, hfz9_0, hfz9_1, hfz9_2, hfz9_3⟩ := cz4 BK1327.out
     go_wp2_with (first | (refine jgc 42 ?_; refine jgs 8 Try.func42 #[.slice A0_0 l0_0.length c0_0] ?_; (with_reducible refine (spec_QueueOk.calls k _ _ l0_0 true _ ?side1 ?side2 A4.out).mono ?_); (case side1 => exact jcs HR0_0.out); (case side2 => exact HC0_0.out); rintro e w10 ⟨rfl, hb⟩; refine ⟨_, rfl, ?_⟩; have n_ := jA2 (jbb BK1327.out hb) (zab (bs1 GE1327.out) hb); clear BK1327 HB; obtain ⟨BK1327, HB⟩ := n_; (try clear hb); (try clear hb2); (try clear hk); (try clear hi); obtain ⟨hcz11_0, hcz11_1, hcz11_2, hcz11_3, hfz11_0, hfz11_1, hfz11_2, hfz11_3⟩ := cz4 BK1327.out) | (go_at_call 89; (with_reducible refine (spec_l1In.calls a0_1 0 100000 true _ A6.out).mono ?_); rintro e w' ⟨rfl, ⟨nd, rfl⟩⟩))
     go_meet
     case rel => exact ⟨_, (true), jer, H', ⟨by first | omega | exact zaf _⟩, ⟨pB BK1327.out⟩, ⟨bs1 GE1327.out⟩⟩
    ·rw [if_neg c8] at H
     have c8b0 := zas c8
     have c8b1 : decide (12000 < l0_2.length) = false := zas (by omega)
     clear c8
     (first | rw [c8b0] | (simp only [i64_w, i32_w]; rw [c8b0]) | skip)
     obtain ⟨t1330, A12, H⟩ := bnd H
     have H' := Aside0.mk H
     clear H
     obtain ⟨hcz13_0, hcz13_1, hcz13_2, hcz13_3, hfz13_0, hfz13_1, hfz13_2, hfz13_3⟩ := cz4 BK1327.out
     go_wp2_with (first | (refine jgc 42 ?_; refine jgs 8 Try.func42 #[.slice A0_0 l0_0.length c0_0] ?_; (with_reducible refine (spec_QueueOk.calls k _ _ l0_0 true _ ?side1 ?side2 A4.out).mono ?_); (case side1 => exact jcs HR0_0.out); (case side2 => exact HC0_0.out); rintro e w14 ⟨rfl, hb⟩; refine ⟨_, rfl, ?_⟩; have n_ := jA2 (jbb BK1327.out hb) (zab (bs1 GE1327.out) hb); clear BK1327 HB; obtain ⟨BK1327, HB⟩ := n_; (try clear hb); (try clear hb2); (try clear hk); (try clear hi); obtain ⟨hcz15_0, hcz15_1, hcz15_2, hcz15_3, hfz15_0, hfz15_1, hfz15_2, hfz15_3⟩ := cz4 BK1327.out) | (go_at_call 89; (with_reducible refine (spec_l1In.calls a0_1 0 100000 true _ A6.out).mono ?_); rintro e w' ⟨rfl, ⟨nd, rfl⟩⟩) | (go_at_call 89; (with_reducible refine (spec_l1In.calls a0_3 0 (l0_2.length : Int) t1330 _ A12.out).mono ?_); rintro e w' ⟨rfl, ⟨nd, rfl⟩⟩))
     go_meet
     case rel => exact ⟨_, (!t1330), jer, H', ⟨by first | omega | exact zaf _⟩, ⟨pB BK1327.out⟩, ⟨bs1 GE1327.out⟩⟩
   ·replace c7 := zbn.mpr c7
    subst c7
    rw [if_neg (show ¬ (false = true) by decide)] at H
    have H' := Aside0.mk H
    clear H
    obtain ⟨hcz16_0, hcz16_1, hcz16_2, hcz16_3, hfz16_0, hfz16_1, hfz16_2, hfz16_3⟩ := cz4 BK1327.out
    go_wp2_with (first | (refine jgc 42 ?_; refine jgs 8 Try.func42 #[.slice A0_0 l0_0.length c0_0] ?_; (with_reducible refine (spec_QueueOk.calls k _ _ l0_0 true _ ?side1 ?side2 A4.out).mono ?_); (case side1 => exact jcs HR0_0.out); (case side2 => exact HC0_0.out); rintro e w17 ⟨rfl, hb⟩; refine ⟨_, rfl, ?_⟩; have n_ := jA2 (jbb BK1327.out hb) (zab (bs1 GE1327.out) hb); clear BK1327 HB; obtain ⟨BK1327, HB⟩ := n_; (try clear hb); (try clear hb2); (try clear hk); (try clear hi); obtain ⟨hcz18_0, hcz18_1, hcz18_2, hcz18_3, hfz18_0, hfz18_1, hfz18_2, hfz18_3⟩ := cz4 BK1327.out) | (go_at_call 89; (with_reducible refine (spec_l1In.calls a0_1 0 100000 false _ A6.out).mono ?_); rintro e w' ⟨rfl, ⟨nd, rfl⟩⟩))
    go_meet
    case rel => exact ⟨_, (true), jer, H', ⟨by first | omega | exact zaf _⟩, ⟨pB BK1327.out⟩, ⟨bs1 GE1327.out⟩⟩
  ·replace c5 := zbn.mpr c5
   subst c5
   rw [if_neg (show ¬ (false = true) by decide)] at H
   have H' := Aside0.mk H
   clear H
   obtain ⟨hcz19_0, hcz19_1, hcz19_2, hcz19_3, hfz19_0, hfz19_1, hfz19_2, hfz19_3⟩ := cz4 BK1327.out
   go_wp2_with (first | (refine jgc 42 ?_; refine jgs 8 Try.func42 #[.slice A0_0 l0_0.length c0_0] ?_; (with_reducible refine (spec_QueueOk.calls k _ _ l0_0 false _ ?side1 ?side2 A4.out).mono ?_); (case side1 => exact jcs HR0_0.out); (case side2 => exact HC0_0.out); rintro e w20 ⟨rfl, hb⟩; refine ⟨_, rfl, ?_⟩; have n_ := jA2 (jbb BK1327.out hb) (zab (bs1 GE1327.out) hb); clear BK1327 HB; obtain ⟨BK1327, HB⟩ := n_; (try clear hb); (try clear hb2); (try clear hk); (try clear hi)))
   go_meet
   case rel => exact ⟨_, (true), jer, H', ⟨by first | omega | exact zaf _⟩, ⟨pB BK1327.out⟩, ⟨bs1 GE1327.out⟩⟩
 case rest =>
  clear HC2
  try clear p2
  try clear c4
  try clear c5
  try clear c7
  try clear c8
  try clear c8b0
  try clear c8b1
  try clear hcz11_0
  try clear hcz11_1
  try clear hcz11_2
  try clear hcz11_3
  try clear hcz13_0
  try clear hcz13_1
  try clear hcz13_2
  try clear hcz13_3
  try clear hcz15_0
  try clear hcz15_1
  try clear hcz15_2
  try clear hcz15_3
  try clear hcz16_0
  try clear hcz16_1
  try clear hcz16_2
  try clear hcz16_3
  try clear hcz18_0
  try clear hcz18_1
  try clear hcz18_2
  try clear hcz18_3
  try clear hcz19_0
  try clear hcz19_1
  try clear hcz19_2
  try clear hcz19_3
  try clear hcz9_0
  try clear hcz9_1
  try clear hcz9_2
  try clear hcz9_3
  try clear hfz11_0
  try clear hfz11_1
  try clear hfz11_2
  try clear hfz11_3
  try clear hfz13_0
  try clear hfz13_1
  try clear hfz13_2
  try clear hfz13_3
  try clear hfz15_0
  try clear hfz15_1
  try clear hfz15_2
  try clear hfz15_3
  try clear hfz16_0
  try clear hfz16_1
  try clear hfz16_2
  try clear hfz16_3
  try clear hfz18_0
  try clear hfz18_1
  try clear hfz18_2
  try clear hfz18_3
  try clear hfz19_0
  try clear hfz19_1
  try clear hfz19_2
  try clear hfz19_3
  try clear hfz9_0
  try clear hfz9_1
  try clear hfz9_2
  try clear hfz9_3
  obtain ⟨kq, x30_1, rfl, HA, HJ1, BK1327, HB⟩ := hcut
  cases kq with
  | zero => exact absurd HA.out (by simp [spec_PostOk.j0])
  | succ kj1 =>
   have H := HA.out
   clear HA
   simp only [spec_PostOk.j0] at H
   by_cases c21 : x30_1 = true
   ·subst c21
    rw [if_pos rfl] at H
    obtain rfl := Option.some.inj H
    go_wp2
    go_ret
    exact ⟨jex, (bs1 GE1327.out)⟩
   ·replace c21 := zbn.mpr c21
    subst c21
    rw [if_neg (show ¬ (false = true) by decide)] at H
    obtain ⟨⟨t1331, t1334, t1335⟩, A22, H⟩ := bnd H
    try dsimp only at H
    by_cases c23 : t1335 = (l0_2.length : Int)
    ·rw [if_pos c23] at H
     have c23b0 := beqT c23
     have c23b1 := zau.mpr c23
     clear c23
     by_cases c24 : t1334 = a0_1
     ·rw [if_pos c24] at H
      have c24b0 := beqT c24
      have c24b1 := zau.mpr c24
      clear c24
      obtain ⟨t1336, A25, H⟩ := bnd H
      obtain rfl := Option.some.inj H
      obtain ⟨hcz26_0, hcz26_1, hcz26_2, hcz26_3, hfz26_0, hfz26_1, hfz26_2, hfz26_3⟩ := cz4 BK1327.out
      go_wp2_with (first | (refine jgc 69 ?_; refine jgs 34 Try.func69 #[.slice A0_2 l0_2.length c0_2] ?_; (with_reducible refine (spec_Play.calls kj1 _ _ l0_2 t1331 t1334 t1335 _ ?side1 ?side2 A22.out).mono ?_); (case side1 => exact jcs HR0_2.out); (case side2 => exact HC0_2.out); rintro e w27 ⟨v1332, rfl, ho0, hb⟩; refine ⟨_, rfl, ?_⟩; have n_ := jA3 (Kd.V_lower (zfm (ok' := fun k_ => k_ ≠ gb1327) ho0 (fun k_ hk_ => (zey (pB BK1327.out) k_ hk_))) (zak (bs1 GE1327.out))) (jbb BK1327.out hb) (zab (bs1 GE1327.out) hb); clear BK1327 HB; obtain ⟨HO1333, BK1327, HB⟩ := n_; clear hb ho0; obtain ⟨hcz28_0, hcz28_1, hcz28_2, hcz28_3, hfz28_0, hfz28_1, hfz28_2, hfz28_3⟩ := cz4 BK1327.out; obtain ⟨Ao29, co29, eo29⟩ := Kd.V_slice HO1333.out; subst eo29) | (go_at_call 128; (with_reducible refine (spec_l15Queues.calls kj1 _ _ t1331 _ _ l0_0 t1336 _ ?side1 ?side2 ?side3 ?side4 A25.out).mono ?_); (case side1 => repeat (first | exact (zfy HO1333.out).2.2 | (with_reducible first | apply zcv | apply zdi | apply zdu))); (case side2 => exact (zfy HO1333.out).2.1); (case side3 => exact jcs HR0_0.out); (case side4 => exact HC0_0.out); rintro e w30 ⟨rfl, hb⟩; have n_ := jA3 (zgi (pV HO1333.out) hb) (jbb BK1327.out hb) (zab (bs1 GE1327.out) hb); clear HO1333 BK1327 HB; obtain ⟨HO1333, BK1327, HB⟩ := n_; (try clear hb); (try clear hb2); (try clear hk); (try clear hi)))
      go_ret
      exact ⟨jex, (bs1 GE1327.out)⟩
     ·rw [if_neg c24] at H
      have c24b0 := zao.mpr c24
      have c24b1 := zcs.mpr c24
      obtain rfl := Option.some.inj H
      obtain ⟨hcz31_0, hcz31_1, hcz31_2, hcz31_3, hfz31_0, hfz31_1, hfz31_2, hfz31_3⟩ := cz4 BK1327.out
      go_wp2_with (first | (refine jgc 69 ?_; refine jgs 34 Try.func69 #[.slice A0_2 l0_2.length c0_2] ?_; (with_reducible refine (spec_Play.calls kj1 _ _ l0_2 t1331 t1334 t1335 _ ?side1 ?side2 A22.out).mono ?_); (case side1 => exact jcs HR0_2.out); (case side2 => exact HC0_2.out); rintro e w32 ⟨v1332, rfl, ho0, hb⟩; refine ⟨_, rfl, ?_⟩; have n_ := jA3 (Kd.V_lower (zfm (ok' := fun k_ => k_ ≠ gb1327) ho0 (fun k_ hk_ => (zey (pB BK1327.out) k_ hk_))) (zak (bs1 GE1327.out))) (jbb BK1327.out hb) (zab (bs1 GE1327.out) hb); clear BK1327 HB; obtain ⟨HO1333, BK1327, HB⟩ := n_; clear hb ho0; obtain ⟨hcz33_0, hcz33_1, hcz33_2, hcz33_3, hfz33_0, hfz33_1, hfz33_2, hfz33_3⟩ := cz4 BK1327.out))
      go_ret
      exact ⟨jex, (bs1 GE1327.out)⟩
    ·rw [if_neg c23] at H
     have c23b0 := zao.mpr c23
     have c23b1 := zcs.mpr c23
     obtain rfl := Option.some.inj H
     obtain ⟨hcz34_0, hcz34_1, hcz34_2, hcz34_3, hfz34_0, hfz34_1, hfz34_2, hfz34_3⟩ := cz4 BK1327.out
     go_wp2_with (first | (refine jgc 69 ?_; refine jgs 34 Try.func69 #[.slice A0_2 l0_2.length c0_2] ?_; (with_reducible refine (spec_Play.calls kj1 _ _ l0_2 t1331 t1334 t1335 _ ?side1 ?side2 A22.out).mono ?_); (case side1 => exact jcs HR0_2.out); (case side2 => exact HC0_2.out); rintro e w35 ⟨v1332, rfl, ho0, hb⟩; refine ⟨_, rfl, ?_⟩; have n_ := jA3 (Kd.V_lower (zfm (ok' := fun k_ => k_ ≠ gb1327) ho0 (fun k_ hk_ => (zey (pB BK1327.out) k_ hk_))) (zak (bs1 GE1327.out))) (jbb BK1327.out hb) (zab (bs1 GE1327.out) hb); clear BK1327 HB; obtain ⟨HO1333, BK1327, HB⟩ := n_; clear hb ho0; obtain ⟨hcz36_0, hcz36_1, hcz36_2, hcz36_3, hfz36_0, hfz36_1, hfz36_2, hfz36_3⟩ := cz4 BK1327.out))
     go_ret
     exact ⟨jex, (bs1 GE1327.out)⟩
end Go.Proofs.Ytlalkldjpniakaa.P
