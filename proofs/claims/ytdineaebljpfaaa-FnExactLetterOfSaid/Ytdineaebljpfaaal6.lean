import Derived.Test.Ytdineaebljpfaaal5
namespace Go.Proofs.Ytdineaebljpfaaa.P
open Go.RowKit Go.Proofs.YtdineaebljpfaaaW.PrintWords Go.Proofs.YtdineaebljpfaaaW.PrintLast Go.Proofs.YtdineaebljpfaaaW.PrintMore
attribute [local go_sem] max2_int min2_int max_two min_two zeq zer max_four min_four   -- for this text's walks alone
set_option linter.unusedVariables false
set_option linter.unusedSimpArgs false

def spec_LetterOf.f (l0 : List Int) : Option (Int × List Int × List Int × Bool) := if (l0.length : Int) < 51 then (some (0, ([] : List Int), ([] : List Int), false)) else (if (l0.length : Int) > 1551 then (some (0, ([] : List Int), ([] : List Int), false)) else (if 0 < (l0.length : Int) then (if (rd l0 0) = 1 then (if 1 < (l0.length : Int) then (if 2 < (l0.length : Int) then ((some (([] : List Int) : List Int)).bind fun y105 => (if 3 ≤ 35 then (if 35 ≤ (l0.length : Int) then (if y105.length + ((l0.take 35).drop 3).length < 140737488355328 then ((some (([] : List Int) : List Int)).bind fun y112 => (if y112.length + (l0.drop 35).length < 140737488355328 then (some (wrap64 ((wrap64 (256 * (wrap64 (rd l0 1)))) + (wrap64 (rd l0 2))), (y105 ++ ((l0.take 35).drop 3)), (y112 ++ (l0.drop 35)), true)) else (none))) else (none)) else (none)) else (none))) else (none)) else (none)) else (some (0, ([] : List Int), ([] : List Int), false))) else (none)))
def spec_LetterOf.T3 : Bool × List (List Nat × List Nat) := (true, [([], []), ([0], [0]), ([1], [1]), ([2], [2]), ([3], [3]), ([], []), ([5], [5]), ([6], [6]), ([7], [7]), ([4, 8], [4, 8]), ([], []), ([], []), ([11], [11]), ([10, 12], [10, 12]), ([], []), ([], []), ([15], [15]), ([14, 16, 13], [14, 16]), ([9, 13, 17], [9, 13, 17]), ([18, 17, 0, 1, 2, 3, 4, 5, 6, 7, 8, 9, 10, 11, 12, 13, 14, 15, 16, 17, 18], [18]), ([19, 0, 1, 2, 3, 4, 5, 6, 7, 8, 9, 10, 11, 12, 13, 14, 15, 16, 17, 18, 19], [])])
def spec_LetterOf.B3 : List Nat := [0, 1, 3, 7, 15, 0, 32, 96, 224, 511, 0, 0, 2048, 7168, 0, 0, 32768, 130048, 262143, 524287, 1048575]
theorem spec_LetterOf.tab3 : rtab .any (opsOf Try.f9 3) = spec_LetterOf.T3 := by kernel_rfl
theorem spec_LetterOf.bits3 : waitsOk spec_LetterOf.T3.2 spec_LetterOf.B3 = true := by kernel_rfl
set_option maxHeartbeats 8000000 in
set_option maxRecDepth 100000 in
theorem spec_LetterOf.calls (A0 : Option Addr) (c0 : Nat) (l0 : List Int) (r1 : Int) (r2 : List Int) (r3 : List Int) (r4 : Bool) (w : World) (hr0 : Kd.C (Kd.int .u8) w A0 l0.length l0) (hc0 : l0.length ≤ c0) (h : spec_LetterOf.f l0 = some (r1, r2, r3, r4)) :
  Calls Try.prog 9 #[.slice A0 l0.length c0] w fun e w' => ∃ v1_ v2_ : Value, e = .returned (.tuple #[.agg #[.int .i64 r1, v1_, v2_], .bool r4]) ∧ Kd.R (Kd.int .u8) 5 w' w.heap.size (fun k_ => some k_ ≠ (v2_ : Value).ownBlock) v1_ r2 ∧ Kd.R (Kd.int .u8) 5 w' w.heap.size (fun k_ => some k_ ≠ (v1_ : Value).ownBlock) v2_ r3 ∧ Below w.heap.size w w' := by
 have hu24 := Try.underlying24
 have HR0 := Aside0.mk hr0
 have HC0 := Aside0.mk hc0
 clear hr0 hc0
 have HB := Aside0.mk (zcq w.heap.size w)
 have H : (if (l0.length : Int) < 51 then (some (0, ([] : List Int), ([] : List Int), false)) else (if (l0.length : Int) > 1551 then (some (0, ([] : List Int), ([] : List Int), false)) else (if 0 < (l0.length : Int) then (if (rd l0 0) = 1 then (if 1 < (l0.length : Int) then (if 2 < (l0.length : Int) then ((some (([] : List Int) : List Int)).bind fun y105 => (if 3 ≤ 35 then (if 35 ≤ (l0.length : Int) then (if y105.length + ((l0.take 35).drop 3).length < 140737488355328 then ((some (([] : List Int) : List Int)).bind fun y112 => (if y112.length + (l0.drop 35).length < 140737488355328 then (some (wrap64 ((wrap64 (256 * (wrap64 (rd l0 1)))) + (wrap64 (rd l0 2))), (y105 ++ ((l0.take 35).drop 3)), (y112 ++ (l0.drop 35)), true)) else (none))) else (none)) else (none)) else (none))) else (none)) else (none)) else (some (0, ([] : List Int), ([] : List Int), false))) else (none)))) = some (r1, r2, r3, r4) := h
 clear h
 by_cases c2 : (l0.length : Int) < 51
 ·rw [if_pos c2] at H
  have c2b0 : decide ((l0.length : Int) < 51) = true := zbo c2
  have c2b1 : decide (l0.length < 51) = true := zbo (by omega)
  clear c2
  simp only [zdp, zeg] at H
  obtain ⟨rfl, rfl, rfl, rfl⟩ := H
  go_enter Try.func9, Try.ntmps9
  go_wp2_with (first | ((with_reducible refine zef (N := 2) rfl ?_); (try (refine gate_guard (by rfl) ?_; dsimp only)); refine zdw ?hg (N := 2) ?hd (cs := #[.int .i64 0, .slice none 0 0, .slice none 0 0]) (t := 24) ?hr ?_; (case hd => rfl); (case hg => rfl); (case hr => first | (go_simp; done) | (go_simp; rfl)); intro gb101 hg w3 hbox hb; have xb_ := below_ofs (by repeat (first | (with_reducible first | exact HB.out | apply zah | apply zab | apply zaf) | exact HB.out)) hb; have n0_ := Aside0.mk (zbh xb_ hb); have n1_ := Aside0.mk (hbox); have n2_ := Aside0.mk ((by rw [hg]; exact (zat xb_) : w.heap.size ≤ gb101)); have n3_ := Aside0.mk ((by rw [hg]; exact (zat xb_) : w.heap.size ≤ gb101)); clear HB; have HB := n0_; have BK101 := n1_; have GW101 := n2_; have GE101 := n3_; clear n0_ n1_ n2_ n3_; clear xb_ hb hbox hg; have hcz4_0 : w3.cell? ⟨gb101, 0, none⟩ = some (.int .i64 0) := (zbc BK101.out 0).trans rfl; have hcz4_1 : w3.cell? ⟨gb101, 1, none⟩ = some (.slice none 0 0) := (zbc BK101.out 1).trans rfl; have hcz4_2 : w3.cell? ⟨gb101, 2, none⟩ = some (.slice none 0 0) := (zbc BK101.out 2).trans rfl; have hfz4_0 := zau BK101.out 0; have hfz4_1 := zau BK101.out 1; have hfz4_2 := zau BK101.out 2))
  refine bodyPost_ret (results_ct rfl _ _ gb101 24 #[.int .i64 0, .slice none 0 0, .slice none 0 0] (0, 0) _ rfl (by (with_reducible repeat (first | refine zai ?_ _ | refine zao ?_ | refine zaj ?_ _)); refine zdl (cs := #[.int .i64 0, .slice none 0 0, .slice none 0 0]) ?_ 2 _ rfl; (with_reducible repeat (first | refine zai ?_ _ | refine zao ?_ | refine zaj ?_ _)); refine zdl (cs := #[.int .i64 0, .slice none 0 0, .slice none 0 0]) ?_ 1 _ rfl; (with_reducible repeat (first | refine zai ?_ _ | refine zao ?_ | refine zaj ?_ _)); refine zdl (cs := #[.int .i64 0, .slice none 0 0, .slice none 0 0]) ?_ 0 _ rfl; (with_reducible repeat (first | refine zai ?_ _ | refine zao ?_ | refine zaj ?_ _)); exact BK101.out) Try.underlying24 rfl (by kernel_rfl)) rfl ?_
  exact ⟨_, _, by first | rfl | (simp [zcd, zce] <;> rfl) | (simp [*, zcd, zce] <;> rfl), by first | exact Kd.R_nil _ _ _ _ _ | exact Kd.N_nil _ _ _ _ _ | exact Kd.V_nil _ _ _ _ _ | exact Kd.Q_nil _ _ _ _ _ | exact Kd.S_nil _ _ _ _ _, by first | exact Kd.R_nil _ _ _ _ _ | exact Kd.N_nil _ _ _ _ _ | exact Kd.V_nil _ _ _ _ _ | exact Kd.Q_nil _ _ _ _ _ | exact Kd.S_nil _ _ _ _ _, by repeat (first | (with_reducible first | exact HB.out | apply zah | apply zab | apply zaf | refine zag ?_ GE101.out) | exact HB.out)⟩
 ·rw [if_neg c2] at H
  have c2b0 : decide ((l0.length : Int) < 51) = false := zcv c2
  have c2b1 : decide (l0.length < 51) = false := zcv (by omega)
  clear c2
  by_cases c5 : (l0.length : Int) > 1551
  ·rw [if_pos c5] at H
   have c5b0 : decide (1551 < (l0.length : Int)) = true := zbo c5
   have c5b1 : decide (1551 < l0.length) = true := zbo (by omega)
   clear c5
   simp only [zdp, zeg] at H
   obtain ⟨rfl, rfl, rfl, rfl⟩ := H
   go_enter Try.func9, Try.ntmps9
   go_wp2_with (first | ((with_reducible refine zef (N := 2) rfl ?_); (try (refine gate_guard (by rfl) ?_; dsimp only)); refine zdw ?hg (N := 2) ?hd (cs := #[.int .i64 0, .slice none 0 0, .slice none 0 0]) (t := 24) ?hr ?_; (case hd => rfl); (case hg => rfl); (case hr => first | (go_simp; done) | (go_simp; rfl)); intro gb101 hg w6 hbox hb; have xb_ := below_ofs (by repeat (first | (with_reducible first | exact HB.out | apply zah | apply zab | apply zaf) | exact HB.out)) hb; have n0_ := Aside0.mk (zbh xb_ hb); have n1_ := Aside0.mk (hbox); have n2_ := Aside0.mk ((by rw [hg]; exact (zat xb_) : w.heap.size ≤ gb101)); have n3_ := Aside0.mk ((by rw [hg]; exact (zat xb_) : w.heap.size ≤ gb101)); clear HB; have HB := n0_; have BK101 := n1_; have GW101 := n2_; have GE101 := n3_; clear n0_ n1_ n2_ n3_; clear xb_ hb hbox hg; have hcz7_0 : w6.cell? ⟨gb101, 0, none⟩ = some (.int .i64 0) := (zbc BK101.out 0).trans rfl; have hcz7_1 : w6.cell? ⟨gb101, 1, none⟩ = some (.slice none 0 0) := (zbc BK101.out 1).trans rfl; have hcz7_2 : w6.cell? ⟨gb101, 2, none⟩ = some (.slice none 0 0) := (zbc BK101.out 2).trans rfl; have hfz7_0 := zau BK101.out 0; have hfz7_1 := zau BK101.out 1; have hfz7_2 := zau BK101.out 2))
   refine bodyPost_ret (results_ct rfl _ _ gb101 24 #[.int .i64 0, .slice none 0 0, .slice none 0 0] (0, 0) _ rfl (by (with_reducible repeat (first | refine zai ?_ _ | refine zao ?_ | refine zaj ?_ _)); refine zdl (cs := #[.int .i64 0, .slice none 0 0, .slice none 0 0]) ?_ 2 _ rfl; (with_reducible repeat (first | refine zai ?_ _ | refine zao ?_ | refine zaj ?_ _)); refine zdl (cs := #[.int .i64 0, .slice none 0 0, .slice none 0 0]) ?_ 1 _ rfl; (with_reducible repeat (first | refine zai ?_ _ | refine zao ?_ | refine zaj ?_ _)); refine zdl (cs := #[.int .i64 0, .slice none 0 0, .slice none 0 0]) ?_ 0 _ rfl; (with_reducible repeat (first | refine zai ?_ _ | refine zao ?_ | refine zaj ?_ _)); exact BK101.out) Try.underlying24 rfl (by kernel_rfl)) rfl ?_
   exact ⟨_, _, by first | rfl | (simp [zcd, zce] <;> rfl) | (simp [*, zcd, zce] <;> rfl), by first | exact Kd.R_nil _ _ _ _ _ | exact Kd.N_nil _ _ _ _ _ | exact Kd.V_nil _ _ _ _ _ | exact Kd.Q_nil _ _ _ _ _ | exact Kd.S_nil _ _ _ _ _, by first | exact Kd.R_nil _ _ _ _ _ | exact Kd.N_nil _ _ _ _ _ | exact Kd.V_nil _ _ _ _ _ | exact Kd.Q_nil _ _ _ _ _ | exact Kd.S_nil _ _ _ _ _, by repeat (first | (with_reducible first | exact HB.out | apply zah | apply zab | apply zaf | refine zag ?_ GE101.out) | exact HB.out)⟩
  ·rw [if_neg c5] at H
   have c5b0 : decide (1551 < (l0.length : Int)) = false := zcv c5
   have c5b1 : decide (1551 < l0.length) = false := zcv (by omega)
   clear c5
   by_cases c8 : 0 < (l0.length : Int)
   ·rw [if_pos c8] at H
    have c8b0 : decide (0 < (l0.length : Int)) = true := zbo c8
    have c8b1 : decide (0 < l0.length) = true := zbo (by omega)
    clear c8
    by_cases c9 : (rd l0 0) = 1
    ·rw [if_pos c9] at H
     have c9b0 : ((rd l0 0) == 1) = true := beq_iff_eq.mpr c9
     have c9b1 : ((rd l0 0) != 1) = false := zed.mpr c9
     clear c9
     by_cases c10 : 1 < (l0.length : Int)
     ·rw [if_pos c10] at H
      have c10b0 : decide (1 < (l0.length : Int)) = true := zbo c10
      have c10b1 : decide (1 < l0.length) = true := zbo (by omega)
      clear c10
      by_cases c11 : 2 < (l0.length : Int)
      ·rw [if_pos c11] at H
       have c11b0 : decide (2 < (l0.length : Int)) = true := zbo c11
       have c11b1 : decide (2 < l0.length) = true := zbo (by omega)
       clear c11
       obtain ⟨y105, hy105⟩ : ∃ y_ : List Int, y_ = (([] : List Int)) := ⟨_, rfl⟩
       replace H : (if 3 ≤ 35 then (if 35 ≤ (l0.length : Int) then (if y105.length + ((l0.take 35).drop 3).length < 140737488355328 then ((some (([] : List Int) : List Int)).bind fun y112 => (if y112.length + (l0.drop 35).length < 140737488355328 then (some (wrap64 ((wrap64 (256 * (wrap64 (rd l0 1)))) + (wrap64 (rd l0 2))), (y105 ++ ((l0.take 35).drop 3)), (y112 ++ (l0.drop 35)), true)) else (none))) else (none)) else (none)) else (none)) = some (r1, r2, r3, r4) := by first | (rw [hy105]; with_reducible first | exact H | exact bind_ofs H) | (with_reducible first | exact H | exact bind_ofs H) | (rw [hy105]; exact H) | exact H
       have Ny105 := Aside0.mk hy105
       clear hy105
       by_cases c12 : 3 ≤ 35
       ·rw [if_pos c12] at H
        have c12b0 := zcw c12
        have c12b1 : decide (3 ≤ 35) = true := zbo c12
        clear c12
        by_cases c13 : 35 ≤ (l0.length : Int)
        ·rw [if_pos c13] at H
         have c13b0 := zcw c13
         have c13b1 : decide (35 ≤ (l0.length : Int)) = true := zbo c13
         clear c13
         by_cases c14 : y105.length + ((l0.take 35).drop 3).length < 140737488355328
         ·rw [if_pos c14] at H
          have LMc14 := Aside0.mk c14
          clear c14
          obtain ⟨y109, hy109⟩ : ∃ y_ : List Int, y_ = (y105 ++ ((l0.take 35).drop 3)) := ⟨_, rfl⟩
          replace H : ((some (([] : List Int) : List Int)).bind fun y112 => (if y112.length + (l0.drop 35).length < 140737488355328 then (some (wrap64 ((wrap64 (256 * (wrap64 (rd l0 1)))) + (wrap64 (rd l0 2))), y109, (y112 ++ (l0.drop 35)), true)) else (none))) = some (r1, r2, r3, r4) := by first | (rw [hy109]; with_reducible first | exact H | exact bind_ofs H) | (with_reducible first | exact H | exact bind_ofs H) | (rw [hy109]; exact H) | exact H
          have Ny109 := Aside0.mk hy109
          clear hy109
          obtain ⟨y112, hy112⟩ : ∃ y_ : List Int, y_ = (([] : List Int)) := ⟨_, rfl⟩
          replace H : (if y112.length + (l0.drop 35).length < 140737488355328 then (some (wrap64 ((wrap64 (256 * (wrap64 (rd l0 1)))) + (wrap64 (rd l0 2))), y109, (y112 ++ (l0.drop 35)), true)) else (none)) = some (r1, r2, r3, r4) := by first | (rw [hy112]; with_reducible first | exact H | exact bind_ofs H) | (with_reducible first | exact H | exact bind_ofs H) | (rw [hy112]; exact H) | exact H
          have Ny112 := Aside0.mk hy112
          clear hy112
          have c15b0 := zcw (zbj (by first | (with_reducible assumption) | assumption) : 35 ≤ (l0.length : Int))
          by_cases c16 : y112.length + (l0.drop 35).length < 140737488355328
          ·rw [if_pos c16] at H
           have LMc16 := Aside0.mk c16
           clear c16
           obtain ⟨y116, hy116⟩ : ∃ y_ : List Int, y_ = (y112 ++ (l0.drop 35)) := ⟨_, rfl⟩
           replace H : (some (wrap64 ((wrap64 (256 * (wrap64 (rd l0 1)))) + (wrap64 (rd l0 2))), y109, y116, true)) = some (r1, r2, r3, r4) := by first | (rw [hy116]; with_reducible first | exact H | exact bind_ofs H) | (with_reducible first | exact H | exact bind_ofs H) | (rw [hy116]; exact H) | exact H
           have Ny116 := Aside0.mk hy116
           clear hy116
           simp only [zdp, zeg] at H
           obtain ⟨rfl, rfl, rfl, rfl⟩ := H
           go_enter Try.func9, Try.ntmps9
           try go_wp2_with (first | ((with_reducible refine zef (N := 2) rfl ?_); (try (refine gate_guard (by rfl) ?_; dsimp only)); refine zdw ?hg (N := 2) ?hd (cs := #[.int .i64 0, .slice none 0 0, .slice none 0 0]) (t := 24) ?hr ?_; (case hd => rfl); (case hg => rfl); (case hr => first | (go_simp; done) | (go_simp; rfl)); intro gb101 hg w17 hbox hb; have n0_ := Aside0.mk (zbh (by repeat (first | (with_reducible first | exact HB.out | apply zah | apply zab | apply zaf) | exact HB.out)) hb); have n1_ := Aside0.mk (hbox); have n2_ := Aside0.mk ((by rw [hg]; exact (zat (by repeat (first | (with_reducible first | exact HB.out | apply zah | apply zab | apply zaf) | exact HB.out))) : w.heap.size ≤ gb101)); have n3_ := Aside0.mk ((by rw [hg]; exact (zat (by repeat (first | (with_reducible first | exact HB.out | apply zah | apply zab | apply zaf) | exact HB.out))) : w.heap.size ≤ gb101)); clear HB; have HB := n0_; have BK101 := n1_; have GW101 := n2_; have GE101 := n3_; clear n0_ n1_ n2_ n3_; clear hb hbox hg; have p102 : 0 ≤ (0 : Int) := (by omega); have q102 : 0 < (l0.length : Int) := zbj (by first | (with_reducible assumption) | assumption); obtain ⟨ad102, e102, hx102_0⟩ := zek HR0.out 0 p102 q102; cases e102; have qi102 : (0 < l0.length) = True := zcw (by omega); (try rw [show ((0 : Int)).toNat = 0 from rfl] at hx102_0); (try rw [Addr.add_zero'] at hx102_0); replace hx102_0 := (HB.out.cell (World.block_lt_of_cell? w _ hx102_0)).trans hx102_0; replace p102 := zcw p102; replace q102 := zcw q102))
           have n0_ := Aside0.mk (zao BK101.out)
           have n1_ := Aside0.mk (zaf HB.out)
           clear BK101
           clear HB
           have BK101 := n0_
           have HB := n1_
           clear n0_ n1_
           have p103 : 0 ≤ (1 : Int) := (by omega)
           have q103 : 1 < (l0.length : Int) := zbj (by first | (with_reducible assumption) | assumption)
           obtain ⟨ad103, e103, hx103_0⟩ := zek HR0.out 1 p103 q103
           have hw103_0 := hx103_0
           (try rw [show ((1 : Int)).toNat = 1 from rfl] at hw103_0)
           (try rw [show 1 * 1 = 1 from rfl] at hw103_0)
           (try simp only [Nat.reduceMul, Nat.reduceEqDiff, Go.Addr.add, ↓reduceIte] at hw103_0)
           obtain rfl : ad102 = ad103 := (by injection e103)
           (try simp only [show (1 : Int).toNat = 1 from rfl, Nat.reduceMul, Nat.reduceEqDiff, Go.Addr.add, ↓reduceIte] at hx103_0)
           have qi103 : (1 < l0.length) = True := zcw (by omega)
           (try rw [show ((1 : Int)).toNat = 1 from rfl] at hx103_0)
           replace hx103_0 := (HB.out.cell (World.block_lt_of_cell? w _ hx103_0)).trans hx103_0
           replace p103 := zcw p103
           replace q103 := zcw q103
           have p104 : 0 ≤ (2 : Int) := (by omega)
           have q104 : 2 < (l0.length : Int) := zbj (by first | (with_reducible assumption) | assumption)
           obtain ⟨ad104, e104, hx104_0⟩ := zek HR0.out 2 p104 q104
           have hw104_0 := hx104_0
           (try rw [show ((2 : Int)).toNat = 2 from rfl] at hw104_0)
           (try rw [show 2 * 1 = 2 from rfl] at hw104_0)
           (try simp only [Nat.reduceMul, Nat.reduceEqDiff, Go.Addr.add, ↓reduceIte] at hw104_0)
           obtain rfl : ad102 = ad104 := (by injection e104)
           (try simp only [show (2 : Int).toNat = 2 from rfl, Nat.reduceMul, Nat.reduceEqDiff, Go.Addr.add, ↓reduceIte] at hx104_0)
           have qi104 : (2 < l0.length) = True := zcw (by omega)
           (try rw [show ((2 : Int)).toNat = 2 from rfl] at hx104_0)
           replace hx104_0 := (HB.out.cell (World.block_lt_of_cell? w _ hx104_0)).trans hx104_0
           replace p104 := zcw p104
           replace q104 := zcw q104
           obtain ⟨i019, hi019, _, hsz19, _⟩ := info_parts info5
           obtain ⟨A19, hcut19, hA19, hC19⟩ := print_mid_of (P := Try.prog) (Value.int .u8) 0 22 5 .i64 .i64 Try.underlying22 hi019 hsz19 (some ad102) c0 l0 3 35 (by omega) (by first | omega | exact zbj (by first | (with_reducible assumption) | assumption)) (zbj (by first | (with_reducible assumption) | assumption)) HC0.out
           have HR108 := Aside0.mk (Kd.C_of_reads (h1 := fun _ => rfl) (hA19 _ (Kd.reads_of_C HR0.out)))
           have HC108 := Aside0.mk hC19
           clear hA19 hC19 hi019 hsz19
           obtain ⟨i020, hi020, _, hsz20, _⟩ := info_parts info5
           obtain ⟨A20, hcut20, hA20, hC20⟩ := print_drop_of (P := Try.prog) (Value.int .u8) 0 22 5 .i64 Try.underlying22 hi020 hsz20 (some ad102) c0 l0 35 (by omega) (zbj (by first | (with_reducible assumption) | assumption)) HC0.out
           have HR115 := Aside0.mk (Kd.C_of_reads (h1 := fun _ => rfl) (hA20 _ (Kd.reads_of_C HR0.out)))
           have HC115 := Aside0.mk hC20
           clear hA20 hC20 hi020 hsz20
           refine start_ (n := 21) (S := fun w' => w'.cell? ⟨ad102.block, ad102.off + 1, none⟩ = some (.int .u8 (rd l0 1)) ∧ w'.cell? ⟨ad102.block, ad102.off + 2, none⟩ = some (.int .u8 (rd l0 2))) (ds := []) #[false, false, false, false, false, false, false, false, false, false, false, false, false, false, false, false, false, false, false, false, false] (by kernel_rfl) rfl rfl ⟨((HB.out.cell (World.block_lt_of_cell? w _ hw103_0)).trans hw103_0), ((HB.out.cell (World.block_lt_of_cell? w _ hw104_0)).trans hw104_0)⟩ (fun hHeld => ?_); refine with_tabW spec_LetterOf.tab3 spec_LetterOf.bits3 (fun HT_ HW_ => ?_)
           generalize w17.drew = w18 at BK101 HB HR108 HR115 hx103_0 hx104_0 hHeld ⊢
           refine pure_ (i := 0) (N := some 19) (v := ?_) (a' := ?_) #[true, false, false, false, false, false, false, false, false, false, false, false, false, false, false, false, false, false, false, false, false] rfl rfl (any_of HT_.out (by kernel_rfl)) (fun _ _ _ h => h) (Or.inl ⟨by rfl, ?_⟩) ?_ ?_
           rotate_left
           ·intro w'
            go_simp
            with_reducible rfl
           rotate_left
           ·simp only [Act.put, zaa, zac, zad, i64_w, i32_w]
            rfl
           refine pure_ (i := 1) (N := some 20) (v := ?_) (a' := ?_) #[true, true, false, false, false, false, false, false, false, false, false, false, false, false, false, false, false, false, false, false, false] rfl rfl (any_of HT_.out (by kernel_rfl)) (fun _ _ _ h => h) (Or.inl ⟨by rfl, ?_⟩) ?_ ?_
           rotate_left
           ·intro w'
            go_simp
            with_reducible rfl
           rotate_left
           ·simp only [Act.put, zaa, zac, zad, i64_w, i32_w]
            rfl
           refine pure_ (i := 5) (N := some 24) (v := ?_) (a' := ?_) #[true, true, false, false, false, true, false, false, false, false, false, false, false, false, false, false, false, false, false, false, false] rfl rfl (any_of HT_.out (by kernel_rfl)) (fun _ _ _ h => h) (Or.inl ⟨by rfl, ?_⟩) ?_ ?_
           rotate_left
           ·intro w'
            go_simp
            with_reducible rfl
           rotate_left
           ·simp only [Act.put, zaa, zac, zad, i64_w, i32_w]
            rfl
           refine pure_ (i := 6) (N := some 25) (v := ?_) (a' := ?_) #[true, true, false, false, false, true, true, false, false, false, false, false, false, false, false, false, false, false, false, false, false] rfl rfl (any_of HT_.out (by kernel_rfl)) (fun _ _ _ h => h) (Or.inl ⟨by rfl, ?_⟩) ?_ ?_
           rotate_left
           ·intro w'
            go_simp
            with_reducible rfl
           rotate_left
           ·simp only [Act.put, zaa, zac, zad, i64_w, i32_w]
            rfl
           refine pure_ (i := 11) (N := some 30) (v := ?_) (a' := ?_) #[true, true, false, false, false, true, true, false, false, false, false, true, false, false, false, false, false, false, false, false, false] rfl rfl (any_of HT_.out (by kernel_rfl)) (fun _ _ _ h => h) (Or.inl ⟨by rfl, ?_⟩) ?_ ?_
           rotate_left
           ·intro w'
            go_simp
            with_reducible rfl
           rotate_left
           ·simp only [Act.put, zaa, zac, zad, i64_w, i32_w]
            rfl
           refine pure_ (i := 12) (N := some 31) (v := ?_) (a' := ?_) #[true, true, false, false, false, true, true, false, false, false, false, true, true, false, false, false, false, false, false, false, false] rfl rfl (any_of HT_.out (by kernel_rfl)) (fun _ _ _ h => h) (Or.inl ⟨by rfl, ?_⟩) ?_ ?_
           rotate_left
           ·intro w'
            go_simp
            with_reducible rfl
           rotate_left
           ·simp only [Act.put, zaa, zac, zad, i64_w, i32_w]
            rfl
           refine pure_ (i := 15) (N := some 34) (v := ?_) (a' := ?_) #[true, true, false, false, false, true, true, false, false, false, false, true, true, false, false, true, false, false, false, false, false] rfl rfl (any_of HT_.out (by kernel_rfl)) (fun _ _ _ h => h) (Or.inl ⟨by rfl, ?_⟩) ?_ ?_
           rotate_left
           ·intro w'
            go_simp
            with_reducible rfl
           rotate_left
           ·simp only [Act.put, zaa, zac, zad, i64_w, i32_w]
            rfl
           refine pure_ (i := 16) (N := some 35) (v := ?_) (a' := ?_) #[true, true, false, false, false, true, true, false, false, false, false, true, true, false, false, true, true, false, false, false, false] rfl rfl (any_of HT_.out (by kernel_rfl)) (fun _ _ _ h => h) (Or.inl ⟨by rfl, ?_⟩) ?_ ?_
           rotate_left
           ·intro w'
            go_simp
            with_reducible rfl
           rotate_left
           ·simp only [Act.put, zaa, zac, zad, i64_w, i32_w]
            rfl
           refine take_ (i := 2) (N := some 21) (v := ?_) (a' := ?_) #[true, true, true, false, false, true, true, false, false, false, false, true, true, false, false, true, true, false, false, false, false] rfl rfl (take_ofW HT_.out HW_.out (by kernel_rfl)) (fun _ _ _ h => h) (Or.inl ⟨by rfl, ?_⟩) hHeld ?_ ?_
           rotate_left
           ·rintro w' ⟨s0, s1⟩
            go_simp
            with_reducible rfl
           rotate_left
           ·simp only [Act.put, zaa, zac, zad, i64_w, i32_w]
            rfl
           refine pure_ (i := 3) (N := some 22) (v := ?_) (a' := ?_) #[true, true, true, true, false, true, true, false, false, false, false, true, true, false, false, true, true, false, false, false, false] rfl rfl (any_of HT_.out (by kernel_rfl)) (fun _ _ _ h => h) (Or.inl ⟨by rfl, ?_⟩) ?_ ?_
           rotate_left
           ·intro w'
            go_simp
            with_reducible rfl
           rotate_left
           ·simp only [Act.put, zaa, zac, zad, i64_w, i32_w]
            rfl
           refine pure_ (i := 4) (N := some 23) (v := ?_) (a' := ?_) #[true, true, true, true, true, true, true, false, false, false, false, true, true, false, false, true, true, false, false, false, false] rfl rfl (any_of HT_.out (by kernel_rfl)) (fun _ _ _ h => h) (Or.inl ⟨by rfl, ?_⟩) ?_ ?_
           rotate_left
           ·intro w'
            go_simp
            with_reducible rfl
           rotate_left
           ·simp only [Act.put, zaa, zac, zad, i64_w, i32_w]
            rfl
           refine take_ (i := 7) (N := some 26) (v := ?_) (a' := ?_) #[true, true, true, true, true, true, true, true, false, false, false, true, true, false, false, true, true, false, false, false, false] rfl rfl (take_ofW HT_.out HW_.out (by kernel_rfl)) (fun _ _ _ h => h) (Or.inl ⟨by rfl, ?_⟩) hHeld ?_ ?_
           rotate_left
           ·rintro w' ⟨s0, s1⟩
            go_simp
            with_reducible rfl
           rotate_left
           ·simp only [Act.put, zaa, zac, zad, i64_w, i32_w]
            rfl
           refine pure_ (i := 8) (N := some 27) (v := ?_) (a' := ?_) #[true, true, true, true, true, true, true, true, true, false, false, true, true, false, false, true, true, false, false, false, false] rfl rfl (any_of HT_.out (by kernel_rfl)) (fun _ _ _ h => h) (Or.inl ⟨by rfl, ?_⟩) ?_ ?_
           rotate_left
           ·intro w'
            go_simp
            with_reducible rfl
           rotate_left
           ·simp only [Act.put, zaa, zac, zad, i64_w, i32_w]
            rfl
           refine pure_ (i := 9) (N := some 28) (v := ?_) (a' := ?_) #[true, true, true, true, true, true, true, true, true, true, false, true, true, false, false, true, true, false, false, false, false] rfl rfl (any_of HT_.out (by kernel_rfl)) (fun _ _ _ h => h) (Or.inl ⟨by rfl, ?_⟩) ?_ ?_
           rotate_left
           ·intro w'
            go_simp
            with_reducible rfl
           rotate_left
           ·simp only [Act.put, zaa, zac, zad, i64_w, i32_w]
            rfl
           refine join_ (σ := Value × Value × Value) 4 #[true, true, true, true, true, true, true, true, true, true, true, true, true, true, true, true, true, false, false, false, false] (fun s_ => [(29, s_.1), (32, s_.2.1), (33, s_.2.2)]) (fun s_ w' => (w'.cell? ⟨ad102.block, ad102.off + 1, none⟩ = some (.int .u8 (rd l0 1)) ∧ w'.cell? ⟨ad102.block, ad102.off + 2, none⟩ = some (.int .u8 (rd l0 2))) ∧ (Kd.R (Kd.int .u8) 5 w' w.heap.size (fun k_ => some k_ ≠ (s_.2.2 : Value).ownBlock) s_.2.1 y109) ∧ (Kd.R (Kd.int .u8) 5 w' w.heap.size (fun k_ => some k_ ≠ (s_.2.1 : Value).ownBlock) s_.2.2 y112) ∧ (w'.heap[gb101]? = some (.cells #[.int .i64 0, .slice none 0 0, .slice none 0 0] 24 (0, 0))) ∧ (Below w.heap.size w w')) ?_ ?_
           rotate_left
           ·intro hCont
            refine two_ (i := 10) (j := 14) (Ni := some 29) (Nj := some 33) #[true, true, true, true, true, true, true, true, true, true, true, true, true, false, false, true, true, false, false, false, false] #[true, true, true, true, true, true, true, true, true, true, false, true, true, false, true, true, true, false, false, false, false] rfl rfl rfl rfl (two_of HT_.out (by kernel_rfl)) (by decide) (by decide) (fun K hK => ?_) (fun K hK => ?_)
            ·skip
             refine Kd.R_lit_step (Kd.int .u8) _ 5 ?hg (N := 29) ?hd (xs := ([] : List Int)) (inner := []) (ok := fun _ => True) (okp := fun _ => True) ?hr ?hp (fun _ hk => hk) trivial (zcq _ _) (zbq _) (by simp) ?_; (case hd => rfl); (case hg => rfl); (case hr => first | (go_simp; done) | (go_simp; rfl)); (case hp => exact (zds _ _))
             intro v106 w21 ho22 hb hg_ hnew_
             clear hg_ hnew_
             (first | rw [← Ny105.out] at ho22 | (simp only [Int.reduceToNat] at ho22; rw [← Ny105.out] at ho22))
             have n0_ := Aside0.mk (zdd ho22 (zat (by repeat (first | (with_reducible first | exact HB.out | apply zah | apply zab | apply zaf | refine zag ?_ GE101.out) | exact HB.out))))
             have n1_ := Aside0.mk (zbf (g := gb101) (o := .cells #[.int .i64 0, .slice none 0 0, .slice none 0 0] 24 (0, 0)) (by (with_reducible repeat (first | refine zai ?_ _ | refine zao ?_ | refine zaj ?_ _)); exact BK101.out) hb)
             have n2_ := Aside0.mk (zbh (by repeat (first | (with_reducible first | exact HB.out | apply zah | apply zab | apply zaf | refine zag ?_ GE101.out) | exact HB.out)) hb)
             clear BK101
             clear HB
             have HO107 := n0_
             have BK101 := n1_
             have HB := n2_
             clear n0_ n1_ n2_
             clear hb ho22
             refine hK.out _ _ ⟨((HB.out.cell (World.block_lt_of_cell? w _ hw103_0)).trans hw103_0), ((HB.out.cell (World.block_lt_of_cell? w _ hw104_0)).trans hw104_0)⟩ (fun hHeld => ?_)
             clear hK K
             refine norm_ (a' := ?_) ?_ ?_
             rotate_left
             ·show Act.put _ (some 29) _ = _
              simp only [Act.put, zaa, zac, zad, i64_w, i32_w]
              rfl
             refine two_ (i := 13) (j := 14) (Ni := some 32) (Nj := some 33) #[true, true, true, true, true, true, true, true, true, true, true, true, true, true, false, true, true, false, false, false, false] #[true, true, true, true, true, true, true, true, true, true, true, true, true, false, true, true, true, false, false, false, false] rfl rfl rfl rfl (two_of HT_.out (by kernel_rfl)) (by decide) (by decide) (fun K hK => ?_) (fun K hK => ?_)
             ·skip
              refine Kd.R_append_rows_step (Kd.int .u8) (w0 := w) w.heap.size (by rfl) (.tmp 29) (.tmp 31) 22 5 (.int .u8 0) 1 rfl Try.underlying22 info5 rfl (by decide) (by omega) v106 y105 ((l0.take 35).drop 3) _ _ _ (fun _ => True) (fun _ => False) rfl rfl ?aO ?aR (fun _ _ h => h) (fun _ h => h.elim) ?aF ?aB ?aS ?aL ?_
              (case aR => first | (rw [← show ((l0.take 35).drop 3).length = (35 - 3) from (by rw [zbn, zbr]; have h_ : (35 : Int) ≤ (l0.length : Int) := zbj (by first | (with_reducible assumption) | assumption); omega)]; repeat (first | exact (zde HR108.out HB.out) | (with_reducible refine zbu ?_ _) | (with_reducible refine zbv ?_ _) | (with_reducible refine zca ?_))) | (rw [show (min 35 l0.length - 3) = ((l0.take 35).drop 3).length from (by rw [zbn, zbr])]; repeat (first | exact (zde HR108.out HB.out) | (with_reducible refine zbu ?_ _) | (with_reducible refine zbv ?_ _) | (with_reducible refine zca ?_))) | (repeat (first | exact (zde HR108.out HB.out) | (with_reducible refine zbu ?_ _) | (with_reducible refine zbv ?_ _) | (with_reducible refine zca ?_))))
              (case aB => exact (by repeat (first | (with_reducible first | exact HB.out | apply zah | apply zab | apply zaf | refine zag ?_ GE101.out) | exact HB.out)))
              (case aF => exact (fun _ _ => trivial))
              (case aO => exact (by (with_reducible repeat (first | apply zam | apply zan | apply zaq)); exact HO107.out))
              (case aS => exact (zat (by repeat (first | (with_reducible first | exact HB.out | apply zah | apply zab | apply zaf | refine zag ?_ GE101.out) | exact HB.out))))
              (case aL => have := LMc14.out; have hlx_ := (show ((l0.take 35).drop 3).length = (35 - 3) from (by rw [zbn, zbr]; have h_ : (35 : Int) ≤ (l0.length : Int) := zbj (by first | (with_reducible assumption) | assumption); omega)); omega)
              intro v110 w23 ho hb hg hat
              rw [← Ny109.out] at ho
              have n0_ := Aside0.mk (blk_grown (g := gb101) (o := .cells #[.int .i64 0, .slice none 0 0, .slice none 0 0] 24 (0, 0)) (by (with_reducible repeat (first | refine zai ?_ _ | refine zao ?_ | refine zaj ?_ _)); exact BK101.out) hg (Kd.R_ne HO107.out BK101.out (by decide)))
              have n1_ := Aside0.mk (hb)
              have n2_ := Aside0.mk (ho)
              clear BK101
              clear HB
              clear HO107
              have BK101 := n0_
              have HB := n1_
              have HO111 := n2_
              clear n0_ n1_ n2_
              clear ho hb hg hat
              refine hK.out _ _ ⟨((HB.out.cell (World.block_lt_of_cell? w _ hw103_0)).trans hw103_0), ((HB.out.cell (World.block_lt_of_cell? w _ hw104_0)).trans hw104_0)⟩ (fun hHeld => ?_)
              clear hK K
              refine norm_ (a' := ?_) ?_ ?_
              rotate_left
              ·show Act.put _ (some 32) _ = _
               simp only [Act.put, zaa, zac, zad, i64_w, i32_w]
               rfl
              refine one_ (i := 14) (N := some 33) #[true, true, true, true, true, true, true, true, true, true, true, true, true, true, true, true, true, false, false, false, false] rfl rfl (one_of HT_.out (by kernel_rfl)) (by decide) (fun K hK => ?_)
              refine Kd.R_lit_step (Kd.int .u8) _ 5 ?hg (N := 33) ?hd (xs := ([] : List Int)) (inner := []) (ok := fun _ => True) (okp := fun _ => True) ?hr ?hp (fun _ hk => hk) trivial (zcq _ _) (zbq _) (by simp) ?_; (case hd => rfl); (case hg => rfl); (case hr => first | (go_simp; done) | (go_simp; rfl)); (case hp => exact (zds _ _))
              intro v113 w24 ho25 hb hg_ hnew_
              clear hg_ hnew_
              (first | rw [← Ny112.out] at ho25 | (simp only [Int.reduceToNat] at ho25; rw [← Ny112.out] at ho25))
              have n0_ := Aside0.mk (zdh (by (with_reducible repeat (first | apply zam | apply zan | apply zaq)); exact HO111.out) (zbl ho25) hb)
              have n1_ := Aside0.mk (zdd (zcr ho25 (zdf (by (with_reducible repeat (first | apply zam | apply zan | apply zaq)); exact HO111.out))) (zat (by repeat (first | (with_reducible first | exact HB.out | apply zah | apply zab | apply zaf | refine zag ?_ GE101.out) | exact HB.out))))
              have n2_ := Aside0.mk (zbf (g := gb101) (o := .cells #[.int .i64 0, .slice none 0 0, .slice none 0 0] 24 (0, 0)) (by (with_reducible repeat (first | refine zai ?_ _ | refine zao ?_ | refine zaj ?_ _)); exact BK101.out) hb)
              have n3_ := Aside0.mk (zbh (by repeat (first | (with_reducible first | exact HB.out | apply zah | apply zab | apply zaf | refine zag ?_ GE101.out) | exact HB.out)) hb)
              clear HO111
              clear BK101
              clear HB
              have HO111 := n0_
              have HO114 := n1_
              have BK101 := n2_
              have HB := n3_
              clear n0_ n1_ n2_ n3_
              clear hb ho25
              refine hK.out _ _ ⟨((HB.out.cell (World.block_lt_of_cell? w _ hw103_0)).trans hw103_0), ((HB.out.cell (World.block_lt_of_cell? w _ hw104_0)).trans hw104_0)⟩ (fun hHeld => ?_)
              clear hK K
              refine norm_ (a' := ?_) ?_ ?_
              rotate_left
              ·show Act.put _ (some 33) _ = _
               simp only [Act.put, zaa, zac, zad, i64_w, i32_w]
               rfl
              exact norm_ (by simp only [putAll, Act.put, zaa, zac, zad]) (hCont (v106, v110, v113) _ ⟨hHeld, (by (with_reducible repeat (first | apply zam | apply zan | apply zaq)); exact zaz HO111.out (fun _ hk => hk.2)), (by (with_reducible repeat (first | apply zam | apply zan | apply zaq)); exact zaz HO114.out (fun _ hk => hk.2)), (by (with_reducible repeat (first | refine zai ?_ _ | refine zao ?_ | refine zaj ?_ _)); exact BK101.out), (by repeat (first | (with_reducible first | exact HB.out | apply zah | apply zab | apply zaf | refine zag ?_ GE101.out) | exact HB.out))⟩)
             ·skip
              refine Kd.R_lit_step (Kd.int .u8) _ 5 ?hg (N := 33) ?hd (xs := ([] : List Int)) (inner := []) (ok := fun _ => True) (okp := fun _ => True) ?hr ?hp (fun _ hk => hk) trivial (zcq _ _) (zbq _) (by simp) ?_; (case hd => rfl); (case hg => rfl); (case hr => first | (go_simp; done) | (go_simp; rfl)); (case hp => exact (zds _ _))
              intro v113 w23 ho24 hb hg_ hnew_
              clear hg_ hnew_
              (first | rw [← Ny112.out] at ho24 | (simp only [Int.reduceToNat] at ho24; rw [← Ny112.out] at ho24))
              have n0_ := Aside0.mk (zdh (by (with_reducible repeat (first | apply zam | apply zan | apply zaq)); exact HO107.out) (zbl ho24) hb)
              have n1_ := Aside0.mk (zdd (zcr ho24 (zdf (by (with_reducible repeat (first | apply zam | apply zan | apply zaq)); exact HO107.out))) (zat (by repeat (first | (with_reducible first | exact HB.out | apply zah | apply zab | apply zaf | refine zag ?_ GE101.out) | exact HB.out))))
              have n2_ := Aside0.mk (zbf (g := gb101) (o := .cells #[.int .i64 0, .slice none 0 0, .slice none 0 0] 24 (0, 0)) (by (with_reducible repeat (first | refine zai ?_ _ | refine zao ?_ | refine zaj ?_ _)); exact BK101.out) hb)
              have n3_ := Aside0.mk (zbh (by repeat (first | (with_reducible first | exact HB.out | apply zah | apply zab | apply zaf | refine zag ?_ GE101.out) | exact HB.out)) hb)
              clear HO107
              clear BK101
              clear HB
              have HO107 := n0_
              have HO114 := n1_
              have BK101 := n2_
              have HB := n3_
              clear n0_ n1_ n2_ n3_
              clear hb ho24
              refine hK.out _ _ ⟨((HB.out.cell (World.block_lt_of_cell? w _ hw103_0)).trans hw103_0), ((HB.out.cell (World.block_lt_of_cell? w _ hw104_0)).trans hw104_0)⟩ (fun hHeld => ?_)
              clear hK K
              refine norm_ (a' := ?_) ?_ ?_
              rotate_left
              ·show Act.put _ (some 33) _ = _
               simp only [Act.put, zaa, zac, zad, i64_w, i32_w]
               rfl
              refine one_ (i := 13) (N := some 32) #[true, true, true, true, true, true, true, true, true, true, true, true, true, true, true, true, true, false, false, false, false] rfl rfl (one_of HT_.out (by kernel_rfl)) (by decide) (fun K hK => ?_)
              refine Kd.R_append_rows_step (Kd.int .u8) (w0 := w) w.heap.size (by rfl) (.tmp 29) (.tmp 31) 22 5 (.int .u8 0) 1 rfl Try.underlying22 info5 rfl (by decide) (by omega) v106 y105 ((l0.take 35).drop 3) _ _ _ (fun k_ => some k_ ≠ (v113 : Value).ownBlock) (fun _ => False) rfl rfl ?aO ?aR (fun _ _ h => h) (fun _ h => h.elim) ?aF ?aB ?aS ?aL ?_
              (case aR => first | (rw [← show ((l0.take 35).drop 3).length = (35 - 3) from (by rw [zbn, zbr]; have h_ : (35 : Int) ≤ (l0.length : Int) := zbj (by first | (with_reducible assumption) | assumption); omega)]; repeat (first | exact (zde HR108.out HB.out) | (with_reducible refine zbu ?_ _) | (with_reducible refine zbv ?_ _) | (with_reducible refine zca ?_))) | (rw [show (min 35 l0.length - 3) = ((l0.take 35).drop 3).length from (by rw [zbn, zbr])]; repeat (first | exact (zde HR108.out HB.out) | (with_reducible refine zbu ?_ _) | (with_reducible refine zbv ?_ _) | (with_reducible refine zca ?_))) | (repeat (first | exact (zde HR108.out HB.out) | (with_reducible refine zbu ?_ _) | (with_reducible refine zbv ?_ _) | (with_reducible refine zca ?_))))
              (case aB => exact (by repeat (first | (with_reducible first | exact HB.out | apply zah | apply zab | apply zaf | refine zag ?_ GE101.out) | exact HB.out)))
              (case aF => exact (fun k_ hk => zel (zdf (by (with_reducible repeat (first | apply zam | apply zan | apply zaq)); exact HO114.out)) k_ hk))
              (case aO => exact (by (with_reducible repeat (first | apply zam | apply zan | apply zaq)); exact zaz HO107.out (fun _ hk => hk.2)))
              (case aS => exact (zat (by repeat (first | (with_reducible first | exact HB.out | apply zah | apply zab | apply zaf | refine zag ?_ GE101.out) | exact HB.out))))
              (case aL => have := LMc14.out; have hlx_ := (show ((l0.take 35).drop 3).length = (35 - 3) from (by rw [zbn, zbr]; have h_ : (35 : Int) ≤ (l0.length : Int) := zbj (by first | (with_reducible assumption) | assumption); omega)); omega)
              intro v110 w25 ho hb hg hat
              rw [← Ny109.out] at ho
              have n0_ := Aside0.mk (blk_grown (g := gb101) (o := .cells #[.int .i64 0, .slice none 0 0, .slice none 0 0] 24 (0, 0)) (by (with_reducible repeat (first | refine zai ?_ _ | refine zao ?_ | refine zaj ?_ _)); exact BK101.out) hg (Kd.R_ne HO107.out BK101.out (by decide)))
              have n1_ := Aside0.mk (Kd.R_after (ok := (fun _ => True)) (by (with_reducible repeat (first | apply zam | apply zan | apply zaq)); exact HO114.out) hg hat)
              have n2_ := Aside0.mk (hb)
              have n3_ := Aside0.mk (ho)
              clear BK101
              clear HO114
              clear HB
              clear HO107
              have BK101 := n0_
              have HO114 := n1_
              have HB := n2_
              have HO111 := n3_
              clear n0_ n1_ n2_ n3_
              clear ho hb hg hat
              refine hK.out _ _ ⟨((HB.out.cell (World.block_lt_of_cell? w _ hw103_0)).trans hw103_0), ((HB.out.cell (World.block_lt_of_cell? w _ hw104_0)).trans hw104_0)⟩ (fun hHeld => ?_)
              clear hK K
              refine norm_ (a' := ?_) ?_ ?_
              rotate_left
              ·show Act.put _ (some 32) _ = _
               simp only [Act.put, zaa, zac, zad, i64_w, i32_w]
               rfl
              exact norm_ (by simp only [putAll, Act.put, zaa, zac, zad]) (hCont (v106, v110, v113) _ ⟨hHeld, (by (with_reducible repeat (first | apply zam | apply zan | apply zaq)); exact HO111.out), (by (with_reducible repeat (first | apply zam | apply zan | apply zaq)); exact zaz HO114.out (fun _ hk => hk.2)), (by (with_reducible repeat (first | refine zai ?_ _ | refine zao ?_ | refine zaj ?_ _)); exact BK101.out), (by repeat (first | (with_reducible first | exact HB.out | apply zah | apply zab | apply zaf | refine zag ?_ GE101.out) | exact HB.out))⟩)
            ·skip
             refine Kd.R_lit_step (Kd.int .u8) _ 5 ?hg (N := 33) ?hd (xs := ([] : List Int)) (inner := []) (ok := fun _ => True) (okp := fun _ => True) ?hr ?hp (fun _ hk => hk) trivial (zcq _ _) (zbq _) (by simp) ?_; (case hd => rfl); (case hg => rfl); (case hr => first | (go_simp; done) | (go_simp; rfl)); (case hp => exact (zds _ _))
             intro v113 w21 ho22 hb hg_ hnew_
             clear hg_ hnew_
             (first | rw [← Ny112.out] at ho22 | (simp only [Int.reduceToNat] at ho22; rw [← Ny112.out] at ho22))
             have n0_ := Aside0.mk (zdd ho22 (zat (by repeat (first | (with_reducible first | exact HB.out | apply zah | apply zab | apply zaf | refine zag ?_ GE101.out) | exact HB.out))))
             have n1_ := Aside0.mk (zbf (g := gb101) (o := .cells #[.int .i64 0, .slice none 0 0, .slice none 0 0] 24 (0, 0)) (by (with_reducible repeat (first | refine zai ?_ _ | refine zao ?_ | refine zaj ?_ _)); exact BK101.out) hb)
             have n2_ := Aside0.mk (zbh (by repeat (first | (with_reducible first | exact HB.out | apply zah | apply zab | apply zaf | refine zag ?_ GE101.out) | exact HB.out)) hb)
             clear BK101
             clear HB
             have HO114 := n0_
             have BK101 := n1_
             have HB := n2_
             clear n0_ n1_ n2_
             clear hb ho22
             refine hK.out _ _ ⟨((HB.out.cell (World.block_lt_of_cell? w _ hw103_0)).trans hw103_0), ((HB.out.cell (World.block_lt_of_cell? w _ hw104_0)).trans hw104_0)⟩ (fun hHeld => ?_)
             clear hK K
             refine norm_ (a' := ?_) ?_ ?_
             rotate_left
             ·show Act.put _ (some 33) _ = _
              simp only [Act.put, zaa, zac, zad, i64_w, i32_w]
              rfl
             refine one_ (i := 10) (N := some 29) #[true, true, true, true, true, true, true, true, true, true, true, true, true, false, true, true, true, false, false, false, false] rfl rfl (one_of HT_.out (by kernel_rfl)) (by decide) (fun K hK => ?_)
             refine Kd.R_lit_step (Kd.int .u8) _ 5 ?hg (N := 29) ?hd (xs := ([] : List Int)) (inner := []) (ok := fun _ => True) (okp := fun _ => True) ?hr ?hp (fun _ hk => hk) trivial (zcq _ _) (zbq _) (by simp) ?_; (case hd => rfl); (case hg => rfl); (case hr => first | (go_simp; done) | (go_simp; rfl)); (case hp => exact (zds _ _))
             intro v106 w23 ho24 hb hg_ hnew_
             clear hg_ hnew_
             (first | rw [← Ny105.out] at ho24 | (simp only [Int.reduceToNat] at ho24; rw [← Ny105.out] at ho24))
             have n0_ := Aside0.mk (zdh (by (with_reducible repeat (first | apply zam | apply zan | apply zaq)); exact HO114.out) (zbl ho24) hb)
             have n1_ := Aside0.mk (zdd (zcr ho24 (zdf (by (with_reducible repeat (first | apply zam | apply zan | apply zaq)); exact HO114.out))) (zat (by repeat (first | (with_reducible first | exact HB.out | apply zah | apply zab | apply zaf | refine zag ?_ GE101.out) | exact HB.out))))
             have n2_ := Aside0.mk (zbf (g := gb101) (o := .cells #[.int .i64 0, .slice none 0 0, .slice none 0 0] 24 (0, 0)) (by (with_reducible repeat (first | refine zai ?_ _ | refine zao ?_ | refine zaj ?_ _)); exact BK101.out) hb)
             have n3_ := Aside0.mk (zbh (by repeat (first | (with_reducible first | exact HB.out | apply zah | apply zab | apply zaf | refine zag ?_ GE101.out) | exact HB.out)) hb)
             clear HO114
             clear BK101
             clear HB
             have HO114 := n0_
             have HO107 := n1_
             have BK101 := n2_
             have HB := n3_
             clear n0_ n1_ n2_ n3_
             clear hb ho24
             refine hK.out _ _ ⟨((HB.out.cell (World.block_lt_of_cell? w _ hw103_0)).trans hw103_0), ((HB.out.cell (World.block_lt_of_cell? w _ hw104_0)).trans hw104_0)⟩ (fun hHeld => ?_)
             clear hK K
             refine norm_ (a' := ?_) ?_ ?_
             rotate_left
             ·show Act.put _ (some 29) _ = _
              simp only [Act.put, zaa, zac, zad, i64_w, i32_w]
              rfl
             refine one_ (i := 13) (N := some 32) #[true, true, true, true, true, true, true, true, true, true, true, true, true, true, true, true, true, false, false, false, false] rfl rfl (one_of HT_.out (by kernel_rfl)) (by decide) (fun K hK => ?_)
             refine Kd.R_append_rows_step (Kd.int .u8) (w0 := w) w.heap.size (by rfl) (.tmp 29) (.tmp 31) 22 5 (.int .u8 0) 1 rfl Try.underlying22 info5 rfl (by decide) (by omega) v106 y105 ((l0.take 35).drop 3) _ _ _ (fun k_ => some k_ ≠ (v113 : Value).ownBlock) (fun _ => False) rfl rfl ?aO ?aR (fun _ _ h => h) (fun _ h => h.elim) ?aF ?aB ?aS ?aL ?_
             (case aR => first | (rw [← show ((l0.take 35).drop 3).length = (35 - 3) from (by rw [zbn, zbr]; have h_ : (35 : Int) ≤ (l0.length : Int) := zbj (by first | (with_reducible assumption) | assumption); omega)]; repeat (first | exact (zde HR108.out HB.out) | (with_reducible refine zbu ?_ _) | (with_reducible refine zbv ?_ _) | (with_reducible refine zca ?_))) | (rw [show (min 35 l0.length - 3) = ((l0.take 35).drop 3).length from (by rw [zbn, zbr])]; repeat (first | exact (zde HR108.out HB.out) | (with_reducible refine zbu ?_ _) | (with_reducible refine zbv ?_ _) | (with_reducible refine zca ?_))) | (repeat (first | exact (zde HR108.out HB.out) | (with_reducible refine zbu ?_ _) | (with_reducible refine zbv ?_ _) | (with_reducible refine zca ?_))))
             (case aB => exact (by repeat (first | (with_reducible first | exact HB.out | apply zah | apply zab | apply zaf | refine zag ?_ GE101.out) | exact HB.out)))
             (case aF => exact (fun k_ hk => zel (zdf (by (with_reducible repeat (first | apply zam | apply zan | apply zaq)); exact HO114.out)) k_ hk))
             (case aO => exact (by (with_reducible repeat (first | apply zam | apply zan | apply zaq)); exact zaz HO107.out (fun _ hk => hk.2)))
             (case aS => exact (zat (by repeat (first | (with_reducible first | exact HB.out | apply zah | apply zab | apply zaf | refine zag ?_ GE101.out) | exact HB.out))))
             (case aL => have := LMc14.out; have hlx_ := (show ((l0.take 35).drop 3).length = (35 - 3) from (by rw [zbn, zbr]; have h_ : (35 : Int) ≤ (l0.length : Int) := zbj (by first | (with_reducible assumption) | assumption); omega)); omega)
             intro v110 w25 ho hb hg hat
             rw [← Ny109.out] at ho
             have n0_ := Aside0.mk (blk_grown (g := gb101) (o := .cells #[.int .i64 0, .slice none 0 0, .slice none 0 0] 24 (0, 0)) (by (with_reducible repeat (first | refine zai ?_ _ | refine zao ?_ | refine zaj ?_ _)); exact BK101.out) hg (Kd.R_ne HO107.out BK101.out (by decide)))
             have n1_ := Aside0.mk (Kd.R_after (ok := (fun _ => True)) (by (with_reducible repeat (first | apply zam | apply zan | apply zaq)); exact HO114.out) hg hat)
             have n2_ := Aside0.mk (hb)
             have n3_ := Aside0.mk (ho)
             clear BK101
             clear HO114
             clear HB
             clear HO107
             have BK101 := n0_
             have HO114 := n1_
             have HB := n2_
             have HO111 := n3_
             clear n0_ n1_ n2_ n3_
             clear ho hb hg hat
             refine hK.out _ _ ⟨((HB.out.cell (World.block_lt_of_cell? w _ hw103_0)).trans hw103_0), ((HB.out.cell (World.block_lt_of_cell? w _ hw104_0)).trans hw104_0)⟩ (fun hHeld => ?_)
             clear hK K
             refine norm_ (a' := ?_) ?_ ?_
             rotate_left
             ·show Act.put _ (some 32) _ = _
              simp only [Act.put, zaa, zac, zad, i64_w, i32_w]
              rfl
             exact norm_ (by simp only [putAll, Act.put, zaa, zac, zad]) (hCont (v106, v110, v113) _ ⟨hHeld, (by (with_reducible repeat (first | apply zam | apply zan | apply zaq)); exact HO111.out), (by (with_reducible repeat (first | apply zam | apply zan | apply zaq)); exact zaz HO114.out (fun _ hk => hk.2)), (by (with_reducible repeat (first | refine zai ?_ _ | refine zao ?_ | refine zaj ?_ _)); exact BK101.out), (by repeat (first | (with_reducible first | exact HB.out | apply zah | apply zab | apply zaf | refine zag ?_ GE101.out) | exact HB.out))⟩)
           rintro ⟨v106, v110, v113⟩ w26 ⟨hS_, h0_, h1_, h2_, h3_⟩
           have n0_ : Aside0 (Kd.R (Kd.int .u8) 5 w26 w.heap.size (fun k_ => some k_ ≠ (v113 : Value).ownBlock) v110 y109) := ⟨h0_⟩
           have n1_ : Aside0 (Kd.R (Kd.int .u8) 5 w26 w.heap.size (fun k_ => some k_ ≠ (v110 : Value).ownBlock) v113 y112) := ⟨h1_⟩
           have n2_ : Aside0 (w26.heap[gb101]? = some (.cells #[.int .i64 0, .slice none 0 0, .slice none 0 0] 24 (0, 0))) := ⟨h2_⟩
           have n3_ : Aside0 (Below w.heap.size w w26) := ⟨h3_⟩
           clear BK101
           clear HB
           clear h0_ h1_ h2_ h3_
           have HO111 := n0_
           have HO114 := n1_
           have BK101 := n2_
           have HB := n3_
           clear n0_ n1_ n2_ n3_
           have hHeld : w26.cell? ⟨ad102.block, ad102.off + 1, none⟩ = some (.int .u8 (rd l0 1)) ∧ w26.cell? ⟨ad102.block, ad102.off + 2, none⟩ = some (.int .u8 (rd l0 2)) := hS_
           refine norm_ (a' := ?_) ?_ ?_
           rotate_left
           ·simp only [putAll, Act.put, zaa, zac, zad]
            rfl
           refine one_ (i := 17) (N := some 36) #[true, true, true, true, true, true, true, true, true, true, true, true, true, true, true, true, true, true, false, false, false] rfl rfl (one_of HT_.out (by kernel_rfl)) (by decide) (fun K hK => ?_)
           refine Kd.R_append_rows_step (Kd.int .u8) (w0 := w) w.heap.size (by rfl) (.tmp 33) (.tmp 35) 22 5 (.int .u8 0) 1 rfl Try.underlying22 info5 rfl (by decide) (by omega) v113 y112 (l0.drop 35) _ _ _ (fun k_ => some k_ ≠ (v110 : Value).ownBlock) (fun _ => False) rfl rfl ?aO ?aR (fun _ _ h => h) (fun _ h => h.elim) ?aF ?aB ?aS ?aL ?_
           (case aR => first | (rw [← show (l0.drop 35).length = (l0.length - 35) from zbn]; repeat (first | exact (zde HR115.out HB.out) | (with_reducible refine zbu ?_ _) | (with_reducible refine zbv ?_ _) | (with_reducible refine zca ?_))) | (repeat (first | exact (zde HR115.out HB.out) | (with_reducible refine zbu ?_ _) | (with_reducible refine zbv ?_ _) | (with_reducible refine zca ?_))))
           (case aB => exact (by repeat (first | (with_reducible first | exact HB.out | apply zah | apply zab | apply zaf | refine zag ?_ GE101.out) | exact HB.out)))
           (case aF => exact (fun k_ hk => zel (zdf (by (with_reducible repeat (first | apply zam | apply zan | apply zaq)); exact HO111.out)) k_ hk))
           (case aO => exact (by (with_reducible repeat (first | apply zam | apply zan | apply zaq)); exact HO114.out))
           (case aS => exact (zat (by repeat (first | (with_reducible first | exact HB.out | apply zah | apply zab | apply zaf | refine zag ?_ GE101.out) | exact HB.out))))
           (case aL => have := LMc16.out; have hlx_ := (show (l0.drop 35).length = (l0.length - 35) from zbn); omega)
           intro v117 w27 ho hb hg hat
           rw [← Ny116.out] at ho
           have n0_ := Aside0.mk (blk_grown (g := gb101) (o := .cells #[.int .i64 0, .slice none 0 0, .slice none 0 0] 24 (0, 0)) (by (with_reducible repeat (first | refine zai ?_ _ | refine zao ?_ | refine zaj ?_ _)); exact BK101.out) hg (Kd.R_ne HO114.out BK101.out (by decide)))
           have n1_ := Aside0.mk (Kd.R_after (ok := (fun _ => True)) (by (with_reducible repeat (first | apply zam | apply zan | apply zaq)); exact zaz HO111.out (fun _ hk => ⟨trivial, hk⟩)) hg hat)
           have n2_ := Aside0.mk (hb)
           have n3_ := Aside0.mk (ho)
           clear BK101
           clear HO111
           clear HB
           clear HO114
           have BK101 := n0_
           have HO111 := n1_
           have HB := n2_
           have HO118 := n3_
           clear n0_ n1_ n2_ n3_
           clear ho hb hg hat
           obtain ⟨Ao28, co28, eo28⟩ := zcz HO118.out
           (first | subst eo28 | (injection eo28 with f1_ f2_ f3_; have f4_ := f1_.symm; have f5_ := f3_.symm; clear f1_ f2_ f3_; subst f4_; subst f5_))
           obtain ⟨Ao29, co29, eo29⟩ := zcz HO111.out
           (first | subst eo29 | (injection eo29 with f1_ f2_ f3_; have f4_ := f1_.symm; have f5_ := f3_.symm; clear f1_ f2_ f3_; subst f4_; subst f5_))
           refine hK.out _ _ ⟨((HB.out.cell (World.block_lt_of_cell? w _ hw103_0)).trans hw103_0), ((HB.out.cell (World.block_lt_of_cell? w _ hw104_0)).trans hw104_0)⟩ (fun hHeld => ?_)
           clear hK K
           refine norm_ (a' := ?_) ?_ ?_
           rotate_left
           ·show Act.put _ (some 36) _ = _
            simp only [Act.put, zaa, zac, zad, i64_w, i32_w]
            rfl
           refine pure_ (i := 18) (N := some 37) (v := ?_) (a' := ?_) #[true, true, true, true, true, true, true, true, true, true, true, true, true, true, true, true, true, true, true, false, false] rfl rfl (any_of HT_.out (by kernel_rfl)) (fun _ _ _ h => h) (Or.inl ⟨by rfl, ?_⟩) ?_ ?_
           rotate_left
           ·intro w'
            go_simp
            with_reducible rfl
           rotate_left
           ·simp only [Act.put, zaa, zac, zad, i64_w, i32_w]
            rfl
           refine one_ (i := 19) (N := none) #[true, true, true, true, true, true, true, true, true, true, true, true, true, true, true, true, true, true, true, true, false] rfl rfl (one_of HT_.out (by kernel_rfl)) (by decide) (fun K hK => ?_)
           have hs30 : w27.cell? ⟨gb101, 0, none⟩ = some (.int .i64 0) := (zbc BK101.out 0).trans rfl
           have hfs30 := zau BK101.out 0
           have hs31 : w27.cell? ⟨gb101, 1, none⟩ = some (.slice none 0 0) := (zbc BK101.out 1).trans rfl
           have hfs31 := zau BK101.out 1
           have hs32 : w27.cell? ⟨gb101, 2, none⟩ = some (.slice none 0 0) := (zbc BK101.out 2).trans rfl
           have hfs32 := zau BK101.out 2
           refine skip_ (w1 := ?_) (by rfl) rfl ?_ ?_
           rotate_left
           ·go_simp
            rfl
           refine hK.out _ _ ⟨((cell_far (p := ⟨gb101, _, none⟩) (by first | exact zcb (zch (by have := World.block_lt_of_cell? _ _ hw103_0; first | rwa [zcf] at this | exact this) GW101.out) | (rw [zcf]; exact zcb (zch (by have := World.block_lt_of_cell? _ _ hw103_0; first | rwa [zcf] at this | exact this) GW101.out)) | (show (Addr.add _ _).block ≠ _; rw [zcf]; exact zcb (zch (by have := World.block_lt_of_cell? _ _ hw103_0; first | rwa [zcf] at this | exact this) GW101.out)) | (dsimp only; exact zcb (zch (by have := World.block_lt_of_cell? _ _ hw103_0; first | rwa [zcf] at this | exact this) GW101.out))) _).trans (((cell_far (p := ⟨gb101, _, none⟩) (by first | exact zcb (zch (by have := World.block_lt_of_cell? _ _ hw103_0; first | rwa [zcf] at this | exact this) GW101.out) | (rw [zcf]; exact zcb (zch (by have := World.block_lt_of_cell? _ _ hw103_0; first | rwa [zcf] at this | exact this) GW101.out)) | (show (Addr.add _ _).block ≠ _; rw [zcf]; exact zcb (zch (by have := World.block_lt_of_cell? _ _ hw103_0; first | rwa [zcf] at this | exact this) GW101.out)) | (dsimp only; exact zcb (zch (by have := World.block_lt_of_cell? _ _ hw103_0; first | rwa [zcf] at this | exact this) GW101.out))) _).trans (((cell_far (p := ⟨gb101, _, none⟩) (by first | exact zcb (zch (by have := World.block_lt_of_cell? _ _ hw103_0; first | rwa [zcf] at this | exact this) GW101.out) | (rw [zcf]; exact zcb (zch (by have := World.block_lt_of_cell? _ _ hw103_0; first | rwa [zcf] at this | exact this) GW101.out)) | (show (Addr.add _ _).block ≠ _; rw [zcf]; exact zcb (zch (by have := World.block_lt_of_cell? _ _ hw103_0; first | rwa [zcf] at this | exact this) GW101.out)) | (dsimp only; exact zcb (zch (by have := World.block_lt_of_cell? _ _ hw103_0; first | rwa [zcf] at this | exact this) GW101.out))) _).trans (hHeld.1)))))), ((cell_far (p := ⟨gb101, _, none⟩) (by first | exact zcb (zch (by have := World.block_lt_of_cell? _ _ hw104_0; first | rwa [zcf] at this | exact this) GW101.out) | (rw [zcf]; exact zcb (zch (by have := World.block_lt_of_cell? _ _ hw104_0; first | rwa [zcf] at this | exact this) GW101.out)) | (show (Addr.add _ _).block ≠ _; rw [zcf]; exact zcb (zch (by have := World.block_lt_of_cell? _ _ hw104_0; first | rwa [zcf] at this | exact this) GW101.out)) | (dsimp only; exact zcb (zch (by have := World.block_lt_of_cell? _ _ hw104_0; first | rwa [zcf] at this | exact this) GW101.out))) _).trans (((cell_far (p := ⟨gb101, _, none⟩) (by first | exact zcb (zch (by have := World.block_lt_of_cell? _ _ hw104_0; first | rwa [zcf] at this | exact this) GW101.out) | (rw [zcf]; exact zcb (zch (by have := World.block_lt_of_cell? _ _ hw104_0; first | rwa [zcf] at this | exact this) GW101.out)) | (show (Addr.add _ _).block ≠ _; rw [zcf]; exact zcb (zch (by have := World.block_lt_of_cell? _ _ hw104_0; first | rwa [zcf] at this | exact this) GW101.out)) | (dsimp only; exact zcb (zch (by have := World.block_lt_of_cell? _ _ hw104_0; first | rwa [zcf] at this | exact this) GW101.out))) _).trans (((cell_far (p := ⟨gb101, _, none⟩) (by first | exact zcb (zch (by have := World.block_lt_of_cell? _ _ hw104_0; first | rwa [zcf] at this | exact this) GW101.out) | (rw [zcf]; exact zcb (zch (by have := World.block_lt_of_cell? _ _ hw104_0; first | rwa [zcf] at this | exact this) GW101.out)) | (show (Addr.add _ _).block ≠ _; rw [zcf]; exact zcb (zch (by have := World.block_lt_of_cell? _ _ hw104_0; first | rwa [zcf] at this | exact this) GW101.out)) | (dsimp only; exact zcb (zch (by have := World.block_lt_of_cell? _ _ hw104_0; first | rwa [zcf] at this | exact this) GW101.out))) _).trans (hHeld.2))))))⟩ (fun hHeld => ?_)
           clear hK K
           refine pure_ (i := 20) (N := some 3) (v := ?_) (a' := ?_) #[true, true, true, true, true, true, true, true, true, true, true, true, true, true, true, true, true, true, true, true, true] rfl rfl (any_of HT_.out (by kernel_rfl)) (fun _ _ _ h => h) (Or.inl ⟨by rfl, ?_⟩) ?_ ?_
           rotate_left
           ·intro w'
            go_simp
            with_reducible rfl
           rotate_left
           ·simp only [Act.put, zaa, zac, zad, i64_w, i32_w]
            rfl
           refine done_ (done_of HT_.out (by kernel_rfl)) ?_
           try go_wp2
           refine bodyPost_ret (results_ct rfl _ _ gb101 24 #[.int .i64 (wrap64 ((wrap64 (256 * (wrap64 (rd l0 1)))) + (wrap64 (rd l0 2)))), .slice Ao29 y109.length co29, .slice Ao28 y116.length co28] (0, 0) _ rfl (by (with_reducible repeat (first | refine zai ?_ _ | refine zao ?_ | refine zaj ?_ _)); refine zdl (cs := #[.int .i64 (wrap64 ((wrap64 (256 * (wrap64 (rd l0 1)))) + (wrap64 (rd l0 2)))), .slice Ao29 y109.length co29, .slice none 0 0]) ?_ 2 _ rfl; (with_reducible repeat (first | refine zai ?_ _ | refine zao ?_ | refine zaj ?_ _)); refine zdl (cs := #[.int .i64 (wrap64 ((wrap64 (256 * (wrap64 (rd l0 1)))) + (wrap64 (rd l0 2)))), .slice none 0 0, .slice none 0 0]) ?_ 1 _ rfl; (with_reducible repeat (first | refine zai ?_ _ | refine zao ?_ | refine zaj ?_ _)); refine zdl (cs := #[.int .i64 0, .slice none 0 0, .slice none 0 0]) ?_ 0 _ rfl; (with_reducible repeat (first | refine zai ?_ _ | refine zao ?_ | refine zaj ?_ _)); exact BK101.out) Try.underlying24 rfl (by kernel_rfl)) rfl ?_
           exact ⟨_, _, by first | rfl | (simp [zcd, zce] <;> rfl) | (simp [*, zcd, zce] <;> rfl), by (with_reducible repeat (first | apply zam | apply zan | apply zaq)); exact zaz (zax (p := ⟨gb101, 2, none⟩) (zax (p := ⟨gb101, 1, none⟩) (zax (p := ⟨gb101, 0, none⟩) (zbw HO111.out BK101.out (by decide)) (fun _ hk => hk.2) (.int .i64 (wrap64 ((wrap64 (256 * (wrap64 (rd l0 1)))) + (wrap64 (rd l0 2)))))) (fun _ hk => hk.2) (.slice Ao29 y109.length co29)) (fun _ hk => hk.2) (.slice Ao28 y116.length co28)) (fun _ hk => hk.1.2), by (with_reducible repeat (first | apply zam | apply zan | apply zaq)); exact zaz (zax (p := ⟨gb101, 2, none⟩) (zax (p := ⟨gb101, 1, none⟩) (zax (p := ⟨gb101, 0, none⟩) (zbw HO118.out BK101.out (by decide)) (fun _ hk => hk.2) (.int .i64 (wrap64 ((wrap64 (256 * (wrap64 (rd l0 1)))) + (wrap64 (rd l0 2)))))) (fun _ hk => hk.2) (.slice Ao29 y109.length co29)) (fun _ hk => hk.2) (.slice Ao28 y116.length co28)) (fun _ hk => hk.1), by repeat (first | (with_reducible first | exact HB.out | apply zah | apply zab | apply zaf | refine zag ?_ GE101.out) | exact HB.out)⟩
          ·rw [if_neg c16] at H
           exact absurd H (by simp)
         ·rw [if_neg c14] at H
          exact absurd H (by simp)
        ·rw [if_neg c13] at H
         exact absurd H (by simp)
       ·rw [if_neg c12] at H
        exact absurd H (by simp)
      ·rw [if_neg c11] at H
       exact absurd H (by simp)
     ·rw [if_neg c10] at H
      exact absurd H (by simp)
    ·rw [if_neg c9] at H
     have c9b0 : ((rd l0 0) == 1) = false := zdr.mpr c9
     have c9b1 : ((rd l0 0) != 1) = true := bne_iff_ne.mpr c9
     simp only [zdp, zeg] at H
     obtain ⟨rfl, rfl, rfl, rfl⟩ := H
     go_enter Try.func9, Try.ntmps9
     go_wp2_with (first | ((with_reducible refine zef (N := 2) rfl ?_); (try (refine gate_guard (by rfl) ?_; dsimp only)); refine zdw ?hg (N := 2) ?hd (cs := #[.int .i64 0, .slice none 0 0, .slice none 0 0]) (t := 24) ?hr ?_; (case hd => rfl); (case hg => rfl); (case hr => first | (go_simp; done) | (go_simp; rfl)); intro gb101 hg w33 hbox hb; have xb_ := below_ofs (by repeat (first | (with_reducible first | exact HB.out | apply zah | apply zab | apply zaf) | exact HB.out)) hb; have n0_ := Aside0.mk (zbh xb_ hb); have n1_ := Aside0.mk (hbox); have n2_ := Aside0.mk ((by rw [hg]; exact (zat xb_) : w.heap.size ≤ gb101)); have n3_ := Aside0.mk ((by rw [hg]; exact (zat xb_) : w.heap.size ≤ gb101)); clear HB; have HB := n0_; have BK101 := n1_; have GW101 := n2_; have GE101 := n3_; clear n0_ n1_ n2_ n3_; clear xb_ hb hbox hg; have p102 : 0 ≤ (0 : Int) := (by omega); have q102 : 0 < (l0.length : Int) := zbj (by first | (with_reducible assumption) | assumption); obtain ⟨ad102, e102, hx102_0⟩ := zek HR0.out 0 p102 q102; cases e102; have qi102 : (0 < l0.length) = True := zcw (by omega); (try rw [show ((0 : Int)).toNat = 0 from rfl] at hx102_0); (try rw [Addr.add_zero'] at hx102_0); replace hx102_0 := (HB.out.cell (World.block_lt_of_cell? w _ hx102_0)).trans hx102_0; replace p102 := zcw p102; replace q102 := zcw q102; have hcz34_0 : w33.cell? ⟨gb101, 0, none⟩ = some (.int .i64 0) := (zbc BK101.out 0).trans rfl; have hcz34_1 : w33.cell? ⟨gb101, 1, none⟩ = some (.slice none 0 0) := (zbc BK101.out 1).trans rfl; have hcz34_2 : w33.cell? ⟨gb101, 2, none⟩ = some (.slice none 0 0) := (zbc BK101.out 2).trans rfl; have hfz34_0 := zau BK101.out 0; have hfz34_1 := zau BK101.out 1; have hfz34_2 := zau BK101.out 2))
     refine bodyPost_ret (results_ct rfl _ _ gb101 24 #[.int .i64 0, .slice none 0 0, .slice none 0 0] (0, 0) _ rfl (by (with_reducible repeat (first | refine zai ?_ _ | refine zao ?_ | refine zaj ?_ _)); refine zdl (cs := #[.int .i64 0, .slice none 0 0, .slice none 0 0]) ?_ 2 _ rfl; (with_reducible repeat (first | refine zai ?_ _ | refine zao ?_ | refine zaj ?_ _)); refine zdl (cs := #[.int .i64 0, .slice none 0 0, .slice none 0 0]) ?_ 1 _ rfl; (with_reducible repeat (first | refine zai ?_ _ | refine zao ?_ | refine zaj ?_ _)); refine zdl (cs := #[.int .i64 0, .slice none 0 0, .slice none 0 0]) ?_ 0 _ rfl; (with_reducible repeat (first | refine zai ?_ _ | refine zao ?_ | refine zaj ?_ _)); exact BK101.out) Try.underlying24 rfl (by kernel_rfl)) rfl ?_
     exact ⟨_, _, by first | rfl | (simp [zcd, zce] <;> rfl) | (simp [*, zcd, zce] <;> rfl), by first | exact Kd.R_nil _ _ _ _ _ | exact Kd.N_nil _ _ _ _ _ | exact Kd.V_nil _ _ _ _ _ | exact Kd.Q_nil _ _ _ _ _ | exact Kd.S_nil _ _ _ _ _, by first | exact Kd.R_nil _ _ _ _ _ | exact Kd.N_nil _ _ _ _ _ | exact Kd.V_nil _ _ _ _ _ | exact Kd.Q_nil _ _ _ _ _ | exact Kd.S_nil _ _ _ _ _, by repeat (first | (with_reducible first | exact HB.out | apply zah | apply zab | apply zaf | refine zag ?_ GE101.out) | exact HB.out)⟩
   ·rw [if_neg c8] at H
    exact absurd H (by simp)
end Go.Proofs.Ytdineaebljpfaaa.P
