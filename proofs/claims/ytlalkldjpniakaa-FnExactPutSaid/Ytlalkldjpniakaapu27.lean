import Derived.Test.Ytlalkldjpniakaapu26
namespace Go.Proofs.Ytlalkldjpniakaa.P
open Go.RowKit Go.Proofs.YtlalkldjpniakaaW.PrintWords Go.Proofs.YtlalkldjpniakaaW.PrintLast Go.Proofs.YtlalkldjpniakaaW.PrintMore
attribute [local go_sem] zdj zdk zed zee zcy zcz zdl zdm   -- for this text's walks alone
set_option linter.unusedVariables false
set_option linter.unusedSimpArgs false

mutual
def spec_QueueOk.l0 : Nat → List (S34) → Int → Option (Bool)
 | 0, _, _ => none
 | k + 1, x0, x3 => if x3 < (x0.length : Int) then (if 0 ≤ x3 then ((spec_ItemOk.f k ((rd_T34 x0 x3).f0) ((rd_T34 x0 x3).f1) ((rd_T34 x0 x3).f2) ((rd_T34 x0 x3).f3)).bind fun t377 => (if t377 = true then ((spec_Of.f k x0 ((rd_T34 x0 x3).f0)).bind fun t379 => (spec_QueueOk.j1 k x0 x3 (decide (t379 > 4)))) else (spec_QueueOk.j1 k x0 x3 true))) else (none)) else (some (decide ((x0.length : Int) ≤ 10)))
def spec_QueueOk.j1 : Nat → List (S34) → Int → Bool → Option (Bool)
 | 0, _, _, _ => none
 | k + 1, x0, x3, x26 => if x26 = true then (some false) else (spec_QueueOk.l1 k x0 x3 0)
def spec_QueueOk.l1 : Nat → List (S34) → Int → Int → Option (Bool)
 | 0, _, _, _ => none
 | k + 1, x0, x3, x4 => if x4 < x3 then (if 0 ≤ x4 then (if x4 < (x0.length : Int) then (if 0 ≤ x3 then (if x3 < (x0.length : Int) then (if ((rd_T34 x0 x4).f0).toList = ((rd_T34 x0 x3).f0).toList then (if ((rd_T34 x0 x4).f1) = ((rd_T34 x0 x3).f1) then (if ((rd_T34 x0 x3).f1) > 0 then (some false) else (spec_QueueOk.l1 k x0 x3 (wrap64 (x4 + 1)))) else (spec_QueueOk.l1 k x0 x3 (wrap64 (x4 + 1)))) else (spec_QueueOk.l1 k x0 x3 (wrap64 (x4 + 1)))) else (none)) else (none)) else (none)) else (none)) else (spec_QueueOk.l0 k x0 (wrap64 (x3 + 1)))
end
def spec_QueueOk.f (k : Nat) (l0 : List (S34)) : Option (Bool) := spec_QueueOk.l0 k l0 0
theorem spec_QueueOk.mono_l : ∀ k, (∀ y0 y1, LeO (spec_QueueOk.l0 k y0 y1) (spec_QueueOk.l0 (k + 1) y0 y1)) ∧ (∀ y0 y1 y2, LeO (spec_QueueOk.j1 k y0 y1 y2) (spec_QueueOk.j1 (k + 1) y0 y1 y2)) ∧ (∀ y0 y1 y2, LeO (spec_QueueOk.l1 k y0 y1 y2) (spec_QueueOk.l1 (k + 1) y0 y1 y2))
 | 0 => ⟨fun _ _ r h => by simp [spec_QueueOk.l0] at h, fun _ _ _ r h => by simp [spec_QueueOk.j1] at h, fun _ _ _ r h => by simp [spec_QueueOk.l1] at h⟩
 | k + 1 => by
  obtain ⟨ih0, ih1, ih2⟩ := spec_QueueOk.mono_l k
  refine ⟨?_, ?_, ?_⟩
  ·intro y0 y1
   unfold spec_QueueOk.l0
   repeat' first
   | (with_reducible exact ih0 _ _)
   | (with_reducible exact ih1 _ _ _)
   | (with_reducible exact ih2 _ _ _)
   | (with_reducible exact spec_ItemOk.mono _ _ _ _ _)
   | (with_reducible exact spec_Of.mono _ _ _)
   | (with_reducible exact zcn _)
   | (with_reducible exact zda _)
   | (with_reducible refine zdh ?_ ?_)
   | (with_reducible refine zcs ?_ (fun _ => ?_))
   | exact ih0 _ _
   | exact ih1 _ _ _
   | exact ih2 _ _ _
  ·intro y0 y1 y2
   unfold spec_QueueOk.j1
   repeat' first
   | (with_reducible exact ih0 _ _)
   | (with_reducible exact ih1 _ _ _)
   | (with_reducible exact ih2 _ _ _)
   | (with_reducible exact spec_ItemOk.mono _ _ _ _ _)
   | (with_reducible exact spec_Of.mono _ _ _)
   | (with_reducible exact zcn _)
   | (with_reducible exact zda _)
   | (with_reducible refine zdh ?_ ?_)
   | (with_reducible refine zcs ?_ (fun _ => ?_))
   | exact ih0 _ _
   | exact ih1 _ _ _
   | exact ih2 _ _ _
  ·intro y0 y1 y2
   unfold spec_QueueOk.l1
   repeat' first
   | (with_reducible exact ih0 _ _)
   | (with_reducible exact ih1 _ _ _)
   | (with_reducible exact ih2 _ _ _)
   | (with_reducible exact spec_ItemOk.mono _ _ _ _ _)
   | (with_reducible exact spec_Of.mono _ _ _)
   | (with_reducible exact zcn _)
   | (with_reducible exact zda _)
   | (with_reducible refine zdh ?_ ?_)
   | (with_reducible refine zcs ?_ (fun _ => ?_))
   | exact ih0 _ _
   | exact ih1 _ _ _
   | exact ih2 _ _ _
theorem spec_QueueOk.mono : ∀ a0 k, LeO (spec_QueueOk.f k a0) (spec_QueueOk.f (k + 1) a0) := by
 intro a0 k
 obtain ⟨ih0, ih1, ih2⟩ := spec_QueueOk.mono_l k
 unfold spec_QueueOk.f
 repeat' first
   | (with_reducible exact ih0 _ _)
   | (with_reducible exact ih1 _ _ _)
   | (with_reducible exact ih2 _ _ _)
   | (with_reducible exact spec_ItemOk.mono _ _ _ _ _)
   | (with_reducible exact spec_Of.mono _ _ _)
   | (with_reducible exact zcn _)
   | (with_reducible exact zda _)
   | (with_reducible refine zdh ?_ ?_)
   | (with_reducible refine zcs ?_ (fun _ => ?_))
   | exact ih0 _ _
   | exact ih1 _ _ _
   | exact ih2 _ _ _
set_option maxHeartbeats 8000000 in
set_option maxRecDepth 100000 in
theorem spec_QueueOk.calls (k : Nat) (A0 : Option Addr) (c0 : Nat) (l0 : List (S34)) (r : Bool) (w : World) (hr0 : Kd.C k34 w A0 l0.length l0) (hc0 : l0.length ≤ c0) (h : spec_QueueOk.f k l0 = some r) :
  Calls Try.prog 42 #[.slice A0 l0.length c0] w fun e w' => e = .returned (.bool r) ∧ Below w.heap.size w w' := by
 have hu34 := Try.underlying34
 have HR0 := Aside0.mk hr0
 have HC0 := Aside0.mk hc0
 clear hr0 hc0
 have HB := Aside0.mk (zbt w.heap.size w)
 have H : (spec_QueueOk.l0 k l0 0) = some r := h
 clear h
 have H' := Aside0.mk H
 clear H
 go_enter Try.func42, Try.ntmps42
 go_wp2
 repeat (go_quiet (fail); try go_wp2)
 go_loopg [3] k (fun kq v3 w' => ∃ (x3_1 : Int), v3 = .int .i64 x3_1 ∧ Aside0 (spec_QueueOk.l0 kq l0 x3_1 = some r) ∧ Aside0 (kq ≤ k) ∧ Aside0 (Below w.heap.size w w'))
 case atStart => exact ⟨(0), (by first | rfl | (simp; done) | (simp [*]; done)), H', ⟨zaw _⟩, ⟨by repeat (first | (with_reducible first | exact HB.out | apply zae | apply zab | apply zac) | exact HB.out)⟩⟩
 case round =>
  clear H'
  obtain ⟨x3_1, rfl, HA, HK1, HB⟩ := hrel
  cases gk with
  | zero => exact absurd HA.out (by simp [spec_QueueOk.l0])
  | succ k1 =>
   have H := HA.out
   clear HA
   simp only [spec_QueueOk.l0] at H
   by_cases c2 : x3_1 < (l0.length : Int)
   ·rw [if_pos c2] at H
    have c2b0 : decide (x3_1 < (l0.length : Int)) = true := zas c2
    clear c2
    have HC3 := Aside0.mk H
    clear H
    go_upto_region 4 with (fail)
    repeat (go_quiet (fail); go_upto_region 4 with (fail))
    go_cut [26] (fun v26 wc => ∃ (kq : Nat) (x26_2 : Bool), v26 = .bool x26_2 ∧ Aside0 (spec_QueueOk.j1 kq l0 x3_1 x26_2 = some r) ∧ Aside0 (kq ≤ k1) ∧ Aside0 (Below w.heap.size w wc))
    case first =>
     have H := HC3.out
     clear HC3
     by_cases c4 : 0 ≤ x3_1
     ·rw [if_pos c4] at H
      have c4b0 : decide (0 ≤ x3_1) = true := zas c4
      clear c4
      (first | rw [c4b0] | (simp only [i64_w, i32_w]; rw [c4b0]) | skip)
      replace H := zak.mp H
      obtain ⟨t377, A50, H⟩ := H
      try dsimp only at H
      have A5 := Aside0.mk A50
      clear A50
      by_cases c6 : t377 = true
      ·subst c6
       have H1 : ((spec_Of.f k1 l0 ((rd_T34 l0 x3_1).f0)).bind fun t379 => (spec_QueueOk.j1 k1 l0 x3_1 (decide (t379 > 4)))) = some r := by rw [if_pos rfl] at H; exact H
       clear H
       have H := H1
       clear H1
       replace H := zak.mp H
       obtain ⟨t379, A70, H⟩ := H
       try dsimp only at H
       have A7 := Aside0.mk A70
       clear A70
       have H' := Aside0.mk H
       clear H
       have p376 : 0 ≤ (x3_1 : Int) := zad (by first | (with_reducible assumption) | assumption)
       have q376 : x3_1 < (l0.length : Int) := zad (by first | (with_reducible assumption) | assumption)
       obtain ⟨ad376, A376_3, c376_3, e376, hx376_0, hx376_1, hx376_2, hx376_3, hl376_3, hi376_3⟩ := at_T34 HR0.out x3_1 p376 q376
       cases e376
       replace hx376_0 := (HB.out.cell (World.block_lt_of_cell? w _ hx376_0)).trans hx376_0
       replace hx376_1 := (HB.out.cell (World.block_lt_of_cell? w _ hx376_1)).trans hx376_1
       replace hx376_2 := (HB.out.cell (World.block_lt_of_cell? w _ hx376_2)).trans hx376_2
       replace hx376_3 := (HB.out.cell (World.block_lt_of_cell? w _ hx376_3)).trans hx376_3
       have HR376_3 := Aside0.mk hi376_3
       have HC376_3 := Aside0.mk hl376_3
       clear hi376_3 hl376_3
       replace p376 := zay p376
       replace q376 := zay q376
       go_wp2_with (first | (go_at_call 24; (with_reducible refine (spec_ItemOk.calls k1 ((rd_T34 l0 x3_1).f0) ((rd_T34 l0 x3_1).f1) ((rd_T34 l0 x3_1).f2) _ _ ((rd_T34 l0 x3_1).f3) true _ ?side1 ?side2 A5.out).mono ?_); (case side1 => repeat (first | exact (zbf HR376_3.out HB.out) | (with_reducible first | apply zbs | apply zbw | apply zcd))); (case side2 => exact HC376_3.out); rintro e w8 ⟨rfl, hb⟩; have n0_ := Aside0.mk (zai (by repeat (first | (with_reducible first | exact HB.out | apply zae | apply zab | apply zac) | exact HB.out)) hb); clear HB; have HB := n0_; clear n0_; (try clear hb); (try clear hb2); (try clear hk); (try clear hi); have p378 : 0 ≤ (x3_1 : Int) := zad (by first | (with_reducible assumption) | assumption); have q378 : x3_1 < (l0.length : Int) := zad (by first | (with_reducible assumption) | assumption); obtain ⟨ad378, A378_3, c378_3, e378, hx378_0, hx378_1, hx378_2, hx378_3, hl378_3, hi378_3⟩ := at_T34 HR0.out x3_1 p378 q378; obtain rfl : ad376 = ad378 := (by injection e378); replace hx378_0 := (HB.out.cell (World.block_lt_of_cell? w _ hx378_0)).trans hx378_0; replace hx378_1 := (HB.out.cell (World.block_lt_of_cell? w _ hx378_1)).trans hx378_1; replace hx378_2 := (HB.out.cell (World.block_lt_of_cell? w _ hx378_2)).trans hx378_2; replace hx378_3 := (HB.out.cell (World.block_lt_of_cell? w _ hx378_3)).trans hx378_3; have HR378_3 := Aside0.mk hi378_3; have HC378_3 := Aside0.mk hl378_3; clear hi378_3 hl378_3; replace p378 := zay p378; replace q378 := zay q378) | (go_at_call 19; (with_reducible refine (spec_Of.calls k1 _ _ l0 ((rd_T34 l0 x3_1).f0) t379 _ ?side1 ?side2 A7.out).mono ?_); (case side1 => repeat (first | exact (zbf HR0.out HB.out) | (with_reducible first | apply zbs | apply zbw | apply zcd))); (case side2 => exact HC0.out); rintro e w' ⟨rfl, ⟨nd, rfl⟩⟩; (try first | exact ⟨rfl, _, zap _ _ _⟩ | exact ⟨rfl, _, zds (zap _ _ _) (zdt (World.drewN _) (zby _ _ _))⟩)))
       repeat (go_quiet (first | (go_at_call 24; (with_reducible refine (spec_ItemOk.calls k1 ((rd_T34 l0 x3_1).f0) ((rd_T34 l0 x3_1).f1) ((rd_T34 l0 x3_1).f2) _ _ ((rd_T34 l0 x3_1).f3) true _ ?side1 ?side2 A5.out).mono ?_); (case side1 => repeat (first | exact (zbf HR376_3.out HB.out) | (with_reducible refine zbs ?_ _) | (with_reducible refine zbw ?_ _) | (with_reducible refine zcd ?_))); (case side2 => exact HC376_3.out); rintro e w8 ⟨rfl, hb⟩; have n0_ := Aside0.mk (zai (by repeat (first | (with_reducible first | exact HB.out | apply zae | apply zab | apply zac) | exact HB.out)) hb); clear HB; have HB := n0_; clear n0_; (try clear hb); (try clear hb2); (try clear hk); (try clear hi); have p378 : 0 ≤ (x3_1 : Int) := zad (by first | (with_reducible assumption) | assumption); have q378 : x3_1 < (l0.length : Int) := zad (by first | (with_reducible assumption) | assumption); obtain ⟨ad378, A378_3, c378_3, e378, hx378_0, hx378_1, hx378_2, hx378_3, hl378_3, hi378_3⟩ := at_T34 HR0.out x3_1 p378 q378; obtain rfl : ad376 = ad378 := (by injection e378); replace hx378_0 := (HB.out.cell (World.block_lt_of_cell? w _ hx378_0)).trans hx378_0; replace hx378_1 := (HB.out.cell (World.block_lt_of_cell? w _ hx378_1)).trans hx378_1; replace hx378_2 := (HB.out.cell (World.block_lt_of_cell? w _ hx378_2)).trans hx378_2; replace hx378_3 := (HB.out.cell (World.block_lt_of_cell? w _ hx378_3)).trans hx378_3; have HR378_3 := Aside0.mk hi378_3; have HC378_3 := Aside0.mk hl378_3; clear hi378_3 hl378_3; replace p378 := zay p378; replace q378 := zay q378) | (go_at_call 19; (with_reducible refine (spec_Of.calls k1 _ _ l0 ((rd_T34 l0 x3_1).f0) t379 _ ?side1 ?side2 A7.out).mono ?_); (case side1 => repeat (first | exact (zbf HR0.out HB.out) | (with_reducible refine zbs ?_ _) | (with_reducible refine zbw ?_ _) | (with_reducible refine zcd ?_))); (case side2 => exact HC0.out); rintro e w' ⟨rfl, ⟨nd, rfl⟩⟩; (try first | exact ⟨rfl, _, zap _ _ _⟩ | exact ⟨rfl, _, zds (zap _ _ _) (zdt (World.drewN _) (zby _ _ _))⟩))); try go_wp2_with (first | (go_at_call 24; (with_reducible refine (spec_ItemOk.calls k1 ((rd_T34 l0 x3_1).f0) ((rd_T34 l0 x3_1).f1) ((rd_T34 l0 x3_1).f2) _ _ ((rd_T34 l0 x3_1).f3) true _ ?side1 ?side2 A5.out).mono ?_); (case side1 => repeat (first | exact (zbf HR376_3.out HB.out) | (with_reducible refine zbs ?_ _) | (with_reducible refine zbw ?_ _) | (with_reducible refine zcd ?_))); (case side2 => exact HC376_3.out); rintro e w8 ⟨rfl, hb⟩; have n0_ := Aside0.mk (zai (by repeat (first | (with_reducible first | exact HB.out | apply zae | apply zab | apply zac) | exact HB.out)) hb); clear HB; have HB := n0_; clear n0_; (try clear hb); (try clear hb2); (try clear hk); (try clear hi); have p378 : 0 ≤ (x3_1 : Int) := zad (by first | (with_reducible assumption) | assumption); have q378 : x3_1 < (l0.length : Int) := zad (by first | (with_reducible assumption) | assumption); obtain ⟨ad378, A378_3, c378_3, e378, hx378_0, hx378_1, hx378_2, hx378_3, hl378_3, hi378_3⟩ := at_T34 HR0.out x3_1 p378 q378; obtain rfl : ad376 = ad378 := (by injection e378); replace hx378_0 := (HB.out.cell (World.block_lt_of_cell? w _ hx378_0)).trans hx378_0; replace hx378_1 := (HB.out.cell (World.block_lt_of_cell? w _ hx378_1)).trans hx378_1; replace hx378_2 := (HB.out.cell (World.block_lt_of_cell? w _ hx378_2)).trans hx378_2; replace hx378_3 := (HB.out.cell (World.block_lt_of_cell? w _ hx378_3)).trans hx378_3; have HR378_3 := Aside0.mk hi378_3; have HC378_3 := Aside0.mk hl378_3; clear hi378_3 hl378_3; replace p378 := zay p378; replace q378 := zay q378) | (go_at_call 19; (with_reducible refine (spec_Of.calls k1 _ _ l0 ((rd_T34 l0 x3_1).f0) t379 _ ?side1 ?side2 A7.out).mono ?_); (case side1 => repeat (first | exact (zbf HR0.out HB.out) | (with_reducible refine zbs ?_ _) | (with_reducible refine zbw ?_ _) | (with_reducible refine zcd ?_))); (case side2 => exact HC0.out); rintro e w' ⟨rfl, ⟨nd, rfl⟩⟩; (try first | exact ⟨rfl, _, zap _ _ _⟩ | exact ⟨rfl, _, zds (zap _ _ _) (zdt (World.drewN _) (zby _ _ _))⟩))))
       go_meet
       case rel => exact ⟨_, (decide (t379 > 4)), (by first | rfl | (simp; done) | (simp [*]; done)), H', ⟨by have := HK1.out; first | omega | exact zaw _⟩, ⟨by repeat (first | (with_reducible first | exact HB.out | apply zae | apply zab | apply zac) | exact HB.out)⟩⟩
      ·replace c6 := zdo.mpr c6
       subst c6
       have H1 : (spec_QueueOk.j1 k1 l0 x3_1 true) = some r := by rw [if_neg (show ¬ (false = true) by decide)] at H; exact H
       clear H
       have H := H1
       clear H1
       have H' := Aside0.mk H
       clear H
       have p376 : 0 ≤ (x3_1 : Int) := zad (by first | (with_reducible assumption) | assumption)
       have q376 : x3_1 < (l0.length : Int) := zad (by first | (with_reducible assumption) | assumption)
       obtain ⟨ad376, A376_3, c376_3, e376, hx376_0, hx376_1, hx376_2, hx376_3, hl376_3, hi376_3⟩ := at_T34 HR0.out x3_1 p376 q376
       cases e376
       replace hx376_0 := (HB.out.cell (World.block_lt_of_cell? w _ hx376_0)).trans hx376_0
       replace hx376_1 := (HB.out.cell (World.block_lt_of_cell? w _ hx376_1)).trans hx376_1
       replace hx376_2 := (HB.out.cell (World.block_lt_of_cell? w _ hx376_2)).trans hx376_2
       replace hx376_3 := (HB.out.cell (World.block_lt_of_cell? w _ hx376_3)).trans hx376_3
       have HR376_3 := Aside0.mk hi376_3
       have HC376_3 := Aside0.mk hl376_3
       clear hi376_3 hl376_3
       replace p376 := zay p376
       replace q376 := zay q376
       go_wp2_with (first | (go_at_call 24; (with_reducible refine (spec_ItemOk.calls k1 ((rd_T34 l0 x3_1).f0) ((rd_T34 l0 x3_1).f1) ((rd_T34 l0 x3_1).f2) _ _ ((rd_T34 l0 x3_1).f3) false _ ?side1 ?side2 A5.out).mono ?_); (case side1 => repeat (first | exact (zbf HR376_3.out HB.out) | (with_reducible first | apply zbs | apply zbw | apply zcd))); (case side2 => exact HC376_3.out); rintro e w9 ⟨rfl, hb⟩; have n0_ := Aside0.mk (zai (by repeat (first | (with_reducible first | exact HB.out | apply zae | apply zab | apply zac) | exact HB.out)) hb); clear HB; have HB := n0_; clear n0_; (try clear hb); (try clear hb2); (try clear hk); (try clear hi)))
       repeat (go_quiet (first | (go_at_call 24; (with_reducible refine (spec_ItemOk.calls k1 ((rd_T34 l0 x3_1).f0) ((rd_T34 l0 x3_1).f1) ((rd_T34 l0 x3_1).f2) _ _ ((rd_T34 l0 x3_1).f3) false _ ?side1 ?side2 A5.out).mono ?_); (case side1 => repeat (first | exact (zbf HR376_3.out HB.out) | (with_reducible refine zbs ?_ _) | (with_reducible refine zbw ?_ _) | (with_reducible refine zcd ?_))); (case side2 => exact HC376_3.out); rintro e w9 ⟨rfl, hb⟩; have n0_ := Aside0.mk (zai (by repeat (first | (with_reducible first | exact HB.out | apply zae | apply zab | apply zac) | exact HB.out)) hb); clear HB; have HB := n0_; clear n0_; (try clear hb); (try clear hb2); (try clear hk); (try clear hi))); try go_wp2_with (first | (go_at_call 24; (with_reducible refine (spec_ItemOk.calls k1 ((rd_T34 l0 x3_1).f0) ((rd_T34 l0 x3_1).f1) ((rd_T34 l0 x3_1).f2) _ _ ((rd_T34 l0 x3_1).f3) false _ ?side1 ?side2 A5.out).mono ?_); (case side1 => repeat (first | exact (zbf HR376_3.out HB.out) | (with_reducible refine zbs ?_ _) | (with_reducible refine zbw ?_ _) | (with_reducible refine zcd ?_))); (case side2 => exact HC376_3.out); rintro e w9 ⟨rfl, hb⟩; have n0_ := Aside0.mk (zai (by repeat (first | (with_reducible first | exact HB.out | apply zae | apply zab | apply zac) | exact HB.out)) hb); clear HB; have HB := n0_; clear n0_; (try clear hb); (try clear hb2); (try clear hk); (try clear hi))))
       go_meet
       case rel => exact ⟨_, (true), (by first | rfl | (simp; done) | (simp [*]; done)), H', ⟨by have := HK1.out; first | omega | exact zaw _⟩, ⟨by repeat (first | (with_reducible first | exact HB.out | apply zae | apply zab | apply zac) | exact HB.out)⟩⟩
     ·rw [if_neg c4] at H
      exact absurd H (by simp)
    case rest =>
     clear HC3
     try clear c2
     try clear c2b0
     try clear p2
     try clear c3
     try clear p3
     try clear q3
     try clear hx3
     try clear c4
     try clear c4b0
     try clear c6
     try clear hx376_0
     try clear hx376_1
     try clear hx376_2
     try clear hx376_3
     try clear hx378_0
     try clear hx378_1
     try clear hx378_2
     try clear hx378_3
     try clear p376
     try clear p378
     try clear q376
     try clear q378
     obtain ⟨kq, x26_2, rfl, HA, HJ2, HB⟩ := hcut
     cases kq with
     | zero => exact absurd HA.out (by simp [spec_QueueOk.j1])
     | succ kj2 =>
      have H := HA.out
      clear HA
      simp only [spec_QueueOk.j1] at H
      by_cases c10 : x26_2 = true
      ·subst c10
       have H1 : (some false) = some r := by rw [if_pos rfl] at H; exact H
       clear H
       have H := H1
       clear H1
       obtain rfl := Option.some.inj H
       go_wp2
       repeat (go_quiet (fail); try go_wp2)
       go_ret
       exact ⟨by first | rfl | (simp [zbb, zbc] <;> rfl) | (simp [*, zbb, zbc] <;> rfl), by repeat (first | (with_reducible first | exact HB.out | apply zae | apply zab | apply zac) | exact HB.out)⟩
      ·replace c10 := zdo.mpr c10
       subst c10
       have H1 : (spec_QueueOk.l1 kj2 l0 x3_1 0) = some r := by rw [if_neg (show ¬ (false = true) by decide)] at H; exact H
       clear H
       have H := H1
       clear H1
       have H' := Aside0.mk H
       clear H
       go_wp2
       repeat (go_quiet (fail); try go_wp2)
       go_loopg [4] kj2 (fun kq v4 w' => ∃ (x4_3 : Int), v4 = .int .i64 x4_3 ∧ Aside0 (spec_QueueOk.l1 kq l0 x3_1 x4_3 = some r) ∧ Aside0 (kq ≤ kj2) ∧ Aside0 (Below w.heap.size w w'))
       case atStart => exact ⟨(0), (by first | rfl | (simp; done) | (simp [*]; done)), H', ⟨zaw _⟩, ⟨by repeat (first | (with_reducible first | exact HB.out | apply zae | apply zab | apply zac) | exact HB.out)⟩⟩
       case round =>
        clear H'
        try clear c1
        try clear c2
        try clear c2b0
        try clear p2
        try clear c3
        try clear p3
        try clear q3
        try clear hx3
        try clear c4
        try clear c4b0
        try clear c6
        try clear c10
        try clear hx376_0
        try clear hx376_1
        try clear hx376_2
        try clear hx376_3
        try clear hx378_0
        try clear hx378_1
        try clear hx378_2
        try clear hx378_3
        try clear p2
        try clear p3
        try clear p376
        try clear p378
        try clear q3
        try clear q376
        try clear q378
        obtain ⟨x4_3, rfl, HA, HK3, HB⟩ := hrel
        cases gk with
        | zero => exact absurd HA.out (by simp [spec_QueueOk.l1])
        | succ k3 =>
         have H := HA.out
         clear HA
         simp only [spec_QueueOk.l1] at H
         by_cases c11 : x4_3 < x3_1
         ·rw [if_pos c11] at H
          have c11b0 : decide (x4_3 < x3_1) = true := zas c11
          clear c11
          by_cases c12 : 0 ≤ x4_3
          ·rw [if_pos c12] at H
           have c12b0 : decide (0 ≤ x4_3) = true := zas c12
           clear c12
           by_cases c13 : x4_3 < (l0.length : Int)
           ·rw [if_pos c13] at H
            have c13b0 : decide (x4_3 < (l0.length : Int)) = true := zas c13
            clear c13
            by_cases c14 : 0 ≤ x3_1
            ·rw [if_pos c14] at H
             have c14b0 : decide (0 ≤ x3_1) = true := zas c14
             clear c14
             by_cases c15 : x3_1 < (l0.length : Int)
             ·rw [if_pos c15] at H
              have c15b0 : decide (x3_1 < (l0.length : Int)) = true := zas c15
              clear c15
              by_cases c16 : ((rd_T34 l0 x4_3).f0).toList = ((rd_T34 l0 x3_1).f0).toList
              ·rw [if_pos c16] at H
               have c16b0 : (((rd_T34 l0 x4_3).f0).toList == ((rd_T34 l0 x3_1).f0).toList) = true := zep.mpr c16
               have c16b1 : (((rd_T34 l0 x4_3).f0).toList != ((rd_T34 l0 x3_1).f0).toList) = false := zcp.mpr c16
               clear c16
               by_cases c17 : ((rd_T34 l0 x4_3).f1) = ((rd_T34 l0 x3_1).f1)
               ·rw [if_pos c17] at H
                have c17b0 : (((rd_T34 l0 x4_3).f1) == ((rd_T34 l0 x3_1).f1)) = true := zep.mpr c17
                have c17b1 : (((rd_T34 l0 x4_3).f1) != ((rd_T34 l0 x3_1).f1)) = false := zcp.mpr c17
                clear c17
                by_cases c18 : ((rd_T34 l0 x3_1).f1) > 0
                ·rw [if_pos c18] at H
                 have c18b0 : decide (0 < ((rd_T34 l0 x3_1).f1)) = true := zas c18
                 clear c18
                 obtain rfl := Option.some.inj H
                 have p380 : 0 ≤ (x4_3 : Int) := zad (by first | (with_reducible assumption) | assumption)
                 have q380 : x4_3 < (l0.length : Int) := zad (by first | (with_reducible assumption) | assumption)
                 obtain ⟨ad380, A380_3, c380_3, e380, hx380_0, hx380_1, hx380_2, hx380_3, hl380_3, hi380_3⟩ := at_T34 HR0.out x4_3 p380 q380
                 cases e380
                 replace hx380_0 := (HB.out.cell (World.block_lt_of_cell? w _ hx380_0)).trans hx380_0
                 replace hx380_1 := (HB.out.cell (World.block_lt_of_cell? w _ hx380_1)).trans hx380_1
                 replace hx380_2 := (HB.out.cell (World.block_lt_of_cell? w _ hx380_2)).trans hx380_2
                 replace hx380_3 := (HB.out.cell (World.block_lt_of_cell? w _ hx380_3)).trans hx380_3
                 have HR380_3 := Aside0.mk hi380_3
                 have HC380_3 := Aside0.mk hl380_3
                 clear hi380_3 hl380_3
                 replace p380 := zay p380
                 replace q380 := zay q380
                 have p381 : 0 ≤ (x3_1 : Int) := zad (by first | (with_reducible assumption) | assumption)
                 have q381 : x3_1 < (l0.length : Int) := zad (by first | (with_reducible assumption) | assumption)
                 obtain ⟨ad381, A381_3, c381_3, e381, hx381_0, hx381_1, hx381_2, hx381_3, hl381_3, hi381_3⟩ := at_T34 HR0.out x3_1 p381 q381
                 obtain rfl : ad380 = ad381 := (by injection e381)
                 replace hx381_0 := (HB.out.cell (World.block_lt_of_cell? w _ hx381_0)).trans hx381_0
                 replace hx381_1 := (HB.out.cell (World.block_lt_of_cell? w _ hx381_1)).trans hx381_1
                 replace hx381_2 := (HB.out.cell (World.block_lt_of_cell? w _ hx381_2)).trans hx381_2
                 replace hx381_3 := (HB.out.cell (World.block_lt_of_cell? w _ hx381_3)).trans hx381_3
                 have HR381_3 := Aside0.mk hi381_3
                 have HC381_3 := Aside0.mk hl381_3
                 clear hi381_3 hl381_3
                 replace p381 := zay p381
                 replace q381 := zay q381
                 have p382 : 0 ≤ (x4_3 : Int) := zad (by first | (with_reducible assumption) | assumption)
                 have q382 : x4_3 < (l0.length : Int) := zad (by first | (with_reducible assumption) | assumption)
                 obtain ⟨ad382, A382_3, c382_3, e382, hx382_0, hx382_1, hx382_2, hx382_3, hl382_3, hi382_3⟩ := at_T34 HR0.out x4_3 p382 q382
                 obtain rfl : ad380 = ad382 := (by injection e382)
                 replace hx382_0 := (HB.out.cell (World.block_lt_of_cell? w _ hx382_0)).trans hx382_0
                 replace hx382_1 := (HB.out.cell (World.block_lt_of_cell? w _ hx382_1)).trans hx382_1
                 replace hx382_2 := (HB.out.cell (World.block_lt_of_cell? w _ hx382_2)).trans hx382_2
                 replace hx382_3 := (HB.out.cell (World.block_lt_of_cell? w _ hx382_3)).trans hx382_3
                 have HR382_3 := Aside0.mk hi382_3
                 have HC382_3 := Aside0.mk hl382_3
                 clear hi382_3 hl382_3
                 replace p382 := zay p382
                 replace q382 := zay q382
                 have ea_ := Option.some.inj (hx380_3.symm.trans hx382_3)
                 injection ea_ with ea_ en_ ec_
                 subst ea_
                 subst ec_
                 clear en_
                 have p383 : 0 ≤ (x3_1 : Int) := zad (by first | (with_reducible assumption) | assumption)
                 have q383 : x3_1 < (l0.length : Int) := zad (by first | (with_reducible assumption) | assumption)
                 obtain ⟨ad383, A383_3, c383_3, e383, hx383_0, hx383_1, hx383_2, hx383_3, hl383_3, hi383_3⟩ := at_T34 HR0.out x3_1 p383 q383
                 obtain rfl : ad380 = ad383 := (by injection e383)
                 replace hx383_0 := (HB.out.cell (World.block_lt_of_cell? w _ hx383_0)).trans hx383_0
                 replace hx383_1 := (HB.out.cell (World.block_lt_of_cell? w _ hx383_1)).trans hx383_1
                 replace hx383_2 := (HB.out.cell (World.block_lt_of_cell? w _ hx383_2)).trans hx383_2
                 replace hx383_3 := (HB.out.cell (World.block_lt_of_cell? w _ hx383_3)).trans hx383_3
                 have HR383_3 := Aside0.mk hi383_3
                 have HC383_3 := Aside0.mk hl383_3
                 clear hi383_3 hl383_3
                 replace p383 := zay p383
                 replace q383 := zay q383
                 have ea_ := Option.some.inj (hx381_3.symm.trans hx383_3)
                 injection ea_ with ea_ en_ ec_
                 subst ea_
                 subst ec_
                 clear en_
                 have p384 : 0 ≤ (x3_1 : Int) := zad (by first | (with_reducible assumption) | assumption)
                 have q384 : x3_1 < (l0.length : Int) := zad (by first | (with_reducible assumption) | assumption)
                 obtain ⟨ad384, A384_3, c384_3, e384, hx384_0, hx384_1, hx384_2, hx384_3, hl384_3, hi384_3⟩ := at_T34 HR0.out x3_1 p384 q384
                 obtain rfl : ad380 = ad384 := (by injection e384)
                 replace hx384_0 := (HB.out.cell (World.block_lt_of_cell? w _ hx384_0)).trans hx384_0
                 replace hx384_1 := (HB.out.cell (World.block_lt_of_cell? w _ hx384_1)).trans hx384_1
                 replace hx384_2 := (HB.out.cell (World.block_lt_of_cell? w _ hx384_2)).trans hx384_2
                 replace hx384_3 := (HB.out.cell (World.block_lt_of_cell? w _ hx384_3)).trans hx384_3
                 have HR384_3 := Aside0.mk hi384_3
                 have HC384_3 := Aside0.mk hl384_3
                 clear hi384_3 hl384_3
                 replace p384 := zay p384
                 replace q384 := zay q384
                 have ea_ := Option.some.inj (hx381_3.symm.trans hx384_3)
                 injection ea_ with ea_ en_ ec_
                 subst ea_
                 subst ec_
                 clear en_
                 go_wp2
                 repeat (go_quiet (fail); try go_wp2)
                 go_ret
                 exact ⟨by first | rfl | (simp [zbb, zbc] <;> rfl) | (simp [*, zbb, zbc] <;> rfl), by repeat (first | (with_reducible first | exact HB.out | apply zae | apply zab | apply zac) | exact HB.out)⟩
                ·rw [if_neg c18] at H
                 have c18b0 : decide (0 < ((rd_T34 l0 x3_1).f1)) = false := zbj c18
                 clear c18
                 have H' := Aside0.mk H
                 clear H
                 have p380 : 0 ≤ (x4_3 : Int) := zad (by first | (with_reducible assumption) | assumption)
                 have q380 : x4_3 < (l0.length : Int) := zad (by first | (with_reducible assumption) | assumption)
                 obtain ⟨ad380, A380_3, c380_3, e380, hx380_0, hx380_1, hx380_2, hx380_3, hl380_3, hi380_3⟩ := at_T34 HR0.out x4_3 p380 q380
                 cases e380
                 replace hx380_0 := (HB.out.cell (World.block_lt_of_cell? w _ hx380_0)).trans hx380_0
                 replace hx380_1 := (HB.out.cell (World.block_lt_of_cell? w _ hx380_1)).trans hx380_1
                 replace hx380_2 := (HB.out.cell (World.block_lt_of_cell? w _ hx380_2)).trans hx380_2
                 replace hx380_3 := (HB.out.cell (World.block_lt_of_cell? w _ hx380_3)).trans hx380_3
                 have HR380_3 := Aside0.mk hi380_3
                 have HC380_3 := Aside0.mk hl380_3
                 clear hi380_3 hl380_3
                 replace p380 := zay p380
                 replace q380 := zay q380
                 have p381 : 0 ≤ (x3_1 : Int) := zad (by first | (with_reducible assumption) | assumption)
                 have q381 : x3_1 < (l0.length : Int) := zad (by first | (with_reducible assumption) | assumption)
                 obtain ⟨ad381, A381_3, c381_3, e381, hx381_0, hx381_1, hx381_2, hx381_3, hl381_3, hi381_3⟩ := at_T34 HR0.out x3_1 p381 q381
                 obtain rfl : ad380 = ad381 := (by injection e381)
                 replace hx381_0 := (HB.out.cell (World.block_lt_of_cell? w _ hx381_0)).trans hx381_0
                 replace hx381_1 := (HB.out.cell (World.block_lt_of_cell? w _ hx381_1)).trans hx381_1
                 replace hx381_2 := (HB.out.cell (World.block_lt_of_cell? w _ hx381_2)).trans hx381_2
                 replace hx381_3 := (HB.out.cell (World.block_lt_of_cell? w _ hx381_3)).trans hx381_3
                 have HR381_3 := Aside0.mk hi381_3
                 have HC381_3 := Aside0.mk hl381_3
                 clear hi381_3 hl381_3
                 replace p381 := zay p381
                 replace q381 := zay q381
                 have p382 : 0 ≤ (x4_3 : Int) := zad (by first | (with_reducible assumption) | assumption)
                 have q382 : x4_3 < (l0.length : Int) := zad (by first | (with_reducible assumption) | assumption)
                 obtain ⟨ad382, A382_3, c382_3, e382, hx382_0, hx382_1, hx382_2, hx382_3, hl382_3, hi382_3⟩ := at_T34 HR0.out x4_3 p382 q382
                 obtain rfl : ad380 = ad382 := (by injection e382)
                 replace hx382_0 := (HB.out.cell (World.block_lt_of_cell? w _ hx382_0)).trans hx382_0
                 replace hx382_1 := (HB.out.cell (World.block_lt_of_cell? w _ hx382_1)).trans hx382_1
                 replace hx382_2 := (HB.out.cell (World.block_lt_of_cell? w _ hx382_2)).trans hx382_2
                 replace hx382_3 := (HB.out.cell (World.block_lt_of_cell? w _ hx382_3)).trans hx382_3
                 have HR382_3 := Aside0.mk hi382_3
                 have HC382_3 := Aside0.mk hl382_3
                 clear hi382_3 hl382_3
                 replace p382 := zay p382
                 replace q382 := zay q382
                 have ea_ := Option.some.inj (hx380_3.symm.trans hx382_3)
                 injection ea_ with ea_ en_ ec_
                 subst ea_
                 subst ec_
                 clear en_
                 have p383 : 0 ≤ (x3_1 : Int) := zad (by first | (with_reducible assumption) | assumption)
                 have q383 : x3_1 < (l0.length : Int) := zad (by first | (with_reducible assumption) | assumption)
                 obtain ⟨ad383, A383_3, c383_3, e383, hx383_0, hx383_1, hx383_2, hx383_3, hl383_3, hi383_3⟩ := at_T34 HR0.out x3_1 p383 q383
                 obtain rfl : ad380 = ad383 := (by injection e383)
                 replace hx383_0 := (HB.out.cell (World.block_lt_of_cell? w _ hx383_0)).trans hx383_0
                 replace hx383_1 := (HB.out.cell (World.block_lt_of_cell? w _ hx383_1)).trans hx383_1
                 replace hx383_2 := (HB.out.cell (World.block_lt_of_cell? w _ hx383_2)).trans hx383_2
                 replace hx383_3 := (HB.out.cell (World.block_lt_of_cell? w _ hx383_3)).trans hx383_3
                 have HR383_3 := Aside0.mk hi383_3
                 have HC383_3 := Aside0.mk hl383_3
                 clear hi383_3 hl383_3
                 replace p383 := zay p383
                 replace q383 := zay q383
                 have ea_ := Option.some.inj (hx381_3.symm.trans hx383_3)
                 injection ea_ with ea_ en_ ec_
                 subst ea_
                 subst ec_
                 clear en_
                 have p384 : 0 ≤ (x3_1 : Int) := zad (by first | (with_reducible assumption) | assumption)
                 have q384 : x3_1 < (l0.length : Int) := zad (by first | (with_reducible assumption) | assumption)
                 obtain ⟨ad384, A384_3, c384_3, e384, hx384_0, hx384_1, hx384_2, hx384_3, hl384_3, hi384_3⟩ := at_T34 HR0.out x3_1 p384 q384
                 obtain rfl : ad380 = ad384 := (by injection e384)
                 replace hx384_0 := (HB.out.cell (World.block_lt_of_cell? w _ hx384_0)).trans hx384_0
                 replace hx384_1 := (HB.out.cell (World.block_lt_of_cell? w _ hx384_1)).trans hx384_1
                 replace hx384_2 := (HB.out.cell (World.block_lt_of_cell? w _ hx384_2)).trans hx384_2
                 replace hx384_3 := (HB.out.cell (World.block_lt_of_cell? w _ hx384_3)).trans hx384_3
                 have HR384_3 := Aside0.mk hi384_3
                 have HC384_3 := Aside0.mk hl384_3
                 clear hi384_3 hl384_3
                 replace p384 := zay p384
                 replace q384 := zay q384
                 have ea_ := Option.some.inj (hx381_3.symm.trans hx384_3)
                 injection ea_ with ea_ en_ ec_
                 subst ea_
                 subst ec_
                 clear en_
                 go_wp2
                 repeat (go_quiet (fail); try go_wp2)
                 go_roundg k3
                 case measure => have := HK1.out; have := HJ2.out; have := HK3.out; omega
                 case rel => exact ⟨(wrap64 (x4_3 + 1)), (by first | rfl | (simp; done) | (simp [*]; done)), H', ⟨by have := HK1.out; have := HJ2.out; have := HK3.out; omega⟩, ⟨by repeat (first | (with_reducible first | exact HB.out | apply zae | apply zab | apply zac) | exact HB.out)⟩⟩
               ·rw [if_neg c17] at H
                have c17b0 : (((rd_T34 l0 x4_3).f1) == ((rd_T34 l0 x3_1).f1)) = false := zcq.mpr c17
                have c17b1 : (((rd_T34 l0 x4_3).f1) != ((rd_T34 l0 x3_1).f1)) = true := zeq.mpr c17
                have H' := Aside0.mk H
                clear H
                have p380 : 0 ≤ (x4_3 : Int) := zad (by first | (with_reducible assumption) | assumption)
                have q380 : x4_3 < (l0.length : Int) := zad (by first | (with_reducible assumption) | assumption)
                obtain ⟨ad380, A380_3, c380_3, e380, hx380_0, hx380_1, hx380_2, hx380_3, hl380_3, hi380_3⟩ := at_T34 HR0.out x4_3 p380 q380
                cases e380
                replace hx380_0 := (HB.out.cell (World.block_lt_of_cell? w _ hx380_0)).trans hx380_0
                replace hx380_1 := (HB.out.cell (World.block_lt_of_cell? w _ hx380_1)).trans hx380_1
                replace hx380_2 := (HB.out.cell (World.block_lt_of_cell? w _ hx380_2)).trans hx380_2
                replace hx380_3 := (HB.out.cell (World.block_lt_of_cell? w _ hx380_3)).trans hx380_3
                have HR380_3 := Aside0.mk hi380_3
                have HC380_3 := Aside0.mk hl380_3
                clear hi380_3 hl380_3
                replace p380 := zay p380
                replace q380 := zay q380
                have p381 : 0 ≤ (x3_1 : Int) := zad (by first | (with_reducible assumption) | assumption)
                have q381 : x3_1 < (l0.length : Int) := zad (by first | (with_reducible assumption) | assumption)
                obtain ⟨ad381, A381_3, c381_3, e381, hx381_0, hx381_1, hx381_2, hx381_3, hl381_3, hi381_3⟩ := at_T34 HR0.out x3_1 p381 q381
                obtain rfl : ad380 = ad381 := (by injection e381)
                replace hx381_0 := (HB.out.cell (World.block_lt_of_cell? w _ hx381_0)).trans hx381_0
                replace hx381_1 := (HB.out.cell (World.block_lt_of_cell? w _ hx381_1)).trans hx381_1
                replace hx381_2 := (HB.out.cell (World.block_lt_of_cell? w _ hx381_2)).trans hx381_2
                replace hx381_3 := (HB.out.cell (World.block_lt_of_cell? w _ hx381_3)).trans hx381_3
                have HR381_3 := Aside0.mk hi381_3
                have HC381_3 := Aside0.mk hl381_3
                clear hi381_3 hl381_3
                replace p381 := zay p381
                replace q381 := zay q381
                have p382 : 0 ≤ (x4_3 : Int) := zad (by first | (with_reducible assumption) | assumption)
                have q382 : x4_3 < (l0.length : Int) := zad (by first | (with_reducible assumption) | assumption)
                obtain ⟨ad382, A382_3, c382_3, e382, hx382_0, hx382_1, hx382_2, hx382_3, hl382_3, hi382_3⟩ := at_T34 HR0.out x4_3 p382 q382
                obtain rfl : ad380 = ad382 := (by injection e382)
                replace hx382_0 := (HB.out.cell (World.block_lt_of_cell? w _ hx382_0)).trans hx382_0
                replace hx382_1 := (HB.out.cell (World.block_lt_of_cell? w _ hx382_1)).trans hx382_1
                replace hx382_2 := (HB.out.cell (World.block_lt_of_cell? w _ hx382_2)).trans hx382_2
                replace hx382_3 := (HB.out.cell (World.block_lt_of_cell? w _ hx382_3)).trans hx382_3
                have HR382_3 := Aside0.mk hi382_3
                have HC382_3 := Aside0.mk hl382_3
                clear hi382_3 hl382_3
                replace p382 := zay p382
                replace q382 := zay q382
                have ea_ := Option.some.inj (hx380_3.symm.trans hx382_3)
                injection ea_ with ea_ en_ ec_
                subst ea_
                subst ec_
                clear en_
                have p383 : 0 ≤ (x3_1 : Int) := zad (by first | (with_reducible assumption) | assumption)
                have q383 : x3_1 < (l0.length : Int) := zad (by first | (with_reducible assumption) | assumption)
                obtain ⟨ad383, A383_3, c383_3, e383, hx383_0, hx383_1, hx383_2, hx383_3, hl383_3, hi383_3⟩ := at_T34 HR0.out x3_1 p383 q383
                obtain rfl : ad380 = ad383 := (by injection e383)
                replace hx383_0 := (HB.out.cell (World.block_lt_of_cell? w _ hx383_0)).trans hx383_0
                replace hx383_1 := (HB.out.cell (World.block_lt_of_cell? w _ hx383_1)).trans hx383_1
                replace hx383_2 := (HB.out.cell (World.block_lt_of_cell? w _ hx383_2)).trans hx383_2
                replace hx383_3 := (HB.out.cell (World.block_lt_of_cell? w _ hx383_3)).trans hx383_3
                have HR383_3 := Aside0.mk hi383_3
                have HC383_3 := Aside0.mk hl383_3
                clear hi383_3 hl383_3
                replace p383 := zay p383
                replace q383 := zay q383
                have ea_ := Option.some.inj (hx381_3.symm.trans hx383_3)
                injection ea_ with ea_ en_ ec_
                subst ea_
                subst ec_
                clear en_
                go_wp2
                repeat (go_quiet (fail); try go_wp2)
                go_roundg k3
                case measure => have := HK1.out; have := HJ2.out; have := HK3.out; omega
                case rel => exact ⟨(wrap64 (x4_3 + 1)), (by first | rfl | (simp; done) | (simp [*]; done)), H', ⟨by have := HK1.out; have := HJ2.out; have := HK3.out; omega⟩, ⟨by repeat (first | (with_reducible first | exact HB.out | apply zae | apply zab | apply zac) | exact HB.out)⟩⟩
              ·rw [if_neg c16] at H
               have c16b0 : (((rd_T34 l0 x4_3).f0).toList == ((rd_T34 l0 x3_1).f0).toList) = false := zcq.mpr c16
               have c16b1 : (((rd_T34 l0 x4_3).f0).toList != ((rd_T34 l0 x3_1).f0).toList) = true := zeq.mpr c16
               have H' := Aside0.mk H
               clear H
               have p380 : 0 ≤ (x4_3 : Int) := zad (by first | (with_reducible assumption) | assumption)
               have q380 : x4_3 < (l0.length : Int) := zad (by first | (with_reducible assumption) | assumption)
               obtain ⟨ad380, A380_3, c380_3, e380, hx380_0, hx380_1, hx380_2, hx380_3, hl380_3, hi380_3⟩ := at_T34 HR0.out x4_3 p380 q380
               cases e380
               replace hx380_0 := (HB.out.cell (World.block_lt_of_cell? w _ hx380_0)).trans hx380_0
               replace hx380_1 := (HB.out.cell (World.block_lt_of_cell? w _ hx380_1)).trans hx380_1
               replace hx380_2 := (HB.out.cell (World.block_lt_of_cell? w _ hx380_2)).trans hx380_2
               replace hx380_3 := (HB.out.cell (World.block_lt_of_cell? w _ hx380_3)).trans hx380_3
               have HR380_3 := Aside0.mk hi380_3
               have HC380_3 := Aside0.mk hl380_3
               clear hi380_3 hl380_3
               replace p380 := zay p380
               replace q380 := zay q380
               have p381 : 0 ≤ (x3_1 : Int) := zad (by first | (with_reducible assumption) | assumption)
               have q381 : x3_1 < (l0.length : Int) := zad (by first | (with_reducible assumption) | assumption)
               obtain ⟨ad381, A381_3, c381_3, e381, hx381_0, hx381_1, hx381_2, hx381_3, hl381_3, hi381_3⟩ := at_T34 HR0.out x3_1 p381 q381
               obtain rfl : ad380 = ad381 := (by injection e381)
               replace hx381_0 := (HB.out.cell (World.block_lt_of_cell? w _ hx381_0)).trans hx381_0
               replace hx381_1 := (HB.out.cell (World.block_lt_of_cell? w _ hx381_1)).trans hx381_1
               replace hx381_2 := (HB.out.cell (World.block_lt_of_cell? w _ hx381_2)).trans hx381_2
               replace hx381_3 := (HB.out.cell (World.block_lt_of_cell? w _ hx381_3)).trans hx381_3
               have HR381_3 := Aside0.mk hi381_3
               have HC381_3 := Aside0.mk hl381_3
               clear hi381_3 hl381_3
               replace p381 := zay p381
               replace q381 := zay q381
               go_wp2
               repeat (go_quiet (fail); try go_wp2)
               go_roundg k3
               case measure => have := HK1.out; have := HJ2.out; have := HK3.out; omega
               case rel => exact ⟨(wrap64 (x4_3 + 1)), (by first | rfl | (simp; done) | (simp [*]; done)), H', ⟨by have := HK1.out; have := HJ2.out; have := HK3.out; omega⟩, ⟨by repeat (first | (with_reducible first | exact HB.out | apply zae | apply zab | apply zac) | exact HB.out)⟩⟩
             ·rw [if_neg c15] at H
              exact absurd H (by simp)
            ·rw [if_neg c14] at H
             exact absurd H (by simp)
           ·rw [if_neg c13] at H
            exact absurd H (by simp)
          ·rw [if_neg c12] at H
           exact absurd H (by simp)
         ·rw [if_neg c11] at H
          have c11b0 : decide (x4_3 < x3_1) = false := zbj c11
          clear c11
          have H' := Aside0.mk H
          clear H
          go_wp2
          repeat (go_quiet (fail); try go_wp2)
          go_roundg k3
          case measure => have := HK1.out; have := HJ2.out; have := HK3.out; omega
          case rel => exact ⟨(wrap64 (x3_1 + 1)), (by first | rfl | (simp; done) | (simp [*]; done)), H', ⟨by have := HK1.out; have := HJ2.out; have := HK3.out; omega⟩, ⟨by repeat (first | (with_reducible first | exact HB.out | apply zae | apply zab | apply zac) | exact HB.out)⟩⟩
   ·rw [if_neg c2] at H
    have c2b0 : decide (x3_1 < (l0.length : Int)) = false := zbj c2
    clear c2
    obtain rfl := Option.some.inj H
    go_wp2
    repeat (go_quiet (fail); try go_wp2)
    go_ret
    exact ⟨by first | rfl | (simp [zbb, zbc] <;> rfl) | (simp [*, zbb, zbc] <;> rfl), by repeat (first | (with_reducible first | exact HB.out | apply zae | apply zab | apply zac) | exact HB.out)⟩
end Go.Proofs.Ytlalkldjpniakaa.P
