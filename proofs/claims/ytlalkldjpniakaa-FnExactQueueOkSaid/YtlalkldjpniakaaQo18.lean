import Derived.Test.YtlalkldjpniakaaQo17
namespace Go.Proofs.Ytlalkldjpniakaa.P
open Go.RowKit Go.Proofs.YtlalkldjpniakaaW.PrintWords Go.Proofs.YtlalkldjpniakaaW.PrintLast Go.Proofs.YtlalkldjpniakaaW.PrintMore
attribute [local go_sem] zct zcu zdd zde zcl zcm zcv zcw   -- for this text's walks alone
set_option linter.unusedVariables false
set_option linter.unusedSimpArgs false

mutual
def spec_QueueOk.l0 : Nat → List (S34) → Int → Option (Bool)
 | 0, _, _ => none
 | k + 1, x0, x3 => if x3 < (x0.length : Int) then (if 0 ≤ x3 then ((spec_ItemOk.f k ((rd_T34 x0 x3).f0) ((rd_T34 x0 x3).f1) ((rd_T34 x0 x3).f2) ((rd_T34 x0 x3).f3)).bind fun t396 => (if t396 = true then ((spec_Of.f k x0 ((rd_T34 x0 x3).f0)).bind fun t398 => (spec_QueueOk.j1 k x0 x3 (decide (t398 > 4)))) else (spec_QueueOk.j1 k x0 x3 true))) else (none)) else (some (decide ((x0.length : Int) ≤ 10)))
def spec_QueueOk.j1 : Nat → List (S34) → Int → Bool → Option (Bool)
 | 0, _, _, _ => none
 | k + 1, x0, x3, x26 => if x26 = true then (some false) else (spec_QueueOk.l1 k x0 x3 0)
def spec_QueueOk.l1 : Nat → List (S34) → Int → Int → Option (Bool)
 | 0, _, _, _ => none
 | k + 1, x0, x3, x4 => if x4 < x3 then (if 0 ≤ x4 then (if x4 < (x0.length : Int) then (if 0 ≤ x3 then (if x3 < (x0.length : Int) then (if ((rd_T34 x0 x4).f0).toList = ((rd_T34 x0 x3).f0).toList then (if ((rd_T34 x0 x4).f1) = ((rd_T34 x0 x3).f1) then (if ((rd_T34 x0 x3).f1) > 0 then (some false) else (spec_QueueOk.l1 k x0 x3 (wrap64 (x4 + 1)))) else (spec_QueueOk.l1 k x0 x3 (wrap64 (x4 + 1)))) else (spec_QueueOk.l1 k x0 x3 (wrap64 (x4 + 1)))) else (none)) else (none)) else (none)) else (none)) else (spec_QueueOk.l0 k x0 (wrap64 (x3 + 1)))
end
def spec_QueueOk.f (k : Nat) (l0 : List (S34)) : Option (Bool) := spec_QueueOk.l0 k l0 0
theorem spec_QueueOk.mono_l : ∀ k, (∀ y0 y1, LeO (spec_QueueOk.l0 k y0 y1) (spec_QueueOk.l0 (k + 1) y0 y1)) ∧ (∀ y0 y1 y2, LeO (spec_QueueOk.j1 k y0 y1 y2) (spec_QueueOk.j1 (k + 1) y0 y1 y2)) ∧ (∀ y0 y1 y2, LeO (spec_QueueOk.l1 k y0 y1 y2) (spec_QueueOk.l1 (k + 1) y0 y1 y2))
 | 0 => ⟨fun _ _ r h => by simp [spec_QueueOk.l0] at h, fun _ _ _ r h => by simp [spec_QueueOk.j1] at h, fun _ _ _ r h => by simp [spec_QueueOk.l1] at h⟩
 | k + 1 => by
  obtain ⟨ih0, ih1, ih2⟩ := spec_QueueOk.mono_l k
  refine ⟨?_, ?_, ?_⟩
  ·intro y0 y1
   unfold spec_QueueOk.l0
   repeat' first
   | (with_reducible exact ih0 _ _)
   | (with_reducible exact ih1 _ _ _)
   | (with_reducible exact ih2 _ _ _)
   | (with_reducible exact spec_ItemOk.mono _ _ _ _ _)
   | (with_reducible exact spec_Of.mono _ _ _)
   | (with_reducible exact zci _)
   | (with_reducible exact zck _)
   | (with_reducible refine zcp ?_ ?_)
   | (with_reducible refine zcj ?_ (fun _ => ?_))
   | exact ih0 _ _
   | exact ih1 _ _ _
   | exact ih2 _ _ _
  ·intro y0 y1 y2
   unfold spec_QueueOk.j1
   repeat' first
   | (with_reducible exact ih0 _ _)
   | (with_reducible exact ih1 _ _ _)
   | (with_reducible exact ih2 _ _ _)
   | (with_reducible exact spec_ItemOk.mono _ _ _ _ _)
   | (with_reducible exact spec_Of.mono _ _ _)
   | (with_reducible exact zci _)
   | (with_reducible exact zck _)
   | (with_reducible refine zcp ?_ ?_)
   | (with_reducible refine zcj ?_ (fun _ => ?_))
   | exact ih0 _ _
   | exact ih1 _ _ _
   | exact ih2 _ _ _
  ·intro y0 y1 y2
   unfold spec_QueueOk.l1
   repeat' first
   | (with_reducible exact ih0 _ _)
   | (with_reducible exact ih1 _ _ _)
   | (with_reducible exact ih2 _ _ _)
   | (with_reducible exact spec_ItemOk.mono _ _ _ _ _)
   | (with_reducible exact spec_Of.mono _ _ _)
   | (with_reducible exact zci _)
   | (with_reducible exact zck _)
   | (with_reducible refine zcp ?_ ?_)
   | (with_reducible refine zcj ?_ (fun _ => ?_))
   | exact ih0 _ _
   | exact ih1 _ _ _
   | exact ih2 _ _ _
theorem spec_QueueOk.mono : ∀ a0 k, LeO (spec_QueueOk.f k a0) (spec_QueueOk.f (k + 1) a0) := by
 intro a0 k
 obtain ⟨ih0, ih1, ih2⟩ := spec_QueueOk.mono_l k
 unfold spec_QueueOk.f
 repeat' first
   | (with_reducible exact ih0 _ _)
   | (with_reducible exact ih1 _ _ _)
   | (with_reducible exact ih2 _ _ _)
   | (with_reducible exact spec_ItemOk.mono _ _ _ _ _)
   | (with_reducible exact spec_Of.mono _ _ _)
   | (with_reducible exact zci _)
   | (with_reducible exact zck _)
   | (with_reducible refine zcp ?_ ?_)
   | (with_reducible refine zcj ?_ (fun _ => ?_))
   | exact ih0 _ _
   | exact ih1 _ _ _
   | exact ih2 _ _ _
set_option maxHeartbeats 8000000 in
set_option maxRecDepth 100000 in
theorem spec_QueueOk.calls (k : Nat) (A0 : Option Addr) (c0 : Nat) (l0 : List (S34)) (r : Bool) (w : World) (hr0 : Kd.C k34 w A0 l0.length l0) (hc0 : l0.length ≤ c0) (h : spec_QueueOk.f k l0 = some r) :
  Calls Try.prog 42 #[.slice A0 l0.length c0] w fun e w' => e = .returned (.bool r) ∧ Below w.heap.size w w' := by
 have hu34 := Try.underlying34
 have HR0 := Aside0.mk hr0
 have HC0 := Aside0.mk hc0
 clear hr0 hc0
 have HB := Aside0.mk (zbt w.heap.size w)
 have H : (spec_QueueOk.l0 k l0 0) = some r := h
 clear h
 have H' := Aside0.mk H
 clear H
 go_enter Try.func42, Try.ntmps42
 go_wp2
 repeat (go_quiet (fail); try go_wp2)
 go_loopg [3] k (fun kq v3 w' => ∃ (x3_1 : Int), v3 = .int .i64 x3_1 ∧ Aside0 (spec_QueueOk.l0 kq l0 x3_1 = some r) ∧ Aside0 (kq ≤ k) ∧ Aside0 (Below w.heap.size w w'))
 case atStart => exact ⟨(0), (by first | rfl | (simp; done) | (simp [*]; done)), H', ⟨zbi _⟩, ⟨by repeat (first | (with_reducible first | exact HB.out | apply zae | apply zab | apply zad) | exact HB.out)⟩⟩
 case round =>
  clear H'
  obtain ⟨x3_1, rfl, HA, HK1, HB⟩ := hrel
  cases gk with
  | zero => exact absurd HA.out (by simp [spec_QueueOk.l0])
  | succ k1 =>
   have H := HA.out
   clear HA
   simp only [spec_QueueOk.l0] at H
   by_cases c2 : x3_1 < (l0.length : Int)
   ·rw [if_pos c2] at H
    have c2b0 : decide (x3_1 < (l0.length : Int)) = true := zak c2
    clear c2
    have HC3 := Aside0.mk H
    clear H
    go_upto_region 4 with (fail)
    repeat (go_quiet (fail); go_upto_region 4 with (fail))
    go_cut [26] (fun v26 wc => ∃ (kq : Nat) (x26_2 : Bool), v26 = .bool x26_2 ∧ Aside0 (spec_QueueOk.j1 kq l0 x3_1 x26_2 = some r) ∧ Aside0 (kq ≤ k1) ∧ Aside0 (Below w.heap.size w wc))
    case first =>
     have H := HC3.out
     clear HC3
     by_cases c4 : 0 ≤ x3_1
     ·rw [if_pos c4] at H
      have c4b0 : decide (0 ≤ x3_1) = true := zak c4
      clear c4
      (first | rw [c4b0] | (simp only [i64_w, i32_w]; rw [c4b0]) | skip)
      replace H := zam.mp H
      obtain ⟨t396, A50, H⟩ := H
      try dsimp only at H
      have A5 := Aside0.mk A50
      clear A50
      by_cases c6 : t396 = true
      ·subst c6
       have H1 : ((spec_Of.f k1 l0 ((rd_T34 l0 x3_1).f0)).bind fun t398 => (spec_QueueOk.j1 k1 l0 x3_1 (decide (t398 > 4)))) = some r := by rw [if_pos rfl] at H; exact H
       clear H
       have H := H1
       clear H1
       replace H := zam.mp H
       obtain ⟨t398, A70, H⟩ := H
       try dsimp only at H
       have A7 := Aside0.mk A70
       clear A70
       have H' := Aside0.mk H
       clear H
       have p395 : 0 ≤ (x3_1 : Int) := zac (by first | (with_reducible assumption) | assumption)
       have q395 : x3_1 < (l0.length : Int) := zac (by first | (with_reducible assumption) | assumption)
       obtain ⟨ad395, A395_3, c395_3, e395, hx395_0, hx395_1, hx395_2, hx395_3, hl395_3, hi395_3⟩ := at_T34 HR0.out x3_1 p395 q395
       cases e395
       replace hx395_0 := (HB.out.cell (World.block_lt_of_cell? w _ hx395_0)).trans hx395_0
       replace hx395_1 := (HB.out.cell (World.block_lt_of_cell? w _ hx395_1)).trans hx395_1
       replace hx395_2 := (HB.out.cell (World.block_lt_of_cell? w _ hx395_2)).trans hx395_2
       replace hx395_3 := (HB.out.cell (World.block_lt_of_cell? w _ hx395_3)).trans hx395_3
       have HR395_3 := Aside0.mk hi395_3
       have HC395_3 := Aside0.mk hl395_3
       clear hi395_3 hl395_3
       replace p395 := zar p395
       replace q395 := zar q395
       go_wp2_with (first | (go_at_call 24; (with_reducible refine (spec_ItemOk.calls k1 ((rd_T34 l0 x3_1).f0) ((rd_T34 l0 x3_1).f1) ((rd_T34 l0 x3_1).f2) _ _ ((rd_T34 l0 x3_1).f3) true _ ?side1 ?side2 A5.out).mono ?_); (case side1 => repeat (first | exact (zbn HR395_3.out HB.out) | (with_reducible first | apply zbg | apply zbh | apply zbp))); (case side2 => exact HC395_3.out); rintro e w8 ⟨rfl, hb⟩; have n0_ := Aside0.mk (zai (by repeat (first | (with_reducible first | exact HB.out | apply zae | apply zab | apply zad) | exact HB.out)) hb); clear HB; have HB := n0_; clear n0_; (try clear hb); (try clear hb2); (try clear hk); (try clear hi); have p397 : 0 ≤ (x3_1 : Int) := zac (by first | (with_reducible assumption) | assumption); have q397 : x3_1 < (l0.length : Int) := zac (by first | (with_reducible assumption) | assumption); obtain ⟨ad397, A397_3, c397_3, e397, hx397_0, hx397_1, hx397_2, hx397_3, hl397_3, hi397_3⟩ := at_T34 HR0.out x3_1 p397 q397; obtain rfl : ad395 = ad397 := (by injection e397); replace hx397_0 := (HB.out.cell (World.block_lt_of_cell? w _ hx397_0)).trans hx397_0; replace hx397_1 := (HB.out.cell (World.block_lt_of_cell? w _ hx397_1)).trans hx397_1; replace hx397_2 := (HB.out.cell (World.block_lt_of_cell? w _ hx397_2)).trans hx397_2; replace hx397_3 := (HB.out.cell (World.block_lt_of_cell? w _ hx397_3)).trans hx397_3; have HR397_3 := Aside0.mk hi397_3; have HC397_3 := Aside0.mk hl397_3; clear hi397_3 hl397_3; replace p397 := zar p397; replace q397 := zar q397) | (go_at_call 19; (with_reducible refine (spec_Of.calls k1 _ _ l0 ((rd_T34 l0 x3_1).f0) t398 _ ?side1 ?side2 A7.out).mono ?_); (case side1 => repeat (first | exact (zbn HR0.out HB.out) | (with_reducible first | apply zbg | apply zbh | apply zbp))); (case side2 => exact HC0.out); rintro e w' ⟨rfl, ⟨nd, rfl⟩⟩; (try first | exact ⟨rfl, _, zaf _ _ _⟩ | exact ⟨rfl, _, zcc (zaf _ _ _) (zcd (World.drewN _) (zba _ _ _))⟩)))
       repeat (go_quiet (first | (go_at_call 24; (with_reducible refine (spec_ItemOk.calls k1 ((rd_T34 l0 x3_1).f0) ((rd_T34 l0 x3_1).f1) ((rd_T34 l0 x3_1).f2) _ _ ((rd_T34 l0 x3_1).f3) true _ ?side1 ?side2 A5.out).mono ?_); (case side1 => repeat (first | exact (zbn HR395_3.out HB.out) | (with_reducible refine zbg ?_ _) | (with_reducible refine zbh ?_ _) | (with_reducible refine zbp ?_))); (case side2 => exact HC395_3.out); rintro e w8 ⟨rfl, hb⟩; have n0_ := Aside0.mk (zai (by repeat (first | (with_reducible first | exact HB.out | apply zae | apply zab | apply zad) | exact HB.out)) hb); clear HB; have HB := n0_; clear n0_; (try clear hb); (try clear hb2); (try clear hk); (try clear hi); have p397 : 0 ≤ (x3_1 : Int) := zac (by first | (with_reducible assumption) | assumption); have q397 : x3_1 < (l0.length : Int) := zac (by first | (with_reducible assumption) | assumption); obtain ⟨ad397, A397_3, c397_3, e397, hx397_0, hx397_1, hx397_2, hx397_3, hl397_3, hi397_3⟩ := at_T34 HR0.out x3_1 p397 q397; obtain rfl : ad395 = ad397 := (by injection e397); replace hx397_0 := (HB.out.cell (World.block_lt_of_cell? w _ hx397_0)).trans hx397_0; replace hx397_1 := (HB.out.cell (World.block_lt_of_cell? w _ hx397_1)).trans hx397_1; replace hx397_2 := (HB.out.cell (World.block_lt_of_cell? w _ hx397_2)).trans hx397_2; replace hx397_3 := (HB.out.cell (World.block_lt_of_cell? w _ hx397_3)).trans hx397_3; have HR397_3 := Aside0.mk hi397_3; have HC397_3 := Aside0.mk hl397_3; clear hi397_3 hl397_3; replace p397 := zar p397; replace q397 := zar q397) | (go_at_call 19; (with_reducible refine (spec_Of.calls k1 _ _ l0 ((rd_T34 l0 x3_1).f0) t398 _ ?side1 ?side2 A7.out).mono ?_); (case side1 => repeat (first | exact (zbn HR0.out HB.out) | (with_reducible refine zbg ?_ _) | (with_reducible refine zbh ?_ _) | (with_reducible refine zbp ?_))); (case side2 => exact HC0.out); rintro e w' ⟨rfl, ⟨nd, rfl⟩⟩; (try first | exact ⟨rfl, _, zaf _ _ _⟩ | exact ⟨rfl, _, zcc (zaf _ _ _) (zcd (World.drewN _) (zba _ _ _))⟩))); try go_wp2_with (first | (go_at_call 24; (with_reducible refine (spec_ItemOk.calls k1 ((rd_T34 l0 x3_1).f0) ((rd_T34 l0 x3_1).f1) ((rd_T34 l0 x3_1).f2) _ _ ((rd_T34 l0 x3_1).f3) true _ ?side1 ?side2 A5.out).mono ?_); (case side1 => repeat (first | exact (zbn HR395_3.out HB.out) | (with_reducible refine zbg ?_ _) | (with_reducible refine zbh ?_ _) | (with_reducible refine zbp ?_))); (case side2 => exact HC395_3.out); rintro e w8 ⟨rfl, hb⟩; have n0_ := Aside0.mk (zai (by repeat (first | (with_reducible first | exact HB.out | apply zae | apply zab | apply zad) | exact HB.out)) hb); clear HB; have HB := n0_; clear n0_; (try clear hb); (try clear hb2); (try clear hk); (try clear hi); have p397 : 0 ≤ (x3_1 : Int) := zac (by first | (with_reducible assumption) | assumption); have q397 : x3_1 < (l0.length : Int) := zac (by first | (with_reducible assumption) | assumption); obtain ⟨ad397, A397_3, c397_3, e397, hx397_0, hx397_1, hx397_2, hx397_3, hl397_3, hi397_3⟩ := at_T34 HR0.out x3_1 p397 q397; obtain rfl : ad395 = ad397 := (by injection e397); replace hx397_0 := (HB.out.cell (World.block_lt_of_cell? w _ hx397_0)).trans hx397_0; replace hx397_1 := (HB.out.cell (World.block_lt_of_cell? w _ hx397_1)).trans hx397_1; replace hx397_2 := (HB.out.cell (World.block_lt_of_cell? w _ hx397_2)).trans hx397_2; replace hx397_3 := (HB.out.cell (World.block_lt_of_cell? w _ hx397_3)).trans hx397_3; have HR397_3 := Aside0.mk hi397_3; have HC397_3 := Aside0.mk hl397_3; clear hi397_3 hl397_3; replace p397 := zar p397; replace q397 := zar q397) | (go_at_call 19; (with_reducible refine (spec_Of.calls k1 _ _ l0 ((rd_T34 l0 x3_1).f0) t398 _ ?side1 ?side2 A7.out).mono ?_); (case side1 => repeat (first | exact (zbn HR0.out HB.out) | (with_reducible refine zbg ?_ _) | (with_reducible refine zbh ?_ _) | (with_reducible refine zbp ?_))); (case side2 => exact HC0.out); rintro e w' ⟨rfl, ⟨nd, rfl⟩⟩; (try first | exact ⟨rfl, _, zaf _ _ _⟩ | exact ⟨rfl, _, zcc (zaf _ _ _) (zcd (World.drewN _) (zba _ _ _))⟩))))
       go_meet
       case rel => exact ⟨_, (decide (t398 > 4)), (by first | rfl | (simp; done) | (simp [*]; done)), H', ⟨by have := HK1.out; first | omega | exact zbi _⟩, ⟨by repeat (first | (with_reducible first | exact HB.out | apply zae | apply zab | apply zad) | exact HB.out)⟩⟩
      ·replace c6 := zbz.mpr c6
       subst c6
       have H1 : (spec_QueueOk.j1 k1 l0 x3_1 true) = some r := by rw [if_neg (show ¬ (false = true) by decide)] at H; exact H
       clear H
       have H := H1
       clear H1
       have H' := Aside0.mk H
       clear H
       have p395 : 0 ≤ (x3_1 : Int) := zac (by first | (with_reducible assumption) | assumption)
       have q395 : x3_1 < (l0.length : Int) := zac (by first | (with_reducible assumption) | assumption)
       obtain ⟨ad395, A395_3, c395_3, e395, hx395_0, hx395_1, hx395_2, hx395_3, hl395_3, hi395_3⟩ := at_T34 HR0.out x3_1 p395 q395
       cases e395
       replace hx395_0 := (HB.out.cell (World.block_lt_of_cell? w _ hx395_0)).trans hx395_0
       replace hx395_1 := (HB.out.cell (World.block_lt_of_cell? w _ hx395_1)).trans hx395_1
       replace hx395_2 := (HB.out.cell (World.block_lt_of_cell? w _ hx395_2)).trans hx395_2
       replace hx395_3 := (HB.out.cell (World.block_lt_of_cell? w _ hx395_3)).trans hx395_3
       have HR395_3 := Aside0.mk hi395_3
       have HC395_3 := Aside0.mk hl395_3
       clear hi395_3 hl395_3
       replace p395 := zar p395
       replace q395 := zar q395
       go_wp2_with (first | (go_at_call 24; (with_reducible refine (spec_ItemOk.calls k1 ((rd_T34 l0 x3_1).f0) ((rd_T34 l0 x3_1).f1) ((rd_T34 l0 x3_1).f2) _ _ ((rd_T34 l0 x3_1).f3) false _ ?side1 ?side2 A5.out).mono ?_); (case side1 => repeat (first | exact (zbn HR395_3.out HB.out) | (with_reducible first | apply zbg | apply zbh | apply zbp))); (case side2 => exact HC395_3.out); rintro e w9 ⟨rfl, hb⟩; have n0_ := Aside0.mk (zai (by repeat (first | (with_reducible first | exact HB.out | apply zae | apply zab | apply zad) | exact HB.out)) hb); clear HB; have HB := n0_; clear n0_; (try clear hb); (try clear hb2); (try clear hk); (try clear hi)))
       repeat (go_quiet (first | (go_at_call 24; (with_reducible refine (spec_ItemOk.calls k1 ((rd_T34 l0 x3_1).f0) ((rd_T34 l0 x3_1).f1) ((rd_T34 l0 x3_1).f2) _ _ ((rd_T34 l0 x3_1).f3) false _ ?side1 ?side2 A5.out).mono ?_); (case side1 => repeat (first | exact (zbn HR395_3.out HB.out) | (with_reducible refine zbg ?_ _) | (with_reducible refine zbh ?_ _) | (with_reducible refine zbp ?_))); (case side2 => exact HC395_3.out); rintro e w9 ⟨rfl, hb⟩; have n0_ := Aside0.mk (zai (by repeat (first | (with_reducible first | exact HB.out | apply zae | apply zab | apply zad) | exact HB.out)) hb); clear HB; have HB := n0_; clear n0_; (try clear hb); (try clear hb2); (try clear hk); (try clear hi))); try go_wp2_with (first | (go_at_call 24; (with_reducible refine (spec_ItemOk.calls k1 ((rd_T34 l0 x3_1).f0) ((rd_T34 l0 x3_1).f1) ((rd_T34 l0 x3_1).f2) _ _ ((rd_T34 l0 x3_1).f3) false _ ?side1 ?side2 A5.out).mono ?_); (case side1 => repeat (first | exact (zbn HR395_3.out HB.out) | (with_reducible refine zbg ?_ _) | (with_reducible refine zbh ?_ _) | (with_reducible refine zbp ?_))); (case side2 => exact HC395_3.out); rintro e w9 ⟨rfl, hb⟩; have n0_ := Aside0.mk (zai (by repeat (first | (with_reducible first | exact HB.out | apply zae | apply zab | apply zad) | exact HB.out)) hb); clear HB; have HB := n0_; clear n0_; (try clear hb); (try clear hb2); (try clear hk); (try clear hi))))
       go_meet
       case rel => exact ⟨_, (true), (by first | rfl | (simp; done) | (simp [*]; done)), H', ⟨by have := HK1.out; first | omega | exact zbi _⟩, ⟨by repeat (first | (with_reducible first | exact HB.out | apply zae | apply zab | apply zad) | exact HB.out)⟩⟩
     ·rw [if_neg c4] at H
      exact absurd H (by simp)
    case rest =>
     clear HC3
     try clear c2
     try clear c2b0
     try clear p2
     try clear c3
     try clear p3
     try clear q3
     try clear hx3
     try clear c4
     try clear c4b0
     try clear c6
     try clear hx395_0
     try clear hx395_1
     try clear hx395_2
     try clear hx395_3
     try clear hx397_0
     try clear hx397_1
     try clear hx397_2
     try clear hx397_3
     try clear p395
     try clear p397
     try clear q395
     try clear q397
     obtain ⟨kq, x26_2, rfl, HA, HJ2, HB⟩ := hcut
     cases kq with
     | zero => exact absurd HA.out (by simp [spec_QueueOk.j1])
     | succ kj2 =>
      have H := HA.out
      clear HA
      simp only [spec_QueueOk.j1] at H
      by_cases c10 : x26_2 = true
      ·subst c10
       have H1 : (some false) = some r := by rw [if_pos rfl] at H; exact H
       clear H
       have H := H1
       clear H1
       obtain rfl := Option.some.inj H
       go_wp2
       repeat (go_quiet (fail); try go_wp2)
       go_ret
       exact ⟨by first | rfl | (simp [zan, zao] <;> rfl) | (simp [*, zan, zao] <;> rfl), by repeat (first | (with_reducible first | exact HB.out | apply zae | apply zab | apply zad) | exact HB.out)⟩
      ·replace c10 := zbz.mpr c10
       subst c10
       have H1 : (spec_QueueOk.l1 kj2 l0 x3_1 0) = some r := by rw [if_neg (show ¬ (false = true) by decide)] at H; exact H
       clear H
       have H := H1
       clear H1
       have H' := Aside0.mk H
       clear H
       go_wp2
       repeat (go_quiet (fail); try go_wp2)
       go_loopg [4] kj2 (fun kq v4 w' => ∃ (x4_3 : Int), v4 = .int .i64 x4_3 ∧ Aside0 (spec_QueueOk.l1 kq l0 x3_1 x4_3 = some r) ∧ Aside0 (kq ≤ kj2) ∧ Aside0 (Below w.heap.size w w'))
       case atStart => exact ⟨(0), (by first | rfl | (simp; done) | (simp [*]; done)), H', ⟨zbi _⟩, ⟨by repeat (first | (with_reducible first | exact HB.out | apply zae | apply zab | apply zad) | exact HB.out)⟩⟩
       case round =>
        clear H'
        try clear c1
        try clear c2
        try clear c2b0
        try clear p2
        try clear c3
        try clear p3
        try clear q3
        try clear hx3
        try clear c4
        try clear c4b0
        try clear c6
        try clear c10
        try clear hx395_0
        try clear hx395_1
        try clear hx395_2
        try clear hx395_3
        try clear hx397_0
        try clear hx397_1
        try clear hx397_2
        try clear hx397_3
        try clear p2
        try clear p3
        try clear p395
        try clear p397
        try clear q3
        try clear q395
        try clear q397
        obtain ⟨x4_3, rfl, HA, HK3, HB⟩ := hrel
        cases gk with
        | zero => exact absurd HA.out (by simp [spec_QueueOk.l1])
        | succ k3 =>
         have H := HA.out
         clear HA
         simp only [spec_QueueOk.l1] at H
         by_cases c11 : x4_3 < x3_1
         ·rw [if_pos c11] at H
          have c11b0 : decide (x4_3 < x3_1) = true := zak c11
          clear c11
          by_cases c12 : 0 ≤ x4_3
          ·rw [if_pos c12] at H
           have c12b0 : decide (0 ≤ x4_3) = true := zak c12
           clear c12
           by_cases c13 : x4_3 < (l0.length : Int)
           ·rw [if_pos c13] at H
            have c13b0 : decide (x4_3 < (l0.length : Int)) = true := zak c13
            clear c13
            by_cases c14 : 0 ≤ x3_1
            ·rw [if_pos c14] at H
             have c14b0 : decide (0 ≤ x3_1) = true := zak c14
             clear c14
             by_cases c15 : x3_1 < (l0.length : Int)
             ·rw [if_pos c15] at H
              have c15b0 : decide (x3_1 < (l0.length : Int)) = true := zak c15
              clear c15
              by_cases c16 : ((rd_T34 l0 x4_3).f0).toList = ((rd_T34 l0 x3_1).f0).toList
              ·rw [if_pos c16] at H
               have c16b0 : (((rd_T34 l0 x4_3).f0).toList == ((rd_T34 l0 x3_1).f0).toList) = true := beq_iff_eq.mpr c16
               have c16b1 : (((rd_T34 l0 x4_3).f0).toList != ((rd_T34 l0 x3_1).f0).toList) = false := zcf.mpr c16
               clear c16
               by_cases c17 : ((rd_T34 l0 x4_3).f1) = ((rd_T34 l0 x3_1).f1)
               ·rw [if_pos c17] at H
                have c17b0 : (((rd_T34 l0 x4_3).f1) == ((rd_T34 l0 x3_1).f1)) = true := beq_iff_eq.mpr c17
                have c17b1 : (((rd_T34 l0 x4_3).f1) != ((rd_T34 l0 x3_1).f1)) = false := zcf.mpr c17
                clear c17
                by_cases c18 : ((rd_T34 l0 x3_1).f1) > 0
                ·rw [if_pos c18] at H
                 have c18b0 : decide (0 < ((rd_T34 l0 x3_1).f1)) = true := zak c18
                 clear c18
                 obtain rfl := Option.some.inj H
                 have p399 : 0 ≤ (x4_3 : Int) := zac (by first | (with_reducible assumption) | assumption)
                 have q399 : x4_3 < (l0.length : Int) := zac (by first | (with_reducible assumption) | assumption)
                 obtain ⟨ad399, A399_3, c399_3, e399, hx399_0, hx399_1, hx399_2, hx399_3, hl399_3, hi399_3⟩ := at_T34 HR0.out x4_3 p399 q399
                 cases e399
                 replace hx399_0 := (HB.out.cell (World.block_lt_of_cell? w _ hx399_0)).trans hx399_0
                 replace hx399_1 := (HB.out.cell (World.block_lt_of_cell? w _ hx399_1)).trans hx399_1
                 replace hx399_2 := (HB.out.cell (World.block_lt_of_cell? w _ hx399_2)).trans hx399_2
                 replace hx399_3 := (HB.out.cell (World.block_lt_of_cell? w _ hx399_3)).trans hx399_3
                 have HR399_3 := Aside0.mk hi399_3
                 have HC399_3 := Aside0.mk hl399_3
                 clear hi399_3 hl399_3
                 replace p399 := zar p399
                 replace q399 := zar q399
                 have p400 : 0 ≤ (x3_1 : Int) := zac (by first | (with_reducible assumption) | assumption)
                 have q400 : x3_1 < (l0.length : Int) := zac (by first | (with_reducible assumption) | assumption)
                 obtain ⟨ad400, A400_3, c400_3, e400, hx400_0, hx400_1, hx400_2, hx400_3, hl400_3, hi400_3⟩ := at_T34 HR0.out x3_1 p400 q400
                 obtain rfl : ad399 = ad400 := (by injection e400)
                 replace hx400_0 := (HB.out.cell (World.block_lt_of_cell? w _ hx400_0)).trans hx400_0
                 replace hx400_1 := (HB.out.cell (World.block_lt_of_cell? w _ hx400_1)).trans hx400_1
                 replace hx400_2 := (HB.out.cell (World.block_lt_of_cell? w _ hx400_2)).trans hx400_2
                 replace hx400_3 := (HB.out.cell (World.block_lt_of_cell? w _ hx400_3)).trans hx400_3
                 have HR400_3 := Aside0.mk hi400_3
                 have HC400_3 := Aside0.mk hl400_3
                 clear hi400_3 hl400_3
                 replace p400 := zar p400
                 replace q400 := zar q400
                 have p401 : 0 ≤ (x4_3 : Int) := zac (by first | (with_reducible assumption) | assumption)
                 have q401 : x4_3 < (l0.length : Int) := zac (by first | (with_reducible assumption) | assumption)
                 obtain ⟨ad401, A401_3, c401_3, e401, hx401_0, hx401_1, hx401_2, hx401_3, hl401_3, hi401_3⟩ := at_T34 HR0.out x4_3 p401 q401
                 obtain rfl : ad399 = ad401 := (by injection e401)
                 replace hx401_0 := (HB.out.cell (World.block_lt_of_cell? w _ hx401_0)).trans hx401_0
                 replace hx401_1 := (HB.out.cell (World.block_lt_of_cell? w _ hx401_1)).trans hx401_1
                 replace hx401_2 := (HB.out.cell (World.block_lt_of_cell? w _ hx401_2)).trans hx401_2
                 replace hx401_3 := (HB.out.cell (World.block_lt_of_cell? w _ hx401_3)).trans hx401_3
                 have HR401_3 := Aside0.mk hi401_3
                 have HC401_3 := Aside0.mk hl401_3
                 clear hi401_3 hl401_3
                 replace p401 := zar p401
                 replace q401 := zar q401
                 have ea_ := Option.some.inj (hx399_3.symm.trans hx401_3)
                 injection ea_ with ea_ en_ ec_
                 subst ea_
                 subst ec_
                 clear en_
                 have p402 : 0 ≤ (x3_1 : Int) := zac (by first | (with_reducible assumption) | assumption)
                 have q402 : x3_1 < (l0.length : Int) := zac (by first | (with_reducible assumption) | assumption)
                 obtain ⟨ad402, A402_3, c402_3, e402, hx402_0, hx402_1, hx402_2, hx402_3, hl402_3, hi402_3⟩ := at_T34 HR0.out x3_1 p402 q402
                 obtain rfl : ad399 = ad402 := (by injection e402)
                 replace hx402_0 := (HB.out.cell (World.block_lt_of_cell? w _ hx402_0)).trans hx402_0
                 replace hx402_1 := (HB.out.cell (World.block_lt_of_cell? w _ hx402_1)).trans hx402_1
                 replace hx402_2 := (HB.out.cell (World.block_lt_of_cell? w _ hx402_2)).trans hx402_2
                 replace hx402_3 := (HB.out.cell (World.block_lt_of_cell? w _ hx402_3)).trans hx402_3
                 have HR402_3 := Aside0.mk hi402_3
                 have HC402_3 := Aside0.mk hl402_3
                 clear hi402_3 hl402_3
                 replace p402 := zar p402
                 replace q402 := zar q402
                 have ea_ := Option.some.inj (hx400_3.symm.trans hx402_3)
                 injection ea_ with ea_ en_ ec_
                 subst ea_
                 subst ec_
                 clear en_
                 have p403 : 0 ≤ (x3_1 : Int) := zac (by first | (with_reducible assumption) | assumption)
                 have q403 : x3_1 < (l0.length : Int) := zac (by first | (with_reducible assumption) | assumption)
                 obtain ⟨ad403, A403_3, c403_3, e403, hx403_0, hx403_1, hx403_2, hx403_3, hl403_3, hi403_3⟩ := at_T34 HR0.out x3_1 p403 q403
                 obtain rfl : ad399 = ad403 := (by injection e403)
                 replace hx403_0 := (HB.out.cell (World.block_lt_of_cell? w _ hx403_0)).trans hx403_0
                 replace hx403_1 := (HB.out.cell (World.block_lt_of_cell? w _ hx403_1)).trans hx403_1
                 replace hx403_2 := (HB.out.cell (World.block_lt_of_cell? w _ hx403_2)).trans hx403_2
                 replace hx403_3 := (HB.out.cell (World.block_lt_of_cell? w _ hx403_3)).trans hx403_3
                 have HR403_3 := Aside0.mk hi403_3
                 have HC403_3 := Aside0.mk hl403_3
                 clear hi403_3 hl403_3
                 replace p403 := zar p403
                 replace q403 := zar q403
                 have ea_ := Option.some.inj (hx400_3.symm.trans hx403_3)
                 injection ea_ with ea_ en_ ec_
                 subst ea_
                 subst ec_
                 clear en_
                 go_wp2
                 repeat (go_quiet (fail); try go_wp2)
                 go_ret
                 exact ⟨by first | rfl | (simp [zan, zao] <;> rfl) | (simp [*, zan, zao] <;> rfl), by repeat (first | (with_reducible first | exact HB.out | apply zae | apply zab | apply zad) | exact HB.out)⟩
                ·rw [if_neg c18] at H
                 have c18b0 : decide (0 < ((rd_T34 l0 x3_1).f1)) = false := zbd c18
                 clear c18
                 have H' := Aside0.mk H
                 clear H
                 have p399 : 0 ≤ (x4_3 : Int) := zac (by first | (with_reducible assumption) | assumption)
                 have q399 : x4_3 < (l0.length : Int) := zac (by first | (with_reducible assumption) | assumption)
                 obtain ⟨ad399, A399_3, c399_3, e399, hx399_0, hx399_1, hx399_2, hx399_3, hl399_3, hi399_3⟩ := at_T34 HR0.out x4_3 p399 q399
                 cases e399
                 replace hx399_0 := (HB.out.cell (World.block_lt_of_cell? w _ hx399_0)).trans hx399_0
                 replace hx399_1 := (HB.out.cell (World.block_lt_of_cell? w _ hx399_1)).trans hx399_1
                 replace hx399_2 := (HB.out.cell (World.block_lt_of_cell? w _ hx399_2)).trans hx399_2
                 replace hx399_3 := (HB.out.cell (World.block_lt_of_cell? w _ hx399_3)).trans hx399_3
                 have HR399_3 := Aside0.mk hi399_3
                 have HC399_3 := Aside0.mk hl399_3
                 clear hi399_3 hl399_3
                 replace p399 := zar p399
                 replace q399 := zar q399
                 have p400 : 0 ≤ (x3_1 : Int) := zac (by first | (with_reducible assumption) | assumption)
                 have q400 : x3_1 < (l0.length : Int) := zac (by first | (with_reducible assumption) | assumption)
                 obtain ⟨ad400, A400_3, c400_3, e400, hx400_0, hx400_1, hx400_2, hx400_3, hl400_3, hi400_3⟩ := at_T34 HR0.out x3_1 p400 q400
                 obtain rfl : ad399 = ad400 := (by injection e400)
                 replace hx400_0 := (HB.out.cell (World.block_lt_of_cell? w _ hx400_0)).trans hx400_0
                 replace hx400_1 := (HB.out.cell (World.block_lt_of_cell? w _ hx400_1)).trans hx400_1
                 replace hx400_2 := (HB.out.cell (World.block_lt_of_cell? w _ hx400_2)).trans hx400_2
                 replace hx400_3 := (HB.out.cell (World.block_lt_of_cell? w _ hx400_3)).trans hx400_3
                 have HR400_3 := Aside0.mk hi400_3
                 have HC400_3 := Aside0.mk hl400_3
                 clear hi400_3 hl400_3
                 replace p400 := zar p400
                 replace q400 := zar q400
                 have p401 : 0 ≤ (x4_3 : Int) := zac (by first | (with_reducible assumption) | assumption)
                 have q401 : x4_3 < (l0.length : Int) := zac (by first | (with_reducible assumption) | assumption)
                 obtain ⟨ad401, A401_3, c401_3, e401, hx401_0, hx401_1, hx401_2, hx401_3, hl401_3, hi401_3⟩ := at_T34 HR0.out x4_3 p401 q401
                 obtain rfl : ad399 = ad401 := (by injection e401)
                 replace hx401_0 := (HB.out.cell (World.block_lt_of_cell? w _ hx401_0)).trans hx401_0
                 replace hx401_1 := (HB.out.cell (World.block_lt_of_cell? w _ hx401_1)).trans hx401_1
                 replace hx401_2 := (HB.out.cell (World.block_lt_of_cell? w _ hx401_2)).trans hx401_2
                 replace hx401_3 := (HB.out.cell (World.block_lt_of_cell? w _ hx401_3)).trans hx401_3
                 have HR401_3 := Aside0.mk hi401_3
                 have HC401_3 := Aside0.mk hl401_3
                 clear hi401_3 hl401_3
                 replace p401 := zar p401
                 replace q401 := zar q401
                 have ea_ := Option.some.inj (hx399_3.symm.trans hx401_3)
                 injection ea_ with ea_ en_ ec_
                 subst ea_
                 subst ec_
                 clear en_
                 have p402 : 0 ≤ (x3_1 : Int) := zac (by first | (with_reducible assumption) | assumption)
                 have q402 : x3_1 < (l0.length : Int) := zac (by first | (with_reducible assumption) | assumption)
                 obtain ⟨ad402, A402_3, c402_3, e402, hx402_0, hx402_1, hx402_2, hx402_3, hl402_3, hi402_3⟩ := at_T34 HR0.out x3_1 p402 q402
                 obtain rfl : ad399 = ad402 := (by injection e402)
                 replace hx402_0 := (HB.out.cell (World.block_lt_of_cell? w _ hx402_0)).trans hx402_0
                 replace hx402_1 := (HB.out.cell (World.block_lt_of_cell? w _ hx402_1)).trans hx402_1
                 replace hx402_2 := (HB.out.cell (World.block_lt_of_cell? w _ hx402_2)).trans hx402_2
                 replace hx402_3 := (HB.out.cell (World.block_lt_of_cell? w _ hx402_3)).trans hx402_3
                 have HR402_3 := Aside0.mk hi402_3
                 have HC402_3 := Aside0.mk hl402_3
                 clear hi402_3 hl402_3
                 replace p402 := zar p402
                 replace q402 := zar q402
                 have ea_ := Option.some.inj (hx400_3.symm.trans hx402_3)
                 injection ea_ with ea_ en_ ec_
                 subst ea_
                 subst ec_
                 clear en_
                 have p403 : 0 ≤ (x3_1 : Int) := zac (by first | (with_reducible assumption) | assumption)
                 have q403 : x3_1 < (l0.length : Int) := zac (by first | (with_reducible assumption) | assumption)
                 obtain ⟨ad403, A403_3, c403_3, e403, hx403_0, hx403_1, hx403_2, hx403_3, hl403_3, hi403_3⟩ := at_T34 HR0.out x3_1 p403 q403
                 obtain rfl : ad399 = ad403 := (by injection e403)
                 replace hx403_0 := (HB.out.cell (World.block_lt_of_cell? w _ hx403_0)).trans hx403_0
                 replace hx403_1 := (HB.out.cell (World.block_lt_of_cell? w _ hx403_1)).trans hx403_1
                 replace hx403_2 := (HB.out.cell (World.block_lt_of_cell? w _ hx403_2)).trans hx403_2
                 replace hx403_3 := (HB.out.cell (World.block_lt_of_cell? w _ hx403_3)).trans hx403_3
                 have HR403_3 := Aside0.mk hi403_3
                 have HC403_3 := Aside0.mk hl403_3
                 clear hi403_3 hl403_3
                 replace p403 := zar p403
                 replace q403 := zar q403
                 have ea_ := Option.some.inj (hx400_3.symm.trans hx403_3)
                 injection ea_ with ea_ en_ ec_
                 subst ea_
                 subst ec_
                 clear en_
                 go_wp2
                 repeat (go_quiet (fail); try go_wp2)
                 go_roundg k3
                 case measure => have := HK1.out; have := HJ2.out; have := HK3.out; omega
                 case rel => exact ⟨(wrap64 (x4_3 + 1)), (by first | rfl | (simp; done) | (simp [*]; done)), H', ⟨by have := HK1.out; have := HJ2.out; have := HK3.out; omega⟩, ⟨by repeat (first | (with_reducible first | exact HB.out | apply zae | apply zab | apply zad) | exact HB.out)⟩⟩
               ·rw [if_neg c17] at H
                have c17b0 : (((rd_T34 l0 x4_3).f1) == ((rd_T34 l0 x3_1).f1)) = false := zcg.mpr c17
                have c17b1 : (((rd_T34 l0 x4_3).f1) != ((rd_T34 l0 x3_1).f1)) = true := bne_iff_ne.mpr c17
                have H' := Aside0.mk H
                clear H
                have p399 : 0 ≤ (x4_3 : Int) := zac (by first | (with_reducible assumption) | assumption)
                have q399 : x4_3 < (l0.length : Int) := zac (by first | (with_reducible assumption) | assumption)
                obtain ⟨ad399, A399_3, c399_3, e399, hx399_0, hx399_1, hx399_2, hx399_3, hl399_3, hi399_3⟩ := at_T34 HR0.out x4_3 p399 q399
                cases e399
                replace hx399_0 := (HB.out.cell (World.block_lt_of_cell? w _ hx399_0)).trans hx399_0
                replace hx399_1 := (HB.out.cell (World.block_lt_of_cell? w _ hx399_1)).trans hx399_1
                replace hx399_2 := (HB.out.cell (World.block_lt_of_cell? w _ hx399_2)).trans hx399_2
                replace hx399_3 := (HB.out.cell (World.block_lt_of_cell? w _ hx399_3)).trans hx399_3
                have HR399_3 := Aside0.mk hi399_3
                have HC399_3 := Aside0.mk hl399_3
                clear hi399_3 hl399_3
                replace p399 := zar p399
                replace q399 := zar q399
                have p400 : 0 ≤ (x3_1 : Int) := zac (by first | (with_reducible assumption) | assumption)
                have q400 : x3_1 < (l0.length : Int) := zac (by first | (with_reducible assumption) | assumption)
                obtain ⟨ad400, A400_3, c400_3, e400, hx400_0, hx400_1, hx400_2, hx400_3, hl400_3, hi400_3⟩ := at_T34 HR0.out x3_1 p400 q400
                obtain rfl : ad399 = ad400 := (by injection e400)
                replace hx400_0 := (HB.out.cell (World.block_lt_of_cell? w _ hx400_0)).trans hx400_0
                replace hx400_1 := (HB.out.cell (World.block_lt_of_cell? w _ hx400_1)).trans hx400_1
                replace hx400_2 := (HB.out.cell (World.block_lt_of_cell? w _ hx400_2)).trans hx400_2
                replace hx400_3 := (HB.out.cell (World.block_lt_of_cell? w _ hx400_3)).trans hx400_3
                have HR400_3 := Aside0.mk hi400_3
                have HC400_3 := Aside0.mk hl400_3
                clear hi400_3 hl400_3
                replace p400 := zar p400
                replace q400 := zar q400
                have p401 : 0 ≤ (x4_3 : Int) := zac (by first | (with_reducible assumption) | assumption)
                have q401 : x4_3 < (l0.length : Int) := zac (by first | (with_reducible assumption) | assumption)
                obtain ⟨ad401, A401_3, c401_3, e401, hx401_0, hx401_1, hx401_2, hx401_3, hl401_3, hi401_3⟩ := at_T34 HR0.out x4_3 p401 q401
                obtain rfl : ad399 = ad401 := (by injection e401)
                replace hx401_0 := (HB.out.cell (World.block_lt_of_cell? w _ hx401_0)).trans hx401_0
                replace hx401_1 := (HB.out.cell (World.block_lt_of_cell? w _ hx401_1)).trans hx401_1
                replace hx401_2 := (HB.out.cell (World.block_lt_of_cell? w _ hx401_2)).trans hx401_2
                replace hx401_3 := (HB.out.cell (World.block_lt_of_cell? w _ hx401_3)).trans hx401_3
                have HR401_3 := Aside0.mk hi401_3
                have HC401_3 := Aside0.mk hl401_3
                clear hi401_3 hl401_3
                replace p401 := zar p401
                replace q401 := zar q401
                have ea_ := Option.some.inj (hx399_3.symm.trans hx401_3)
                injection ea_ with ea_ en_ ec_
                subst ea_
                subst ec_
                clear en_
                have p402 : 0 ≤ (x3_1 : Int) := zac (by first | (with_reducible assumption) | assumption)
                have q402 : x3_1 < (l0.length : Int) := zac (by first | (with_reducible assumption) | assumption)
                obtain ⟨ad402, A402_3, c402_3, e402, hx402_0, hx402_1, hx402_2, hx402_3, hl402_3, hi402_3⟩ := at_T34 HR0.out x3_1 p402 q402
                obtain rfl : ad399 = ad402 := (by injection e402)
                replace hx402_0 := (HB.out.cell (World.block_lt_of_cell? w _ hx402_0)).trans hx402_0
                replace hx402_1 := (HB.out.cell (World.block_lt_of_cell? w _ hx402_1)).trans hx402_1
                replace hx402_2 := (HB.out.cell (World.block_lt_of_cell? w _ hx402_2)).trans hx402_2
                replace hx402_3 := (HB.out.cell (World.block_lt_of_cell? w _ hx402_3)).trans hx402_3
                have HR402_3 := Aside0.mk hi402_3
                have HC402_3 := Aside0.mk hl402_3
                clear hi402_3 hl402_3
                replace p402 := zar p402
                replace q402 := zar q402
                have ea_ := Option.some.inj (hx400_3.symm.trans hx402_3)
                injection ea_ with ea_ en_ ec_
                subst ea_
                subst ec_
                clear en_
                go_wp2
                repeat (go_quiet (fail); try go_wp2)
                go_roundg k3
                case measure => have := HK1.out; have := HJ2.out; have := HK3.out; omega
                case rel => exact ⟨(wrap64 (x4_3 + 1)), (by first | rfl | (simp; done) | (simp [*]; done)), H', ⟨by have := HK1.out; have := HJ2.out; have := HK3.out; omega⟩, ⟨by repeat (first | (with_reducible first | exact HB.out | apply zae | apply zab | apply zad) | exact HB.out)⟩⟩
              ·rw [if_neg c16] at H
               have c16b0 : (((rd_T34 l0 x4_3).f0).toList == ((rd_T34 l0 x3_1).f0).toList) = false := zcg.mpr c16
               have c16b1 : (((rd_T34 l0 x4_3).f0).toList != ((rd_T34 l0 x3_1).f0).toList) = true := bne_iff_ne.mpr c16
               have H' := Aside0.mk H
               clear H
               have p399 : 0 ≤ (x4_3 : Int) := zac (by first | (with_reducible assumption) | assumption)
               have q399 : x4_3 < (l0.length : Int) := zac (by first | (with_reducible assumption) | assumption)
               obtain ⟨ad399, A399_3, c399_3, e399, hx399_0, hx399_1, hx399_2, hx399_3, hl399_3, hi399_3⟩ := at_T34 HR0.out x4_3 p399 q399
               cases e399
               replace hx399_0 := (HB.out.cell (World.block_lt_of_cell? w _ hx399_0)).trans hx399_0
               replace hx399_1 := (HB.out.cell (World.block_lt_of_cell? w _ hx399_1)).trans hx399_1
               replace hx399_2 := (HB.out.cell (World.block_lt_of_cell? w _ hx399_2)).trans hx399_2
               replace hx399_3 := (HB.out.cell (World.block_lt_of_cell? w _ hx399_3)).trans hx399_3
               have HR399_3 := Aside0.mk hi399_3
               have HC399_3 := Aside0.mk hl399_3
               clear hi399_3 hl399_3
               replace p399 := zar p399
               replace q399 := zar q399
               have p400 : 0 ≤ (x3_1 : Int) := zac (by first | (with_reducible assumption) | assumption)
               have q400 : x3_1 < (l0.length : Int) := zac (by first | (with_reducible assumption) | assumption)
               obtain ⟨ad400, A400_3, c400_3, e400, hx400_0, hx400_1, hx400_2, hx400_3, hl400_3, hi400_3⟩ := at_T34 HR0.out x3_1 p400 q400
               obtain rfl : ad399 = ad400 := (by injection e400)
               replace hx400_0 := (HB.out.cell (World.block_lt_of_cell? w _ hx400_0)).trans hx400_0
               replace hx400_1 := (HB.out.cell (World.block_lt_of_cell? w _ hx400_1)).trans hx400_1
               replace hx400_2 := (HB.out.cell (World.block_lt_of_cell? w _ hx400_2)).trans hx400_2
               replace hx400_3 := (HB.out.cell (World.block_lt_of_cell? w _ hx400_3)).trans hx400_3
               have HR400_3 := Aside0.mk hi400_3
               have HC400_3 := Aside0.mk hl400_3
               clear hi400_3 hl400_3
               replace p400 := zar p400
               replace q400 := zar q400
               go_wp2
               repeat (go_quiet (fail); try go_wp2)
               go_roundg k3
               case measure => have := HK1.out; have := HJ2.out; have := HK3.out; omega
               case rel => exact ⟨(wrap64 (x4_3 + 1)), (by first | rfl | (simp; done) | (simp [*]; done)), H', ⟨by have := HK1.out; have := HJ2.out; have := HK3.out; omega⟩, ⟨by repeat (first | (with_reducible first | exact HB.out | apply zae | apply zab | apply zad) | exact HB.out)⟩⟩
             ·rw [if_neg c15] at H
              exact absurd H (by simp)
            ·rw [if_neg c14] at H
             exact absurd H (by simp)
           ·rw [if_neg c13] at H
            exact absurd H (by simp)
          ·rw [if_neg c12] at H
           exact absurd H (by simp)
         ·rw [if_neg c11] at H
          have c11b0 : decide (x4_3 < x3_1) = false := zbd c11
          clear c11
          have H' := Aside0.mk H
          clear H
          go_wp2
          repeat (go_quiet (fail); try go_wp2)
          go_roundg k3
          case measure => have := HK1.out; have := HJ2.out; have := HK3.out; omega
          case rel => exact ⟨(wrap64 (x3_1 + 1)), (by first | rfl | (simp; done) | (simp [*]; done)), H', ⟨by have := HK1.out; have := HJ2.out; have := HK3.out; omega⟩, ⟨by repeat (first | (with_reducible first | exact HB.out | apply zae | apply zab | apply zad) | exact HB.out)⟩⟩
   ·rw [if_neg c2] at H
    have c2b0 : decide (x3_1 < (l0.length : Int)) = false := zbd c2
    clear c2
    obtain rfl := Option.some.inj H
    go_wp2
    repeat (go_quiet (fail); try go_wp2)
    go_ret
    exact ⟨by first | rfl | (simp [zan, zao] <;> rfl) | (simp [*, zan, zao] <;> rfl), by repeat (first | (with_reducible first | exact HB.out | apply zae | apply zab | apply zad) | exact HB.out)⟩
end Go.Proofs.Ytlalkldjpniakaa.P
