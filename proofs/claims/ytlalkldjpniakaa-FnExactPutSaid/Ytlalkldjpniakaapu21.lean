import Derived.Test.Ytlalkldjpniakaapu20
namespace Go.Proofs.Ytlalkldjpniakaa.P
open Go.RowKit Go.Proofs.YtlalkldjpniakaaW.PrintWords Go.Proofs.YtlalkldjpniakaaW.PrintLast Go.Proofs.YtlalkldjpniakaaW.PrintMore
attribute [local go_sem] zdj zdk zed zee zcy zcz zdl zdm   -- for this text's walks alone
set_option linter.unusedVariables false
set_option linter.unusedSimpArgs false

def laws_heldItemS.l0 : Nat → List (S34) → Int → Int → Option (Int)
 | 0, _, _, _ => none
 | k + 1, x0, x1, x5 => if x5 < (x0.length : Int) then (if 0 ≤ x5 then ((laws_markText.f k x1).bind fun t230 => (if ((rd_T34 x0 x5).f0).toList = t230.toList then (if ((rd_T34 x0 x5).f1) = (wrap64 (x1 + 1)) then (if ((rd_T34 x0 x5).f2) = (wrap64 ((wrap64 (x1 + 1)) + 1)) then ((laws_heldByteS.f k ((rd_T34 x0 x5).f3) (wrap64 ((wrap64 ((wrap64 (x1 + 1)) + 1)) + 1))).bind fun t234 => (if t234 < 0 then (some (-1)) else (laws_heldItemS.l0 k x0 t234 (wrap64 (x5 + 1))))) else (some (-1))) else (some (-1))) else (some (-1)))) else (none)) else (some x1)
def laws_heldItemS.f (k : Nat) (l0 : List (S34)) (a1 : Int) : Option (Int) := laws_heldItemS.l0 k l0 a1 0
theorem laws_heldItemS.mono_l : ∀ k, (∀ y0 y1 y2, LeO (laws_heldItemS.l0 k y0 y1 y2) (laws_heldItemS.l0 (k + 1) y0 y1 y2))
 | 0 => fun _ _ _ r h => by simp [laws_heldItemS.l0] at h
 | k + 1 => by
  have ih0 := laws_heldItemS.mono_l k
  ·intro y0 y1 y2
   unfold laws_heldItemS.l0
   repeat' first
   | (with_reducible exact ih0 _ _ _)
   | (with_reducible exact laws_heldByteS.mono _ _ _)
   | (with_reducible exact laws_markText.mono _ _)
   | (with_reducible exact zcn _)
   | (with_reducible exact zda _)
   | (with_reducible refine zdh ?_ ?_)
   | (with_reducible refine zcs ?_ (fun _ => ?_))
   | exact ih0 _ _ _
theorem laws_heldItemS.mono : ∀ a0 a1 k, LeO (laws_heldItemS.f k a0 a1) (laws_heldItemS.f (k + 1) a0 a1) := by
 intro a0 a1 k
 have ih0 := laws_heldItemS.mono_l k
 unfold laws_heldItemS.f
 repeat' first
   | (with_reducible exact ih0 _ _ _)
   | (with_reducible exact laws_heldByteS.mono _ _ _)
   | (with_reducible exact laws_markText.mono _ _)
   | (with_reducible exact zcn _)
   | (with_reducible exact zda _)
   | (with_reducible refine zdh ?_ ?_)
   | (with_reducible refine zcs ?_ (fun _ => ?_))
   | exact ih0 _ _ _
def laws_heldItemS.T4 : Bool × List (List Nat × List Nat) := (true, [([], []), ([], []), ([0, 1], [0, 1]), ([2], [2]), ([3], [3]), ([], []), ([5], [5]), ([4, 6], [4, 6])])
def laws_heldItemS.B4 : List Nat := [0, 0, 3, 7, 15, 0, 32, 127]
theorem laws_heldItemS.tab4 : rtab .any (opsOf Try.f41 4) = laws_heldItemS.T4 := by kernel_rfl
theorem laws_heldItemS.bits4 : waitsOk laws_heldItemS.T4.2 laws_heldItemS.B4 = true := by kernel_rfl
set_option maxHeartbeats 8000000 in
set_option maxRecDepth 100000 in
theorem laws_heldItemS.calls (k : Nat) (A0 : Option Addr) (c0 : Nat) (l0 : List (S34)) (a1 : Int) (r : Int) (w : World) (hr0 : Kd.C k34 w A0 l0.length l0) (hc0 : l0.length ≤ c0) (h : laws_heldItemS.f k l0 a1 = some r) :
  Calls Try.prog 41 #[.slice A0 l0.length c0, .int .i64 a1] w fun e w' => e = .returned (.int .i64 r) ∧ Below w.heap.size w w' := by
 have HR0 := Aside0.mk hr0
 have HC0 := Aside0.mk hc0
 clear hr0 hc0
 have HB := Aside0.mk (zbt w.heap.size w)
 have H : (laws_heldItemS.l0 k l0 a1 0) = some r := h
 clear h
 have H' := Aside0.mk H
 clear H
 go_enter Try.func41, Try.ntmps41
 go_wp2
 go_loopg [1, 5] k (fun kq v1 v5 w' => ∃ (x1_1 : Int) (x5_1 : Int), v1 = .int .i64 x1_1 ∧ v5 = .int .i64 x5_1 ∧ Aside0 (laws_heldItemS.l0 kq l0 x1_1 x5_1 = some r) ∧ Aside0 (kq ≤ k) ∧ Aside0 (Below w.heap.size w w'))
 case atStart => exact ⟨(a1), (0), (by first | rfl | (simp; done) | (simp [*]; done)), (by first | rfl | (simp; done) | (simp [*]; done)), H', ⟨zaw _⟩, ⟨by repeat (first | (with_reducible first | exact HB.out | apply zae | apply zab | apply zac) | exact HB.out)⟩⟩
 case round =>
  clear H'
  try clear p2
  obtain ⟨x1_1, x5_1, rfl, rfl, HA, HK1, HB⟩ := hrel
  cases gk with
  | zero => exact absurd HA.out (by simp [laws_heldItemS.l0])
  | succ k1 =>
   have H := HA.out
   clear HA
   simp only [laws_heldItemS.l0] at H
   by_cases c3 : x5_1 < (l0.length : Int)
   ·rw [if_pos c3] at H
    have c3b0 : decide (x5_1 < (l0.length : Int)) = true := zas c3
    clear c3
    by_cases c4 : 0 ≤ x5_1
    ·rw [if_pos c4] at H
     have c4b0 : decide (0 ≤ x5_1) = true := zas c4
     clear c4
     replace H := zak.mp H
     obtain ⟨t230, A50, H⟩ := H
     try dsimp only at H
     have A5 := Aside0.mk A50
     clear A50
     by_cases c6 : ((rd_T34 l0 x5_1).f0).toList = t230.toList
     ·rw [if_pos c6] at H
      have c6b0 : (((rd_T34 l0 x5_1).f0).toList == t230.toList) = true := zep.mpr c6
      have c6b1 : (((rd_T34 l0 x5_1).f0).toList != t230.toList) = false := zcp.mpr c6
      clear c6
      by_cases c7 : ((rd_T34 l0 x5_1).f1) = (wrap64 (x1_1 + 1))
      ·rw [if_pos c7] at H
       have c7b0 : (((rd_T34 l0 x5_1).f1) == (wrap64 (x1_1 + 1))) = true := zep.mpr c7
       have c7b1 : (((rd_T34 l0 x5_1).f1) != (wrap64 (x1_1 + 1))) = false := zcp.mpr c7
       clear c7
       by_cases c8 : ((rd_T34 l0 x5_1).f2) = (wrap64 ((wrap64 (x1_1 + 1)) + 1))
       ·rw [if_pos c8] at H
        have c8b0 : (((rd_T34 l0 x5_1).f2) == (wrap64 ((wrap64 (x1_1 + 1)) + 1))) = true := zep.mpr c8
        have c8b1 : (((rd_T34 l0 x5_1).f2) != (wrap64 ((wrap64 (x1_1 + 1)) + 1))) = false := zcp.mpr c8
        clear c8
        replace H := zak.mp H
        obtain ⟨t234, A90, H⟩ := H
        try dsimp only at H
        have A9 := Aside0.mk A90
        clear A90
        by_cases c10 : t234 < 0
        ·rw [if_pos c10] at H
         have c10b0 : decide (t234 < 0) = true := zas c10
         clear c10
         obtain rfl := Option.some.inj H
         try go_wp2
         have n0_ := Aside0.mk (zac HB.out)
         clear HB
         have HB := n0_
         clear n0_
         have p229 : 0 ≤ (x5_1 : Int) := zad (by first | (with_reducible assumption) | assumption)
         have q229 : x5_1 < (l0.length : Int) := zad (by first | (with_reducible assumption) | assumption)
         obtain ⟨ad229, A229_3, c229_3, e229, hx229_0, hx229_1, hx229_2, hx229_3, hl229_3, hi229_3⟩ := at_T34 HR0.out x5_1 p229 q229
         have hw229_3 := hx229_3
         have hw229_2 := hx229_2
         have hw229_1 := hx229_1
         have hw229_0 := hx229_0
         cases e229
         replace hx229_0 := (HB.out.cell (World.block_lt_of_cell? w _ hx229_0)).trans hx229_0
         replace hx229_1 := (HB.out.cell (World.block_lt_of_cell? w _ hx229_1)).trans hx229_1
         replace hx229_2 := (HB.out.cell (World.block_lt_of_cell? w _ hx229_2)).trans hx229_2
         replace hx229_3 := (HB.out.cell (World.block_lt_of_cell? w _ hx229_3)).trans hx229_3
         have HR229_3 := Aside0.mk hi229_3
         have HC229_3 := Aside0.mk hl229_3
         clear hi229_3 hl229_3
         replace p229 := zay p229
         replace q229 := zay q229
         refine start_ (n := 8) (S := fun w' => w'.cell? (ad229.add ((x5_1).toNat * 4)) = some (.string ((rd_T34 l0 x5_1).f0)) ∧ w'.cell? ⟨(ad229.add ((x5_1).toNat * 4)).block, (ad229.add ((x5_1).toNat * 4)).off + 1, none⟩ = some (.int .i64 ((rd_T34 l0 x5_1).f1)) ∧ w'.cell? ⟨(ad229.add ((x5_1).toNat * 4)).block, (ad229.add ((x5_1).toNat * 4)).off + 2, none⟩ = some (.int .i64 ((rd_T34 l0 x5_1).f2)) ∧ w'.cell? ⟨(ad229.add ((x5_1).toNat * 4)).block, (ad229.add ((x5_1).toNat * 4)).off + 3, none⟩ = some (.slice A229_3 ((rd_T34 l0 x5_1).f3).length c229_3)) (ds := []) #[false, false, false, false, false, false, false, false] (by kernel_rfl) rfl rfl ⟨((HB.out.cell (World.block_lt_of_cell? w _ hw229_0)).trans hw229_0), ((HB.out.cell (World.block_lt_of_cell? w _ hw229_1)).trans hw229_1), ((HB.out.cell (World.block_lt_of_cell? w _ hw229_2)).trans hw229_2), ((HB.out.cell (World.block_lt_of_cell? w _ hw229_3)).trans hw229_3)⟩ (fun hHeld => ?_); refine with_tabW laws_heldItemS.tab4 laws_heldItemS.bits4 (fun HT_ HW_ => ?_)
         generalize wr.drew = w11 at HB HR229_3 hx229_0 hx229_1 hx229_2 hx229_3 hHeld ⊢
         refine pure_ (i := 0) (N := some 12) (v := ?_) (a' := ?_) #[true, false, false, false, false, false, false, false] rfl rfl (any_of HT_.out (by kernel_rfl)) (fun _ _ _ h => h) (Or.inl ⟨by rfl, ?_⟩) ?_ ?_
         rotate_left
         ·intro w'
          go_simp
          with_reducible rfl
         rotate_left
         ·simp only [Act.put, zag, zan, zao, i64_w, i32_w]
          rfl
         refine pure_ (i := 1) (N := some 13) (v := ?_) (a' := ?_) #[true, true, false, false, false, false, false, false] rfl rfl (any_of HT_.out (by kernel_rfl)) (fun _ _ _ h => h) (Or.inl ⟨by rfl, ?_⟩) ?_ ?_
         rotate_left
         ·intro w'
          go_simp
          with_reducible rfl
         rotate_left
         ·simp only [Act.put, zag, zan, zao, i64_w, i32_w]
          rfl
         refine pure_ (i := 2) (N := some 14) (v := ?_) (a' := ?_) #[true, true, true, false, false, false, false, false] rfl rfl (any_of HT_.out (by kernel_rfl)) (fun _ _ _ h => h) (Or.inl ⟨by rfl, ?_⟩) ?_ ?_
         rotate_left
         ·intro w'
          go_simp
          with_reducible rfl
         rotate_left
         ·simp only [Act.put, zag, zan, zao, i64_w, i32_w]
          rfl
         refine pure_ (i := 3) (N := some 15) (v := ?_) (a' := ?_) #[true, true, true, true, false, false, false, false] rfl rfl (any_of HT_.out (by kernel_rfl)) (fun _ _ _ h => h) (Or.inl ⟨by rfl, ?_⟩) ?_ ?_
         rotate_left
         ·intro w'
          go_simp
          with_reducible rfl
         rotate_left
         ·simp only [Act.put, zag, zan, zao, i64_w, i32_w]
          rfl
         refine pure_ (i := 5) (N := some 17) (v := ?_) (a' := ?_) #[true, true, true, true, false, true, false, false] rfl rfl (any_of HT_.out (by kernel_rfl)) (fun _ _ _ h => h) (Or.inl ⟨by rfl, ?_⟩) ?_ ?_
         rotate_left
         ·intro w'
          go_simp
          with_reducible rfl
         rotate_left
         ·simp only [Act.put, zag, zan, zao, i64_w, i32_w]
          rfl
         refine take_ (i := 4) (N := some 16) (v := ?_) (a' := ?_) #[true, true, true, true, true, true, false, false] rfl rfl (take_ofW HT_.out HW_.out (by kernel_rfl)) (fun _ _ _ h => h) (Or.inl ⟨by rfl, ?_⟩) hHeld ?_ ?_
         rotate_left
         ·rintro w' ⟨s0, s1, s2, s3⟩
          go_simp
          with_reducible rfl
         rotate_left
         ·simp only [Act.put, zag, zan, zao, i64_w, i32_w]
          rfl
         refine one_ (i := 6) (N := some 18) #[true, true, true, true, true, true, true, false] rfl rfl (one_of HT_.out (by kernel_rfl)) (by decide) (fun K hK => ?_)
         refine goes_ Try.func98 (by kernel_rfl) rfl #[.int .i64 x1_1] (by rfl) rfl rfl (by (try simp only [zat, zbe, zbh]); first | done | rfl | (simp only [zch, zcf]; rfl) | (simp only [zch, zcf]; rw [zei (zff.mpr (of_eq_true (by assumption)))])) ?_
         with_reducible refine (laws_markText.calls k1 x1_1 t230 _ A5.out).mono ?_
         rintro e w12 ⟨rfl, hb⟩
         refine ⟨_, rfl, ?_⟩
         have n0_ := Aside0.mk (zai (by repeat (first | (with_reducible first | exact HB.out | apply zae | apply zab | apply zac) | exact HB.out)) hb)
         clear HB
         have HB := n0_
         clear n0_
         (try clear hb)
         (try clear hb2)
         (try clear hk)
         (try clear hi)
         refine hK.out _ _ ⟨((HB.out.cell (World.block_lt_of_cell? w _ hw229_0)).trans hw229_0), ((HB.out.cell (World.block_lt_of_cell? w _ hw229_1)).trans hw229_1), ((HB.out.cell (World.block_lt_of_cell? w _ hw229_2)).trans hw229_2), ((HB.out.cell (World.block_lt_of_cell? w _ hw229_3)).trans hw229_3)⟩ (fun hHeld => ?_)
         clear hK K
         refine norm_ (a' := ?_) ?_ ?_
         rotate_left
         ·show Act.put _ (some 18) _ = _
          simp only [Act.put, zag, zan, zao, i64_w, i32_w]
          rfl
         refine pure_ (i := 7) (N := some 19) (v := ?_) (a' := ?_) #[true, true, true, true, true, true, true, true] rfl rfl (any_of HT_.out (by kernel_rfl)) (fun _ _ _ h => h) (Or.inl ⟨by rfl, ?_⟩) ?_ ?_
         rotate_left
         ·intro w'
          go_simp
          with_reducible rfl
         rotate_left
         ·simp only [Act.put, zag, zan, zao, i64_w, i32_w]
          rfl
         refine done_ (done_of HT_.out (by kernel_rfl)) ?_
         have p231 : 0 ≤ (x5_1 : Int) := zad (by first | (with_reducible assumption) | assumption)
         have q231 : x5_1 < (l0.length : Int) := zad (by first | (with_reducible assumption) | assumption)
         obtain ⟨ad231, A231_3, c231_3, e231, hx231_0, hx231_1, hx231_2, hx231_3, hl231_3, hi231_3⟩ := at_T34 HR0.out x5_1 p231 q231
         obtain rfl : ad229 = ad231 := (by injection e231)
         have ea_ := Option.some.inj (hx231_3.symm.trans hw229_3)
         injection ea_ with ea_ en_ ec_
         subst ea_
         subst ec_
         clear en_
         replace hx231_0 := (HB.out.cell (World.block_lt_of_cell? w _ hx231_0)).trans hx231_0
         replace hx231_1 := (HB.out.cell (World.block_lt_of_cell? w _ hx231_1)).trans hx231_1
         replace hx231_2 := (HB.out.cell (World.block_lt_of_cell? w _ hx231_2)).trans hx231_2
         replace hx231_3 := (HB.out.cell (World.block_lt_of_cell? w _ hx231_3)).trans hx231_3
         have HR231_3 := Aside0.mk hi231_3
         have HC231_3 := Aside0.mk hl231_3
         clear hi231_3 hl231_3
         replace p231 := zay p231
         replace q231 := zay q231
         have p232 : 0 ≤ (x5_1 : Int) := zad (by first | (with_reducible assumption) | assumption)
         have q232 : x5_1 < (l0.length : Int) := zad (by first | (with_reducible assumption) | assumption)
         obtain ⟨ad232, A232_3, c232_3, e232, hx232_0, hx232_1, hx232_2, hx232_3, hl232_3, hi232_3⟩ := at_T34 HR0.out x5_1 p232 q232
         obtain rfl : ad229 = ad232 := (by injection e232)
         replace hx232_0 := (HB.out.cell (World.block_lt_of_cell? w _ hx232_0)).trans hx232_0
         replace hx232_1 := (HB.out.cell (World.block_lt_of_cell? w _ hx232_1)).trans hx232_1
         replace hx232_2 := (HB.out.cell (World.block_lt_of_cell? w _ hx232_2)).trans hx232_2
         replace hx232_3 := (HB.out.cell (World.block_lt_of_cell? w _ hx232_3)).trans hx232_3
         have HR232_3 := Aside0.mk hi232_3
         have HC232_3 := Aside0.mk hl232_3
         clear hi232_3 hl232_3
         replace p232 := zay p232
         replace q232 := zay q232
         have ea_ := Option.some.inj (hx231_3.symm.trans hx232_3)
         injection ea_ with ea_ en_ ec_
         subst ea_
         subst ec_
         clear en_
         have p233 : 0 ≤ (x5_1 : Int) := zad (by first | (with_reducible assumption) | assumption)
         have q233 : x5_1 < (l0.length : Int) := zad (by first | (with_reducible assumption) | assumption)
         obtain ⟨ad233, A233_3, c233_3, e233, hx233_0, hx233_1, hx233_2, hx233_3, hl233_3, hi233_3⟩ := at_T34 HR0.out x5_1 p233 q233
         obtain rfl : ad229 = ad233 := (by injection e233)
         replace hx233_0 := (HB.out.cell (World.block_lt_of_cell? w _ hx233_0)).trans hx233_0
         replace hx233_1 := (HB.out.cell (World.block_lt_of_cell? w _ hx233_1)).trans hx233_1
         replace hx233_2 := (HB.out.cell (World.block_lt_of_cell? w _ hx233_2)).trans hx233_2
         replace hx233_3 := (HB.out.cell (World.block_lt_of_cell? w _ hx233_3)).trans hx233_3
         have HR233_3 := Aside0.mk hi233_3
         have HC233_3 := Aside0.mk hl233_3
         clear hi233_3 hl233_3
         replace p233 := zay p233
         replace q233 := zay q233
         have ea_ := Option.some.inj (hx231_3.symm.trans hx233_3)
         injection ea_ with ea_ en_ ec_
         subst ea_
         subst ec_
         clear en_
         try go_wp2_with (first | ((with_reducible refine zbv (f := 53) rfl ?_); refine goesL_ (some 46) rfl rfl Try.func53 (by kernel_rfl) rfl #[.slice A231_3 ((rd_T34 l0 x5_1).f3).length c231_3, .int .i64 (wrap64 ((wrap64 ((wrap64 (x1_1 + 1)) + 1)) + 1))] rfl (by (try simp only [zat, zbe, zbh]); first | done | rfl | (simp only [zch, zcf]; rfl) | (simp only [zch, zcf]; rw [zei (zff.mpr (of_eq_true (by assumption)))])) ?_; (with_reducible refine (laws_heldByteS.calls k1 _ _ ((rd_T34 l0 x5_1).f3) (wrap64 ((wrap64 ((wrap64 (x1_1 + 1)) + 1)) + 1)) t234 _ ?side1 ?side2 A9.out).mono ?_); (case side1 => repeat (first | exact (zbf HR233_3.out HB.out) | (with_reducible refine zbs ?_ _) | (with_reducible refine zbw ?_ _) | (with_reducible refine zcd ?_))); (case side2 => exact HC233_3.out); rintro e w' ⟨rfl, ⟨nd, rfl⟩⟩; refine ⟨_, rfl, ?_⟩))
         go_ret
         exact ⟨by first | rfl | (simp [zbb, zbc] <;> rfl) | (simp [*, zbb, zbc] <;> rfl), by repeat (first | (with_reducible first | exact HB.out | apply zae | apply zab | apply zac) | exact HB.out)⟩
        ·rw [if_neg c10] at H
         have c10b0 : decide (t234 < 0) = false := zbj c10
         clear c10
         have H' := Aside0.mk H
         clear H
         try go_wp2
         have n0_ := Aside0.mk (zac HB.out)
         clear HB
         have HB := n0_
         clear n0_
         have p229 : 0 ≤ (x5_1 : Int) := zad (by first | (with_reducible assumption) | assumption)
         have q229 : x5_1 < (l0.length : Int) := zad (by first | (with_reducible assumption) | assumption)
         obtain ⟨ad229, A229_3, c229_3, e229, hx229_0, hx229_1, hx229_2, hx229_3, hl229_3, hi229_3⟩ := at_T34 HR0.out x5_1 p229 q229
         have hw229_3 := hx229_3
         have hw229_2 := hx229_2
         have hw229_1 := hx229_1
         have hw229_0 := hx229_0
         cases e229
         replace hx229_0 := (HB.out.cell (World.block_lt_of_cell? w _ hx229_0)).trans hx229_0
         replace hx229_1 := (HB.out.cell (World.block_lt_of_cell? w _ hx229_1)).trans hx229_1
         replace hx229_2 := (HB.out.cell (World.block_lt_of_cell? w _ hx229_2)).trans hx229_2
         replace hx229_3 := (HB.out.cell (World.block_lt_of_cell? w _ hx229_3)).trans hx229_3
         have HR229_3 := Aside0.mk hi229_3
         have HC229_3 := Aside0.mk hl229_3
         clear hi229_3 hl229_3
         replace p229 := zay p229
         replace q229 := zay q229
         refine start_ (n := 8) (S := fun w' => w'.cell? (ad229.add ((x5_1).toNat * 4)) = some (.string ((rd_T34 l0 x5_1).f0)) ∧ w'.cell? ⟨(ad229.add ((x5_1).toNat * 4)).block, (ad229.add ((x5_1).toNat * 4)).off + 1, none⟩ = some (.int .i64 ((rd_T34 l0 x5_1).f1)) ∧ w'.cell? ⟨(ad229.add ((x5_1).toNat * 4)).block, (ad229.add ((x5_1).toNat * 4)).off + 2, none⟩ = some (.int .i64 ((rd_T34 l0 x5_1).f2)) ∧ w'.cell? ⟨(ad229.add ((x5_1).toNat * 4)).block, (ad229.add ((x5_1).toNat * 4)).off + 3, none⟩ = some (.slice A229_3 ((rd_T34 l0 x5_1).f3).length c229_3)) (ds := []) #[false, false, false, false, false, false, false, false] (by kernel_rfl) rfl rfl ⟨((HB.out.cell (World.block_lt_of_cell? w _ hw229_0)).trans hw229_0), ((HB.out.cell (World.block_lt_of_cell? w _ hw229_1)).trans hw229_1), ((HB.out.cell (World.block_lt_of_cell? w _ hw229_2)).trans hw229_2), ((HB.out.cell (World.block_lt_of_cell? w _ hw229_3)).trans hw229_3)⟩ (fun hHeld => ?_); refine with_tabW laws_heldItemS.tab4 laws_heldItemS.bits4 (fun HT_ HW_ => ?_)
         generalize wr.drew = w13 at HB HR229_3 hx229_0 hx229_1 hx229_2 hx229_3 hHeld ⊢
         refine pure_ (i := 0) (N := some 12) (v := ?_) (a' := ?_) #[true, false, false, false, false, false, false, false] rfl rfl (any_of HT_.out (by kernel_rfl)) (fun _ _ _ h => h) (Or.inl ⟨by rfl, ?_⟩) ?_ ?_
         rotate_left
         ·intro w'
          go_simp
          with_reducible rfl
         rotate_left
         ·simp only [Act.put, zag, zan, zao, i64_w, i32_w]
          rfl
         refine pure_ (i := 1) (N := some 13) (v := ?_) (a' := ?_) #[true, true, false, false, false, false, false, false] rfl rfl (any_of HT_.out (by kernel_rfl)) (fun _ _ _ h => h) (Or.inl ⟨by rfl, ?_⟩) ?_ ?_
         rotate_left
         ·intro w'
          go_simp
          with_reducible rfl
         rotate_left
         ·simp only [Act.put, zag, zan, zao, i64_w, i32_w]
          rfl
         refine pure_ (i := 2) (N := some 14) (v := ?_) (a' := ?_) #[true, true, true, false, false, false, false, false] rfl rfl (any_of HT_.out (by kernel_rfl)) (fun _ _ _ h => h) (Or.inl ⟨by rfl, ?_⟩) ?_ ?_
         rotate_left
         ·intro w'
          go_simp
          with_reducible rfl
         rotate_left
         ·simp only [Act.put, zag, zan, zao, i64_w, i32_w]
          rfl
         refine pure_ (i := 3) (N := some 15) (v := ?_) (a' := ?_) #[true, true, true, true, false, false, false, false] rfl rfl (any_of HT_.out (by kernel_rfl)) (fun _ _ _ h => h) (Or.inl ⟨by rfl, ?_⟩) ?_ ?_
         rotate_left
         ·intro w'
          go_simp
          with_reducible rfl
         rotate_left
         ·simp only [Act.put, zag, zan, zao, i64_w, i32_w]
          rfl
         refine pure_ (i := 5) (N := some 17) (v := ?_) (a' := ?_) #[true, true, true, true, false, true, false, false] rfl rfl (any_of HT_.out (by kernel_rfl)) (fun _ _ _ h => h) (Or.inl ⟨by rfl, ?_⟩) ?_ ?_
         rotate_left
         ·intro w'
          go_simp
          with_reducible rfl
         rotate_left
         ·simp only [Act.put, zag, zan, zao, i64_w, i32_w]
          rfl
         refine take_ (i := 4) (N := some 16) (v := ?_) (a' := ?_) #[true, true, true, true, true, true, false, false] rfl rfl (take_ofW HT_.out HW_.out (by kernel_rfl)) (fun _ _ _ h => h) (Or.inl ⟨by rfl, ?_⟩) hHeld ?_ ?_
         rotate_left
         ·rintro w' ⟨s0, s1, s2, s3⟩
          go_simp
          with_reducible rfl
         rotate_left
         ·simp only [Act.put, zag, zan, zao, i64_w, i32_w]
          rfl
         refine one_ (i := 6) (N := some 18) #[true, true, true, true, true, true, true, false] rfl rfl (one_of HT_.out (by kernel_rfl)) (by decide) (fun K hK => ?_)
         refine goes_ Try.func98 (by kernel_rfl) rfl #[.int .i64 x1_1] (by rfl) rfl rfl (by (try simp only [zat, zbe, zbh]); first | done | rfl | (simp only [zch, zcf]; rfl) | (simp only [zch, zcf]; rw [zei (zff.mpr (of_eq_true (by assumption)))])) ?_
         with_reducible refine (laws_markText.calls k1 x1_1 t230 _ A5.out).mono ?_
         rintro e w14 ⟨rfl, hb⟩
         refine ⟨_, rfl, ?_⟩
         have n0_ := Aside0.mk (zai (by repeat (first | (with_reducible first | exact HB.out | apply zae | apply zab | apply zac) | exact HB.out)) hb)
         clear HB
         have HB := n0_
         clear n0_
         (try clear hb)
         (try clear hb2)
         (try clear hk)
         (try clear hi)
         refine hK.out _ _ ⟨((HB.out.cell (World.block_lt_of_cell? w _ hw229_0)).trans hw229_0), ((HB.out.cell (World.block_lt_of_cell? w _ hw229_1)).trans hw229_1), ((HB.out.cell (World.block_lt_of_cell? w _ hw229_2)).trans hw229_2), ((HB.out.cell (World.block_lt_of_cell? w _ hw229_3)).trans hw229_3)⟩ (fun hHeld => ?_)
         clear hK K
         refine norm_ (a' := ?_) ?_ ?_
         rotate_left
         ·show Act.put _ (some 18) _ = _
          simp only [Act.put, zag, zan, zao, i64_w, i32_w]
          rfl
         refine pure_ (i := 7) (N := some 19) (v := ?_) (a' := ?_) #[true, true, true, true, true, true, true, true] rfl rfl (any_of HT_.out (by kernel_rfl)) (fun _ _ _ h => h) (Or.inl ⟨by rfl, ?_⟩) ?_ ?_
         rotate_left
         ·intro w'
          go_simp
          with_reducible rfl
         rotate_left
         ·simp only [Act.put, zag, zan, zao, i64_w, i32_w]
          rfl
         refine done_ (done_of HT_.out (by kernel_rfl)) ?_
         have p231 : 0 ≤ (x5_1 : Int) := zad (by first | (with_reducible assumption) | assumption)
         have q231 : x5_1 < (l0.length : Int) := zad (by first | (with_reducible assumption) | assumption)
         obtain ⟨ad231, A231_3, c231_3, e231, hx231_0, hx231_1, hx231_2, hx231_3, hl231_3, hi231_3⟩ := at_T34 HR0.out x5_1 p231 q231
         obtain rfl : ad229 = ad231 := (by injection e231)
         have ea_ := Option.some.inj (hx231_3.symm.trans hw229_3)
         injection ea_ with ea_ en_ ec_
         subst ea_
         subst ec_
         clear en_
         replace hx231_0 := (HB.out.cell (World.block_lt_of_cell? w _ hx231_0)).trans hx231_0
         replace hx231_1 := (HB.out.cell (World.block_lt_of_cell? w _ hx231_1)).trans hx231_1
         replace hx231_2 := (HB.out.cell (World.block_lt_of_cell? w _ hx231_2)).trans hx231_2
         replace hx231_3 := (HB.out.cell (World.block_lt_of_cell? w _ hx231_3)).trans hx231_3
         have HR231_3 := Aside0.mk hi231_3
         have HC231_3 := Aside0.mk hl231_3
         clear hi231_3 hl231_3
         replace p231 := zay p231
         replace q231 := zay q231
         have p232 : 0 ≤ (x5_1 : Int) := zad (by first | (with_reducible assumption) | assumption)
         have q232 : x5_1 < (l0.length : Int) := zad (by first | (with_reducible assumption) | assumption)
         obtain ⟨ad232, A232_3, c232_3, e232, hx232_0, hx232_1, hx232_2, hx232_3, hl232_3, hi232_3⟩ := at_T34 HR0.out x5_1 p232 q232
         obtain rfl : ad229 = ad232 := (by injection e232)
         replace hx232_0 := (HB.out.cell (World.block_lt_of_cell? w _ hx232_0)).trans hx232_0
         replace hx232_1 := (HB.out.cell (World.block_lt_of_cell? w _ hx232_1)).trans hx232_1
         replace hx232_2 := (HB.out.cell (World.block_lt_of_cell? w _ hx232_2)).trans hx232_2
         replace hx232_3 := (HB.out.cell (World.block_lt_of_cell? w _ hx232_3)).trans hx232_3
         have HR232_3 := Aside0.mk hi232_3
         have HC232_3 := Aside0.mk hl232_3
         clear hi232_3 hl232_3
         replace p232 := zay p232
         replace q232 := zay q232
         have ea_ := Option.some.inj (hx231_3.symm.trans hx232_3)
         injection ea_ with ea_ en_ ec_
         subst ea_
         subst ec_
         clear en_
         have p233 : 0 ≤ (x5_1 : Int) := zad (by first | (with_reducible assumption) | assumption)
         have q233 : x5_1 < (l0.length : Int) := zad (by first | (with_reducible assumption) | assumption)
         obtain ⟨ad233, A233_3, c233_3, e233, hx233_0, hx233_1, hx233_2, hx233_3, hl233_3, hi233_3⟩ := at_T34 HR0.out x5_1 p233 q233
         obtain rfl : ad229 = ad233 := (by injection e233)
         replace hx233_0 := (HB.out.cell (World.block_lt_of_cell? w _ hx233_0)).trans hx233_0
         replace hx233_1 := (HB.out.cell (World.block_lt_of_cell? w _ hx233_1)).trans hx233_1
         replace hx233_2 := (HB.out.cell (World.block_lt_of_cell? w _ hx233_2)).trans hx233_2
         replace hx233_3 := (HB.out.cell (World.block_lt_of_cell? w _ hx233_3)).trans hx233_3
         have HR233_3 := Aside0.mk hi233_3
         have HC233_3 := Aside0.mk hl233_3
         clear hi233_3 hl233_3
         replace p233 := zay p233
         replace q233 := zay q233
         have ea_ := Option.some.inj (hx231_3.symm.trans hx233_3)
         injection ea_ with ea_ en_ ec_
         subst ea_
         subst ec_
         clear en_
         try go_wp2_with (first | ((with_reducible refine zbv (f := 53) rfl ?_); refine goesL_ (some 46) rfl rfl Try.func53 (by kernel_rfl) rfl #[.slice A231_3 ((rd_T34 l0 x5_1).f3).length c231_3, .int .i64 (wrap64 ((wrap64 ((wrap64 (x1_1 + 1)) + 1)) + 1))] rfl (by (try simp only [zat, zbe, zbh]); first | done | rfl | (simp only [zch, zcf]; rfl) | (simp only [zch, zcf]; rw [zei (zff.mpr (of_eq_true (by assumption)))])) ?_; (with_reducible refine (laws_heldByteS.calls k1 _ _ ((rd_T34 l0 x5_1).f3) (wrap64 ((wrap64 ((wrap64 (x1_1 + 1)) + 1)) + 1)) t234 _ ?side1 ?side2 A9.out).mono ?_); (case side1 => repeat (first | exact (zbf HR233_3.out HB.out) | (with_reducible refine zbs ?_ _) | (with_reducible refine zbw ?_ _) | (with_reducible refine zcd ?_))); (case side2 => exact HC233_3.out); rintro e w' ⟨rfl, ⟨nd, rfl⟩⟩; refine ⟨_, rfl, ?_⟩))
         go_roundg k1
         case measure => have := HK1.out; omega
         case rel => exact ⟨(t234), (wrap64 (x5_1 + 1)), (by first | rfl | (simp; done) | (simp [*]; done)), (by first | rfl | (simp; done) | (simp [*]; done)), H', ⟨by have := HK1.out; omega⟩, ⟨by repeat (first | (with_reducible first | exact HB.out | apply zae | apply zab | apply zac) | exact HB.out)⟩⟩
       ·rw [if_neg c8] at H
        have c8b0 : (((rd_T34 l0 x5_1).f2) == (wrap64 ((wrap64 (x1_1 + 1)) + 1))) = false := zcq.mpr c8
        have c8b1 : (((rd_T34 l0 x5_1).f2) != (wrap64 ((wrap64 (x1_1 + 1)) + 1))) = true := zeq.mpr c8
        obtain rfl := Option.some.inj H
        try go_wp2
        have n0_ := Aside0.mk (zac HB.out)
        clear HB
        have HB := n0_
        clear n0_
        have p229 : 0 ≤ (x5_1 : Int) := zad (by first | (with_reducible assumption) | assumption)
        have q229 : x5_1 < (l0.length : Int) := zad (by first | (with_reducible assumption) | assumption)
        obtain ⟨ad229, A229_3, c229_3, e229, hx229_0, hx229_1, hx229_2, hx229_3, hl229_3, hi229_3⟩ := at_T34 HR0.out x5_1 p229 q229
        have hw229_3 := hx229_3
        have hw229_2 := hx229_2
        have hw229_1 := hx229_1
        have hw229_0 := hx229_0
        cases e229
        replace hx229_0 := (HB.out.cell (World.block_lt_of_cell? w _ hx229_0)).trans hx229_0
        replace hx229_1 := (HB.out.cell (World.block_lt_of_cell? w _ hx229_1)).trans hx229_1
        replace hx229_2 := (HB.out.cell (World.block_lt_of_cell? w _ hx229_2)).trans hx229_2
        replace hx229_3 := (HB.out.cell (World.block_lt_of_cell? w _ hx229_3)).trans hx229_3
        have HR229_3 := Aside0.mk hi229_3
        have HC229_3 := Aside0.mk hl229_3
        clear hi229_3 hl229_3
        replace p229 := zay p229
        replace q229 := zay q229
        refine start_ (n := 8) (S := fun w' => w'.cell? (ad229.add ((x5_1).toNat * 4)) = some (.string ((rd_T34 l0 x5_1).f0)) ∧ w'.cell? ⟨(ad229.add ((x5_1).toNat * 4)).block, (ad229.add ((x5_1).toNat * 4)).off + 1, none⟩ = some (.int .i64 ((rd_T34 l0 x5_1).f1)) ∧ w'.cell? ⟨(ad229.add ((x5_1).toNat * 4)).block, (ad229.add ((x5_1).toNat * 4)).off + 2, none⟩ = some (.int .i64 ((rd_T34 l0 x5_1).f2)) ∧ w'.cell? ⟨(ad229.add ((x5_1).toNat * 4)).block, (ad229.add ((x5_1).toNat * 4)).off + 3, none⟩ = some (.slice A229_3 ((rd_T34 l0 x5_1).f3).length c229_3)) (ds := []) #[false, false, false, false, false, false, false, false] (by kernel_rfl) rfl rfl ⟨((HB.out.cell (World.block_lt_of_cell? w _ hw229_0)).trans hw229_0), ((HB.out.cell (World.block_lt_of_cell? w _ hw229_1)).trans hw229_1), ((HB.out.cell (World.block_lt_of_cell? w _ hw229_2)).trans hw229_2), ((HB.out.cell (World.block_lt_of_cell? w _ hw229_3)).trans hw229_3)⟩ (fun hHeld => ?_); refine with_tabW laws_heldItemS.tab4 laws_heldItemS.bits4 (fun HT_ HW_ => ?_)
        generalize wr.drew = w15 at HB HR229_3 hx229_0 hx229_1 hx229_2 hx229_3 hHeld ⊢
        refine pure_ (i := 0) (N := some 12) (v := ?_) (a' := ?_) #[true, false, false, false, false, false, false, false] rfl rfl (any_of HT_.out (by kernel_rfl)) (fun _ _ _ h => h) (Or.inl ⟨by rfl, ?_⟩) ?_ ?_
        rotate_left
        ·intro w'
         go_simp
         with_reducible rfl
        rotate_left
        ·simp only [Act.put, zag, zan, zao, i64_w, i32_w]
         rfl
        refine pure_ (i := 1) (N := some 13) (v := ?_) (a' := ?_) #[true, true, false, false, false, false, false, false] rfl rfl (any_of HT_.out (by kernel_rfl)) (fun _ _ _ h => h) (Or.inl ⟨by rfl, ?_⟩) ?_ ?_
        rotate_left
        ·intro w'
         go_simp
         with_reducible rfl
        rotate_left
        ·simp only [Act.put, zag, zan, zao, i64_w, i32_w]
         rfl
        refine pure_ (i := 2) (N := some 14) (v := ?_) (a' := ?_) #[true, true, true, false, false, false, false, false] rfl rfl (any_of HT_.out (by kernel_rfl)) (fun _ _ _ h => h) (Or.inl ⟨by rfl, ?_⟩) ?_ ?_
        rotate_left
        ·intro w'
         go_simp
         with_reducible rfl
        rotate_left
        ·simp only [Act.put, zag, zan, zao, i64_w, i32_w]
         rfl
        refine pure_ (i := 3) (N := some 15) (v := ?_) (a' := ?_) #[true, true, true, true, false, false, false, false] rfl rfl (any_of HT_.out (by kernel_rfl)) (fun _ _ _ h => h) (Or.inl ⟨by rfl, ?_⟩) ?_ ?_
        rotate_left
        ·intro w'
         go_simp
         with_reducible rfl
        rotate_left
        ·simp only [Act.put, zag, zan, zao, i64_w, i32_w]
         rfl
        refine pure_ (i := 5) (N := some 17) (v := ?_) (a' := ?_) #[true, true, true, true, false, true, false, false] rfl rfl (any_of HT_.out (by kernel_rfl)) (fun _ _ _ h => h) (Or.inl ⟨by rfl, ?_⟩) ?_ ?_
        rotate_left
        ·intro w'
         go_simp
         with_reducible rfl
        rotate_left
        ·simp only [Act.put, zag, zan, zao, i64_w, i32_w]
         rfl
        refine take_ (i := 4) (N := some 16) (v := ?_) (a' := ?_) #[true, true, true, true, true, true, false, false] rfl rfl (take_ofW HT_.out HW_.out (by kernel_rfl)) (fun _ _ _ h => h) (Or.inl ⟨by rfl, ?_⟩) hHeld ?_ ?_
        rotate_left
        ·rintro w' ⟨s0, s1, s2, s3⟩
         go_simp
         with_reducible rfl
        rotate_left
        ·simp only [Act.put, zag, zan, zao, i64_w, i32_w]
         rfl
        refine one_ (i := 6) (N := some 18) #[true, true, true, true, true, true, true, false] rfl rfl (one_of HT_.out (by kernel_rfl)) (by decide) (fun K hK => ?_)
        refine goes_ Try.func98 (by kernel_rfl) rfl #[.int .i64 x1_1] (by rfl) rfl rfl (by (try simp only [zat, zbe, zbh]); first | done | rfl | (simp only [zch, zcf]; rfl) | (simp only [zch, zcf]; rw [zei (zff.mpr (of_eq_true (by assumption)))])) ?_
        with_reducible refine (laws_markText.calls k1 x1_1 t230 _ A5.out).mono ?_
        rintro e w16 ⟨rfl, hb⟩
        refine ⟨_, rfl, ?_⟩
        have n0_ := Aside0.mk (zai (by repeat (first | (with_reducible first | exact HB.out | apply zae | apply zab | apply zac) | exact HB.out)) hb)
        clear HB
        have HB := n0_
        clear n0_
        (try clear hb)
        (try clear hb2)
        (try clear hk)
        (try clear hi)
        refine hK.out _ _ ⟨((HB.out.cell (World.block_lt_of_cell? w _ hw229_0)).trans hw229_0), ((HB.out.cell (World.block_lt_of_cell? w _ hw229_1)).trans hw229_1), ((HB.out.cell (World.block_lt_of_cell? w _ hw229_2)).trans hw229_2), ((HB.out.cell (World.block_lt_of_cell? w _ hw229_3)).trans hw229_3)⟩ (fun hHeld => ?_)
        clear hK K
        refine norm_ (a' := ?_) ?_ ?_
        rotate_left
        ·show Act.put _ (some 18) _ = _
         simp only [Act.put, zag, zan, zao, i64_w, i32_w]
         rfl
        refine pure_ (i := 7) (N := some 19) (v := ?_) (a' := ?_) #[true, true, true, true, true, true, true, true] rfl rfl (any_of HT_.out (by kernel_rfl)) (fun _ _ _ h => h) (Or.inl ⟨by rfl, ?_⟩) ?_ ?_
        rotate_left
        ·intro w'
         go_simp
         with_reducible rfl
        rotate_left
        ·simp only [Act.put, zag, zan, zao, i64_w, i32_w]
         rfl
        refine done_ (done_of HT_.out (by kernel_rfl)) ?_
        have p231 : 0 ≤ (x5_1 : Int) := zad (by first | (with_reducible assumption) | assumption)
        have q231 : x5_1 < (l0.length : Int) := zad (by first | (with_reducible assumption) | assumption)
        obtain ⟨ad231, A231_3, c231_3, e231, hx231_0, hx231_1, hx231_2, hx231_3, hl231_3, hi231_3⟩ := at_T34 HR0.out x5_1 p231 q231
        obtain rfl : ad229 = ad231 := (by injection e231)
        have ea_ := Option.some.inj (hx231_3.symm.trans hw229_3)
        injection ea_ with ea_ en_ ec_
        subst ea_
        subst ec_
        clear en_
        replace hx231_0 := (HB.out.cell (World.block_lt_of_cell? w _ hx231_0)).trans hx231_0
        replace hx231_1 := (HB.out.cell (World.block_lt_of_cell? w _ hx231_1)).trans hx231_1
        replace hx231_2 := (HB.out.cell (World.block_lt_of_cell? w _ hx231_2)).trans hx231_2
        replace hx231_3 := (HB.out.cell (World.block_lt_of_cell? w _ hx231_3)).trans hx231_3
        have HR231_3 := Aside0.mk hi231_3
        have HC231_3 := Aside0.mk hl231_3
        clear hi231_3 hl231_3
        replace p231 := zay p231
        replace q231 := zay q231
        have p232 : 0 ≤ (x5_1 : Int) := zad (by first | (with_reducible assumption) | assumption)
        have q232 : x5_1 < (l0.length : Int) := zad (by first | (with_reducible assumption) | assumption)
        obtain ⟨ad232, A232_3, c232_3, e232, hx232_0, hx232_1, hx232_2, hx232_3, hl232_3, hi232_3⟩ := at_T34 HR0.out x5_1 p232 q232
        obtain rfl : ad229 = ad232 := (by injection e232)
        replace hx232_0 := (HB.out.cell (World.block_lt_of_cell? w _ hx232_0)).trans hx232_0
        replace hx232_1 := (HB.out.cell (World.block_lt_of_cell? w _ hx232_1)).trans hx232_1
        replace hx232_2 := (HB.out.cell (World.block_lt_of_cell? w _ hx232_2)).trans hx232_2
        replace hx232_3 := (HB.out.cell (World.block_lt_of_cell? w _ hx232_3)).trans hx232_3
        have HR232_3 := Aside0.mk hi232_3
        have HC232_3 := Aside0.mk hl232_3
        clear hi232_3 hl232_3
        replace p232 := zay p232
        replace q232 := zay q232
        have ea_ := Option.some.inj (hx231_3.symm.trans hx232_3)
        injection ea_ with ea_ en_ ec_
        subst ea_
        subst ec_
        clear en_
        try go_wp2
        go_ret
        exact ⟨by first | rfl | (simp [zbb, zbc] <;> rfl) | (simp [*, zbb, zbc] <;> rfl), by repeat (first | (with_reducible first | exact HB.out | apply zae | apply zab | apply zac) | exact HB.out)⟩
      ·rw [if_neg c7] at H
       have c7b0 : (((rd_T34 l0 x5_1).f1) == (wrap64 (x1_1 + 1))) = false := zcq.mpr c7
       have c7b1 : (((rd_T34 l0 x5_1).f1) != (wrap64 (x1_1 + 1))) = true := zeq.mpr c7
       obtain rfl := Option.some.inj H
       try go_wp2
       have n0_ := Aside0.mk (zac HB.out)
       clear HB
       have HB := n0_
       clear n0_
       have p229 : 0 ≤ (x5_1 : Int) := zad (by first | (with_reducible assumption) | assumption)
       have q229 : x5_1 < (l0.length : Int) := zad (by first | (with_reducible assumption) | assumption)
       obtain ⟨ad229, A229_3, c229_3, e229, hx229_0, hx229_1, hx229_2, hx229_3, hl229_3, hi229_3⟩ := at_T34 HR0.out x5_1 p229 q229
       have hw229_3 := hx229_3
       have hw229_2 := hx229_2
       have hw229_1 := hx229_1
       have hw229_0 := hx229_0
       cases e229
       replace hx229_0 := (HB.out.cell (World.block_lt_of_cell? w _ hx229_0)).trans hx229_0
       replace hx229_1 := (HB.out.cell (World.block_lt_of_cell? w _ hx229_1)).trans hx229_1
       replace hx229_2 := (HB.out.cell (World.block_lt_of_cell? w _ hx229_2)).trans hx229_2
       replace hx229_3 := (HB.out.cell (World.block_lt_of_cell? w _ hx229_3)).trans hx229_3
       have HR229_3 := Aside0.mk hi229_3
       have HC229_3 := Aside0.mk hl229_3
       clear hi229_3 hl229_3
       replace p229 := zay p229
       replace q229 := zay q229
       refine start_ (n := 8) (S := fun w' => w'.cell? (ad229.add ((x5_1).toNat * 4)) = some (.string ((rd_T34 l0 x5_1).f0)) ∧ w'.cell? ⟨(ad229.add ((x5_1).toNat * 4)).block, (ad229.add ((x5_1).toNat * 4)).off + 1, none⟩ = some (.int .i64 ((rd_T34 l0 x5_1).f1)) ∧ w'.cell? ⟨(ad229.add ((x5_1).toNat * 4)).block, (ad229.add ((x5_1).toNat * 4)).off + 2, none⟩ = some (.int .i64 ((rd_T34 l0 x5_1).f2)) ∧ w'.cell? ⟨(ad229.add ((x5_1).toNat * 4)).block, (ad229.add ((x5_1).toNat * 4)).off + 3, none⟩ = some (.slice A229_3 ((rd_T34 l0 x5_1).f3).length c229_3)) (ds := []) #[false, false, false, false, false, false, false, false] (by kernel_rfl) rfl rfl ⟨((HB.out.cell (World.block_lt_of_cell? w _ hw229_0)).trans hw229_0), ((HB.out.cell (World.block_lt_of_cell? w _ hw229_1)).trans hw229_1), ((HB.out.cell (World.block_lt_of_cell? w _ hw229_2)).trans hw229_2), ((HB.out.cell (World.block_lt_of_cell? w _ hw229_3)).trans hw229_3)⟩ (fun hHeld => ?_); refine with_tabW laws_heldItemS.tab4 laws_heldItemS.bits4 (fun HT_ HW_ => ?_)
       generalize wr.drew = w17 at HB HR229_3 hx229_0 hx229_1 hx229_2 hx229_3 hHeld ⊢
       refine pure_ (i := 0) (N := some 12) (v := ?_) (a' := ?_) #[true, false, false, false, false, false, false, false] rfl rfl (any_of HT_.out (by kernel_rfl)) (fun _ _ _ h => h) (Or.inl ⟨by rfl, ?_⟩) ?_ ?_
       rotate_left
       ·intro w'
        go_simp
        with_reducible rfl
       rotate_left
       ·simp only [Act.put, zag, zan, zao, i64_w, i32_w]
        rfl
       refine pure_ (i := 1) (N := some 13) (v := ?_) (a' := ?_) #[true, true, false, false, false, false, false, false] rfl rfl (any_of HT_.out (by kernel_rfl)) (fun _ _ _ h => h) (Or.inl ⟨by rfl, ?_⟩) ?_ ?_
       rotate_left
       ·intro w'
        go_simp
        with_reducible rfl
       rotate_left
       ·simp only [Act.put, zag, zan, zao, i64_w, i32_w]
        rfl
       refine pure_ (i := 2) (N := some 14) (v := ?_) (a' := ?_) #[true, true, true, false, false, false, false, false] rfl rfl (any_of HT_.out (by kernel_rfl)) (fun _ _ _ h => h) (Or.inl ⟨by rfl, ?_⟩) ?_ ?_
       rotate_left
       ·intro w'
        go_simp
        with_reducible rfl
       rotate_left
       ·simp only [Act.put, zag, zan, zao, i64_w, i32_w]
        rfl
       refine pure_ (i := 3) (N := some 15) (v := ?_) (a' := ?_) #[true, true, true, true, false, false, false, false] rfl rfl (any_of HT_.out (by kernel_rfl)) (fun _ _ _ h => h) (Or.inl ⟨by rfl, ?_⟩) ?_ ?_
       rotate_left
       ·intro w'
        go_simp
        with_reducible rfl
       rotate_left
       ·simp only [Act.put, zag, zan, zao, i64_w, i32_w]
        rfl
       refine pure_ (i := 5) (N := some 17) (v := ?_) (a' := ?_) #[true, true, true, true, false, true, false, false] rfl rfl (any_of HT_.out (by kernel_rfl)) (fun _ _ _ h => h) (Or.inl ⟨by rfl, ?_⟩) ?_ ?_
       rotate_left
       ·intro w'
        go_simp
        with_reducible rfl
       rotate_left
       ·simp only [Act.put, zag, zan, zao, i64_w, i32_w]
        rfl
       refine take_ (i := 4) (N := some 16) (v := ?_) (a' := ?_) #[true, true, true, true, true, true, false, false] rfl rfl (take_ofW HT_.out HW_.out (by kernel_rfl)) (fun _ _ _ h => h) (Or.inl ⟨by rfl, ?_⟩) hHeld ?_ ?_
       rotate_left
       ·rintro w' ⟨s0, s1, s2, s3⟩
        go_simp
        with_reducible rfl
       rotate_left
       ·simp only [Act.put, zag, zan, zao, i64_w, i32_w]
        rfl
       refine one_ (i := 6) (N := some 18) #[true, true, true, true, true, true, true, false] rfl rfl (one_of HT_.out (by kernel_rfl)) (by decide) (fun K hK => ?_)
       refine goes_ Try.func98 (by kernel_rfl) rfl #[.int .i64 x1_1] (by rfl) rfl rfl (by (try simp only [zat, zbe, zbh]); first | done | rfl | (simp only [zch, zcf]; rfl) | (simp only [zch, zcf]; rw [zei (zff.mpr (of_eq_true (by assumption)))])) ?_
       with_reducible refine (laws_markText.calls k1 x1_1 t230 _ A5.out).mono ?_
       rintro e w18 ⟨rfl, hb⟩
       refine ⟨_, rfl, ?_⟩
       have n0_ := Aside0.mk (zai (by repeat (first | (with_reducible first | exact HB.out | apply zae | apply zab | apply zac) | exact HB.out)) hb)
       clear HB
       have HB := n0_
       clear n0_
       (try clear hb)
       (try clear hb2)
       (try clear hk)
       (try clear hi)
       refine hK.out _ _ ⟨((HB.out.cell (World.block_lt_of_cell? w _ hw229_0)).trans hw229_0), ((HB.out.cell (World.block_lt_of_cell? w _ hw229_1)).trans hw229_1), ((HB.out.cell (World.block_lt_of_cell? w _ hw229_2)).trans hw229_2), ((HB.out.cell (World.block_lt_of_cell? w _ hw229_3)).trans hw229_3)⟩ (fun hHeld => ?_)
       clear hK K
       refine norm_ (a' := ?_) ?_ ?_
       rotate_left
       ·show Act.put _ (some 18) _ = _
        simp only [Act.put, zag, zan, zao, i64_w, i32_w]
        rfl
       refine pure_ (i := 7) (N := some 19) (v := ?_) (a' := ?_) #[true, true, true, true, true, true, true, true] rfl rfl (any_of HT_.out (by kernel_rfl)) (fun _ _ _ h => h) (Or.inl ⟨by rfl, ?_⟩) ?_ ?_
       rotate_left
       ·intro w'
        go_simp
        with_reducible rfl
       rotate_left
       ·simp only [Act.put, zag, zan, zao, i64_w, i32_w]
        rfl
       refine done_ (done_of HT_.out (by kernel_rfl)) ?_
       have p231 : 0 ≤ (x5_1 : Int) := zad (by first | (with_reducible assumption) | assumption)
       have q231 : x5_1 < (l0.length : Int) := zad (by first | (with_reducible assumption) | assumption)
       obtain ⟨ad231, A231_3, c231_3, e231, hx231_0, hx231_1, hx231_2, hx231_3, hl231_3, hi231_3⟩ := at_T34 HR0.out x5_1 p231 q231
       obtain rfl : ad229 = ad231 := (by injection e231)
       have ea_ := Option.some.inj (hx231_3.symm.trans hw229_3)
       injection ea_ with ea_ en_ ec_
       subst ea_
       subst ec_
       clear en_
       replace hx231_0 := (HB.out.cell (World.block_lt_of_cell? w _ hx231_0)).trans hx231_0
       replace hx231_1 := (HB.out.cell (World.block_lt_of_cell? w _ hx231_1)).trans hx231_1
       replace hx231_2 := (HB.out.cell (World.block_lt_of_cell? w _ hx231_2)).trans hx231_2
       replace hx231_3 := (HB.out.cell (World.block_lt_of_cell? w _ hx231_3)).trans hx231_3
       have HR231_3 := Aside0.mk hi231_3
       have HC231_3 := Aside0.mk hl231_3
       clear hi231_3 hl231_3
       replace p231 := zay p231
       replace q231 := zay q231
       try go_wp2
       go_ret
       exact ⟨by first | rfl | (simp [zbb, zbc] <;> rfl) | (simp [*, zbb, zbc] <;> rfl), by repeat (first | (with_reducible first | exact HB.out | apply zae | apply zab | apply zac) | exact HB.out)⟩
     ·rw [if_neg c6] at H
      have c6b0 : (((rd_T34 l0 x5_1).f0).toList == t230.toList) = false := zcq.mpr c6
      have c6b1 : (((rd_T34 l0 x5_1).f0).toList != t230.toList) = true := zeq.mpr c6
      obtain rfl := Option.some.inj H
      try go_wp2
      have n0_ := Aside0.mk (zac HB.out)
      clear HB
      have HB := n0_
      clear n0_
      have p229 : 0 ≤ (x5_1 : Int) := zad (by first | (with_reducible assumption) | assumption)
      have q229 : x5_1 < (l0.length : Int) := zad (by first | (with_reducible assumption) | assumption)
      obtain ⟨ad229, A229_3, c229_3, e229, hx229_0, hx229_1, hx229_2, hx229_3, hl229_3, hi229_3⟩ := at_T34 HR0.out x5_1 p229 q229
      have hw229_3 := hx229_3
      have hw229_2 := hx229_2
      have hw229_1 := hx229_1
      have hw229_0 := hx229_0
      cases e229
      replace hx229_0 := (HB.out.cell (World.block_lt_of_cell? w _ hx229_0)).trans hx229_0
      replace hx229_1 := (HB.out.cell (World.block_lt_of_cell? w _ hx229_1)).trans hx229_1
      replace hx229_2 := (HB.out.cell (World.block_lt_of_cell? w _ hx229_2)).trans hx229_2
      replace hx229_3 := (HB.out.cell (World.block_lt_of_cell? w _ hx229_3)).trans hx229_3
      have HR229_3 := Aside0.mk hi229_3
      have HC229_3 := Aside0.mk hl229_3
      clear hi229_3 hl229_3
      replace p229 := zay p229
      replace q229 := zay q229
      refine start_ (n := 8) (S := fun w' => w'.cell? (ad229.add ((x5_1).toNat * 4)) = some (.string ((rd_T34 l0 x5_1).f0)) ∧ w'.cell? ⟨(ad229.add ((x5_1).toNat * 4)).block, (ad229.add ((x5_1).toNat * 4)).off + 1, none⟩ = some (.int .i64 ((rd_T34 l0 x5_1).f1)) ∧ w'.cell? ⟨(ad229.add ((x5_1).toNat * 4)).block, (ad229.add ((x5_1).toNat * 4)).off + 2, none⟩ = some (.int .i64 ((rd_T34 l0 x5_1).f2)) ∧ w'.cell? ⟨(ad229.add ((x5_1).toNat * 4)).block, (ad229.add ((x5_1).toNat * 4)).off + 3, none⟩ = some (.slice A229_3 ((rd_T34 l0 x5_1).f3).length c229_3)) (ds := []) #[false, false, false, false, false, false, false, false] (by kernel_rfl) rfl rfl ⟨((HB.out.cell (World.block_lt_of_cell? w _ hw229_0)).trans hw229_0), ((HB.out.cell (World.block_lt_of_cell? w _ hw229_1)).trans hw229_1), ((HB.out.cell (World.block_lt_of_cell? w _ hw229_2)).trans hw229_2), ((HB.out.cell (World.block_lt_of_cell? w _ hw229_3)).trans hw229_3)⟩ (fun hHeld => ?_); refine with_tabW laws_heldItemS.tab4 laws_heldItemS.bits4 (fun HT_ HW_ => ?_)
      generalize wr.drew = w19 at HB HR229_3 hx229_0 hx229_1 hx229_2 hx229_3 hHeld ⊢
      refine pure_ (i := 0) (N := some 12) (v := ?_) (a' := ?_) #[true, false, false, false, false, false, false, false] rfl rfl (any_of HT_.out (by kernel_rfl)) (fun _ _ _ h => h) (Or.inl ⟨by rfl, ?_⟩) ?_ ?_
      rotate_left
      ·intro w'
       go_simp
       with_reducible rfl
      rotate_left
      ·simp only [Act.put, zag, zan, zao, i64_w, i32_w]
       rfl
      refine pure_ (i := 1) (N := some 13) (v := ?_) (a' := ?_) #[true, true, false, false, false, false, false, false] rfl rfl (any_of HT_.out (by kernel_rfl)) (fun _ _ _ h => h) (Or.inl ⟨by rfl, ?_⟩) ?_ ?_
      rotate_left
      ·intro w'
       go_simp
       with_reducible rfl
      rotate_left
      ·simp only [Act.put, zag, zan, zao, i64_w, i32_w]
       rfl
      refine pure_ (i := 2) (N := some 14) (v := ?_) (a' := ?_) #[true, true, true, false, false, false, false, false] rfl rfl (any_of HT_.out (by kernel_rfl)) (fun _ _ _ h => h) (Or.inl ⟨by rfl, ?_⟩) ?_ ?_
      rotate_left
      ·intro w'
       go_simp
       with_reducible rfl
      rotate_left
      ·simp only [Act.put, zag, zan, zao, i64_w, i32_w]
       rfl
      refine pure_ (i := 3) (N := some 15) (v := ?_) (a' := ?_) #[true, true, true, true, false, false, false, false] rfl rfl (any_of HT_.out (by kernel_rfl)) (fun _ _ _ h => h) (Or.inl ⟨by rfl, ?_⟩) ?_ ?_
      rotate_left
      ·intro w'
       go_simp
       with_reducible rfl
      rotate_left
      ·simp only [Act.put, zag, zan, zao, i64_w, i32_w]
       rfl
      refine pure_ (i := 5) (N := some 17) (v := ?_) (a' := ?_) #[true, true, true, true, false, true, false, false] rfl rfl (any_of HT_.out (by kernel_rfl)) (fun _ _ _ h => h) (Or.inl ⟨by rfl, ?_⟩) ?_ ?_
      rotate_left
      ·intro w'
       go_simp
       with_reducible rfl
      rotate_left
      ·simp only [Act.put, zag, zan, zao, i64_w, i32_w]
       rfl
      refine take_ (i := 4) (N := some 16) (v := ?_) (a' := ?_) #[true, true, true, true, true, true, false, false] rfl rfl (take_ofW HT_.out HW_.out (by kernel_rfl)) (fun _ _ _ h => h) (Or.inl ⟨by rfl, ?_⟩) hHeld ?_ ?_
      rotate_left
      ·rintro w' ⟨s0, s1, s2, s3⟩
       go_simp
       with_reducible rfl
      rotate_left
      ·simp only [Act.put, zag, zan, zao, i64_w, i32_w]
       rfl
      refine one_ (i := 6) (N := some 18) #[true, true, true, true, true, true, true, false] rfl rfl (one_of HT_.out (by kernel_rfl)) (by decide) (fun K hK => ?_)
      refine goes_ Try.func98 (by kernel_rfl) rfl #[.int .i64 x1_1] (by rfl) rfl rfl (by (try simp only [zat, zbe, zbh]); first | done | rfl | (simp only [zch, zcf]; rfl) | (simp only [zch, zcf]; rw [zei (zff.mpr (of_eq_true (by assumption)))])) ?_
      with_reducible refine (laws_markText.calls k1 x1_1 t230 _ A5.out).mono ?_
      rintro e w20 ⟨rfl, hb⟩
      refine ⟨_, rfl, ?_⟩
      have n0_ := Aside0.mk (zai (by repeat (first | (with_reducible first | exact HB.out | apply zae | apply zab | apply zac) | exact HB.out)) hb)
      clear HB
      have HB := n0_
      clear n0_
      (try clear hb)
      (try clear hb2)
      (try clear hk)
      (try clear hi)
      refine hK.out _ _ ⟨((HB.out.cell (World.block_lt_of_cell? w _ hw229_0)).trans hw229_0), ((HB.out.cell (World.block_lt_of_cell? w _ hw229_1)).trans hw229_1), ((HB.out.cell (World.block_lt_of_cell? w _ hw229_2)).trans hw229_2), ((HB.out.cell (World.block_lt_of_cell? w _ hw229_3)).trans hw229_3)⟩ (fun hHeld => ?_)
      clear hK K
      refine norm_ (a' := ?_) ?_ ?_
      rotate_left
      ·show Act.put _ (some 18) _ = _
       simp only [Act.put, zag, zan, zao, i64_w, i32_w]
       rfl
      refine pure_ (i := 7) (N := some 19) (v := ?_) (a' := ?_) #[true, true, true, true, true, true, true, true] rfl rfl (any_of HT_.out (by kernel_rfl)) (fun _ _ _ h => h) (Or.inl ⟨by rfl, ?_⟩) ?_ ?_
      rotate_left
      ·intro w'
       go_simp
       with_reducible rfl
      rotate_left
      ·simp only [Act.put, zag, zan, zao, i64_w, i32_w]
       rfl
      refine done_ (done_of HT_.out (by kernel_rfl)) ?_
      try go_wp2
      go_ret
      exact ⟨by first | rfl | (simp [zbb, zbc] <;> rfl) | (simp [*, zbb, zbc] <;> rfl), by repeat (first | (with_reducible first | exact HB.out | apply zae | apply zab | apply zac) | exact HB.out)⟩
    ·rw [if_neg c4] at H
     exact absurd H (by simp)
   ·rw [if_neg c3] at H
    have c3b0 : decide (x5_1 < (l0.length : Int)) = false := zbj c3
    clear c3
    obtain rfl := Option.some.inj H
    go_wp2
    go_ret
    exact ⟨by first | rfl | (simp [zbb, zbc] <;> rfl) | (simp [*, zbb, zbc] <;> rfl), by repeat (first | (with_reducible first | exact HB.out | apply zae | apply zab | apply zac) | exact HB.out)⟩
end Go.Proofs.Ytlalkldjpniakaa.P
