import Derived.Test.Ytdineaebljpfaaan17
namespace Go.Proofs.Ytdineaebljpfaaa.P
open Go.RowKit Go.Proofs.YtdineaebljpfaaaW.PrintWords Go.Proofs.YtdineaebljpfaaaW.PrintLast Go.Proofs.YtdineaebljpfaaaW.PrintMore
attribute [local go_sem] zcu zcv zdf zdg zci zcj zcw zcx   -- for this text's walks alone
set_option linter.unusedVariables false
set_option linter.unusedSimpArgs false

def impl_step.f (l0 : List Int) (a1 : Int) (a2 : Int) (a3 : Int) (a4 : Int) : Option (List Int) := if 0 ≤ a1 then (if a1 < (l0.length : Int) then (if 0 ≤ a2 then (if a2 < (l0.length : Int) then ((impl_Word.f (wrap64 ((rd l0 a1) + (rd l0 a2)))).bind fun t283 => ((some (l0.set (a1 : Int).toNat t283 : List Int)).bind fun y284 => (if 0 ≤ a3 then (if a3 < (l0.length : Int) then ((impl_Turn.f (Go.bits .xor .i64 (rd y284 a3) (rd y284 a1)) a4).bind fun t287 => (some (y284.set (a3 : Int).toNat t287))) else (none)) else (none)))) else (none)) else (none)) else (none)) else (none)
def impl_step.T0 : Bool × List (List Nat × List Nat) := (true, [([], []), ([], []), ([], []), ([], []), ([2, 3], [2, 3]), ([4], [4]), ([], []), ([], []), ([6, 7], [6, 7]), ([8], [8]), ([5, 9], [5, 9]), ([10], [10]), ([0, 1, 0, 1, 2, 3, 4, 5, 6, 7, 8, 9, 10, 11], [0, 1]), ([12, 11, 11, 0, 1, 2, 3, 4, 5, 6, 7, 8, 9, 10, 11], [11, 12])])
def impl_step.B0 : List Nat := [0, 0, 0, 0, 12, 28, 0, 0, 192, 448, 1020, 2044, 4095, 8191]
theorem impl_step.tab0 : rtab .any (opsOf Try.f42 0) = impl_step.T0 := by kernel_rfl
theorem impl_step.bits0 : waitsOk impl_step.T0.2 impl_step.B0 = true := by kernel_rfl
def impl_step.T1 : Bool × List (List Nat × List Nat) := (true, [([], []), ([], []), ([], []), ([], []), ([2, 3], [2, 3]), ([4], [4]), ([], []), ([], []), ([6, 7], [6, 7]), ([8], [8]), ([5, 9], [5, 9]), ([], []), ([10, 11], [10, 11]), ([0, 1, 0, 1, 2, 3, 4, 5, 6, 7, 8, 9, 10, 11, 12], [0, 1]), ([13, 12, 12, 0, 1, 2, 3, 4, 5, 6, 7, 8, 9, 10, 11, 12], [12, 13])])
def impl_step.B1 : List Nat := [0, 0, 0, 0, 12, 28, 0, 0, 192, 448, 1020, 0, 4092, 8191, 16383]
theorem impl_step.tab1 : rtab .any (opsOf Try.f42 1) = impl_step.T1 := by kernel_rfl
theorem impl_step.bits1 : waitsOk impl_step.T1.2 impl_step.B1 = true := by kernel_rfl
theorem impl_step.sd (w : World) (n : Nat) (a : Addr) (u : Value) : (w.drewN n).setCell a u = (w.setCell a u).drewN n := by
 cases w; rfl
set_option maxHeartbeats 8000000 in
set_option maxRecDepth 100000 in
theorem impl_step.calls (P0_ : Nat → Prop) (u9000_ : Value) (l0 : List Int) (a1 : Int) (a2 : Int) (a3 : Int) (a4 : Int) (r : List Int) (w0 w : World) (hB : Below w0.heap.size w0 w) (ho0 : Kd.R (Kd.int .i64) 3 w w0.heap.size P0_ u9000_ l0) (h : impl_step.f l0 a1 a2 a3 a4 = some r) :
  Calls Try.prog 42 #[u9000_, .int .i64 a1, .int .i64 a2, .int .i64 a3, .int .i64 a4] w fun e w' => e = .returned (.tuple #[]) ∧ Kd.R (Kd.int .i64) 3 w' w0.heap.size (fun k_ => (P0_ k_ ∨ w.heap.size ≤ k_)) u9000_ r ∧ Below w0.heap.size w0 w' ∧ Kept w w' (fun k_ => P0_ k_) := by
 have HO0 := Aside0.mk (show Kd.R (Kd.int .i64) 3 w w0.heap.size (fun k_ => (P0_ k_ ∨ w.heap.size ≤ k_)) u9000_ l0 from zbm ho0 (fun k_ hk => (.inl hk)))
 have HK := Aside0.mk (Kept.refl w (fun k_ => P0_ k_))
 have HW0 := Aside0.mk hB.size
 have HB := Aside0.mk hB
 clear hB
 have H : (if 0 ≤ a1 then (if a1 < (l0.length : Int) then (if 0 ≤ a2 then (if a2 < (l0.length : Int) then ((impl_Word.f (wrap64 ((rd l0 a1) + (rd l0 a2)))).bind fun t283 => ((some (l0.set (a1 : Int).toNat t283 : List Int)).bind fun y284 => (if 0 ≤ a3 then (if a3 < (l0.length : Int) then ((impl_Turn.f (Go.bits .xor .i64 (rd y284 a3) (rd y284 a1)) a4).bind fun t287 => (some (y284.set (a3 : Int).toNat t287))) else (none)) else (none)))) else (none)) else (none)) else (none)) else (none)) = some r := h
 clear h
 by_cases c6 : 0 ≤ a1
 ·rw [if_pos c6] at H
  have c6b0 : decide (0 ≤ a1) = true := zax c6
  clear c6
  by_cases c7 : a1 < (l0.length : Int)
  ·rw [if_pos c7] at H
   have c7b0 : decide (a1 < (l0.length : Int)) = true := zax c7
   clear c7
   by_cases c8 : 0 ≤ a2
   ·rw [if_pos c8] at H
    have c8b0 : decide (0 ≤ a2) = true := zax c8
    clear c8
    by_cases c9 : a2 < (l0.length : Int)
    ·rw [if_pos c9] at H
     have c9b0 : decide (a2 < (l0.length : Int)) = true := zax c9
     clear c9
     replace H := zam.mp H
     obtain ⟨t283, A100, H⟩ := H
     try dsimp only at H
     have A10 := Aside0.mk A100
     clear A100
     obtain ⟨y284, hy284⟩ : ∃ y_ : List Int, y_ = (l0.set (a1 : Int).toNat t283) := ⟨_, rfl⟩
     replace H : (if 0 ≤ a3 then (if a3 < (l0.length : Int) then ((impl_Turn.f (Go.bits .xor .i64 (rd y284 a3) (rd y284 a1)) a4).bind fun t287 => (some (y284.set (a3 : Int).toNat t287))) else (none)) else (none)) = some r := by first | (rw [hy284]; with_reducible first | exact H | exact bind_ofs H) | (with_reducible first | exact H | exact bind_ofs H) | (rw [hy284]; exact H) | exact H
     have Ny284 := Aside0.mk hy284
     clear hy284
     by_cases c12 : 0 ≤ a3
     ·rw [if_pos c12] at H
      have c12b0 : decide (0 ≤ a3) = true := zax c12
      clear c12
      by_cases c13 : a3 < (l0.length : Int)
      ·rw [if_pos c13] at H
       have c13b0 : decide (a3 < (l0.length : Int)) = true := zax c13
       clear c13
       replace H := zam.mp H
       obtain ⟨t287, A140, H⟩ := H
       try dsimp only at H
       have A14 := Aside0.mk A140
       clear A140
       obtain ⟨y288, hy288⟩ : ∃ y_ : List Int, y_ = (y284.set (a3 : Int).toNat t287) := ⟨_, rfl⟩
       replace H : (some y288) = some r := by first | (rw [hy288]; with_reducible first | exact H | exact bind_ofs H) | (with_reducible first | exact H | exact bind_ofs H) | (rw [hy288]; exact H) | exact H
       have Ny288 := Aside0.mk hy288
       clear hy288
       obtain rfl := Option.some.inj H
       go_enter Try.func42, Try.ntmps42
       try go_wp2
       have n0_ := Aside0.mk (zae HO0.out)
       have n1_ := Aside0.mk (Kept.drew HK.out)
       have n2_ := Aside0.mk (zai HB.out)
       clear HO0
       clear HK
       clear HB
       have HO0 := n0_
       have HK := n1_
       have HB := n2_
       clear n0_ n1_ n2_
       obtain ⟨Ao17, co17, eo17⟩ := zbe HO0.out
       (first | subst eo17 | (injection eo17 with f1_ f2_ f3_; have f4_ := f1_.symm; have f5_ := f3_.symm; clear f1_ f2_ f3_; subst f4_; subst f5_))
       have p281 : 0 ≤ (a1 : Int) := zap (by first | (with_reducible assumption) | assumption)
       have q281 : a1 < (l0.length : Int) := zap (by first | (with_reducible assumption) | assumption)
       obtain ⟨ad281, e281, hx281_0⟩ := zca (zaf HO0.out).2.2 a1 p281 q281
       cases e281
       replace p281 := zbn p281
       replace q281 := zbn q281
       have p282 : 0 ≤ (a2 : Int) := zap (by first | (with_reducible assumption) | assumption)
       have q282 : a2 < (l0.length : Int) := zap (by first | (with_reducible assumption) | assumption)
       obtain ⟨ad282, e282, hx282_0⟩ := zca (zaf HO0.out).2.2 a2 p282 q282
       obtain rfl : ad281 = ad282 := (by injection e282)
       replace p282 := zbn p282
       replace q282 := zbn q282
       refine start_ (n := 14) (S := fun w' => w'.cell? (ad281.add (a1).toNat) = some (.int .i64 (rd l0 a1)) ∧ w'.cell? (ad281.add (a2).toNat) = some (.int .i64 (rd l0 a2))) (ds := [13]) #[false, false, false, false, false, false, false, false, false, false, false, false, false, false] (by kernel_rfl) rfl rfl ⟨hx281_0, hx282_0⟩ (fun hHeld => ?_); refine zeq impl_step.tab0 impl_step.bits0 (fun HT_ HW_ => ?_)
       generalize w.drew = w16 at HO0 HK HB hx281_0 hx282_0 hHeld ⊢
       refine pure_ (i := 0) (N := some 10) (v := ?_) (a' := ?_) #[true, false, false, false, false, false, false, false, false, false, false, false, false, false] rfl rfl (any_of HT_.out (by kernel_rfl)) (fun _ _ _ h => h) (Or.inl ⟨by rfl, ?_⟩) ?_ ?_
       rotate_left
       ·intro w'
        go_simp
        with_reducible rfl
       rotate_left
       ·simp only [Act.put, zaa, zag, zah, i64_w, i32_w]
        rfl
       refine pure_ (i := 1) (N := some 11) (v := ?_) (a' := ?_) #[true, true, false, false, false, false, false, false, false, false, false, false, false, false] rfl rfl (any_of HT_.out (by kernel_rfl)) (fun _ _ _ h => h) (Or.inl ⟨by rfl, ?_⟩) ?_ ?_
       rotate_left
       ·intro w'
        go_simp
        with_reducible rfl
       rotate_left
       ·simp only [Act.put, zaa, zag, zah, i64_w, i32_w]
        rfl
       refine pure_ (i := 2) (N := some 12) (v := ?_) (a' := ?_) #[true, true, true, false, false, false, false, false, false, false, false, false, false, false] rfl rfl (any_of HT_.out (by kernel_rfl)) (fun _ _ _ h => h) (Or.inl ⟨by rfl, ?_⟩) ?_ ?_
       rotate_left
       ·intro w'
        go_simp
        with_reducible rfl
       rotate_left
       ·simp only [Act.put, zaa, zag, zah, i64_w, i32_w]
        rfl
       refine pure_ (i := 3) (N := some 13) (v := ?_) (a' := ?_) #[true, true, true, true, false, false, false, false, false, false, false, false, false, false] rfl rfl (any_of HT_.out (by kernel_rfl)) (fun _ _ _ h => h) (Or.inl ⟨by rfl, ?_⟩) ?_ ?_
       rotate_left
       ·intro w'
        go_simp
        with_reducible rfl
       rotate_left
       ·simp only [Act.put, zaa, zag, zah, i64_w, i32_w]
        rfl
       refine pure_ (i := 4) (N := some 14) (v := ?_) (a' := ?_) #[true, true, true, true, true, false, false, false, false, false, false, false, false, false] rfl rfl (any_of HT_.out (by kernel_rfl)) (fun _ _ _ h => h) (Or.inl ⟨by rfl, ?_⟩) ?_ ?_
       rotate_left
       ·intro w'
        go_simp
        with_reducible rfl
       rotate_left
       ·simp only [Act.put, zaa, zag, zah, i64_w, i32_w]
        rfl
       refine pure_ (i := 6) (N := some 16) (v := ?_) (a' := ?_) #[true, true, true, true, true, false, true, false, false, false, false, false, false, false] rfl rfl (any_of HT_.out (by kernel_rfl)) (fun _ _ _ h => h) (Or.inl ⟨by rfl, ?_⟩) ?_ ?_
       rotate_left
       ·intro w'
        go_simp
        with_reducible rfl
       rotate_left
       ·simp only [Act.put, zaa, zag, zah, i64_w, i32_w]
        rfl
       refine pure_ (i := 7) (N := some 17) (v := ?_) (a' := ?_) #[true, true, true, true, true, false, true, true, false, false, false, false, false, false] rfl rfl (any_of HT_.out (by kernel_rfl)) (fun _ _ _ h => h) (Or.inl ⟨by rfl, ?_⟩) ?_ ?_
       rotate_left
       ·intro w'
        go_simp
        with_reducible rfl
       rotate_left
       ·simp only [Act.put, zaa, zag, zah, i64_w, i32_w]
        rfl
       refine pure_ (i := 8) (N := some 18) (v := ?_) (a' := ?_) #[true, true, true, true, true, false, true, true, true, false, false, false, false, false] rfl rfl (any_of HT_.out (by kernel_rfl)) (fun _ _ _ h => h) (Or.inl ⟨by rfl, ?_⟩) ?_ ?_
       rotate_left
       ·intro w'
        go_simp
        with_reducible rfl
       rotate_left
       ·simp only [Act.put, zaa, zag, zah, i64_w, i32_w]
        rfl
       refine take_ (i := 5) (N := some 15) (v := ?_) (a' := ?_) #[true, true, true, true, true, true, true, true, true, false, false, false, false, false] rfl rfl (zdt HT_.out HW_.out (by kernel_rfl)) (fun _ _ _ h => h) (Or.inl ⟨by rfl, ?_⟩) hHeld ?_ ?_
       rotate_left
       ·rintro w' ⟨s0, s1⟩
        go_simp
        with_reducible rfl
       rotate_left
       ·simp only [Act.put, zaa, zag, zah, i64_w, i32_w]
        rfl
       refine take_ (i := 9) (N := some 19) (v := ?_) (a' := ?_) #[true, true, true, true, true, true, true, true, true, true, false, false, false, false] rfl rfl (zdt HT_.out HW_.out (by kernel_rfl)) (fun _ _ _ h => h) (Or.inl ⟨by rfl, ?_⟩) hHeld ?_ ?_
       rotate_left
       ·rintro w' ⟨s0, s1⟩
        go_simp
        with_reducible rfl
       rotate_left
       ·simp only [Act.put, zaa, zag, zah, i64_w, i32_w]
        rfl
       refine pure_ (i := 10) (N := some 20) (v := ?_) (a' := ?_) #[true, true, true, true, true, true, true, true, true, true, true, false, false, false] rfl rfl (any_of HT_.out (by kernel_rfl)) (fun _ _ _ h => h) (Or.inl ⟨by rfl, ?_⟩) ?_ ?_
       rotate_left
       ·intro w'
        go_simp
        with_reducible rfl
       rotate_left
       ·simp only [Act.put, zaa, zag, zah, i64_w, i32_w]
        rfl
       refine one_ (i := 11) (N := some 21) #[true, true, true, true, true, true, true, true, true, true, true, true, false, false] rfl rfl (one_of HT_.out (by kernel_rfl)) (by decide) (fun K hK => ?_)
       refine goes_ Try.func49 (by kernel_rfl) rfl #[.int .i64 (wrap64 ((rd l0 a1) + (rd l0 a2)))] (by rfl) rfl rfl (by (try simp only [zal, zaq, zar]); first | done | rfl | (simp only [zbl, zbi]; rfl) | (simp only [zbl, zbi]; rw [zcm (zda.mpr (zdl (by assumption)))])) ?_
       with_reducible refine (impl_Word.calls (wrap64 ((rd l0 a1) + (rd l0 a2))) t283 _ A10.out).mono ?_
       rintro e w' ⟨rfl, ⟨nd, rfl⟩⟩
       refine ⟨_, rfl, ?_⟩
       have p11 : 0 ≤ (a1 : Int) := zap (by first | (with_reducible assumption) | assumption)
       have q11 : (a1 : Int) < ((l0.length : Int) : Int) := zap (by first | (with_reducible assumption) | assumption)
       obtain ⟨go11, co11, eo11, gb11, gl11, cl11, HG11⟩ := Kd.R_form HO0.out (by omega)
       (first | cases eo11 | (injection eo11 with ea_ en_ ec_; (first | subst ea_ | (injection ea_ with ea_; subst ea_)); subst ec_; clear en_))
       have GB11 := Aside0.mk gb11
       have GG11 := Aside0.mk HG11
       clear gb11 gl11 HG11
       have HMgo11 := Aside0.mk (show (P0_ go11 ∨ w.heap.size ≤ go11) from (HO0.out.1 _ rfl))
       (first | simp only [zeg] at hx281_0 | skip)
       (first | simp only [zeg] at hx282_0 | skip)
       obtain ⟨hx11_0, hf11_0⟩ := zer 0 HO0.out (a1 : Int) p11 q11
       replace p11 := zbn p11
       replace q11 := zbn q11
       have HP18 := Kd.R_putn HO0.out (a1 : Int) t283
       rw [← Ny284.out] at HP18
       have HQ18 := Aside0.mk HP18
       clear HP18
       refine hK.out _ _ ⟨hHeld.1, hHeld.2⟩ (fun hHeld => ?_)
       clear hK K
       refine norm_ (a' := ?_) ?_ ?_
       rotate_left
       ·show Act.put _ (some 21) _ = _
        simp only [Act.put, zaa, zag, zah, i64_w, i32_w]
        rfl
       refine pure_ (i := 12) (N := some 22) (v := ?_) (a' := ?_) #[true, true, true, true, true, true, true, true, true, true, true, true, true, false] rfl rfl (any_of HT_.out (by kernel_rfl)) (fun _ _ _ h => h) (Or.inl ⟨by rfl, ?_⟩) ?_ ?_
       rotate_left
       ·intro w'
        go_simp
        with_reducible rfl
       rotate_left
       ·simp only [Act.put, zaa, zag, zah, i64_w, i32_w]
        rfl
       refine last_ (i := 13) (N := none) #[true, true, true, true, true, true, true, true, true, true, true, true, true, true] rfl rfl (one_of HT_.out (by kernel_rfl)) (by decide) (fun K hK => ?_)
       refine skip_ (w1 := ?_) (by rfl) rfl ?_ ?_
       rotate_left
       ·go_simp
        rfl
       refine hK.out _ _ ?_
       clear hK K
       refine done_ (done_of HT_.out (by kernel_rfl)) ?_
       try go_wp2
       have n0_ : Aside0 (Kd.R (Kd.int .i64) 3 (w16.setCell ⟨go11, (a1 : Int).toNat, none⟩ (.int .i64 t283)) w0.heap.size (fun k_ => (P0_ k_ ∨ w.heap.size ≤ k_)) (.slice (some ⟨go11, 0, none⟩) l0.length co17) y284) := ⟨by (with_reducible repeat (first | apply zab | apply zac | apply zae)); exact HQ18.out⟩
       have n1_ : Aside0 (Kept w (w16.setCell ⟨go11, (a1 : Int).toNat, none⟩ (.int .i64 t283)) (fun k_ => P0_ k_)) := ⟨by repeat (first | (with_reducible first | exact HK.out | apply Kept.alloc | apply Kept.drewN | apply Kept.drew | refine Kept.setCell ?_ HMgo11.out _) | exact HK.out)⟩
       have n2_ : Aside0 (Below w0.heap.size w0 (w16.setCell ⟨go11, (a1 : Int).toNat, none⟩ (.int .i64 t283))) := ⟨by repeat (first | (with_reducible first | exact HB.out | apply zaj | apply zad | apply zai | refine zbs ?_ GB11.out) | exact HB.out)⟩
       (try clear HO0)
       (try clear HK)
       (try clear HB)
       (try rw [impl_step.sd w16])
       generalize (w16.setCell ⟨go11, (a1 : Int).toNat, none⟩ (.int .i64 t283)) = w19 at n0_ n1_ n2_ ⊢
       have HO0 := n0_
       have HK := n1_
       have HB := n2_
       clear n0_ n1_ n2_
       (try (rw [drewN_self w19]; generalize hq_ : World.drewN w19 _ = w19; have n0_ : Aside0 (Kd.R (Kd.int .i64) 3 w19 w0.heap.size (fun k_ => (P0_ k_ ∨ w.heap.size ≤ k_)) (.slice (some ⟨go11, 0, none⟩) l0.length co17) y284) := ⟨by rw [← hq_]; exact (by (with_reducible repeat (first | apply zab | apply zac | apply zae)); exact HO0.out)⟩; have n1_ : Aside0 (Kept w w19 (fun k_ => P0_ k_)) := ⟨by rw [← hq_]; exact (by repeat (first | (with_reducible first | exact HK.out | apply Kept.alloc | apply Kept.drewN | apply Kept.drew) | exact HK.out))⟩; have n2_ : Aside0 (Below w0.heap.size w0 w19) := ⟨by rw [← hq_]; exact (by repeat (first | (with_reducible first | exact HB.out | apply zaj | apply zad | apply zai) | exact HB.out))⟩; clear HO0 HK HB hq_; have HO0 := n0_; have HK := n1_; have HB := n2_; clear n0_ n1_ n2_))
       have n0_ := Aside0.mk (zae HO0.out)
       have n1_ := Aside0.mk (Kept.drew HK.out)
       have n2_ := Aside0.mk (zai HB.out)
       clear HO0
       clear HK
       clear HB
       have HO0 := n0_
       have HK := n1_
       have HB := n2_
       clear n0_ n1_ n2_
       have p285 : 0 ≤ (a3 : Int) := zap (by first | (with_reducible assumption) | assumption)
       have q285 : a3 < (y284.length : Int) := (by have h_ : (a3 : Int) < ((l0.length : Int) : Int) := zap (by first | (with_reducible assumption) | assumption); first | (have e_ := (zaf HO0.out).1; omega) | simpa only [Ny284.out, zdm] using h_)
       have ql285 : ((a3 : Int) < ((l0.length : Int) : Int)) = True := zbn (zap (by first | (with_reducible assumption) | assumption))
       obtain ⟨ad285, e285, hx285_0⟩ := zca (zaf HO0.out).2.2 a3 p285 q285
       obtain rfl : (⟨go11, 0, none⟩ : Addr) = ad285 := (by injection e285)
       (first | simp only [zeg] at hx285_0 | simp only [add_at] at hx285_0 | simp only [Addr.add, zeb] at hx285_0 | skip)
       replace p285 := zbn p285
       replace q285 := zbn q285
       have p286 : 0 ≤ (a1 : Int) := zap (by first | (with_reducible assumption) | assumption)
       have q286 : a1 < (y284.length : Int) := (by have h_ : (a1 : Int) < ((l0.length : Int) : Int) := zap (by first | (with_reducible assumption) | assumption); first | (have e_ := (zaf HO0.out).1; omega) | simpa only [Ny284.out, zdm] using h_)
       have ql286 : ((a1 : Int) < ((l0.length : Int) : Int)) = True := zbn (zap (by first | (with_reducible assumption) | assumption))
       obtain ⟨ad286, e286, hx286_0⟩ := zca (zaf HO0.out).2.2 a1 p286 q286
       obtain rfl : (⟨go11, 0, none⟩ : Addr) = ad286 := (by injection e286)
       (first | simp only [zeg] at hx286_0 | simp only [add_at] at hx286_0 | simp only [Addr.add, zeb] at hx286_0 | skip)
       replace p286 := zbn p286
       replace q286 := zbn q286
       refine start_ (n := 15) (S := fun w' => w'.cell? ⟨go11, (a3).toNat, none⟩ = some (.int .i64 (rd y284 a3)) ∧ w'.cell? ⟨go11, (a1).toNat, none⟩ = some (.int .i64 (rd y284 a1))) (ds := [14]) #[false, false, false, false, false, false, false, false, false, false, false, false, false, false, false] (by kernel_rfl) rfl rfl ⟨hx285_0, hx286_0⟩ (fun hHeld => ?_); refine zeq impl_step.tab1 impl_step.bits1 (fun HT_ HW_ => ?_)
       generalize w19.drew = w20 at HO0 HK HB HQ18 hx285_0 hx286_0 hHeld ⊢
       refine pure_ (i := 0) (N := some 23) (v := ?_) (a' := ?_) #[true, false, false, false, false, false, false, false, false, false, false, false, false, false, false] rfl rfl (any_of HT_.out (by kernel_rfl)) (fun _ _ _ h => h) (Or.inl ⟨by rfl, ?_⟩) ?_ ?_
       rotate_left
       ·intro w'
        go_simp
        with_reducible rfl
       rotate_left
       ·simp only [Act.put, zaa, zag, zah, i64_w, i32_w]
        rfl
       refine pure_ (i := 1) (N := some 24) (v := ?_) (a' := ?_) #[true, true, false, false, false, false, false, false, false, false, false, false, false, false, false] rfl rfl (any_of HT_.out (by kernel_rfl)) (fun _ _ _ h => h) (Or.inl ⟨by rfl, ?_⟩) ?_ ?_
       rotate_left
       ·intro w'
        go_simp
        with_reducible rfl
       rotate_left
       ·simp only [Act.put, zaa, zag, zah, i64_w, i32_w]
        rfl
       refine pure_ (i := 2) (N := some 25) (v := ?_) (a' := ?_) #[true, true, true, false, false, false, false, false, false, false, false, false, false, false, false] rfl rfl (any_of HT_.out (by kernel_rfl)) (fun _ _ _ h => h) (Or.inl ⟨by rfl, ?_⟩) ?_ ?_
       rotate_left
       ·intro w'
        go_simp
        with_reducible rfl
       rotate_left
       ·simp only [Act.put, zaa, zag, zah, i64_w, i32_w]
        rfl
       refine pure_ (i := 3) (N := some 26) (v := ?_) (a' := ?_) #[true, true, true, true, false, false, false, false, false, false, false, false, false, false, false] rfl rfl (any_of HT_.out (by kernel_rfl)) (fun _ _ _ h => h) (Or.inl ⟨by rfl, ?_⟩) ?_ ?_
       rotate_left
       ·intro w'
        go_simp
        with_reducible rfl
       rotate_left
       ·simp only [Act.put, zaa, zag, zah, i64_w, i32_w]
        rfl
       refine pure_ (i := 4) (N := some 27) (v := ?_) (a' := ?_) #[true, true, true, true, true, false, false, false, false, false, false, false, false, false, false] rfl rfl (any_of HT_.out (by kernel_rfl)) (fun _ _ _ h => h) (Or.inl ⟨by rfl, ?_⟩) ?_ ?_
       rotate_left
       ·intro w'
        go_simp
        with_reducible rfl
       rotate_left
       ·simp only [Act.put, zaa, zag, zah, i64_w, i32_w]
        rfl
       refine pure_ (i := 6) (N := some 29) (v := ?_) (a' := ?_) #[true, true, true, true, true, false, true, false, false, false, false, false, false, false, false] rfl rfl (any_of HT_.out (by kernel_rfl)) (fun _ _ _ h => h) (Or.inl ⟨by rfl, ?_⟩) ?_ ?_
       rotate_left
       ·intro w'
        go_simp
        with_reducible rfl
       rotate_left
       ·simp only [Act.put, zaa, zag, zah, i64_w, i32_w]
        rfl
       refine pure_ (i := 7) (N := some 30) (v := ?_) (a' := ?_) #[true, true, true, true, true, false, true, true, false, false, false, false, false, false, false] rfl rfl (any_of HT_.out (by kernel_rfl)) (fun _ _ _ h => h) (Or.inl ⟨by rfl, ?_⟩) ?_ ?_
       rotate_left
       ·intro w'
        go_simp
        with_reducible rfl
       rotate_left
       ·simp only [Act.put, zaa, zag, zah, i64_w, i32_w]
        rfl
       refine pure_ (i := 8) (N := some 31) (v := ?_) (a' := ?_) #[true, true, true, true, true, false, true, true, true, false, false, false, false, false, false] rfl rfl (any_of HT_.out (by kernel_rfl)) (fun _ _ _ h => h) (Or.inl ⟨by rfl, ?_⟩) ?_ ?_
       rotate_left
       ·intro w'
        go_simp
        with_reducible rfl
       rotate_left
       ·simp only [Act.put, zaa, zag, zah, i64_w, i32_w]
        rfl
       refine pure_ (i := 11) (N := some 34) (v := ?_) (a' := ?_) #[true, true, true, true, true, false, true, true, true, false, false, true, false, false, false] rfl rfl (any_of HT_.out (by kernel_rfl)) (fun _ _ _ h => h) (Or.inl ⟨by rfl, ?_⟩) ?_ ?_
       rotate_left
       ·intro w'
        go_simp
        with_reducible rfl
       rotate_left
       ·simp only [Act.put, zaa, zag, zah, i64_w, i32_w]
        rfl
       refine take_ (i := 5) (N := some 28) (v := ?_) (a' := ?_) #[true, true, true, true, true, true, true, true, true, false, false, true, false, false, false] rfl rfl (zdt HT_.out HW_.out (by kernel_rfl)) (fun _ _ _ h => h) (Or.inl ⟨by rfl, ?_⟩) hHeld ?_ ?_
       rotate_left
       ·rintro w' ⟨s0, s1⟩
        go_simp
        with_reducible rfl
       rotate_left
       ·simp only [Act.put, zaa, zag, zah, i64_w, i32_w]
        rfl
       refine take_ (i := 9) (N := some 32) (v := ?_) (a' := ?_) #[true, true, true, true, true, true, true, true, true, true, false, true, false, false, false] rfl rfl (zdt HT_.out HW_.out (by kernel_rfl)) (fun _ _ _ h => h) (Or.inl ⟨by rfl, ?_⟩) hHeld ?_ ?_
       rotate_left
       ·rintro w' ⟨s0, s1⟩
        go_simp
        with_reducible rfl
       rotate_left
       ·simp only [Act.put, zaa, zag, zah, i64_w, i32_w]
        rfl
       refine pure_ (i := 10) (N := some 33) (v := ?_) (a' := ?_) #[true, true, true, true, true, true, true, true, true, true, true, true, false, false, false] rfl rfl (any_of HT_.out (by kernel_rfl)) (fun _ _ _ h => h) (Or.inl ⟨by rfl, ?_⟩) ?_ ?_
       rotate_left
       ·intro w'
        go_simp
        with_reducible rfl
       rotate_left
       ·simp only [Act.put, zaa, zag, zah, i64_w, i32_w]
        rfl
       refine one_ (i := 12) (N := some 35) #[true, true, true, true, true, true, true, true, true, true, true, true, true, false, false] rfl rfl (one_of HT_.out (by kernel_rfl)) (by decide) (fun K hK => ?_)
       refine goes_ Try.func63 (by kernel_rfl) rfl #[.int .i64 (Go.bits .xor .i64 (rd y284 a3) (rd y284 a1)), .int .i64 a4] (by rfl) rfl rfl (by (try simp only [zal, zaq, zar]); first | done | rfl | (simp only [zbl, zbi]; rfl) | (simp only [zbl, zbi]; rw [zcm (zda.mpr (zdl (by assumption)))])) ?_
       with_reducible refine (impl_Turn.calls (Go.bits .xor .i64 (rd y284 a3) (rd y284 a1)) a4 t287 _ A14.out).mono ?_
       rintro e w' ⟨rfl, ⟨nd, rfl⟩⟩
       refine ⟨_, rfl, ?_⟩
       have p15 : 0 ≤ (a3 : Int) := zap (by first | (with_reducible assumption) | assumption)
       have q15 : (a3 : Int) < ((l0.length : Int) : Int) := zap (by first | (with_reducible assumption) | assumption)
       obtain ⟨hx15_0, hf15_0⟩ := zer 0 HO0.out (a3 : Int) p15 q15
       replace p15 := zbn p15
       replace q15 := zbn q15
       have HP21 := Kd.R_putn HO0.out (a3 : Int) t287
       rw [← Ny288.out] at HP21
       have HQ21 := Aside0.mk HP21
       clear HP21
       refine hK.out _ _ ⟨hHeld.1, hHeld.2⟩ (fun hHeld => ?_)
       clear hK K
       refine norm_ (a' := ?_) ?_ ?_
       rotate_left
       ·show Act.put _ (some 35) _ = _
        simp only [Act.put, zaa, zag, zah, i64_w, i32_w]
        rfl
       refine pure_ (i := 13) (N := some 36) (v := ?_) (a' := ?_) #[true, true, true, true, true, true, true, true, true, true, true, true, true, true, false] rfl rfl (any_of HT_.out (by kernel_rfl)) (fun _ _ _ h => h) (Or.inl ⟨by rfl, ?_⟩) ?_ ?_
       rotate_left
       ·intro w'
        go_simp
        with_reducible rfl
       rotate_left
       ·simp only [Act.put, zaa, zag, zah, i64_w, i32_w]
        rfl
       refine last_ (i := 14) (N := none) #[true, true, true, true, true, true, true, true, true, true, true, true, true, true, true] rfl rfl (one_of HT_.out (by kernel_rfl)) (by decide) (fun K hK => ?_)
       refine skip_ (w1 := ?_) (by rfl) rfl ?_ ?_
       rotate_left
       ·go_simp
        rfl
       refine hK.out _ _ ?_
       clear hK K
       refine done_ (done_of HT_.out (by kernel_rfl)) ?_
       try go_wp2
       first | go_end0 | ((try simp only [Exit.inBlock, Exit.then]); refine bodyPost_ret (results_none rfl _ _ _) rfl ?_)
       exact ⟨by first | rfl | (simp [zbj, zbk] <;> rfl) | (simp [*, zbj, zbk] <;> rfl), by (with_reducible repeat (first | apply zab | apply zac | apply zae)); exact HQ21.out, by repeat (first | (with_reducible first | exact HB.out | apply zaj | apply zad | apply zai | refine zbs ?_ GB11.out) | exact HB.out), by repeat (first | (with_reducible first | exact HK.out | apply Kept.alloc | apply Kept.drewN | apply Kept.drew | refine Kept.setCell ?_ HMgo11.out _) | exact HK.out)⟩
      ·rw [if_neg c13] at H
       exact absurd H (by simp)
     ·rw [if_neg c12] at H
      exact absurd H (by simp)
    ·rw [if_neg c9] at H
     exact absurd H (by simp)
   ·rw [if_neg c8] at H
    exact absurd H (by simp)
  ·rw [if_neg c7] at H
   exact absurd H (by simp)
 ·rw [if_neg c6] at H
  exact absurd H (by simp)
end Go.Proofs.Ytdineaebljpfaaa.P
