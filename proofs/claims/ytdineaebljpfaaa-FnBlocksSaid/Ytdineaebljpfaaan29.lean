import Derived.Test.Ytdineaebljpfaaan5
namespace Go.Proofs.Ytdineaebljpfaaa.P
open Go.RowKit Go.Proofs.YtdineaebljpfaaaW.PrintWords Go.Proofs.YtdineaebljpfaaaW.PrintLast Go.Proofs.YtdineaebljpfaaaW.PrintMore
attribute [local go_sem] zcu zcv zdf zdg zci zcj zcw zcx   -- for this text's walks alone
set_option linter.unusedVariables false
set_option linter.unusedSimpArgs false

def spec_Xor.l0 : Nat → List Int → List Int → List Int → Int → Option (List Int)
 | 0, _, _, _, _ => none
 | k + 1, x0, x1, x5, x6 => if x6 < (x0.length : Int) then (if x6 < (x1.length : Int) then (if 0 ≤ x6 then (if x5.length < 140737488355328 then (spec_Xor.l0 k x0 x1 (x5 ++ [Go.bits .xor .u8 (rd x0 x6) (rd x1 x6)]) (wrap64 (x6 + 1))) else (none)) else (none)) else (some x5)) else (some x5)
def spec_Xor.f (k : Nat) (l0 : List Int) (l1 : List Int) : Option (List Int) := spec_Xor.l0 k l0 l1 (([] : List Int)) 0
theorem spec_Xor.mono_l : ∀ k, (∀ y0 y1 y2 y3, LeO (spec_Xor.l0 k y0 y1 y2 y3) (spec_Xor.l0 (k + 1) y0 y1 y2 y3))
 | 0 => fun _ _ _ _ r h => by simp [spec_Xor.l0] at h
 | k + 1 => by
  have ih0 := spec_Xor.mono_l k
  ·intro y0 y1 y2 y3
   unfold spec_Xor.l0
   repeat' first
   | (with_reducible exact ih0 _ _ _ _)
   | (with_reducible exact zcc _)
   | (with_reducible exact zcg _)
   | (with_reducible refine zcr ?_ ?_)
   | (with_reducible refine zcd ?_ (fun _ => ?_))
   | exact ih0 _ _ _ _
theorem spec_Xor.mono : ∀ a0 a1 k, LeO (spec_Xor.f k a0 a1) (spec_Xor.f (k + 1) a0 a1) := by
 intro a0 a1 k
 have ih0 := spec_Xor.mono_l k
 unfold spec_Xor.f
 repeat' first
   | (with_reducible exact ih0 _ _ _ _)
   | (with_reducible exact zcc _)
   | (with_reducible exact zcg _)
   | (with_reducible refine zcr ?_ ?_)
   | (with_reducible refine zcd ?_ (fun _ => ?_))
   | exact ih0 _ _ _ _
def spec_Xor.T5 : Bool × List (List Nat × List Nat) := (true, [([], []), ([], []), ([], []), ([1, 2], [1, 2]), ([3], [3]), ([], []), ([], []), ([5, 6], [5, 6]), ([7], [7]), ([4, 8], [4, 8]), ([9], [9]), ([0, 10], [0, 10]), ([11, 11, 0, 1, 2, 3, 4, 5, 6, 7, 8, 9, 10, 11], [0, 11])])
def spec_Xor.B5 : List Nat := [0, 0, 0, 6, 14, 0, 0, 96, 224, 510, 1022, 2047, 4095]
theorem spec_Xor.tab5 : rtab .any (opsOf Try.f51 5) = spec_Xor.T5 := by kernel_rfl
theorem spec_Xor.bits5 : waitsOk spec_Xor.T5.2 spec_Xor.B5 = true := by kernel_rfl
set_option maxHeartbeats 8000000 in
set_option maxRecDepth 100000 in
theorem spec_Xor.calls (k : Nat) (A0 : Option Addr) (c0 : Nat) (l0 : List Int) (A1 : Option Addr) (c1 : Nat) (l1 : List Int) (r : List Int) (w : World) (hr0 : Kd.C (Kd.int .u8) w A0 l0.length l0) (hc0 : l0.length ≤ c0) (hr1 : Kd.C (Kd.int .u8) w A1 l1.length l1) (hc1 : l1.length ≤ c1) (h : spec_Xor.f k l0 l1 = some r) :
  Calls Try.prog 51 #[.slice A0 l0.length c0, .slice A1 l1.length c1] w fun e w' => ∃ v0_ : Value, e = .returned (v0_) ∧ Kd.R (Kd.int .u8) 5 w' w.heap.size (fun _ => True) v0_ r ∧ Below w.heap.size w w' := by
 have HR0 := Aside0.mk hr0
 have HC0 := Aside0.mk hc0
 clear hr0 hc0
 have HR1 := Aside0.mk hr1
 have HC1 := Aside0.mk hc1
 clear hr1 hc1
 have HB := Aside0.mk (zbx w.heap.size w)
 have H : (spec_Xor.l0 k l0 l1 (([] : List Int)) 0) = some r := h
 clear h
 obtain ⟨y524, hy524⟩ : ∃ y_ : List Int, y_ = (([] : List Int)) := ⟨_, rfl⟩
 replace H : (spec_Xor.l0 k l0 l1 y524 0) = some r := by first | (rw [hy524]; with_reducible first | exact H | exact bind_ofs H) | (with_reducible first | exact H | exact bind_ofs H) | (rw [hy524]; exact H) | exact H
 have Ny524 := Aside0.mk hy524
 clear hy524
 have H' := Aside0.mk H
 clear H
 go_enter Try.func51, Try.ntmps51
 go_wp2_with (first | ((with_reducible refine zds (N := 7) rfl ?_); (try (refine gate_guard (by rfl) ?_; dsimp only)); refine zec (Kd.int .u8) _ 5 ?hg (N := 7) ?hd (xs := ([] : List Int)) (inner := []) (ok := fun _ => True) (okp := fun _ => True) ?hr ?hp (fun _ hk => hk) trivial (zbx _ _) (zbp _) (by simp) ?_; (case hd => rfl); (case hg => rfl); (case hr => first | (go_simp; done) | (go_simp; rfl)); (case hp => exact (zdp _ _)); intro v525 w3 ho4 hb hg_ hnew_; have xb_ := below_ofs (by repeat (first | (with_reducible first | exact HB.out | apply zaj | apply zad | apply zai) | exact HB.out)) hb; clear hg_ hnew_; (first | rw [← Ny524.out] at ho4 | (simp only [Int.reduceToNat] at ho4; rw [← Ny524.out] at ho4)); have n0_ := Aside0.mk (zbc ho4 (zba xb_)); have n1_ := Aside0.mk (zbb xb_ hb); clear HB; have HO526 := n0_; have HB := n1_; clear n0_ n1_; clear xb_ hb ho4))
 go_loopg [5, 6] k (fun kq v5 v6 w' => ∃ (x5_1 : List Int) (x6_1 : Int), v6 = .int .i64 x6_1 ∧ Aside0 (spec_Xor.l0 kq l0 l1 x5_1 x6_1 = some r) ∧ Aside0 (kq ≤ k) ∧ Aside0 (Kd.R (Kd.int .u8) 5 w' w.heap.size (fun _ => True) v5 x5_1) ∧ Aside0 (Below w.heap.size w w'))
 case atStart => exact ⟨(y524), (0), (by first | rfl | (simp; done) | (simp [*]; done)), H', ⟨zbp _⟩, ⟨by (with_reducible repeat (first | apply zab | apply zac | apply zae)); exact HO526.out⟩, ⟨by repeat (first | (with_reducible first | exact HB.out | apply zaj | apply zad | apply zai) | exact HB.out)⟩⟩
 case round =>
  clear H'
  try clear c1
  try clear p2
  obtain ⟨x5_1, x6_1, rfl, HA, HK1, HO_5, HB⟩ := hrel
  cases gk with
  | zero => exact absurd HA.out (by simp [spec_Xor.l0])
  | succ k1 =>
   have H := HA.out
   clear HA
   simp only [spec_Xor.l0] at H
   by_cases c5 : x6_1 < (l0.length : Int)
   ·rw [if_pos c5] at H
    have c5b0 : decide (x6_1 < (l0.length : Int)) = true := zax c5
    clear c5
    by_cases c6 : x6_1 < (l1.length : Int)
    ·rw [if_pos c6] at H
     have c6b0 : decide (x6_1 < (l1.length : Int)) = true := zax c6
     clear c6
     by_cases c7 : 0 ≤ x6_1
     ·rw [if_pos c7] at H
      have c7b0 : decide (0 ≤ x6_1) = true := zax c7
      clear c7
      by_cases c8 : x5_1.length < 140737488355328
      ·rw [if_pos c8] at H
       have LMc8 := Aside0.mk c8
       clear c8
       obtain ⟨y529, hy529⟩ : ∃ y_ : List Int, y_ = (x5_1 ++ [Go.bits .xor .u8 (rd l0 x6_1) (rd l1 x6_1)]) := ⟨_, rfl⟩
       replace H : (spec_Xor.l0 k1 l0 l1 y529 (wrap64 (x6_1 + 1))) = some r := by first | (rw [hy529]; with_reducible first | exact H | exact bind_ofs H) | (with_reducible first | exact H | exact bind_ofs H) | (rw [hy529]; exact H) | exact H
       have Ny529 := Aside0.mk hy529
       clear hy529
       have H' := Aside0.mk H
       clear H
       try go_wp2
       have n0_ := Aside0.mk (zae HO_5.out)
       have n1_ := Aside0.mk (zai HB.out)
       clear HO_5
       clear HB
       have HO_5 := n0_
       have HB := n1_
       clear n0_ n1_
       have p527 : 0 ≤ (x6_1 : Int) := zap (by first | (with_reducible assumption) | assumption)
       have q527 : x6_1 < (l0.length : Int) := zap (by first | (with_reducible assumption) | assumption)
       obtain ⟨ad527, e527, hx527_0⟩ := zca HR0.out x6_1 p527 q527
       have hw527_0 := hx527_0
       cases e527
       replace hx527_0 := (HB.out.cell (World.block_lt_of_cell? w _ hx527_0)).trans hx527_0
       replace p527 := zbn p527
       replace q527 := zbn q527
       have p528 : 0 ≤ (x6_1 : Int) := zap (by first | (with_reducible assumption) | assumption)
       have q528 : x6_1 < (l1.length : Int) := zap (by first | (with_reducible assumption) | assumption)
       obtain ⟨ad528, e528, hx528_0⟩ := zca HR1.out x6_1 p528 q528
       have hw528_0 := hx528_0
       cases e528
       replace hx528_0 := (HB.out.cell (World.block_lt_of_cell? w _ hx528_0)).trans hx528_0
       replace p528 := zbn p528
       replace q528 := zbn q528
       refine start_ (n := 13) (S := fun w' => w'.cell? (ad527.add (x6_1).toNat) = some (.int .u8 (rd l0 x6_1)) ∧ w'.cell? (ad528.add (x6_1).toNat) = some (.int .u8 (rd l1 x6_1))) (ds := []) #[false, false, false, false, false, false, false, false, false, false, false, false, false] (by kernel_rfl) rfl rfl ⟨((HB.out.cell (World.block_lt_of_cell? w _ hw527_0)).trans hw527_0), ((HB.out.cell (World.block_lt_of_cell? w _ hw528_0)).trans hw528_0)⟩ (fun hHeld => ?_); refine zeq spec_Xor.tab5 spec_Xor.bits5 (fun HT_ HW_ => ?_)
       generalize wr.drew = w9 at HO_5 HB hx527_0 hx528_0 hHeld ⊢
       refine pure_ (i := 0) (N := some 20) (v := ?_) (a' := ?_) #[true, false, false, false, false, false, false, false, false, false, false, false, false] rfl rfl (any_of HT_.out (by kernel_rfl)) (fun _ _ _ h => h) (Or.inl ⟨by rfl, ?_⟩) ?_ ?_
       rotate_left
       ·intro w'
        go_simp
        with_reducible rfl
       rotate_left
       ·simp only [Act.put, zaa, zag, zah, i64_w, i32_w]
        rfl
       refine pure_ (i := 1) (N := some 21) (v := ?_) (a' := ?_) #[true, true, false, false, false, false, false, false, false, false, false, false, false] rfl rfl (any_of HT_.out (by kernel_rfl)) (fun _ _ _ h => h) (Or.inl ⟨by rfl, ?_⟩) ?_ ?_
       rotate_left
       ·intro w'
        go_simp
        with_reducible rfl
       rotate_left
       ·simp only [Act.put, zaa, zag, zah, i64_w, i32_w]
        rfl
       refine pure_ (i := 2) (N := some 22) (v := ?_) (a' := ?_) #[true, true, true, false, false, false, false, false, false, false, false, false, false] rfl rfl (any_of HT_.out (by kernel_rfl)) (fun _ _ _ h => h) (Or.inl ⟨by rfl, ?_⟩) ?_ ?_
       rotate_left
       ·intro w'
        go_simp
        with_reducible rfl
       rotate_left
       ·simp only [Act.put, zaa, zag, zah, i64_w, i32_w]
        rfl
       refine pure_ (i := 3) (N := some 23) (v := ?_) (a' := ?_) #[true, true, true, true, false, false, false, false, false, false, false, false, false] rfl rfl (any_of HT_.out (by kernel_rfl)) (fun _ _ _ h => h) (Or.inl ⟨by rfl, ?_⟩) ?_ ?_
       rotate_left
       ·intro w'
        go_simp
        with_reducible rfl
       rotate_left
       ·simp only [Act.put, zaa, zag, zah, i64_w, i32_w]
        rfl
       refine pure_ (i := 5) (N := some 25) (v := ?_) (a' := ?_) #[true, true, true, true, false, true, false, false, false, false, false, false, false] rfl rfl (any_of HT_.out (by kernel_rfl)) (fun _ _ _ h => h) (Or.inl ⟨by rfl, ?_⟩) ?_ ?_
       rotate_left
       ·intro w'
        go_simp
        with_reducible rfl
       rotate_left
       ·simp only [Act.put, zaa, zag, zah, i64_w, i32_w]
        rfl
       refine pure_ (i := 6) (N := some 26) (v := ?_) (a' := ?_) #[true, true, true, true, false, true, true, false, false, false, false, false, false] rfl rfl (any_of HT_.out (by kernel_rfl)) (fun _ _ _ h => h) (Or.inl ⟨by rfl, ?_⟩) ?_ ?_
       rotate_left
       ·intro w'
        go_simp
        with_reducible rfl
       rotate_left
       ·simp only [Act.put, zaa, zag, zah, i64_w, i32_w]
        rfl
       refine pure_ (i := 7) (N := some 27) (v := ?_) (a' := ?_) #[true, true, true, true, false, true, true, true, false, false, false, false, false] rfl rfl (any_of HT_.out (by kernel_rfl)) (fun _ _ _ h => h) (Or.inl ⟨by rfl, ?_⟩) ?_ ?_
       rotate_left
       ·intro w'
        go_simp
        with_reducible rfl
       rotate_left
       ·simp only [Act.put, zaa, zag, zah, i64_w, i32_w]
        rfl
       refine take_ (i := 4) (N := some 24) (v := ?_) (a' := ?_) #[true, true, true, true, true, true, true, true, false, false, false, false, false] rfl rfl (zdt HT_.out HW_.out (by kernel_rfl)) (fun _ _ _ h => h) (Or.inl ⟨by rfl, ?_⟩) hHeld ?_ ?_
       rotate_left
       ·rintro w' ⟨s0, s1⟩
        go_simp
        with_reducible rfl
       rotate_left
       ·simp only [Act.put, zaa, zag, zah, i64_w, i32_w]
        rfl
       refine take_ (i := 8) (N := some 28) (v := ?_) (a' := ?_) #[true, true, true, true, true, true, true, true, true, false, false, false, false] rfl rfl (zdt HT_.out HW_.out (by kernel_rfl)) (fun _ _ _ h => h) (Or.inl ⟨by rfl, ?_⟩) hHeld ?_ ?_
       rotate_left
       ·rintro w' ⟨s0, s1⟩
        go_simp
        with_reducible rfl
       rotate_left
       ·simp only [Act.put, zaa, zag, zah, i64_w, i32_w]
        rfl
       refine pure_ (i := 9) (N := some 29) (v := ?_) (a' := ?_) #[true, true, true, true, true, true, true, true, true, true, false, false, false] rfl rfl (any_of HT_.out (by kernel_rfl)) (fun _ _ _ h => h) (Or.inl ⟨by rfl, ?_⟩) ?_ ?_
       rotate_left
       ·intro w'
        go_simp
        with_reducible rfl
       rotate_left
       ·simp only [Act.put, zaa, zag, zah, i64_w, i32_w]
        rfl
       refine one_ (i := 10) (N := some 30) #[true, true, true, true, true, true, true, true, true, true, true, false, false] rfl rfl (one_of HT_.out (by kernel_rfl)) (by decide) (fun K hK => ?_)
       refine value_ (w1 := ?_) (v := ?_) (by rfl) rfl ?_ ?_
       rotate_left 2
       ·go_simp
        constructor
        ·rfl
        ·rfl
       refine hK.out _ _ ⟨(World.cell?_alloc_lt _ _ _ (World.block_lt_of_cell? _ _ (((HB.out.cell (World.block_lt_of_cell? w _ hw527_0)).trans hw527_0)))).trans (((HB.out.cell (World.block_lt_of_cell? w _ hw527_0)).trans hw527_0)), (World.cell?_alloc_lt _ _ _ (World.block_lt_of_cell? _ _ (((HB.out.cell (World.block_lt_of_cell? w _ hw528_0)).trans hw528_0)))).trans (((HB.out.cell (World.block_lt_of_cell? w _ hw528_0)).trans hw528_0))⟩ (fun hHeld => ?_)
       clear hK K
       refine norm_ (a' := ?_) ?_ ?_
       rotate_left
       ·show Act.put _ (some 30) _ = _
        simp only [Act.put, zaa, zag, zah, i64_w, i32_w]
        rfl
       refine one_ (i := 11) (N := some 31) #[true, true, true, true, true, true, true, true, true, true, true, true, false] rfl rfl (one_of HT_.out (by kernel_rfl)) (by decide) (fun K hK => ?_)
       refine Kd.R_append_step (Kd.int .u8) (w0 := w) w.heap.size (by rfl) (.tmp 20) (.tmp 30) 22 5 (.int .u8 0) 1 rfl Try.underlying22 info5 rfl (by decide) (by omega) u5 x5_1 (Go.bits .xor .u8 (rd l0 x6_1) (rd l1 x6_1)) [.int .u8 (Go.bits .xor .u8 (rd l0 x6_1) (rd l1 x6_1))] (fun _ => True) (fun _ => False) rfl rfl ?aP (fun _ hk => hk.elim) ?aF ?aO ?aB ?aS ?aL ?_
       (case aP => exact rfl)
       (case aB => exact (by repeat (first | (with_reducible first | exact HB.out | apply zaj | apply zad | apply zai) | exact HB.out)))
       (case aF => exact (fun _ _ => trivial))
       (case aO => exact (by (with_reducible repeat (first | apply zab | apply zac | apply zae)); exact HO_5.out))
       (case aS => exact (zba (by repeat (first | (with_reducible first | exact HB.out | apply zaj | apply zad | apply zai) | exact HB.out))))
       (case aL => have := LMc8.out; omega)
       intro v530 w10 ho hb hg hat
       rw [← Ny529.out] at ho
       have n0_ := Aside0.mk (hb)
       have n1_ := Aside0.mk (ho)
       clear HB
       clear HO_5
       have HB := n0_
       have HO531 := n1_
       clear n0_ n1_
       clear ho hb hg hat
       refine hK.out _ _ ⟨((HB.out.cell (World.block_lt_of_cell? w _ hw527_0)).trans hw527_0), ((HB.out.cell (World.block_lt_of_cell? w _ hw528_0)).trans hw528_0)⟩ (fun hHeld => ?_)
       clear hK K
       refine norm_ (a' := ?_) ?_ ?_
       rotate_left
       ·show Act.put _ (some 31) _ = _
        simp only [Act.put, zaa, zag, zah, i64_w, i32_w]
        rfl
       refine pure_ (i := 12) (N := some 5) (v := ?_) (a' := ?_) #[true, true, true, true, true, true, true, true, true, true, true, true, true] rfl rfl (any_of HT_.out (by kernel_rfl)) (fun _ _ _ h => h) (Or.inl ⟨by rfl, ?_⟩) ?_ ?_
       rotate_left
       ·intro w'
        go_simp
        with_reducible rfl
       rotate_left
       ·simp only [Act.put, zaa, zag, zah, i64_w, i32_w]
        rfl
       refine done_ (done_of HT_.out (by kernel_rfl)) ?_
       try go_wp2
       go_roundg k1
       case measure => have := HK1.out; omega
       case rel => exact ⟨(y529), (wrap64 (x6_1 + 1)), (by first | rfl | (simp; done) | (simp [*]; done)), H', ⟨by have := HK1.out; omega⟩, ⟨by (with_reducible repeat (first | apply zab | apply zac | apply zae)); exact HO531.out⟩, ⟨by repeat (first | (with_reducible first | exact HB.out | apply zaj | apply zad | apply zai) | exact HB.out)⟩⟩
      ·rw [if_neg c8] at H
       exact absurd H (by simp)
     ·rw [if_neg c7] at H
      exact absurd H (by simp)
    ·rw [if_neg c6] at H
     have c6b0 : decide (x6_1 < (l1.length : Int)) = false := zbq c6
     clear c6
     obtain rfl := Option.some.inj H
     go_wp2
     go_ret
     exact ⟨_, by first | rfl | (simp [zbj, zbk] <;> rfl) | (simp [*, zbj, zbk] <;> rfl), by (with_reducible repeat (first | apply zab | apply zac | apply zae)); exact HO_5.out, by repeat (first | (with_reducible first | exact HB.out | apply zaj | apply zad | apply zai) | exact HB.out)⟩
   ·rw [if_neg c5] at H
    have c5b0 : decide (x6_1 < (l0.length : Int)) = false := zbq c5
    clear c5
    obtain rfl := Option.some.inj H
    go_wp2
    go_ret
    exact ⟨_, by first | rfl | (simp [zbj, zbk] <;> rfl) | (simp [*, zbj, zbk] <;> rfl), by (with_reducible repeat (first | apply zab | apply zac | apply zae)); exact HO_5.out, by repeat (first | (with_reducible first | exact HB.out | apply zaj | apply zad | apply zai) | exact HB.out)⟩
end Go.Proofs.Ytdineaebljpfaaa.P
