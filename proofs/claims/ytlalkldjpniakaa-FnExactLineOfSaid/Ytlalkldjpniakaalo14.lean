import Derived.Test.Ytlalkldjpniakaalo13
namespace Go.Proofs.Ytlalkldjpniakaa.P
open Go.RowKit Go.Proofs.YtlalkldjpniakaaW.PrintWords Go.Proofs.YtlalkldjpniakaaW.PrintLast Go.Proofs.YtlalkldjpniakaaW.PrintMore
attribute [local go_sem] zdk zdl zeh zei zcz zda zdm zdn   -- for this text's walks alone
set_option linter.unusedVariables false
set_option linter.unusedSimpArgs false

def spec_Unhex.l0 : Nat → ByteArray → List Int → Int → Option (List Int × Bool)
 | 0, _, _, _ => none
 | k + 1, x0, x4, x5 => if (wrap64 (x5 + 1)) < (x0.size : Int) then (if 0 ≤ x5 then (if x5 < (x0.size : Int) then ((spec_l1Sign.f k (bt x0 x5)).bind fun t158 => (if 0 ≤ (wrap64 (x5 + 1)) then ((spec_l1Sign.f k (bt x0 (wrap64 (x5 + 1)))).bind fun t159 => (if t158 < 0 then (some ((([] : List Int)), false)) else (if t159 < 0 then (some ((([] : List Int)), false)) else (if x4.length < 140737488355328 then (spec_Unhex.l0 k x0 (x4 ++ [(wrap64 ((wrap64 (16 * t158)) + t159)) % 256]) (wrap64 (x5 + 2))) else (none))))) else (none))) else (none)) else (none)) else (if ((x0.size : Int) % 2) = 0 then (some (x4, true)) else (some ((([] : List Int)), false)))
def spec_Unhex.f (k : Nat) (a0 : ByteArray) : Option (List Int × Bool) := spec_Unhex.l0 k a0 (([] : List Int)) 0
theorem spec_Unhex.mono_l : ∀ k, (∀ y0 y1 y2, LeO (spec_Unhex.l0 k y0 y1 y2) (spec_Unhex.l0 (k + 1) y0 y1 y2))
 | 0 => fun _ _ _ r h => by simp [spec_Unhex.l0] at h
 | k + 1 => by
  have ih0 := spec_Unhex.mono_l k
  ·intro y0 y1 y2
   unfold spec_Unhex.l0
   repeat' first
   | (with_reducible exact ih0 _ _ _)
   | (with_reducible exact spec_l1Sign.mono _ _)
   | (with_reducible exact zdd _)
   | (with_reducible exact zde _)
   | (with_reducible refine zdx ?_ ?_)
   | (with_reducible refine zdf ?_ (fun _ => ?_))
   | exact ih0 _ _ _
theorem spec_Unhex.mono : ∀ a0 k, LeO (spec_Unhex.f k a0) (spec_Unhex.f (k + 1) a0) := by
 intro a0 k
 have ih0 := spec_Unhex.mono_l k
 unfold spec_Unhex.f
 repeat' first
   | (with_reducible exact ih0 _ _ _)
   | (with_reducible exact spec_l1Sign.mono _ _)
   | (with_reducible exact zdd _)
   | (with_reducible exact zde _)
   | (with_reducible refine zdx ?_ ?_)
   | (with_reducible refine zdf ?_ (fun _ => ?_))
   | exact ih0 _ _ _
set_option maxHeartbeats 8000000 in
set_option maxRecDepth 100000 in
theorem spec_Unhex.calls (k : Nat) (a0 : ByteArray) (r1 : List Int) (r2 : Bool) (w : World) (h : spec_Unhex.f k a0 = some (r1, r2)) :
  Calls Try.prog 106 #[.string a0] w fun e w' => ∃ v0_ : Value, e = .returned (.tuple #[v0_, .bool r2]) ∧ Kd.R (Kd.int .u8) 5 w' w.heap.size (fun _ => True) v0_ r1 ∧ Below w.heap.size w w' := by
 have HB := Aside0.mk (zbz w.heap.size w)
 have H : (spec_Unhex.l0 k a0 (([] : List Int)) 0) = some (r1, r2) := h
 clear h
 obtain ⟨y152, hy152⟩ : ∃ y_ : List Int, y_ = (([] : List Int)) := ⟨_, rfl⟩
 replace H : (spec_Unhex.l0 k a0 y152 0) = some (r1, r2) := by first | (rw [hy152]; with_reducible first | exact H | exact bind_ofs H) | (with_reducible first | exact H | exact bind_ofs H) | (rw [hy152]; exact H) | exact H
 have Ny152 := Aside0.mk hy152
 clear hy152
 have H' := Aside0.mk H
 clear H
 go_enter Try.func106, Try.ntmps106
 go_wp2_with (first | ((with_reducible refine zbu (N := 8) rfl ?_); refine zfl (Kd.int .u8) _ 5 ?hg (N := 8) ?hd (xs := ([] : List Int)) (inner := []) (ok := fun _ => True) (okp := fun _ => True) ?hr ?hp (fun _ hk => hk) trivial (zbz _ _) (zak _) (by simp) ?_; (case hd => rfl); (case hg => rfl); (case hr => first | (go_simp; done) | (go_simp; rfl)); (case hp => exact (zej _ _)); intro v153 w2 ho3 hb hg_ hnew_; have xb_ := below_ofs (by repeat (first | (with_reducible first | exact HB.out | apply zad | apply zaa | apply zac) | exact HB.out)) hb; clear hg_ hnew_; (first | rw [← Ny152.out] at ho3 | (simp only [Int.reduceToNat] at ho3; rw [← Ny152.out] at ho3)); have n0_ := Aside0.mk (zca ho3 (zan xb_)); have n1_ := Aside0.mk (zat xb_ hb); clear HB; have HO154 := n0_; have HB := n1_; clear n0_ n1_; clear xb_ hb ho3))
 repeat (go_quiet (first | ((with_reducible refine zbu (N := 8) rfl ?_); refine zfl (Kd.int .u8) _ 5 ?hg (N := 8) ?hd (xs := ([] : List Int)) (inner := []) (ok := fun _ => True) (okp := fun _ => True) ?hr ?hp (fun _ hk => hk) trivial (zbz _ _) (zak _) (by simp) ?_; (case hd => rfl); (case hg => rfl); (case hr => first | (go_simp; done) | (go_simp; rfl)); (case hp => exact (zej _ _)); intro v153 w2 ho3 hb hg_ hnew_; clear hg_ hnew_; (first | rw [← Ny152.out] at ho3 | (simp only [Int.reduceToNat] at ho3; rw [← Ny152.out] at ho3)); have n0_ := Aside0.mk (zca ho3 (zan (by repeat (first | (with_reducible first | exact HB.out | apply zad | apply zaa | apply zac) | exact HB.out)))); have n1_ := Aside0.mk (zat (by repeat (first | (with_reducible first | exact HB.out | apply zad | apply zaa | apply zac) | exact HB.out)) hb); clear HB; have HO154 := n0_; have HB := n1_; clear n0_ n1_; clear hb ho3)); try go_wp2_with (first | ((with_reducible refine zbu (N := 8) rfl ?_); refine zfl (Kd.int .u8) _ 5 ?hg (N := 8) ?hd (xs := ([] : List Int)) (inner := []) (ok := fun _ => True) (okp := fun _ => True) ?hr ?hp (fun _ hk => hk) trivial (zbz _ _) (zak _) (by simp) ?_; (case hd => rfl); (case hg => rfl); (case hr => first | (go_simp; done) | (go_simp; rfl)); (case hp => exact (zej _ _)); intro v153 w2 ho3 hb hg_ hnew_; clear hg_ hnew_; (first | rw [← Ny152.out] at ho3 | (simp only [Int.reduceToNat] at ho3; rw [← Ny152.out] at ho3)); have n0_ := Aside0.mk (zca ho3 (zan (by repeat (first | (with_reducible first | exact HB.out | apply zad | apply zaa | apply zac) | exact HB.out)))); have n1_ := Aside0.mk (zat (by repeat (first | (with_reducible first | exact HB.out | apply zad | apply zaa | apply zac) | exact HB.out)) hb); clear HB; have HO154 := n0_; have HB := n1_; clear n0_ n1_; clear hb ho3)))
 go_loopg [4, 5] k (fun kq v4 v5 w' => ∃ (x4_1 : List Int) (x5_1 : Int), v5 = .int .i64 x5_1 ∧ Aside0 (spec_Unhex.l0 kq a0 x4_1 x5_1 = some (r1, r2)) ∧ Aside0 (kq ≤ k) ∧ Aside0 (Kd.R (Kd.int .u8) 5 w' w.heap.size (fun _ => True) v4 x4_1) ∧ Aside0 (Below w.heap.size w w'))
 case atStart => exact ⟨(y152), (0), (by first | rfl | (simp; done) | (simp [*]; done)), H', ⟨zak _⟩, ⟨by (with_reducible repeat (first | apply zai | apply zaj | apply zam)); exact HO154.out⟩, ⟨by repeat (first | (with_reducible first | exact HB.out | apply zad | apply zaa | apply zac) | exact HB.out)⟩⟩
 case round =>
  clear H'
  try clear c1
  try clear p2
  obtain ⟨x4_1, x5_1, rfl, HA, HK1, HO_4, HB⟩ := hrel
  cases gk with
  | zero => exact absurd HA.out (by simp [spec_Unhex.l0])
  | succ k1 =>
   have H := HA.out
   clear HA
   simp only [spec_Unhex.l0] at H
   by_cases c4 : (wrap64 (x5_1 + 1)) < (a0.size : Int)
   ·rw [if_pos c4] at H
    have c4b0 : decide ((wrap64 (x5_1 + 1)) < (a0.size : Int)) = true := zay c4
    clear c4
    by_cases c5 : 0 ≤ x5_1
    ·rw [if_pos c5] at H
     have c5b0 : decide (0 ≤ x5_1) = true := zay c5
     clear c5
     by_cases c6 : x5_1 < (a0.size : Int)
     ·rw [if_pos c6] at H
      have c6b0 : decide (x5_1 < (a0.size : Int)) = true := zay c6
      clear c6
      replace H := zaq.mp H
      obtain ⟨t158, A80, H⟩ := H
      try dsimp only at H
      have A8 := Aside0.mk A80
      clear A80
      obtain ⟨ji9, hji9⟩ : ∃ j_ : Int, (wrap64 (x5_1 + 1)) = j_ := ⟨_, rfl⟩
      replace H : (if 0 ≤ (ji9) then ((spec_l1Sign.f k1 (bt a0 (ji9))).bind fun t159 => (if t158 < 0 then (some ((([] : List Int)), false)) else (if t159 < 0 then (some ((([] : List Int)), false)) else (if x4_1.length < 140737488355328 then (spec_Unhex.l0 k1 a0 (x4_1 ++ [(wrap64 ((wrap64 (16 * t158)) + t159)) % 256]) (wrap64 (x5_1 + 2))) else (none))))) else (none)) = some (r1, r2) := by first | (rw [hji9] at H; exact H) | (simp only [hji9] at H ⊢; exact H)
      (try rw [hji9] at c4b0)
      (try rw [hji9] at A8)
      have hji9w : (IntKind.i64.wrap (x5_1 + 1)) = ji9 := (i64_w _).trans hji9
      by_cases c10 : 0 ≤ (ji9)
      ·rw [if_pos c10] at H
       have c10b0 : decide (0 ≤ (ji9)) = true := zay c10
       clear c10
       replace H := zaq.mp H
       obtain ⟨t159, A120, H⟩ := H
       try dsimp only at H
       have A12 := Aside0.mk A120
       clear A120
       by_cases c13 : t158 < 0
       ·rw [if_pos c13] at H
        have c13b0 : decide (t158 < 0) = true := zay c13
        clear c13
        obtain ⟨y160, hy160⟩ : ∃ y_ : List Int, y_ = (([] : List Int)) := ⟨_, rfl⟩
        replace H : (some (y160, false)) = some (r1, r2) := by first | (rw [hy160]; with_reducible first | exact H | exact bind_ofs H) | (with_reducible first | exact H | exact bind_ofs H) | (rw [hy160]; exact H) | exact H
        have Ny160 := Aside0.mk hy160
        clear hy160
        simp only [zdg, zen] at H
        obtain ⟨rfl, rfl⟩ := H
        have p7 : 0 ≤ (x5_1 : Int) := zap (by first | (with_reducible assumption) | assumption)
        have q7 : x5_1 < (a0.size : Int) := zap (by first | (with_reducible assumption) | assumption)
        have hx7 := bt_at a0 x5_1
        replace p7 := zbs p7
        replace q7 := zbs q7
        go_wp2_with (first | (go_at_call 135; (with_reducible refine (spec_l1Sign.calls k1 (bt a0 x5_1) t158 _ A8.out).mono ?_); rintro e w' ⟨rfl, ⟨nd, rfl⟩⟩; (try first | exact ⟨rfl, _, zbb _ _ _⟩ | exact ⟨rfl, _, zeo (zbb _ _ _) (zem (World.drewN _) (zcr _ _ _))⟩); have p11 : 0 ≤ ((ji9) : Int) := zap (by first | (with_reducible assumption) | assumption); have q11 : (ji9) < (a0.size : Int) := zap (by first | (with_reducible assumption) | assumption); have hx11 := bt_at a0 (ji9); replace p11 := zbs p11; replace q11 := zbs q11) | (go_at_call 135; (with_reducible refine (spec_l1Sign.calls k1 (bt a0 (ji9)) t159 _ A12.out).mono ?_); rintro e w' ⟨rfl, ⟨nd, rfl⟩⟩; (try first | exact ⟨rfl, _, zbb _ _ _⟩ | exact ⟨rfl, _, zeo (zbb _ _ _) (zem (World.drewN _) (zcr _ _ _))⟩)) | ((with_reducible refine zbu (N := 31) rfl ?_); refine zfl (Kd.int .u8) _ 5 ?hg (N := 31) ?hd (xs := ([] : List Int)) (inner := []) (ok := fun _ => True) (okp := fun _ => True) ?hr ?hp (fun _ hk => hk) trivial (zbz _ _) (zak _) (by simp) ?_; (case hd => rfl); (case hg => rfl); (case hr => first | (go_simp; done) | (go_simp; rfl)); (case hp => exact (zej _ _)); intro v161 w14 ho15 hb hg_ hnew_; have xb_ := below_ofs (by repeat (first | (with_reducible first | exact HB.out | apply zad | apply zaa | apply zac) | exact HB.out)) hb; clear hg_ hnew_; (first | rw [← Ny160.out] at ho15 | (simp only [Int.reduceToNat] at ho15; rw [← Ny160.out] at ho15)); have qHO_4 := Kd.R_ofs (by (with_reducible repeat (first | apply zai | apply zaj | apply zam)); exact HO_4.out) hb; have n0_ := Aside0.mk (zbm qHO_4 (zbw ho15) hb); have n1_ := Aside0.mk (zca (zcs ho15 (zco qHO_4)) (zan xb_)); have n2_ := Aside0.mk (zat xb_ hb); clear qHO_4 HO_4; clear HB; have HO_4 := n0_; have HO162 := n1_; have HB := n2_; clear n0_ n1_ n2_; clear xb_ hb ho15))
        repeat (go_quiet (first | (go_at_call 135; (with_reducible refine (spec_l1Sign.calls k1 (bt a0 x5_1) t158 _ A8.out).mono ?_); rintro e w' ⟨rfl, ⟨nd, rfl⟩⟩; (try first | exact ⟨rfl, _, zbb _ _ _⟩ | exact ⟨rfl, _, zeo (zbb _ _ _) (zem (World.drewN _) (zcr _ _ _))⟩); have p11 : 0 ≤ ((ji9) : Int) := zap (by first | (with_reducible assumption) | assumption); have q11 : (ji9) < (a0.size : Int) := zap (by first | (with_reducible assumption) | assumption); have hx11 := bt_at a0 (ji9); replace p11 := zbs p11; replace q11 := zbs q11) | (go_at_call 135; (with_reducible refine (spec_l1Sign.calls k1 (bt a0 (ji9)) t159 _ A12.out).mono ?_); rintro e w' ⟨rfl, ⟨nd, rfl⟩⟩; (try first | exact ⟨rfl, _, zbb _ _ _⟩ | exact ⟨rfl, _, zeo (zbb _ _ _) (zem (World.drewN _) (zcr _ _ _))⟩)) | ((with_reducible refine zbu (N := 31) rfl ?_); refine zfl (Kd.int .u8) _ 5 ?hg (N := 31) ?hd (xs := ([] : List Int)) (inner := []) (ok := fun _ => True) (okp := fun _ => True) ?hr ?hp (fun _ hk => hk) trivial (zbz _ _) (zak _) (by simp) ?_; (case hd => rfl); (case hg => rfl); (case hr => first | (go_simp; done) | (go_simp; rfl)); (case hp => exact (zej _ _)); intro v161 w14 ho15 hb hg_ hnew_; clear hg_ hnew_; (first | rw [← Ny160.out] at ho15 | (simp only [Int.reduceToNat] at ho15; rw [← Ny160.out] at ho15)); have n0_ := Aside0.mk (zbm (by (with_reducible repeat (first | apply zai | apply zaj | apply zam)); exact HO_4.out) (zbw ho15) hb); have n1_ := Aside0.mk (zca (zcs ho15 (zco (by (with_reducible repeat (first | apply zai | apply zaj | apply zam)); exact HO_4.out))) (zan (by repeat (first | (with_reducible first | exact HB.out | apply zad | apply zaa | apply zac) | exact HB.out)))); have n2_ := Aside0.mk (zat (by repeat (first | (with_reducible first | exact HB.out | apply zad | apply zaa | apply zac) | exact HB.out)) hb); clear HO_4; clear HB; have HO_4 := n0_; have HO162 := n1_; have HB := n2_; clear n0_ n1_ n2_; clear hb ho15)); try go_wp2_with (first | (go_at_call 135; (with_reducible refine (spec_l1Sign.calls k1 (bt a0 x5_1) t158 _ A8.out).mono ?_); rintro e w' ⟨rfl, ⟨nd, rfl⟩⟩; (try first | exact ⟨rfl, _, zbb _ _ _⟩ | exact ⟨rfl, _, zeo (zbb _ _ _) (zem (World.drewN _) (zcr _ _ _))⟩); have p11 : 0 ≤ ((ji9) : Int) := zap (by first | (with_reducible assumption) | assumption); have q11 : (ji9) < (a0.size : Int) := zap (by first | (with_reducible assumption) | assumption); have hx11 := bt_at a0 (ji9); replace p11 := zbs p11; replace q11 := zbs q11) | (go_at_call 135; (with_reducible refine (spec_l1Sign.calls k1 (bt a0 (ji9)) t159 _ A12.out).mono ?_); rintro e w' ⟨rfl, ⟨nd, rfl⟩⟩; (try first | exact ⟨rfl, _, zbb _ _ _⟩ | exact ⟨rfl, _, zeo (zbb _ _ _) (zem (World.drewN _) (zcr _ _ _))⟩)) | ((with_reducible refine zbu (N := 31) rfl ?_); refine zfl (Kd.int .u8) _ 5 ?hg (N := 31) ?hd (xs := ([] : List Int)) (inner := []) (ok := fun _ => True) (okp := fun _ => True) ?hr ?hp (fun _ hk => hk) trivial (zbz _ _) (zak _) (by simp) ?_; (case hd => rfl); (case hg => rfl); (case hr => first | (go_simp; done) | (go_simp; rfl)); (case hp => exact (zej _ _)); intro v161 w14 ho15 hb hg_ hnew_; clear hg_ hnew_; (first | rw [← Ny160.out] at ho15 | (simp only [Int.reduceToNat] at ho15; rw [← Ny160.out] at ho15)); have n0_ := Aside0.mk (zbm (by (with_reducible repeat (first | apply zai | apply zaj | apply zam)); exact HO_4.out) (zbw ho15) hb); have n1_ := Aside0.mk (zca (zcs ho15 (zco (by (with_reducible repeat (first | apply zai | apply zaj | apply zam)); exact HO_4.out))) (zan (by repeat (first | (with_reducible first | exact HB.out | apply zad | apply zaa | apply zac) | exact HB.out)))); have n2_ := Aside0.mk (zat (by repeat (first | (with_reducible first | exact HB.out | apply zad | apply zaa | apply zac) | exact HB.out)) hb); clear HO_4; clear HB; have HO_4 := n0_; have HO162 := n1_; have HB := n2_; clear n0_ n1_ n2_; clear hb ho15)))
        go_ret2
        exact ⟨_, by first | rfl | (simp [zaz, zba] <;> rfl) | (simp only [← hji9]; first | rfl | (simp [zaz, zba] <;> rfl)) | (simp [*, zaz, zba] <;> rfl), by (with_reducible repeat (first | apply zai | apply zaj | apply zam)); exact zbg HO162.out (fun _ hk => trivial), by repeat (first | (with_reducible first | exact HB.out | apply zad | apply zaa | apply zac) | exact HB.out)⟩
       ·rw [if_neg c13] at H
        have c13b0 : decide (t158 < 0) = false := zbv c13
        clear c13
        by_cases c16 : t159 < 0
        ·rw [if_pos c16] at H
         have c16b0 : decide (t159 < 0) = true := zay c16
         clear c16
         obtain ⟨y163, hy163⟩ : ∃ y_ : List Int, y_ = (([] : List Int)) := ⟨_, rfl⟩
         replace H : (some (y163, false)) = some (r1, r2) := by first | (rw [hy163]; with_reducible first | exact H | exact bind_ofs H) | (with_reducible first | exact H | exact bind_ofs H) | (rw [hy163]; exact H) | exact H
         have Ny163 := Aside0.mk hy163
         clear hy163
         simp only [zdg, zen] at H
         obtain ⟨rfl, rfl⟩ := H
         have p7 : 0 ≤ (x5_1 : Int) := zap (by first | (with_reducible assumption) | assumption)
         have q7 : x5_1 < (a0.size : Int) := zap (by first | (with_reducible assumption) | assumption)
         have hx7 := bt_at a0 x5_1
         replace p7 := zbs p7
         replace q7 := zbs q7
         go_wp2_with (first | (go_at_call 135; (with_reducible refine (spec_l1Sign.calls k1 (bt a0 x5_1) t158 _ A8.out).mono ?_); rintro e w' ⟨rfl, ⟨nd, rfl⟩⟩; (try first | exact ⟨rfl, _, zbb _ _ _⟩ | exact ⟨rfl, _, zeo (zbb _ _ _) (zem (World.drewN _) (zcr _ _ _))⟩); have p11 : 0 ≤ ((ji9) : Int) := zap (by first | (with_reducible assumption) | assumption); have q11 : (ji9) < (a0.size : Int) := zap (by first | (with_reducible assumption) | assumption); have hx11 := bt_at a0 (ji9); replace p11 := zbs p11; replace q11 := zbs q11) | (go_at_call 135; (with_reducible refine (spec_l1Sign.calls k1 (bt a0 (ji9)) t159 _ A12.out).mono ?_); rintro e w' ⟨rfl, ⟨nd, rfl⟩⟩; (try first | exact ⟨rfl, _, zbb _ _ _⟩ | exact ⟨rfl, _, zeo (zbb _ _ _) (zem (World.drewN _) (zcr _ _ _))⟩)) | ((with_reducible refine zbu (N := 31) rfl ?_); refine zfl (Kd.int .u8) _ 5 ?hg (N := 31) ?hd (xs := ([] : List Int)) (inner := []) (ok := fun _ => True) (okp := fun _ => True) ?hr ?hp (fun _ hk => hk) trivial (zbz _ _) (zak _) (by simp) ?_; (case hd => rfl); (case hg => rfl); (case hr => first | (go_simp; done) | (go_simp; rfl)); (case hp => exact (zej _ _)); intro v164 w17 ho18 hb hg_ hnew_; have xb_ := below_ofs (by repeat (first | (with_reducible first | exact HB.out | apply zad | apply zaa | apply zac) | exact HB.out)) hb; clear hg_ hnew_; (first | rw [← Ny163.out] at ho18 | (simp only [Int.reduceToNat] at ho18; rw [← Ny163.out] at ho18)); have qHO_4 := Kd.R_ofs (by (with_reducible repeat (first | apply zai | apply zaj | apply zam)); exact HO_4.out) hb; have n0_ := Aside0.mk (zbm qHO_4 (zbw ho18) hb); have n1_ := Aside0.mk (zca (zcs ho18 (zco qHO_4)) (zan xb_)); have n2_ := Aside0.mk (zat xb_ hb); clear qHO_4 HO_4; clear HB; have HO_4 := n0_; have HO165 := n1_; have HB := n2_; clear n0_ n1_ n2_; clear xb_ hb ho18))
         repeat (go_quiet (first | (go_at_call 135; (with_reducible refine (spec_l1Sign.calls k1 (bt a0 x5_1) t158 _ A8.out).mono ?_); rintro e w' ⟨rfl, ⟨nd, rfl⟩⟩; (try first | exact ⟨rfl, _, zbb _ _ _⟩ | exact ⟨rfl, _, zeo (zbb _ _ _) (zem (World.drewN _) (zcr _ _ _))⟩); have p11 : 0 ≤ ((ji9) : Int) := zap (by first | (with_reducible assumption) | assumption); have q11 : (ji9) < (a0.size : Int) := zap (by first | (with_reducible assumption) | assumption); have hx11 := bt_at a0 (ji9); replace p11 := zbs p11; replace q11 := zbs q11) | (go_at_call 135; (with_reducible refine (spec_l1Sign.calls k1 (bt a0 (ji9)) t159 _ A12.out).mono ?_); rintro e w' ⟨rfl, ⟨nd, rfl⟩⟩; (try first | exact ⟨rfl, _, zbb _ _ _⟩ | exact ⟨rfl, _, zeo (zbb _ _ _) (zem (World.drewN _) (zcr _ _ _))⟩)) | ((with_reducible refine zbu (N := 31) rfl ?_); refine zfl (Kd.int .u8) _ 5 ?hg (N := 31) ?hd (xs := ([] : List Int)) (inner := []) (ok := fun _ => True) (okp := fun _ => True) ?hr ?hp (fun _ hk => hk) trivial (zbz _ _) (zak _) (by simp) ?_; (case hd => rfl); (case hg => rfl); (case hr => first | (go_simp; done) | (go_simp; rfl)); (case hp => exact (zej _ _)); intro v164 w17 ho18 hb hg_ hnew_; clear hg_ hnew_; (first | rw [← Ny163.out] at ho18 | (simp only [Int.reduceToNat] at ho18; rw [← Ny163.out] at ho18)); have n0_ := Aside0.mk (zbm (by (with_reducible repeat (first | apply zai | apply zaj | apply zam)); exact HO_4.out) (zbw ho18) hb); have n1_ := Aside0.mk (zca (zcs ho18 (zco (by (with_reducible repeat (first | apply zai | apply zaj | apply zam)); exact HO_4.out))) (zan (by repeat (first | (with_reducible first | exact HB.out | apply zad | apply zaa | apply zac) | exact HB.out)))); have n2_ := Aside0.mk (zat (by repeat (first | (with_reducible first | exact HB.out | apply zad | apply zaa | apply zac) | exact HB.out)) hb); clear HO_4; clear HB; have HO_4 := n0_; have HO165 := n1_; have HB := n2_; clear n0_ n1_ n2_; clear hb ho18)); try go_wp2_with (first | (go_at_call 135; (with_reducible refine (spec_l1Sign.calls k1 (bt a0 x5_1) t158 _ A8.out).mono ?_); rintro e w' ⟨rfl, ⟨nd, rfl⟩⟩; (try first | exact ⟨rfl, _, zbb _ _ _⟩ | exact ⟨rfl, _, zeo (zbb _ _ _) (zem (World.drewN _) (zcr _ _ _))⟩); have p11 : 0 ≤ ((ji9) : Int) := zap (by first | (with_reducible assumption) | assumption); have q11 : (ji9) < (a0.size : Int) := zap (by first | (with_reducible assumption) | assumption); have hx11 := bt_at a0 (ji9); replace p11 := zbs p11; replace q11 := zbs q11) | (go_at_call 135; (with_reducible refine (spec_l1Sign.calls k1 (bt a0 (ji9)) t159 _ A12.out).mono ?_); rintro e w' ⟨rfl, ⟨nd, rfl⟩⟩; (try first | exact ⟨rfl, _, zbb _ _ _⟩ | exact ⟨rfl, _, zeo (zbb _ _ _) (zem (World.drewN _) (zcr _ _ _))⟩)) | ((with_reducible refine zbu (N := 31) rfl ?_); refine zfl (Kd.int .u8) _ 5 ?hg (N := 31) ?hd (xs := ([] : List Int)) (inner := []) (ok := fun _ => True) (okp := fun _ => True) ?hr ?hp (fun _ hk => hk) trivial (zbz _ _) (zak _) (by simp) ?_; (case hd => rfl); (case hg => rfl); (case hr => first | (go_simp; done) | (go_simp; rfl)); (case hp => exact (zej _ _)); intro v164 w17 ho18 hb hg_ hnew_; clear hg_ hnew_; (first | rw [← Ny163.out] at ho18 | (simp only [Int.reduceToNat] at ho18; rw [← Ny163.out] at ho18)); have n0_ := Aside0.mk (zbm (by (with_reducible repeat (first | apply zai | apply zaj | apply zam)); exact HO_4.out) (zbw ho18) hb); have n1_ := Aside0.mk (zca (zcs ho18 (zco (by (with_reducible repeat (first | apply zai | apply zaj | apply zam)); exact HO_4.out))) (zan (by repeat (first | (with_reducible first | exact HB.out | apply zad | apply zaa | apply zac) | exact HB.out)))); have n2_ := Aside0.mk (zat (by repeat (first | (with_reducible first | exact HB.out | apply zad | apply zaa | apply zac) | exact HB.out)) hb); clear HO_4; clear HB; have HO_4 := n0_; have HO165 := n1_; have HB := n2_; clear n0_ n1_ n2_; clear hb ho18)))
         go_ret2
         exact ⟨_, by first | rfl | (simp [zaz, zba] <;> rfl) | (simp only [← hji9]; first | rfl | (simp [zaz, zba] <;> rfl)) | (simp [*, zaz, zba] <;> rfl), by (with_reducible repeat (first | apply zai | apply zaj | apply zam)); exact zbg HO165.out (fun _ hk => trivial), by repeat (first | (with_reducible first | exact HB.out | apply zad | apply zaa | apply zac) | exact HB.out)⟩
        ·rw [if_neg c16] at H
         have c16b0 : decide (t159 < 0) = false := zbv c16
         clear c16
         by_cases c19 : x4_1.length < 140737488355328
         ·rw [if_pos c19] at H
          have LMc19 := Aside0.mk c19
          clear c19
          obtain ⟨y166, hy166⟩ : ∃ y_ : List Int, y_ = (x4_1 ++ [(wrap64 ((wrap64 (16 * t158)) + t159)) % 256]) := ⟨_, rfl⟩
          replace H : (spec_Unhex.l0 k1 a0 y166 (wrap64 (x5_1 + 2))) = some (r1, r2) := by first | (rw [hy166]; with_reducible first | exact H | exact bind_ofs H) | (with_reducible first | exact H | exact bind_ofs H) | (rw [hy166]; exact H) | exact H
          have Ny166 := Aside0.mk hy166
          clear hy166
          have H' := Aside0.mk H
          clear H
          have p7 : 0 ≤ (x5_1 : Int) := zap (by first | (with_reducible assumption) | assumption)
          have q7 : x5_1 < (a0.size : Int) := zap (by first | (with_reducible assumption) | assumption)
          have hx7 := bt_at a0 x5_1
          replace p7 := zbs p7
          replace q7 := zbs q7
          go_wp2_with (first | (go_at_call 135; (with_reducible refine (spec_l1Sign.calls k1 (bt a0 x5_1) t158 _ A8.out).mono ?_); rintro e w' ⟨rfl, ⟨nd, rfl⟩⟩; (try first | exact ⟨rfl, _, zbb _ _ _⟩ | exact ⟨rfl, _, zeo (zbb _ _ _) (zem (World.drewN _) (zcr _ _ _))⟩); have p11 : 0 ≤ ((ji9) : Int) := zap (by first | (with_reducible assumption) | assumption); have q11 : (ji9) < (a0.size : Int) := zap (by first | (with_reducible assumption) | assumption); have hx11 := bt_at a0 (ji9); replace p11 := zbs p11; replace q11 := zbs q11) | (go_at_call 135; (with_reducible refine (spec_l1Sign.calls k1 (bt a0 (ji9)) t159 _ A12.out).mono ?_); rintro e w' ⟨rfl, ⟨nd, rfl⟩⟩; (try first | exact ⟨rfl, _, zbb _ _ _⟩ | exact ⟨rfl, _, zeo (zbb _ _ _) (zem (World.drewN _) (zcr _ _ _))⟩)) | ((with_reducible refine zdv (b := .append) (xs := #[.tmp 32, .tmp 38]) rfl ?_); at_builtin; refine Kd.R_append (Kd.int .u8) (w0 := w) w.heap.size rfl (.tmp 32) (.tmp 38) 29 5 (.int .u8 0) 1 rfl Try.underlying29 info5 rfl (by decide) (by omega) u4 x4_1 ((wrap64 ((wrap64 (16 * t158)) + t159)) % 256) [.int .u8 ((wrap64 ((wrap64 (16 * t158)) + t159)) % 256)] (fun _ => True) (fun _ => False) rfl rfl ?aP (fun _ hk => hk.elim) ?aF ?aO ?aB ?aS ?aL ?_; (case aP => exact rfl); (case aB => exact (by repeat (first | (with_reducible first | exact HB.out | apply zad | apply zaa | apply zac) | exact HB.out))); (case aF => exact (fun _ _ => trivial)); (case aO => exact (by (with_reducible repeat (first | apply zai | apply zaj | apply zam)); exact HO_4.out)); (case aS => exact (zan (by repeat (first | (with_reducible first | exact HB.out | apply zad | apply zaa | apply zac) | exact HB.out)))); (case aL => have := LMc19.out; omega); intro v167 w20 ho hb hg hat; rw [← Ny166.out] at ho; have n0_ := Aside0.mk (hb); have n1_ := Aside0.mk (ho); clear HB HO_4; have HB := n0_; have HO168 := n1_; clear n0_ n1_; clear ho hb hg hat))
          repeat (go_quiet (first | (go_at_call 135; (with_reducible refine (spec_l1Sign.calls k1 (bt a0 x5_1) t158 _ A8.out).mono ?_); rintro e w' ⟨rfl, ⟨nd, rfl⟩⟩; (try first | exact ⟨rfl, _, zbb _ _ _⟩ | exact ⟨rfl, _, zeo (zbb _ _ _) (zem (World.drewN _) (zcr _ _ _))⟩); have p11 : 0 ≤ ((ji9) : Int) := zap (by first | (with_reducible assumption) | assumption); have q11 : (ji9) < (a0.size : Int) := zap (by first | (with_reducible assumption) | assumption); have hx11 := bt_at a0 (ji9); replace p11 := zbs p11; replace q11 := zbs q11) | (go_at_call 135; (with_reducible refine (spec_l1Sign.calls k1 (bt a0 (ji9)) t159 _ A12.out).mono ?_); rintro e w' ⟨rfl, ⟨nd, rfl⟩⟩; (try first | exact ⟨rfl, _, zbb _ _ _⟩ | exact ⟨rfl, _, zeo (zbb _ _ _) (zem (World.drewN _) (zcr _ _ _))⟩)) | ((with_reducible refine zdv (b := .append) (xs := #[.tmp 32, .tmp 38]) rfl ?_); at_builtin; refine Kd.R_append (Kd.int .u8) (w0 := w) w.heap.size rfl (.tmp 32) (.tmp 38) 29 5 (.int .u8 0) 1 rfl Try.underlying29 info5 rfl (by decide) (by omega) u4 x4_1 ((wrap64 ((wrap64 (16 * t158)) + t159)) % 256) [.int .u8 ((wrap64 ((wrap64 (16 * t158)) + t159)) % 256)] (fun _ => True) (fun _ => False) rfl rfl ?aP (fun _ hk => hk.elim) ?aF ?aO ?aB ?aS ?aL ?_; (case aP => exact rfl); (case aB => exact (by repeat (first | (with_reducible first | exact HB.out | apply zad | apply zaa | apply zac) | exact HB.out))); (case aF => exact (fun _ _ => trivial)); (case aO => exact (by (with_reducible repeat (first | apply zai | apply zaj | apply zam)); exact HO_4.out)); (case aS => exact (zan (by repeat (first | (with_reducible first | exact HB.out | apply zad | apply zaa | apply zac) | exact HB.out)))); (case aL => have := LMc19.out; omega); intro v167 w20 ho hb hg hat; rw [← Ny166.out] at ho; have n0_ := Aside0.mk (hb); have n1_ := Aside0.mk (ho); clear HB; clear HO_4; have HB := n0_; have HO168 := n1_; clear n0_ n1_; clear ho hb hg hat)); try go_wp2_with (first | (go_at_call 135; (with_reducible refine (spec_l1Sign.calls k1 (bt a0 x5_1) t158 _ A8.out).mono ?_); rintro e w' ⟨rfl, ⟨nd, rfl⟩⟩; (try first | exact ⟨rfl, _, zbb _ _ _⟩ | exact ⟨rfl, _, zeo (zbb _ _ _) (zem (World.drewN _) (zcr _ _ _))⟩); have p11 : 0 ≤ ((ji9) : Int) := zap (by first | (with_reducible assumption) | assumption); have q11 : (ji9) < (a0.size : Int) := zap (by first | (with_reducible assumption) | assumption); have hx11 := bt_at a0 (ji9); replace p11 := zbs p11; replace q11 := zbs q11) | (go_at_call 135; (with_reducible refine (spec_l1Sign.calls k1 (bt a0 (ji9)) t159 _ A12.out).mono ?_); rintro e w' ⟨rfl, ⟨nd, rfl⟩⟩; (try first | exact ⟨rfl, _, zbb _ _ _⟩ | exact ⟨rfl, _, zeo (zbb _ _ _) (zem (World.drewN _) (zcr _ _ _))⟩)) | ((with_reducible refine zdv (b := .append) (xs := #[.tmp 32, .tmp 38]) rfl ?_); at_builtin; refine Kd.R_append (Kd.int .u8) (w0 := w) w.heap.size rfl (.tmp 32) (.tmp 38) 29 5 (.int .u8 0) 1 rfl Try.underlying29 info5 rfl (by decide) (by omega) u4 x4_1 ((wrap64 ((wrap64 (16 * t158)) + t159)) % 256) [.int .u8 ((wrap64 ((wrap64 (16 * t158)) + t159)) % 256)] (fun _ => True) (fun _ => False) rfl rfl ?aP (fun _ hk => hk.elim) ?aF ?aO ?aB ?aS ?aL ?_; (case aP => exact rfl); (case aB => exact (by repeat (first | (with_reducible first | exact HB.out | apply zad | apply zaa | apply zac) | exact HB.out))); (case aF => exact (fun _ _ => trivial)); (case aO => exact (by (with_reducible repeat (first | apply zai | apply zaj | apply zam)); exact HO_4.out)); (case aS => exact (zan (by repeat (first | (with_reducible first | exact HB.out | apply zad | apply zaa | apply zac) | exact HB.out)))); (case aL => have := LMc19.out; omega); intro v167 w20 ho hb hg hat; rw [← Ny166.out] at ho; have n0_ := Aside0.mk (hb); have n1_ := Aside0.mk (ho); clear HB; clear HO_4; have HB := n0_; have HO168 := n1_; clear n0_ n1_; clear ho hb hg hat)))
          go_roundg k1
          case measure => have := HK1.out; omega
          case rel => exact ⟨(y166), (wrap64 (x5_1 + 2)), (by first | rfl | (simp; done) | (simp [*]; done)), H', ⟨by have := HK1.out; omega⟩, ⟨by (with_reducible repeat (first | apply zai | apply zaj | apply zam)); exact HO168.out⟩, ⟨by repeat (first | (with_reducible first | exact HB.out | apply zad | apply zaa | apply zac) | exact HB.out)⟩⟩
         ·rw [if_neg c19] at H
          exact absurd H (by simp)
      ·rw [if_neg c10] at H
       exact absurd H (by simp)
     ·rw [if_neg c6] at H
      exact absurd H (by simp)
    ·rw [if_neg c5] at H
     exact absurd H (by simp)
   ·rw [if_neg c4] at H
    have c4b0 : decide ((wrap64 (x5_1 + 1)) < (a0.size : Int)) = false := zbv c4
    clear c4
    by_cases c21 : ((a0.size : Int) % 2) = 0
    ·rw [if_pos c21] at H
     have c21b0 : (((a0.size : Int) % 2) == 0) = true := zdp.mpr c21
     have c21b1 : (((a0.size : Int) % 2) != 0) = false := zby.mpr c21
     clear c21
     simp only [zdg, zen] at H
     obtain ⟨rfl, rfl⟩ := H
     go_wp2
     repeat (go_quiet (fail); try go_wp2)
     go_ret2
     exact ⟨_, by first | rfl | (simp [zaz, zba] <;> rfl) | (simp [*, zaz, zba] <;> rfl), by (with_reducible repeat (first | apply zai | apply zaj | apply zam)); exact HO_4.out, by repeat (first | (with_reducible first | exact HB.out | apply zad | apply zaa | apply zac) | exact HB.out)⟩
    ·rw [if_neg c21] at H
     have c21b0 : (((a0.size : Int) % 2) == 0) = false := zbx.mpr c21
     have c21b1 : (((a0.size : Int) % 2) != 0) = true := zeb.mpr c21
     obtain ⟨y155, hy155⟩ : ∃ y_ : List Int, y_ = (([] : List Int)) := ⟨_, rfl⟩
     replace H : (some (y155, false)) = some (r1, r2) := by first | (rw [hy155]; with_reducible first | exact H | exact bind_ofs H) | (with_reducible first | exact H | exact bind_ofs H) | (rw [hy155]; exact H) | exact H
     have Ny155 := Aside0.mk hy155
     clear hy155
     simp only [zdg, zen] at H
     obtain ⟨rfl, rfl⟩ := H
     go_wp2_with (first | ((with_reducible refine zbu (N := 44) rfl ?_); refine zfl (Kd.int .u8) _ 5 ?hg (N := 44) ?hd (xs := ([] : List Int)) (inner := []) (ok := fun _ => True) (okp := fun _ => True) ?hr ?hp (fun _ hk => hk) trivial (zbz _ _) (zak _) (by simp) ?_; (case hd => rfl); (case hg => rfl); (case hr => first | (go_simp; done) | (go_simp; rfl)); (case hp => exact (zej _ _)); intro v156 w22 ho23 hb hg_ hnew_; have xb_ := below_ofs (by repeat (first | (with_reducible first | exact HB.out | apply zad | apply zaa | apply zac) | exact HB.out)) hb; clear hg_ hnew_; (first | rw [← Ny155.out] at ho23 | (simp only [Int.reduceToNat] at ho23; rw [← Ny155.out] at ho23)); have qHO_4 := Kd.R_ofs (by (with_reducible repeat (first | apply zai | apply zaj | apply zam)); exact HO_4.out) hb; have n0_ := Aside0.mk (zbm qHO_4 (zbw ho23) hb); have n1_ := Aside0.mk (zca (zcs ho23 (zco qHO_4)) (zan xb_)); have n2_ := Aside0.mk (zat xb_ hb); clear qHO_4 HO_4; clear HB; have HO_4 := n0_; have HO157 := n1_; have HB := n2_; clear n0_ n1_ n2_; clear xb_ hb ho23))
     repeat (go_quiet (first | ((with_reducible refine zbu (N := 44) rfl ?_); refine zfl (Kd.int .u8) _ 5 ?hg (N := 44) ?hd (xs := ([] : List Int)) (inner := []) (ok := fun _ => True) (okp := fun _ => True) ?hr ?hp (fun _ hk => hk) trivial (zbz _ _) (zak _) (by simp) ?_; (case hd => rfl); (case hg => rfl); (case hr => first | (go_simp; done) | (go_simp; rfl)); (case hp => exact (zej _ _)); intro v156 w22 ho23 hb hg_ hnew_; clear hg_ hnew_; (first | rw [← Ny155.out] at ho23 | (simp only [Int.reduceToNat] at ho23; rw [← Ny155.out] at ho23)); have n0_ := Aside0.mk (zbm (by (with_reducible repeat (first | apply zai | apply zaj | apply zam)); exact HO_4.out) (zbw ho23) hb); have n1_ := Aside0.mk (zca (zcs ho23 (zco (by (with_reducible repeat (first | apply zai | apply zaj | apply zam)); exact HO_4.out))) (zan (by repeat (first | (with_reducible first | exact HB.out | apply zad | apply zaa | apply zac) | exact HB.out)))); have n2_ := Aside0.mk (zat (by repeat (first | (with_reducible first | exact HB.out | apply zad | apply zaa | apply zac) | exact HB.out)) hb); clear HO_4; clear HB; have HO_4 := n0_; have HO157 := n1_; have HB := n2_; clear n0_ n1_ n2_; clear hb ho23)); try go_wp2_with (first | ((with_reducible refine zbu (N := 44) rfl ?_); refine zfl (Kd.int .u8) _ 5 ?hg (N := 44) ?hd (xs := ([] : List Int)) (inner := []) (ok := fun _ => True) (okp := fun _ => True) ?hr ?hp (fun _ hk => hk) trivial (zbz _ _) (zak _) (by simp) ?_; (case hd => rfl); (case hg => rfl); (case hr => first | (go_simp; done) | (go_simp; rfl)); (case hp => exact (zej _ _)); intro v156 w22 ho23 hb hg_ hnew_; clear hg_ hnew_; (first | rw [← Ny155.out] at ho23 | (simp only [Int.reduceToNat] at ho23; rw [← Ny155.out] at ho23)); have n0_ := Aside0.mk (zbm (by (with_reducible repeat (first | apply zai | apply zaj | apply zam)); exact HO_4.out) (zbw ho23) hb); have n1_ := Aside0.mk (zca (zcs ho23 (zco (by (with_reducible repeat (first | apply zai | apply zaj | apply zam)); exact HO_4.out))) (zan (by repeat (first | (with_reducible first | exact HB.out | apply zad | apply zaa | apply zac) | exact HB.out)))); have n2_ := Aside0.mk (zat (by repeat (first | (with_reducible first | exact HB.out | apply zad | apply zaa | apply zac) | exact HB.out)) hb); clear HO_4; clear HB; have HO_4 := n0_; have HO157 := n1_; have HB := n2_; clear n0_ n1_ n2_; clear hb ho23)))
     go_ret2
     exact ⟨_, by first | rfl | (simp [zaz, zba] <;> rfl) | (simp [*, zaz, zba] <;> rfl), by (with_reducible repeat (first | apply zai | apply zaj | apply zam)); exact zbg HO157.out (fun _ hk => trivial), by repeat (first | (with_reducible first | exact HB.out | apply zad | apply zaa | apply zac) | exact HB.out)⟩
end Go.Proofs.Ytlalkldjpniakaa.P
