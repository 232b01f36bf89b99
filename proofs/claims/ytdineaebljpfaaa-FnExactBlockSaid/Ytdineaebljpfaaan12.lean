import Derived.Test.Ytdineaebljpfaaan11
namespace Go.Proofs.Ytdineaebljpfaaa.P
open Go.RowKit Go.Proofs.YtdineaebljpfaaaW.PrintWords Go.Proofs.YtdineaebljpfaaaW.PrintLast Go.Proofs.YtdineaebljpfaaaW.PrintMore
attribute [local go_sem] zcu zcv zdf zdg zci zcj zcw zcx   -- for this text's walks alone
set_option linter.unusedVariables false
set_option linter.unusedSimpArgs false

mutual
def spec_l5Double.l0 : Nat → List Int → Int → Option (List Int)
 | 0, _, _ => none
 | k + 1, x0, x3 => if x3 < 4 then ((spec_Quarter.f k x0 x3 (wrap64 (x3 + 4)) (wrap64 (x3 + 8)) (wrap64 (x3 + 12))).bind fun t352 => (spec_l5Double.l0 k t352 (wrap64 (x3 + 1)))) else (spec_l5Double.l1 k x0 0)
def spec_l5Double.l1 : Nat → List Int → Int → Option (List Int)
 | 0, _, _ => none
 | k + 1, x0, x4 => if x4 < 4 then ((spec_Quarter.f k x0 x4 (wrap64 (4 + (Int.tmod (wrap64 (x4 + 1)) 4))) (wrap64 (8 + (Int.tmod (wrap64 (x4 + 2)) 4))) (wrap64 (12 + (Int.tmod (wrap64 (x4 + 3)) 4)))).bind fun t355 => (spec_l5Double.l1 k t355 (wrap64 (x4 + 1)))) else (some x0)
end
def spec_l5Double.f (k : Nat) (l0 : List Int) : Option (List Int) := spec_l5Double.l0 k l0 0
theorem spec_l5Double.mono_l : ∀ k, (∀ y0 y1, LeO (spec_l5Double.l0 k y0 y1) (spec_l5Double.l0 (k + 1) y0 y1)) ∧ (∀ y0 y1, LeO (spec_l5Double.l1 k y0 y1) (spec_l5Double.l1 (k + 1) y0 y1))
 | 0 => ⟨fun _ _ r h => by simp [spec_l5Double.l0] at h, fun _ _ r h => by simp [spec_l5Double.l1] at h⟩
 | k + 1 => by
  obtain ⟨ih0, ih1⟩ := spec_l5Double.mono_l k
  refine ⟨?_, ?_⟩
  ·intro y0 y1
   unfold spec_l5Double.l0
   repeat' first
   | (with_reducible exact ih0 _ _)
   | (with_reducible exact ih1 _ _)
   | (with_reducible exact spec_Quarter.mono _ _ _ _ _ _)
   | (with_reducible exact zcc _)
   | (with_reducible exact zcg _)
   | (with_reducible refine zcr ?_ ?_)
   | (with_reducible refine zcd ?_ (fun _ => ?_))
   | exact ih0 _ _
   | exact ih1 _ _
  ·intro y0 y1
   unfold spec_l5Double.l1
   repeat' first
   | (with_reducible exact ih0 _ _)
   | (with_reducible exact ih1 _ _)
   | (with_reducible exact spec_Quarter.mono _ _ _ _ _ _)
   | (with_reducible exact zcc _)
   | (with_reducible exact zcg _)
   | (with_reducible refine zcr ?_ ?_)
   | (with_reducible refine zcd ?_ (fun _ => ?_))
   | exact ih0 _ _
   | exact ih1 _ _
theorem spec_l5Double.mono : ∀ a0 k, LeO (spec_l5Double.f k a0) (spec_l5Double.f (k + 1) a0) := by
 intro a0 k
 obtain ⟨ih0, ih1⟩ := spec_l5Double.mono_l k
 unfold spec_l5Double.f
 repeat' first
   | (with_reducible exact ih0 _ _)
   | (with_reducible exact ih1 _ _)
   | (with_reducible exact spec_Quarter.mono _ _ _ _ _ _)
   | (with_reducible exact zcc _)
   | (with_reducible exact zcg _)
   | (with_reducible refine zcr ?_ ?_)
   | (with_reducible refine zcd ?_ (fun _ => ?_))
   | exact ih0 _ _
   | exact ih1 _ _
set_option maxHeartbeats 8000000 in
set_option maxRecDepth 100000 in
theorem spec_l5Double.calls (k : Nat) (A0 : Option Addr) (c0 : Nat) (l0 : List Int) (r : List Int) (w : World) (hr0 : Kd.C (Kd.int .i64) w A0 l0.length l0) (hc0 : l0.length ≤ c0) (h : spec_l5Double.f k l0 = some r) :
  Calls Try.prog 44 #[.slice A0 l0.length c0] w fun e w' => ∃ v0_ : Value, e = .returned (v0_) ∧ Kd.R (Kd.int .i64) 3 w' w.heap.size (fun _ => True) v0_ r ∧ Below w.heap.size w w' := by
 have HO0 := Aside0.mk (show Kd.V (Kd.int .i64) 3 w w.heap.size (fun _ => True) (.slice A0 l0.length c0) l0 from Kd.V_mk hc0 (Kd.F_mono (Kd.C_F (Kd.heap_int .i64) hr0) (fun _ _ => trivial)))
 have HB := Aside0.mk (zbx w.heap.size w)
 have H' := Aside0.mk (show (spec_l5Double.l0 k l0 0) = some r from h)
 clear h hr0 hc0
 go_enter Try.func44, Try.ntmps44
 go_wp2
 go_loopg [0, 3] k (fun kq v0 v3 w' => ∃ (x0_1 : List Int) (x3_1 : Int), v3 = .int .i64 x3_1 ∧ Aside0 (spec_l5Double.l0 kq x0_1 x3_1 = some r) ∧ Aside0 (kq ≤ k) ∧ Aside0 (Kd.V (Kd.int .i64) 3 w' w.heap.size (fun _ => True) v0 x0_1) ∧ Aside0 (x3_1 ≠ 0 → Kd.R (Kd.int .i64) 3 w' w.heap.size (fun _ => True) v0 x0_1) ∧ Aside0 (Below w.heap.size w w'))
 case atStart => exact ⟨(l0), (0), (by first | rfl | (simp; done) | (simp [*]; done)), H', ⟨zbp _⟩, ⟨(by (with_reducible repeat (first | apply Kd.V_alloc | apply Kd.V_drewN | apply Kd.V_drew)); exact HO0.out)⟩, ⟨fun h_ => absurd rfl h_⟩, ⟨(by repeat (first | (with_reducible first | exact HB.out | apply zaj | apply zad | apply zai) | exact HB.out))⟩⟩
 case round =>
  clear H'
  obtain ⟨x0_1, x3_1, rfl, HA, HK1, HO_0, HX, HB⟩ := hrel
  cases gk with
  | zero => exact absurd HA.out (by simp [spec_l5Double.l0])
  | succ k1 =>
   have H := HA.out
   clear HA
   simp only [spec_l5Double.l0] at H
   by_cases c2 : x3_1 < 4
   ·rw [if_pos c2] at H
    have c2b0 : decide (x3_1 < 4) = true := zax c2
    clear c2 HX
    obtain ⟨t352, A30, H⟩ := zam.mp H
    have H' := Aside0.mk (show (spec_l5Double.l0 k1 t352 (wrap64 (x3_1 + 1))) = some r from H)
    have A3 := Aside0.mk A30
    clear A30 H
    obtain ⟨Ao_, co_, eo4⟩ := Kd.V_slice HO_0.out
    subst eo4
    go_wp2_with (((with_reducible refine zau (f := 17) rfl ?_); refine goesL_ (some 17) rfl rfl Try.func17 (by kernel_rfl) rfl #[.slice Ao_ x0_1.length co_, .int .i64 x3_1, .int .i64 (wrap64 (x3_1 + 4)), .int .i64 (wrap64 (x3_1 + 8)), .int .i64 (wrap64 (x3_1 + 12))] rfl (by (try simp only [zal, zaq, zar]); first | done | rfl) ?_; (with_reducible refine (spec_Quarter.calls k1 _ _ x0_1 x3_1 (wrap64 (x3_1 + 4)) (wrap64 (x3_1 + 8)) (wrap64 (x3_1 + 12)) t352 _ ?side1 ?side2 A3.out).mono ?_); (case side1 => repeat (first | exact (zes HO_0.out).2.2 | (with_reducible first | apply zas | apply zat | apply zaw))); (case side2 => exact (zes HO_0.out).2.1); rintro e w5 ⟨v353, rfl, ho0, hb⟩; refine ⟨_, rfl, ?_⟩; have n1_ := Aside0.mk (zbc ho0 (zba (by repeat (first | (with_reducible first | exact HB.out | apply zaj | apply zad | apply zai) | exact HB.out)))); have n2_ := Aside0.mk (zbb (by repeat (first | (with_reducible first | exact HB.out | apply zaj | apply zad | apply zai) | exact HB.out)) hb); clear HO_0 HB; have HO1 := n1_; have HB := n2_; clear n1_ n2_ hb ho0))
    go_roundg k1
    case measure => have := HK1.out; omega
    case rel => exact ⟨(t352), (wrap64 (x3_1 + 1)), (by first | rfl | (simp; done) | (simp [*]; done)), H', ⟨by have := HK1.out; omega⟩, ⟨Kd.V_mono (Kd.R_V (by (with_reducible repeat (first | apply zab | apply zac | apply zae)); exact HO1.out)) (fun _ _ => trivial)⟩, ⟨fun _ => (by (with_reducible repeat (first | apply zab | apply zac | apply zae)); exact HO1.out)⟩, ⟨(by repeat (first | (with_reducible first | exact HB.out | apply zaj | apply zad | apply zai) | exact HB.out))⟩⟩
   ·rw [if_neg c2] at H
    have c2b0 : decide (x3_1 < 4) = false := zbq c2
    have HR := Aside0.mk (HX.out (by omega))
    clear c2 HX
    have H' := Aside0.mk H
    clear H
    go_wp2
    go_loopg [0, 4] k1 (fun kq v0 v4 w' => ∃ (x0_2 : List Int) (x4_2 : Int), v4 = .int .i64 x4_2 ∧ Aside0 (spec_l5Double.l1 kq x0_2 x4_2 = some r) ∧ Aside0 (kq ≤ k1) ∧ Aside0 (Kd.R (Kd.int .i64) 3 w' w.heap.size (fun _ => True) v0 x0_2) ∧ Aside0 (Below w.heap.size w w'))
    case atStart => exact ⟨(x0_1), (0), (by first | rfl | (simp; done) | (simp [*]; done)), H', ⟨zbp _⟩, ⟨(by (with_reducible repeat (first | apply zab | apply zac | apply zae)); exact HR.out)⟩, ⟨(by repeat (first | (with_reducible first | exact HB.out | apply zaj | apply zad | apply zai) | exact HB.out))⟩⟩
    case round =>
     clear H' HR HO_0
     try clear c2b0
     obtain ⟨x0_2, x4_2, rfl, HA, HK2, HO_0, HB⟩ := hrel
     cases gk with
     | zero => exact absurd HA.out (by simp [spec_l5Double.l1])
     | succ k2 =>
      have H := HA.out
      clear HA
      simp only [spec_l5Double.l1] at H
      by_cases c6 : x4_2 < 4
      ·rw [if_pos c6] at H
       have c6b0 : decide (x4_2 < 4) = true := zax c6
       clear c6
       obtain ⟨t355, A70, H⟩ := zam.mp H
       have H' := Aside0.mk (show (spec_l5Double.l1 k2 t355 (wrap64 (x4_2 + 1))) = some r from H)
       have A7 := Aside0.mk A70
       clear A70 H
       obtain ⟨Ao_, co_, eo8⟩ := zbe HO_0.out
       subst eo8
       go_wp2_with (((with_reducible refine zau (f := 17) rfl ?_); refine goesL_ (some 36) rfl rfl Try.func17 (by kernel_rfl) rfl #[.slice Ao_ x0_2.length co_, .int .i64 x4_2, .int .i64 (wrap64 (4 + (Int.tmod (wrap64 (x4_2 + 1)) 4))), .int .i64 (wrap64 (8 + (Int.tmod (wrap64 (x4_2 + 2)) 4))), .int .i64 (wrap64 (12 + (Int.tmod (wrap64 (x4_2 + 3)) 4)))] rfl (by (try simp only [zal, zaq, zar]); first | done | rfl) ?_; (with_reducible refine (spec_Quarter.calls k2 _ _ x0_2 x4_2 (wrap64 (4 + (Int.tmod (wrap64 (x4_2 + 1)) 4))) (wrap64 (8 + (Int.tmod (wrap64 (x4_2 + 2)) 4))) (wrap64 (12 + (Int.tmod (wrap64 (x4_2 + 3)) 4))) t355 _ ?side1 ?side2 A7.out).mono ?_); (case side1 => repeat (first | exact (zaf HO_0.out).2.2 | (with_reducible first | apply zas | apply zat | apply zaw))); (case side2 => exact (zaf HO_0.out).2.1); rintro e w5 ⟨v353, rfl, ho0, hb⟩; refine ⟨_, rfl, ?_⟩; have n1_ := Aside0.mk (zbc ho0 (zba (by repeat (first | (with_reducible first | exact HB.out | apply zaj | apply zad | apply zai) | exact HB.out)))); have n2_ := Aside0.mk (zbb (by repeat (first | (with_reducible first | exact HB.out | apply zaj | apply zad | apply zai) | exact HB.out)) hb); clear HO_0 HB; have HO1 := n1_; have HB := n2_; clear n1_ n2_ hb ho0))
       go_roundg k2
       case measure => have := HK1.out; have := HK2.out; omega
       case rel => exact ⟨(t355), (wrap64 (x4_2 + 1)), (by first | rfl | (simp; done) | (simp [*]; done)), H', ⟨by have := HK1.out; have := HK2.out; omega⟩, ⟨(by (with_reducible repeat (first | apply zab | apply zac | apply zae)); exact HO1.out)⟩, ⟨(by repeat (first | (with_reducible first | exact HB.out | apply zaj | apply zad | apply zai) | exact HB.out))⟩⟩
      ·rw [if_neg c6] at H
       have c6b0 : decide (x4_2 < 4) = false := zbq c6
       clear c6
       obtain rfl := Option.some.inj H
       go_wp2
       go_ret
       exact ⟨_, rfl, (by (with_reducible repeat (first | apply zab | apply zac | apply zae)); exact HO_0.out), (by repeat (first | (with_reducible first | exact HB.out | apply zaj | apply zad | apply zai) | exact HB.out))⟩
mutual
def spec_Little.j0 : Nat → Int → Int → List Int → Bool → Option (List Int)
 | 0, _, _, _, _ => none
 | k + 1, x0, x1, x5, x14 => if x14 = true then (some x5) else (spec_Little.l0 k x0 x1 x5 0)
def spec_Little.l0 : Nat → Int → Int → List Int → Int → Option (List Int)
 | 0, _, _, _, _ => none
 | k + 1, x0, x1, x5, x6 => if x6 < x1 then (if x5.length < 140737488355328 then (spec_Little.l0 k (x0 / 256) x1 (x5 ++ [(Go.bits .and .i64 x0 255) % 256]) (wrap64 (x6 + 1))) else (none)) else (some x5)
end
def spec_Little.f (k : Nat) (a0 : Int) (a1 : Int) : Option (List Int) := (some (([] : List Int) : List Int)).bind fun y352 => (if a0 < 0 then (spec_Little.j0 k a0 a1 y352 true) else ((spec_l1In.f a1 1 8).bind fun t355 => (spec_Little.j0 k a0 a1 y352 (!t355))))
theorem spec_Little.mono_l : ∀ k, (∀ y0 y1 y2 y3, LeO (spec_Little.j0 k y0 y1 y2 y3) (spec_Little.j0 (k + 1) y0 y1 y2 y3)) ∧ (∀ y0 y1 y2 y3, LeO (spec_Little.l0 k y0 y1 y2 y3) (spec_Little.l0 (k + 1) y0 y1 y2 y3))
 | 0 => ⟨fun _ _ _ _ r h => by simp [spec_Little.j0] at h, fun _ _ _ _ r h => by simp [spec_Little.l0] at h⟩
 | k + 1 => by
  obtain ⟨ih0, ih1⟩ := spec_Little.mono_l k
  refine ⟨?_, ?_⟩
  ·intro y0 y1 y2 y3
   unfold spec_Little.j0
   repeat' first
   | (with_reducible exact ih0 _ _ _ _)
   | (with_reducible exact ih1 _ _ _ _)
   | (with_reducible exact zcc _)
   | (with_reducible exact zcg _)
   | (with_reducible refine zcr ?_ ?_)
   | (with_reducible refine zcd ?_ (fun _ => ?_))
   | exact ih0 _ _ _ _
   | exact ih1 _ _ _ _
  ·intro y0 y1 y2 y3
   unfold spec_Little.l0
   repeat' first
   | (with_reducible exact ih0 _ _ _ _)
   | (with_reducible exact ih1 _ _ _ _)
   | (with_reducible exact zcc _)
   | (with_reducible exact zcg _)
   | (with_reducible refine zcr ?_ ?_)
   | (with_reducible refine zcd ?_ (fun _ => ?_))
   | exact ih0 _ _ _ _
   | exact ih1 _ _ _ _
theorem spec_Little.mono : ∀ a0 a1 k, LeO (spec_Little.f k a0 a1) (spec_Little.f (k + 1) a0 a1) := by
 intro a0 a1 k
 obtain ⟨ih0, ih1⟩ := spec_Little.mono_l k
 unfold spec_Little.f
 repeat' first
   | (with_reducible exact ih0 _ _ _ _)
   | (with_reducible exact ih1 _ _ _ _)
   | (with_reducible exact zcc _)
   | (with_reducible exact zcg _)
   | (with_reducible refine zcr ?_ ?_)
   | (with_reducible refine zcd ?_ (fun _ => ?_))
   | exact ih0 _ _ _ _
   | exact ih1 _ _ _ _
set_option maxHeartbeats 8000000 in
set_option maxRecDepth 100000 in
theorem spec_Little.calls (k : Nat) (a0 : Int) (a1 : Int) (r : List Int) (w : World) (h : spec_Little.f k a0 a1 = some r) :
  Calls Try.prog 65 #[.int .i64 a0, .int .i64 a1] w fun e w' => ∃ v0_ : Value, e = .returned (v0_) ∧ Kd.R (Kd.int .u8) 5 w' w.heap.size (fun _ => True) v0_ r ∧ Below w.heap.size w w' := by
 have HB := Aside0.mk (zbx w.heap.size w)
 have H : ((some (([] : List Int) : List Int)).bind fun y352 => (if a0 < 0 then (spec_Little.j0 k a0 a1 y352 true) else ((spec_l1In.f a1 1 8).bind fun t355 => (spec_Little.j0 k a0 a1 y352 (!t355))))) = some r := h
 clear h
 obtain ⟨y352, hy352⟩ : ∃ y_ : List Int, y_ = (([] : List Int)) := ⟨_, rfl⟩
 replace H : (if a0 < 0 then (spec_Little.j0 k a0 a1 y352 true) else ((spec_l1In.f a1 1 8).bind fun t355 => (spec_Little.j0 k a0 a1 y352 (!t355)))) = some r := by first | (rw [hy352]; with_reducible first | exact H | exact bind_ofs H) | (with_reducible first | exact H | exact bind_ofs H) | (rw [hy352]; exact H) | exact H
 have Ny352 := Aside0.mk hy352
 clear hy352
 have HC3 := Aside0.mk H
 clear H
 go_enter Try.func65, Try.ntmps65
 go_upto_region 2 with (first | ((with_reducible refine zds (N := 7) rfl ?_); refine zec (Kd.int .u8) _ 5 ?hg (N := 7) ?hd (xs := ([] : List Int)) (inner := []) (ok := fun _ => True) (okp := fun _ => True) ?hr ?hp (fun _ hk => hk) trivial (zbx _ _) (zbp _) (by simp) ?_; (case hd => rfl); (case hg => rfl); (case hr => first | (go_simp; done) | (go_simp; rfl)); (case hp => exact (zdp _ _)); intro v353 w4 ho5 hb hg_ hnew_; have xb_ := below_ofs (by repeat (first | (with_reducible first | exact HB.out | apply zaj | apply zad | apply zai) | exact HB.out)) hb; clear hg_ hnew_; (first | rw [← Ny352.out] at ho5 | (simp only [Int.reduceToNat] at ho5; rw [← Ny352.out] at ho5)); have n0_ := Aside0.mk (zbc ho5 (zba xb_)); have n1_ := Aside0.mk (zbb xb_ hb); clear HB; have HO354 := n0_; have HB := n1_; clear n0_ n1_; clear xb_ hb ho5))
 (try simp only [Act.put, zaa, zag, zah])
 go_cut [14] (fun v14 wc => ∃ (kq : Nat) (x14_2 : Bool), v14 = .bool x14_2 ∧ Aside0 (spec_Little.j0 kq a0 a1 y352 x14_2 = some r) ∧ Aside0 (kq ≤ k) ∧ Aside0 (Kd.R (Kd.int .u8) 5 wc w.heap.size (fun _ => True) v353 y352) ∧ Aside0 (Below w.heap.size w wc))
 case first =>
  have H := HC3.out
  clear HC3
  by_cases c6 : a0 < 0
  ·rw [if_pos c6] at H
   have c6b0 : decide (a0 < 0) = true := zax c6
   clear c6
   (first | rw [c6b0] | (simp only [i64_w, i32_w]; rw [c6b0]) | skip)
   have H' := Aside0.mk H
   clear H
   go_wp2
   go_meet
   case rel => exact ⟨_, (true), (by first | rfl | (simp; done) | (simp [*]; done)), H', ⟨by first | omega | exact zbp _⟩, ⟨by (with_reducible repeat (first | apply zab | apply zac | apply zae)); exact HO354.out⟩, ⟨by repeat (first | (with_reducible first | exact HB.out | apply zaj | apply zad | apply zai) | exact HB.out)⟩⟩
  ·rw [if_neg c6] at H
   have c6b0 : decide (a0 < 0) = false := zbq c6
   clear c6
   (first | rw [c6b0] | (simp only [i64_w, i32_w]; rw [c6b0]) | skip)
   replace H := zam.mp H
   obtain ⟨t355, A70, H⟩ := H
   try dsimp only at H
   have A7 := Aside0.mk A70
   clear A70
   have H' := Aside0.mk H
   clear H
   go_wp2_with (first | (go_at_call 37; (with_reducible refine (spec_l1In.calls a1 1 8 t355 _ A7.out).mono ?_); rintro e w' ⟨rfl, ⟨nd, rfl⟩⟩))
   go_meet
   case rel => exact ⟨_, (!t355), (by first | rfl | (simp; done) | (simp [*]; done)), H', ⟨by first | omega | exact zbp _⟩, ⟨by (with_reducible repeat (first | apply zab | apply zac | apply zae)); exact HO354.out⟩, ⟨by repeat (first | (with_reducible first | exact HB.out | apply zaj | apply zad | apply zai) | exact HB.out)⟩⟩
 case rest =>
  clear HC3
  try clear p2
  try clear c6
  try clear c6b0
  obtain ⟨kq, x14_2, rfl, HA, HJ2, HO_5, HB⟩ := hcut
  cases kq with
  | zero => exact absurd HA.out (by simp [spec_Little.j0])
  | succ kj2 =>
   have H := HA.out
   clear HA
   simp only [spec_Little.j0] at H
   by_cases c8 : x14_2 = true
   ·subst c8
    have H1 : (some y352) = some r := by rw [if_pos rfl] at H; exact H
    clear H
    have H := H1
    clear H1
    obtain rfl := Option.some.inj H
    go_wp2
    go_ret
    exact ⟨_, by first | rfl | (simp [zbj, zbk] <;> rfl) | (simp [*, zbj, zbk] <;> rfl), by (with_reducible repeat (first | apply zab | apply zac | apply zae)); exact HO_5.out, by repeat (first | (with_reducible first | exact HB.out | apply zaj | apply zad | apply zai) | exact HB.out)⟩
   ·replace c8 := zbu.mpr c8
    subst c8
    have H1 : (spec_Little.l0 kj2 a0 a1 y352 0) = some r := by rw [if_neg (show ¬ (false = true) by decide)] at H; exact H
    clear H
    have H := H1
    clear H1
    have H' := Aside0.mk H
    clear H
    go_wp2
    go_loopg [0, 5, 6] kj2 (fun kq v0 v5 v6 w' => ∃ (x0_2 : Int) (x5_2 : List Int) (x6_2 : Int), v0 = .int .i64 x0_2 ∧ v6 = .int .i64 x6_2 ∧ Aside0 (spec_Little.l0 kq x0_2 a1 x5_2 x6_2 = some r) ∧ Aside0 (kq ≤ kj2) ∧ Aside0 (Kd.R (Kd.int .u8) 5 w' w.heap.size (fun _ => True) v5 x5_2) ∧ Aside0 (Below w.heap.size w w'))
    case atStart => exact ⟨(a0), (y352), (0), (by first | rfl | (simp; done) | (simp [*]; done)), (by first | rfl | (simp; done) | (simp [*]; done)), H', ⟨zbp _⟩, ⟨by (with_reducible repeat (first | apply zab | apply zac | apply zae)); exact HO_5.out⟩, ⟨by repeat (first | (with_reducible first | exact HB.out | apply zaj | apply zad | apply zai) | exact HB.out)⟩⟩
    case round =>
     clear H'
     try clear p2
     try clear c6
     try clear c6b0
     try clear c8
     try clear p2
     obtain ⟨x0_2, x5_2, x6_2, rfl, rfl, HA, HK2, HO_5, HB⟩ := hrel
     cases gk with
     | zero => exact absurd HA.out (by simp [spec_Little.l0])
     | succ k2 =>
      have H := HA.out
      clear HA
      simp only [spec_Little.l0] at H
      by_cases c9 : x6_2 < a1
      ·rw [if_pos c9] at H
       have c9b0 : decide (x6_2 < a1) = true := zax c9
       clear c9
       by_cases c10 : x5_2.length < 140737488355328
       ·rw [if_pos c10] at H
        have LMc10 := Aside0.mk c10
        clear c10
        obtain ⟨y356, hy356⟩ : ∃ y_ : List Int, y_ = (x5_2 ++ [(Go.bits .and .i64 x0_2 255) % 256]) := ⟨_, rfl⟩
        replace H : (spec_Little.l0 k2 (x0_2 / 256) a1 y356 (wrap64 (x6_2 + 1))) = some r := by first | (rw [hy356]; with_reducible first | exact H | exact bind_ofs H) | (with_reducible first | exact H | exact bind_ofs H) | (rw [hy356]; exact H) | exact H
        have Ny356 := Aside0.mk hy356
        clear hy356
        have H' := Aside0.mk H
        clear H
        go_wp2_with (first | ((with_reducible refine zdk (b := .append) (xs := #[.tmp 21, .tmp 25]) rfl ?_); at_builtin; refine Kd.R_append (Kd.int .u8) (w0 := w) w.heap.size rfl (.tmp 21) (.tmp 25) 22 5 (.int .u8 0) 1 rfl Try.underlying22 info5 rfl (by decide) (by omega) u5 x5_2 ((Go.bits .and .i64 x0_2 255) % 256) [.int .u8 ((Go.bits .and .i64 x0_2 255) % 256)] (fun _ => True) (fun _ => False) rfl rfl ?aP (fun _ hk => hk.elim) ?aF ?aO ?aB ?aS ?aL ?_; (case aP => exact rfl); (case aB => exact (by repeat (first | (with_reducible first | exact HB.out | apply zaj | apply zad | apply zai) | exact HB.out))); (case aF => exact (fun _ _ => trivial)); (case aO => exact (by (with_reducible repeat (first | apply zab | apply zac | apply zae)); exact HO_5.out)); (case aS => exact (zba (by repeat (first | (with_reducible first | exact HB.out | apply zaj | apply zad | apply zai) | exact HB.out)))); (case aL => have := LMc10.out; omega); intro v357 w11 ho hb hg hat; rw [← Ny356.out] at ho; have n0_ := Aside0.mk (hb); have n1_ := Aside0.mk (ho); clear HB HO_5; have HB := n0_; have HO358 := n1_; clear n0_ n1_; clear ho hb hg hat))
        go_roundg k2
        case measure => have := HJ2.out; have := HK2.out; omega
        case rel => exact ⟨(x0_2 / 256), (y356), (wrap64 (x6_2 + 1)), (by first | rfl | (simp; done) | (simp [*]; done)), (by first | rfl | (simp; done) | (simp [*]; done)), H', ⟨by have := HJ2.out; have := HK2.out; omega⟩, ⟨by (with_reducible repeat (first | apply zab | apply zac | apply zae)); exact HO358.out⟩, ⟨by repeat (first | (with_reducible first | exact HB.out | apply zaj | apply zad | apply zai) | exact HB.out)⟩⟩
       ·rw [if_neg c10] at H
        exact absurd H (by simp)
      ·rw [if_neg c9] at H
       have c9b0 : decide (x6_2 < a1) = false := zbq c9
       clear c9
       obtain rfl := Option.some.inj H
       go_wp2
       go_ret
       exact ⟨_, by first | rfl | (simp [zbj, zbk] <;> rfl) | (simp [*, zbj, zbk] <;> rfl), by (with_reducible repeat (first | apply zab | apply zac | apply zae)); exact HO_5.out, by repeat (first | (with_reducible first | exact HB.out | apply zaj | apply zad | apply zai) | exact HB.out)⟩
end Go.Proofs.Ytdineaebljpfaaa.P
