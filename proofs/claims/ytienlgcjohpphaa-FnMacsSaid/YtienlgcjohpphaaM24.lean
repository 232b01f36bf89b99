import Derived.Test.YtienlgcjohpphaaM23
namespace Go.Proofs.Ytienlgcjohpphaa.P
open Go.RowKit Go.Proofs.YtienlgcjohpphaaW.PrintWords Go.Proofs.YtienlgcjohpphaaW.PrintLast Go.Proofs.YtienlgcjohpphaaW.PrintMore
attribute [local go_sem] zdd zde zdy zdz zcb zcc zdf zdg   -- for this text's walks alone
set_option linter.unusedVariables false
set_option linter.unusedSimpArgs false

mutual
def spec_Mac.j0 : Nat → List Int → List Int → Bool → Option (List Int)
 | 0, _, _, _ => none
 | k + 1, x0, x1, x16 => if x16 = true then (some (([] : List Int))) else ((some (([] : List Int) : List Int)).bind fun y736 => (if y736.length + x0.length < 140737488355328 then ((some (y736 ++ x0 : List Int)).bind fun y739 => (if (y739.length : Int) > 64 then ((spec_Hash.f k y739).bind fun t742 => (spec_Mac.j1 k x1 t742)) else (spec_Mac.j1 k x1 y739))) else (none)))
def spec_Mac.j1 : Nat → List Int → List Int → Option (List Int)
 | 0, _, _ => none
 | k + 1, x1, x5 => spec_Mac.l0 k x1 x5
def spec_Mac.l0 : Nat → List Int → List Int → Option (List Int)
 | 0, _, _ => none
 | k + 1, x1, x5 => if (x5.length : Int) < 64 then (if x5.length < 140737488355328 then (spec_Mac.l0 k x1 (x5 ++ [0])) else (none)) else (spec_Mac.l1 k x1 x5 (([] : List Int)) (([] : List Int)) 0)
def spec_Mac.l1 : Nat → List Int → List Int → List Int → List Int → Int → Option (List Int)
 | 0, _, _, _, _, _ => none
 | k + 1, x1, x5, x6, x7, x8 => if x8 < 64 then (if 0 ≤ x8 then (if x8 < (x5.length : Int) then (if x6.length < 140737488355328 then (if x7.length < 140737488355328 then (spec_Mac.l1 k x1 x5 (x6 ++ [Go.bits .xor .u8 (rd x5 x8) 54]) (x7 ++ [Go.bits .xor .u8 (rd x5 x8) 92]) (wrap64 (x8 + 1))) else (none)) else (none)) else (none)) else (none)) else (if x6.length + x1.length < 140737488355328 then ((spec_Hash.f k (x6 ++ x1)).bind fun t765 => (if x7.length + t765.length < 140737488355328 then ((spec_Hash.f k (x7 ++ t765)).bind fun t771 => (some t771)) else (none))) else (none))
end
def spec_Mac.f (k : Nat) (l0 : List Int) (l1 : List Int) : Option (List Int) := if (l0.length : Int) > 3936 then (spec_Mac.j0 k l0 l1 true) else (spec_Mac.j0 k l0 l1 (decide ((l1.length : Int) > 3936)))
theorem spec_Mac.mono_l : ∀ k, (∀ y0 y1 y2, LeO (spec_Mac.j0 k y0 y1 y2) (spec_Mac.j0 (k + 1) y0 y1 y2)) ∧ (∀ y0 y1, LeO (spec_Mac.j1 k y0 y1) (spec_Mac.j1 (k + 1) y0 y1)) ∧ (∀ y0 y1, LeO (spec_Mac.l0 k y0 y1) (spec_Mac.l0 (k + 1) y0 y1)) ∧ (∀ y0 y1 y2 y3 y4, LeO (spec_Mac.l1 k y0 y1 y2 y3 y4) (spec_Mac.l1 (k + 1) y0 y1 y2 y3 y4))
 | 0 => ⟨fun _ _ _ r h => by simp [spec_Mac.j0] at h, fun _ _ r h => by simp [spec_Mac.j1] at h, fun _ _ r h => by simp [spec_Mac.l0] at h, fun _ _ _ _ _ r h => by simp [spec_Mac.l1] at h⟩
 | k + 1 => by
  obtain ⟨ih0, ih1, ih2, ih3⟩ := spec_Mac.mono_l k
  refine ⟨?_, ?_, ?_, ?_⟩
  ·intro y0 y1 y2
   unfold spec_Mac.j0
   repeat' first
   | (with_reducible exact ih0 _ _ _)
   | (with_reducible exact ih1 _ _)
   | (with_reducible exact ih2 _ _)
   | (with_reducible exact ih3 _ _ _ _ _)
   | (with_reducible exact spec_Hash.mono _ _)
   | (with_reducible exact zcf _)
   | (with_reducible exact zcj _)
   | (with_reducible refine zdp ?_ ?_)
   | (with_reducible refine zcg ?_ (fun _ => ?_))
   | exact ih0 _ _ _
   | exact ih1 _ _
   | exact ih2 _ _
   | exact ih3 _ _ _ _ _
  ·intro y0 y1
   unfold spec_Mac.j1
   repeat' first
   | (with_reducible exact ih0 _ _ _)
   | (with_reducible exact ih1 _ _)
   | (with_reducible exact ih2 _ _)
   | (with_reducible exact ih3 _ _ _ _ _)
   | (with_reducible exact spec_Hash.mono _ _)
   | (with_reducible exact zcf _)
   | (with_reducible exact zcj _)
   | (with_reducible refine zdp ?_ ?_)
   | (with_reducible refine zcg ?_ (fun _ => ?_))
   | exact ih0 _ _ _
   | exact ih1 _ _
   | exact ih2 _ _
   | exact ih3 _ _ _ _ _
  ·intro y0 y1
   unfold spec_Mac.l0
   repeat' first
   | (with_reducible exact ih0 _ _ _)
   | (with_reducible exact ih1 _ _)
   | (with_reducible exact ih2 _ _)
   | (with_reducible exact ih3 _ _ _ _ _)
   | (with_reducible exact spec_Hash.mono _ _)
   | (with_reducible exact zcf _)
   | (with_reducible exact zcj _)
   | (with_reducible refine zdp ?_ ?_)
   | (with_reducible refine zcg ?_ (fun _ => ?_))
   | exact ih0 _ _ _
   | exact ih1 _ _
   | exact ih2 _ _
   | exact ih3 _ _ _ _ _
  ·intro y0 y1 y2 y3 y4
   unfold spec_Mac.l1
   repeat' first
   | (with_reducible exact ih0 _ _ _)
   | (with_reducible exact ih1 _ _)
   | (with_reducible exact ih2 _ _)
   | (with_reducible exact ih3 _ _ _ _ _)
   | (with_reducible exact spec_Hash.mono _ _)
   | (with_reducible exact zcf _)
   | (with_reducible exact zcj _)
   | (with_reducible refine zdp ?_ ?_)
   | (with_reducible refine zcg ?_ (fun _ => ?_))
   | exact ih0 _ _ _
   | exact ih1 _ _
   | exact ih2 _ _
   | exact ih3 _ _ _ _ _
theorem spec_Mac.mono : ∀ a0 a1 k, LeO (spec_Mac.f k a0 a1) (spec_Mac.f (k + 1) a0 a1) := by
 intro a0 a1 k
 obtain ⟨ih0, ih1, ih2, ih3⟩ := spec_Mac.mono_l k
 unfold spec_Mac.f
 repeat' first
   | (with_reducible exact ih0 _ _ _)
   | (with_reducible exact ih1 _ _)
   | (with_reducible exact ih2 _ _)
   | (with_reducible exact ih3 _ _ _ _ _)
   | (with_reducible exact spec_Hash.mono _ _)
   | (with_reducible exact zcf _)
   | (with_reducible exact zcj _)
   | (with_reducible refine zdp ?_ ?_)
   | (with_reducible refine zcg ?_ (fun _ => ?_))
   | exact ih0 _ _ _
   | exact ih1 _ _
   | exact ih2 _ _
   | exact ih3 _ _ _ _ _
set_option maxHeartbeats 8000000 in
set_option maxRecDepth 100000 in
theorem spec_Mac.calls (k : Nat) (A0 : Option Addr) (c0 : Nat) (l0 : List Int) (A1 : Option Addr) (c1 : Nat) (l1 : List Int) (r : List Int) (w : World) (hr0 : Kd.C (Kd.int .u8) w A0 l0.length l0) (hc0 : l0.length ≤ c0) (hr1 : Kd.C (Kd.int .u8) w A1 l1.length l1) (hc1 : l1.length ≤ c1) (h : spec_Mac.f k l0 l1 = some r) :
  Calls Try.prog 37 #[.slice A0 l0.length c0, .slice A1 l1.length c1] w fun e w' => ∃ v0_ : Value, e = .returned (v0_) ∧ Kd.R (Kd.int .u8) 5 w' w.heap.size (fun _ => True) v0_ r ∧ Below w.heap.size w w' := by
 have HR0 := Aside0.mk hr0
 have HC0 := Aside0.mk hc0
 clear hr0 hc0
 have HR1 := Aside0.mk hr1
 have HC1 := Aside0.mk hc1
 clear hr1 hc1
 have HB := Aside0.mk (zbq w.heap.size w)
 have H : (if (l0.length : Int) > 3936 then (spec_Mac.j0 k l0 l1 true) else (spec_Mac.j0 k l0 l1 (decide ((l1.length : Int) > 3936)))) = some r := h
 clear h
 have HC3 := Aside0.mk H
 clear H
 go_enter Try.func37, Try.ntmps37
 go_upto_region 1 with (fail)
 go_cut [16] (fun v16 wc => ∃ (kq : Nat) (x16_2 : Bool), v16 = .bool x16_2 ∧ Aside0 (spec_Mac.j0 kq l0 l1 x16_2 = some r) ∧ Aside0 (kq ≤ k) ∧ Aside0 (Below w.heap.size w wc))
 case first =>
  have H := HC3.out
  clear HC3
  by_cases c4 : (l0.length : Int) > 3936
  ·rw [if_pos c4] at H
   have c4b0 : decide (3936 < (l0.length : Int)) = true := zaq c4
   have c4b1 : decide (3936 < l0.length) = true := zaq (by omega)
   clear c4
   (first | rw [c4b0] | (simp only [i64_w, i32_w]; rw [c4b0]) | skip)
   have H' := Aside0.mk H
   clear H
   go_wp2
   go_meet
   case rel => exact ⟨_, (true), (by first | rfl | (simp; done) | (simp [*]; done)), H', ⟨by first | omega | exact zbi _⟩, ⟨by repeat (first | (with_reducible first | exact HB.out | apply zai | apply zad | apply zah) | exact HB.out)⟩⟩
  ·rw [if_neg c4] at H
   have c4b0 : decide (3936 < (l0.length : Int)) = false := zbr c4
   have c4b1 : decide (3936 < l0.length) = false := zbr (by omega)
   clear c4
   (first | rw [c4b0] | (simp only [i64_w, i32_w]; rw [c4b0]) | skip)
   have H' := Aside0.mk H
   clear H
   go_wp2
   go_meet
   case rel => exact ⟨_, (decide ((l1.length : Int) > 3936)), (by first | rfl | (simp; done) | (simp [*]; done)), H', ⟨by first | omega | exact zbi _⟩, ⟨by repeat (first | (with_reducible first | exact HB.out | apply zai | apply zad | apply zah) | exact HB.out)⟩⟩
 case rest =>
  clear HC3
  try clear c1
  try clear p2
  try clear c3
  try clear c4
  try clear c4b0
  try clear c4b1
  obtain ⟨kq, x16_2, rfl, HA, HJ2, HB⟩ := hcut
  cases kq with
  | zero => exact absurd HA.out (by simp [spec_Mac.j0])
  | succ kj2 =>
   have H := HA.out
   clear HA
   simp only [spec_Mac.j0] at H
   by_cases c5 : x16_2 = true
   ·subst c5
    have H1 : (some (([] : List Int))) = some r := by rw [if_pos rfl] at H; exact H
    clear H
    have H := H1
    clear H1
    obtain ⟨y733, hy733⟩ : ∃ y_ : List Int, y_ = (([] : List Int)) := ⟨_, rfl⟩
    replace H : (some y733) = some r := by first | (rw [hy733]; with_reducible first | exact H | exact bind_ofs H) | (with_reducible first | exact H | exact bind_ofs H) | (rw [hy733]; exact H) | exact H
    have Ny733 := Aside0.mk hy733
    clear hy733
    obtain rfl := Option.some.inj H
    go_wp2_with (first | ((with_reducible refine zdt (N := 17) rfl ?_); (try (refine zeg (by rfl) ?_; dsimp only)); refine zen (Kd.int .u8) _ 5 ?hg (N := 17) ?hd (xs := ([] : List Int)) (inner := []) (ok := fun _ => True) (okp := fun _ => True) ?hr ?hp (fun _ hk => hk) zbw (zbq _ _) (zbi _) (by simp) ?_; (case hd => rfl); (case hg => rfl); (case hr => first | (go_simp; done) | (go_simp; rfl)); (case hp => exact (zdq _ _)); intro v734 w6 ho7 hb hg_ hnew_; have xb_ := below_ofs (by repeat (first | (with_reducible first | exact HB.out | apply zai | apply zad | apply zah) | exact HB.out)) hb; clear hg_ hnew_; (first | rw [← Ny733.out] at ho7 | (simp only [Int.reduceToNat] at ho7; rw [← Ny733.out] at ho7)); have n0_ := Aside0.mk (zbj ho7 (zax xb_)); have n1_ := Aside0.mk (zbf xb_ hb); clear HB; have HO735 := n0_; have HB := n1_; clear n0_ n1_; clear xb_ hb ho7))
    go_ret
    exact ⟨_, by first | rfl | (simp [zbk, zbl] <;> rfl) | (simp [*, zbk, zbl] <;> rfl), by (with_reducible repeat (first | apply zab | apply zac | apply zae)); exact HO735.out, by repeat (first | (with_reducible first | exact HB.out | apply zai | apply zad | apply zah) | exact HB.out)⟩
   ·replace c5 := zcv.mpr c5
    subst c5
    have H1 : ((some (([] : List Int) : List Int)).bind fun y736 => (if y736.length + l0.length < 140737488355328 then ((some (y736 ++ l0 : List Int)).bind fun y739 => (if (y739.length : Int) > 64 then ((spec_Hash.f kj2 y739).bind fun t742 => (spec_Mac.j1 kj2 l1 t742)) else (spec_Mac.j1 kj2 l1 y739))) else (none))) = some r := by rw [if_neg (show ¬ (false = true) by decide)] at H; exact H
    clear H
    have H := H1
    clear H1
    obtain ⟨y736, hy736⟩ : ∃ y_ : List Int, y_ = (([] : List Int)) := ⟨_, rfl⟩
    replace H : (if y736.length + l0.length < 140737488355328 then ((some (y736 ++ l0 : List Int)).bind fun y739 => (if (y739.length : Int) > 64 then ((spec_Hash.f kj2 y739).bind fun t742 => (spec_Mac.j1 kj2 l1 t742)) else (spec_Mac.j1 kj2 l1 y739))) else (none)) = some r := by first | (rw [hy736]; with_reducible first | exact H | exact bind_ofs H) | (with_reducible first | exact H | exact bind_ofs H) | (rw [hy736]; exact H) | exact H
    have Ny736 := Aside0.mk hy736
    clear hy736
    by_cases c8 : y736.length + l0.length < 140737488355328
    ·rw [if_pos c8] at H
     have LMc8 := Aside0.mk c8
     clear c8
     obtain ⟨y739, hy739⟩ : ∃ y_ : List Int, y_ = (y736 ++ l0) := ⟨_, rfl⟩
     replace H : (if (y739.length : Int) > 64 then ((spec_Hash.f kj2 y739).bind fun t742 => (spec_Mac.j1 kj2 l1 t742)) else (spec_Mac.j1 kj2 l1 y739)) = some r := by first | (rw [hy739]; with_reducible first | exact H | exact bind_ofs H) | (with_reducible first | exact H | exact bind_ofs H) | (rw [hy739]; exact H) | exact H
     have Ny739 := Aside0.mk hy739
     clear hy739
     have HC9 := Aside0.mk H
     clear H
     go_upto_if 23 with (first | ((with_reducible refine zdt (N := 18) rfl ?_); (try (refine zeg (by rfl) ?_; dsimp only)); refine zen (Kd.int .u8) _ 5 ?hg (N := 18) ?hd (xs := ([] : List Int)) (inner := []) (ok := fun _ => True) (okp := fun _ => True) ?hr ?hp (fun _ hk => hk) zbw (zbq _ _) (zbi _) (by simp) ?_; (case hd => rfl); (case hg => rfl); (case hr => first | (go_simp; done) | (go_simp; rfl)); (case hp => exact (zdq _ _)); intro v737 w10 ho11 hb hg_ hnew_; have xb_ := below_ofs (by repeat (first | (with_reducible first | exact HB.out | apply zai | apply zad | apply zah) | exact HB.out)) hb; clear hg_ hnew_; (first | rw [← Ny736.out] at ho11 | (simp only [Int.reduceToNat] at ho11; rw [← Ny736.out] at ho11)); have n0_ := Aside0.mk (zbj ho11 (zax xb_)); have n1_ := Aside0.mk (zbf xb_ hb); clear HB; have HO738 := n0_; have HB := n1_; clear n0_ n1_; clear xb_ hb ho11) | ((with_reducible refine zdr (b := .append) (xs := #[.tmp 18, .tmp 19]) rfl ?_); (try (refine zeg (by rfl) ?_; dsimp only)); at_builtin; refine zei (Kd.int .u8) (w0 := w) w.heap.size rfl (.tmp 18) (.tmp 19) 23 5 (.int .u8 0) 1 rfl Try.underlying23 info5 rfl (by decide) (by omega) v737 y736 l0 _ _ _ (fun _ => True) (fun _ => False) rfl rfl ?aO ?aR (fun _ _ h => h) (fun _ h => h.elim) ?aF ?aB ?aS ?aL ?_; (case aR => repeat (first | exact (zey HR0.out HB.out) | (with_reducible first | apply zba | apply zbb | apply zbg))); (case aB => exact (by repeat (first | (with_reducible first | exact HB.out | apply zai | apply zad | apply zah) | exact HB.out))); (case aF => exact (fun _ _ => zbw)); (case aO => exact (by (with_reducible repeat (first | apply zab | apply zac | apply zae)); exact HO738.out)); (case aS => exact (zax (by repeat (first | (with_reducible first | exact HB.out | apply zai | apply zad | apply zah) | exact HB.out)))); (case aL => have := LMc8.out; omega); intro v740 w12 ho hb hg hat; rw [← Ny739.out] at ho; have n0_ := Aside0.mk (hb); have n1_ := Aside0.mk (ho); clear HB HO738; have HB := n0_; have HO741 := n1_; clear n0_ n1_; clear ho hb hg hat; obtain ⟨Ao13, co13, eo13⟩ := zbm HO741.out; subst eo13))
     (try simp only [Act.put, zaa, zaf, zag])
     go_cut [5] (fun v5 wc => ∃ (kq : Nat) (x5_8 : List Int), Aside0 (spec_Mac.j1 kq l1 x5_8 = some r) ∧ Aside0 (kq ≤ kj2) ∧ Aside0 (Kd.R (Kd.int .u8) 5 wc w.heap.size (fun _ => True) v5 x5_8) ∧ Aside0 (Below w.heap.size w wc))
     case first =>
      have H := HC9.out
      clear HC9
      by_cases c14 : (y739.length : Int) > 64
      ·rw [if_pos c14] at H
       have c14b0 : decide (64 < (y739.length : Int)) = true := zaq c14
       have c14b1 : decide (64 < y739.length) = true := zaq (by omega)
       clear c14
       (first | rw [c14b0] | (simp only [i64_w, i32_w]; rw [c14b0]) | skip)
       replace H := zaj.mp H
       obtain ⟨t742, A150, H⟩ := H
       try dsimp only at H
       have A15 := Aside0.mk A150
       clear A150
       have H' := Aside0.mk H
       clear H
       go_wp2_with (first | ((with_reducible refine zbc (f := 24) rfl ?_); refine goesL_ (some 25) rfl rfl Try.func24 (by kernel_rfl) rfl #[.slice Ao13 y739.length co13] rfl (by (try simp only [zap, zau, zav]); first | done | rfl) ?_; (with_reducible refine (spec_Hash.calls kj2 _ _ y739 t742 _ ?side1 ?side2 A15.out).mono ?_); (case side1 => repeat (first | exact (zao HO741.out).2.2 | (with_reducible first | apply zba | apply zbb | apply zbg))); (case side2 => exact (zao HO741.out).2.1); rintro e w16 ⟨v743, rfl, ho0, hb⟩; refine ⟨_, rfl, ?_⟩; have xb_ := below_ofs (by repeat (first | (with_reducible first | exact HB.out | apply zai | apply zad | apply zah) | exact HB.out)) hb; have qHO741 := Kd.R_ofs (by (with_reducible repeat (first | apply zab | apply zac | apply zae)); exact HO741.out) hb; have n0_ := Aside0.mk (zak qHO741 (zal ho0) hb); have n1_ := Aside0.mk (zbj (zam ho0 (zat qHO741)) (zax xb_)); have n2_ := Aside0.mk (zbf xb_ hb); clear qHO741 HO741; clear HB; have HO741 := n0_; have HO744 := n1_; have HB := n2_; clear n0_ n1_ n2_; clear xb_ hb ho0))
       go_meet
       case rel => exact ⟨_, (t742), H', ⟨by have := HJ2.out; first | omega | exact zbi _⟩, ⟨by (with_reducible repeat (first | apply zab | apply zac | apply zae)); exact zbe HO744.out (fun _ hk => zbw)⟩, ⟨by repeat (first | (with_reducible first | exact HB.out | apply zai | apply zad | apply zah) | exact HB.out)⟩⟩
      ·rw [if_neg c14] at H
       have c14b0 : decide (64 < (y739.length : Int)) = false := zbr c14
       have c14b1 : decide (64 < y739.length) = false := zbr (by omega)
       clear c14
       (first | rw [c14b0] | (simp only [i64_w, i32_w]; rw [c14b0]) | skip)
       have H' := Aside0.mk H
       clear H
       go_wp2
       go_meet
       case rel => exact ⟨_, (y739), H', ⟨by have := HJ2.out; first | omega | exact zbi _⟩, ⟨by (with_reducible repeat (first | apply zab | apply zac | apply zae)); exact HO741.out⟩, ⟨by repeat (first | (with_reducible first | exact HB.out | apply zai | apply zad | apply zah) | exact HB.out)⟩⟩
     case rest =>
      clear HC9
      try clear c1
      try clear c2
      try clear p2
      try clear c3
      try clear c4
      try clear c4b0
      try clear c4b1
      try clear c5
      try clear c8
      try clear c14
      try clear c14b0
      try clear c14b1
      try clear p2
      obtain ⟨kq, x5_8, HA, HJ8, HO_5, HB⟩ := hcut
      cases kq with
      | zero => exact absurd HA.out (by simp [spec_Mac.j1])
      | succ kj8 =>
       have H := HA.out
       clear HA
       simp only [spec_Mac.j1] at H
       have H' := Aside0.mk H
       clear H
       go_wp2
       go_loopg [5] kj8 (fun kq v5 w' => ∃ (x5_3 : List Int), Aside0 (spec_Mac.l0 kq l1 x5_3 = some r) ∧ Aside0 (kq ≤ kj8) ∧ Aside0 (Kd.R (Kd.int .u8) 5 w' w.heap.size (fun _ => True) v5 x5_3) ∧ Aside0 (Below w.heap.size w w'))
       case atStart => exact ⟨(x5_8), H', ⟨zbi _⟩, ⟨by (with_reducible repeat (first | apply zab | apply zac | apply zae)); exact HO_5.out⟩, ⟨by repeat (first | (with_reducible first | exact HB.out | apply zai | apply zad | apply zah) | exact HB.out)⟩⟩
       case round =>
        clear H'
        try clear c1
        try clear c2
        try clear p2
        try clear c3
        try clear c4
        try clear c4b0
        try clear c4b1
        try clear c5
        try clear c8
        try clear c14
        try clear c14b0
        try clear c14b1
        try clear p2
        obtain ⟨x5_3, HA, HK3, HO_5, HB⟩ := hrel
        cases gk with
        | zero => exact absurd HA.out (by simp [spec_Mac.l0])
        | succ k3 =>
         have H := HA.out
         clear HA
         simp only [spec_Mac.l0] at H
         by_cases c17 : (x5_3.length : Int) < 64
         ·rw [if_pos c17] at H
          have c17b0 : decide ((x5_3.length : Int) < 64) = true := zaq c17
          have c17b1 : decide (x5_3.length < 64) = true := zaq (by omega)
          clear c17
          by_cases c18 : x5_3.length < 140737488355328
          ·rw [if_pos c18] at H
           have LMc18 := Aside0.mk c18
           clear c18
           obtain ⟨y745, hy745⟩ : ∃ y_ : List Int, y_ = (x5_3 ++ [0]) := ⟨_, rfl⟩
           replace H : (spec_Mac.l0 k3 l1 y745) = some r := by first | (rw [hy745]; with_reducible first | exact H | exact bind_ofs H) | (with_reducible first | exact H | exact bind_ofs H) | (rw [hy745]; exact H) | exact H
           have Ny745 := Aside0.mk hy745
           clear hy745
           have H' := Aside0.mk H
           clear H
           obtain ⟨Ao19, co19, eo19⟩ := zbm HO_5.out
           subst eo19
           go_wp2_with (first | ((with_reducible refine zdr (b := .append) (xs := #[.tmp 29, .tmp 30]) rfl ?_); (try (refine zeg (by rfl) ?_; dsimp only)); at_builtin; refine zfc (Kd.int .u8) (w0 := w) w.heap.size rfl (.tmp 29) (.tmp 30) 23 5 (.int .u8 0) 1 rfl Try.underlying23 info5 rfl (by decide) (by omega) (.slice Ao19 x5_3.length co19) x5_3 0 [.int .u8 0] (fun _ => True) (fun _ => False) rfl rfl ?aP (fun _ hk => hk.elim) ?aF ?aO ?aB ?aS ?aL ?_; (case aP => exact rfl); (case aB => exact (by repeat (first | (with_reducible first | exact HB.out | apply zai | apply zad | apply zah) | exact HB.out))); (case aF => exact (fun _ _ => zbw)); (case aO => exact (by (with_reducible repeat (first | apply zab | apply zac | apply zae)); exact HO_5.out)); (case aS => exact (zax (by repeat (first | (with_reducible first | exact HB.out | apply zai | apply zad | apply zah) | exact HB.out)))); (case aL => have := LMc18.out; omega); intro v746 w20 ho hb hg hat; rw [← Ny745.out] at ho; have n0_ := Aside0.mk (hb); have n1_ := Aside0.mk (ho); clear HB HO_5; have HB := n0_; have HO747 := n1_; clear n0_ n1_; clear ho hb hg hat))
           go_roundg k3
           case measure => have := HJ2.out; have := HJ8.out; have := HK3.out; omega
           case rel => exact ⟨(y745), H', ⟨by have := HJ2.out; have := HJ8.out; have := HK3.out; omega⟩, ⟨by (with_reducible repeat (first | apply zab | apply zac | apply zae)); exact HO747.out⟩, ⟨by repeat (first | (with_reducible first | exact HB.out | apply zai | apply zad | apply zah) | exact HB.out)⟩⟩
          ·rw [if_neg c18] at H
           exact absurd H (by simp)
         ·rw [if_neg c17] at H
          have c17b0 : decide ((x5_3.length : Int) < 64) = false := zbr c17
          have c17b1 : decide (x5_3.length < 64) = false := zbr (by omega)
          clear c17
          obtain ⟨y748, hy748⟩ : ∃ y_ : List Int, y_ = (([] : List Int)) := ⟨_, rfl⟩
          replace H : (spec_Mac.l1 k3 l1 x5_3 y748 (([] : List Int)) 0) = some r := by first | (rw [hy748]; with_reducible first | exact H | exact bind_ofs H) | (with_reducible first | exact H | exact bind_ofs H) | (rw [hy748]; exact H) | exact H
          have Ny748 := Aside0.mk hy748
          clear hy748
          obtain ⟨y751, hy751⟩ : ∃ y_ : List Int, y_ = (([] : List Int)) := ⟨_, rfl⟩
          replace H : (spec_Mac.l1 k3 l1 x5_3 y748 y751 0) = some r := by first | (rw [hy751]; with_reducible first | exact H | exact bind_ofs H) | (with_reducible first | exact H | exact bind_ofs H) | (rw [hy751]; exact H) | exact H
          have Ny751 := Aside0.mk hy751
          clear hy751
          have H' := Aside0.mk H
          clear H
          obtain ⟨Ao21, co21, eo21⟩ := zbm HO_5.out
          subst eo21
          go_wp2_with (first | ((with_reducible refine zdt (N := 32) rfl ?_); (try (refine zeg (by rfl) ?_; dsimp only)); refine zen (Kd.int .u8) _ 5 ?hg (N := 32) ?hd (xs := ([] : List Int)) (inner := []) (ok := fun _ => True) (okp := fun _ => True) ?hr ?hp (fun _ hk => hk) zbw (zbq _ _) (zbi _) (by simp) ?_; (case hd => rfl); (case hg => rfl); (case hr => first | (go_simp; done) | (go_simp; rfl)); (case hp => exact (zdq _ _)); intro v749 w22 ho23 hb hg_ hnew_; have xb_ := below_ofs (by repeat (first | (with_reducible first | exact HB.out | apply zai | apply zad | apply zah) | exact HB.out)) hb; clear hg_ hnew_; (first | rw [← Ny748.out] at ho23 | (simp only [Int.reduceToNat] at ho23; rw [← Ny748.out] at ho23)); have qHO_5 := Kd.R_ofs (by (with_reducible repeat (first | apply zab | apply zac | apply zae)); exact HO_5.out) hb; have n0_ := Aside0.mk (zak qHO_5 (zal ho23) hb); have n1_ := Aside0.mk (zbj (zam ho23 (zat qHO_5)) (zax xb_)); have n2_ := Aside0.mk (zbf xb_ hb); clear qHO_5 HO_5; clear HB; have HO_5 := n0_; have HO750 := n1_; have HB := n2_; clear n0_ n1_ n2_; clear xb_ hb ho23) | ((with_reducible refine zdt (N := 33) rfl ?_); (try (refine zeg (by rfl) ?_; dsimp only)); refine zen (Kd.int .u8) _ 5 ?hg (N := 33) ?hd (xs := ([] : List Int)) (inner := []) (ok := fun _ => True) (okp := fun _ => True) ?hr ?hp (fun _ hk => hk) zbw (zbq _ _) (zbi _) (by simp) ?_; (case hd => rfl); (case hg => rfl); (case hr => first | (go_simp; done) | (go_simp; rfl)); (case hp => exact (zdq _ _)); intro v752 w24 ho25 hb hg_ hnew_; have xb_ := below_ofs (by repeat (first | (with_reducible first | exact HB.out | apply zai | apply zad | apply zah) | exact HB.out)) hb; clear hg_ hnew_; (first | rw [← Ny751.out] at ho25 | (simp only [Int.reduceToNat] at ho25; rw [← Ny751.out] at ho25)); have qHO_5 := Kd.R_ofs (by (with_reducible repeat (first | apply zab | apply zac | apply zae)); exact HO_5.out) hb; have n0_ := Aside0.mk (zak qHO_5 (zal ho25) hb); have qHO750 := Kd.R_ofs (by (with_reducible repeat (first | apply zab | apply zac | apply zae)); exact HO750.out) hb; have n1_ := Aside0.mk (zak qHO750 (zal ho25) hb); have n2_ := Aside0.mk (zbj (zam (zam ho25 (zat qHO_5)) (zat qHO750)) (zax xb_)); have n3_ := Aside0.mk (zbf xb_ hb); clear qHO750 HO_5; clear qHO_5 HO750; clear HB; have HO_5 := n0_; have HO750 := n1_; have HO753 := n2_; have HB := n3_; clear n0_ n1_ n2_ n3_; clear xb_ hb ho25))
          go_loopg [6, 7, 8] k3 (fun kq v6 v7 v8 w' => ∃ (x6_4 : List Int) (x7_4 : List Int) (x8_4 : Int), v8 = .int .i64 x8_4 ∧ Aside0 (spec_Mac.l1 kq l1 x5_3 x6_4 x7_4 x8_4 = some r) ∧ Aside0 (kq ≤ k3) ∧ Aside0 (Kd.R (Kd.int .u8) 5 w' w.heap.size (fun k_ => some k_ ≠ (v6 : Value).ownBlock ∧ some k_ ≠ (v7 : Value).ownBlock) (.slice Ao21 x5_3.length co21) x5_3) ∧ Aside0 (Kd.R (Kd.int .u8) 5 w' w.heap.size (fun k_ => some k_ ≠ ((.slice Ao21 x5_3.length co21) : Value).ownBlock ∧ some k_ ≠ (v7 : Value).ownBlock) v6 x6_4) ∧ Aside0 (Kd.R (Kd.int .u8) 5 w' w.heap.size (fun k_ => some k_ ≠ ((.slice Ao21 x5_3.length co21) : Value).ownBlock ∧ some k_ ≠ (v6 : Value).ownBlock) v7 x7_4) ∧ Aside0 (Below w.heap.size w w'))
          case atStart => exact ⟨(y748), (y751), (0), (by first | rfl | (simp; done) | (simp [*]; done)), H', ⟨zbi _⟩, ⟨by (with_reducible repeat (first | apply zab | apply zac | apply zae)); exact zbe HO_5.out (fun _ hk => ⟨hk.1.2, hk.2⟩)⟩, ⟨by (with_reducible repeat (first | apply zab | apply zac | apply zae)); exact zbe HO750.out (fun _ hk => ⟨hk.1.2, hk.2⟩)⟩, ⟨by (with_reducible repeat (first | apply zab | apply zac | apply zae)); exact zbe HO753.out (fun _ hk => ⟨hk.1.2, hk.2⟩)⟩, ⟨by repeat (first | (with_reducible first | exact HB.out | apply zai | apply zad | apply zah) | exact HB.out)⟩⟩
          case round =>
           clear H'
           try clear c1
           try clear c2
           try clear p2
           try clear c3
           try clear c4
           try clear c4b0
           try clear c4b1
           try clear c5
           try clear c8
           try clear c14
           try clear c14b0
           try clear c14b1
           try clear c17
           try clear c17b0
           try clear c17b1
           try clear c18
           try clear c24
           try clear p2
           obtain ⟨x6_4, x7_4, x8_4, rfl, HA, HK4, HO_5, HO_6, HO_7, HB⟩ := hrel
           cases gk with
           | zero => exact absurd HA.out (by simp [spec_Mac.l1])
           | succ k4 =>
            have H := HA.out
            clear HA
            simp only [spec_Mac.l1] at H
            by_cases c26 : x8_4 < 64
            ·rw [if_pos c26] at H
             have c26b0 : decide (x8_4 < 64) = true := zaq c26
             clear c26
             by_cases c27 : 0 ≤ x8_4
             ·rw [if_pos c27] at H
              have c27b0 : decide (0 ≤ x8_4) = true := zaq c27
              clear c27
              by_cases c28 : x8_4 < (x5_3.length : Int)
              ·rw [if_pos c28] at H
               have c28b0 : decide (x8_4 < (x5_3.length : Int)) = true := zaq c28
               clear c28
               by_cases c29 : x6_4.length < 140737488355328
               ·rw [if_pos c29] at H
                have LMc29 := Aside0.mk c29
                clear c29
                obtain ⟨y755, hy755⟩ : ∃ y_ : List Int, y_ = (x6_4 ++ [Go.bits .xor .u8 (rd x5_3 x8_4) 54]) := ⟨_, rfl⟩
                replace H : (if x7_4.length < 140737488355328 then (spec_Mac.l1 k4 l1 x5_3 y755 (x7_4 ++ [Go.bits .xor .u8 (rd x5_3 x8_4) 92]) (wrap64 (x8_4 + 1))) else (none)) = some r := by first | (rw [hy755]; with_reducible first | exact H | exact bind_ofs H) | (with_reducible first | exact H | exact bind_ofs H) | (rw [hy755]; exact H) | exact H
                have Ny755 := Aside0.mk hy755
                clear hy755
                by_cases c30 : x7_4.length < 140737488355328
                ·rw [if_pos c30] at H
                 have LMc30 := Aside0.mk c30
                 clear c30
                 obtain ⟨y759, hy759⟩ : ∃ y_ : List Int, y_ = (x7_4 ++ [Go.bits .xor .u8 (rd x5_3 x8_4) 92]) := ⟨_, rfl⟩
                 replace H : (spec_Mac.l1 k4 l1 x5_3 y755 y759 (wrap64 (x8_4 + 1))) = some r := by first | (rw [hy759]; with_reducible first | exact H | exact bind_ofs H) | (with_reducible first | exact H | exact bind_ofs H) | (rw [hy759]; exact H) | exact H
                 have Ny759 := Aside0.mk hy759
                 clear hy759
                 have H' := Aside0.mk H
                 clear H
                 have p754 : 0 ≤ (x8_4 : Int) := zar (by first | (with_reducible assumption) | assumption)
                 have q754 : x8_4 < (x5_3.length : Int) := zar (by first | (with_reducible assumption) | assumption)
                 obtain ⟨ad754, e754, hx754_0⟩ := zca (zao HO_5.out).2.2 x8_4 p754 q754
                 cases e754
                 replace p754 := zbn p754
                 replace q754 := zbn q754
                 go_wp2_with (first | ((with_reducible refine zdr (b := .append) (xs := #[.tmp 38, .tmp 44]) rfl ?_); (try (refine zeg (by rfl) ?_; dsimp only)); at_builtin; refine zfc (Kd.int .u8) (w0 := w) w.heap.size rfl (.tmp 38) (.tmp 44) 23 5 (.int .u8 0) 1 rfl Try.underlying23 info5 rfl (by decide) (by omega) u6 x6_4 (Go.bits .xor .u8 (rd x5_3 x8_4) 54) [.int .u8 (Go.bits .xor .u8 (rd x5_3 x8_4) 54)] (fun k_ => some k_ ≠ (.slice (some ad754) x5_3.length co21 : Value).ownBlock ∧ some k_ ≠ (u7 : Value).ownBlock) (fun _ => False) rfl rfl ?aP (fun _ hk => hk.elim) ?aF ?aO ?aB ?aS ?aL ?_; (case aP => exact rfl); (case aB => exact (by repeat (first | (with_reducible first | exact HB.out | apply zai | apply zad | apply zah) | exact HB.out))); (case aF => exact (fun k_ hk => ⟨zek (zat (by (with_reducible repeat (first | apply zab | apply zac | apply zae)); exact HO_5.out)) k_ hk, zek (zat (by (with_reducible repeat (first | apply zab | apply zac | apply zae)); exact HO_7.out)) k_ hk⟩)); (case aO => exact (by (with_reducible repeat (first | apply zab | apply zac | apply zae)); exact HO_6.out)); (case aS => exact (zax (by repeat (first | (with_reducible first | exact HB.out | apply zai | apply zad | apply zah) | exact HB.out)))); (case aL => have := LMc29.out; omega); intro v756 w31 ho hb hg hat; rw [← Ny755.out] at ho; have n0_ := Aside0.mk (zef (ok := (fun k_ => some k_ ≠ (u7 : Value).ownBlock)) (by (with_reducible repeat (first | apply zab | apply zac | apply zae)); exact zbe HO_5.out (fun _ hk => ⟨hk.2, hk.1⟩)) hg hat); have n1_ := Aside0.mk (zef (ok := (fun k_ => some k_ ≠ (.slice (some ad754) x5_3.length co21 : Value).ownBlock)) (by (with_reducible repeat (first | apply zab | apply zac | apply zae)); exact HO_7.out) hg hat); have n2_ := Aside0.mk (hb); have n3_ := Aside0.mk (ho); clear HO_5 HO_7 HB HO_6; have HO_5 := n0_; have HO_7 := n1_; have HB := n2_; have HO757 := n3_; clear n0_ n1_ n2_ n3_; clear ho hb hg hat; have p758 : 0 ≤ (x8_4 : Int) := zar (by first | (with_reducible assumption) | assumption); have q758 : x8_4 < (x5_3.length : Int) := zar (by first | (with_reducible assumption) | assumption); obtain ⟨ad758, e758, hx758_0⟩ := zca (zao HO_5.out).2.2 x8_4 p758 q758; obtain rfl : ad754 = ad758 := (by injection e758); replace p758 := zbn p758; replace q758 := zbn q758) | ((with_reducible refine zdr (b := .append) (xs := #[.tmp 46, .tmp 52]) rfl ?_); (try (refine zeg (by rfl) ?_; dsimp only)); at_builtin; refine zfc (Kd.int .u8) (w0 := w) w.heap.size rfl (.tmp 46) (.tmp 52) 23 5 (.int .u8 0) 1 rfl Try.underlying23 info5 rfl (by decide) (by omega) u7 x7_4 (Go.bits .xor .u8 (rd x5_3 x8_4) 92) [.int .u8 (Go.bits .xor .u8 (rd x5_3 x8_4) 92)] (fun k_ => some k_ ≠ (.slice (some ad754) x5_3.length co21 : Value).ownBlock ∧ some k_ ≠ (v756 : Value).ownBlock) (fun _ => False) rfl rfl ?aP (fun _ hk => hk.elim) ?aF ?aO ?aB ?aS ?aL ?_; (case aP => exact rfl); (case aB => exact (by repeat (first | (with_reducible first | exact HB.out | apply zai | apply zad | apply zah) | exact HB.out))); (case aF => exact (fun k_ hk => ⟨zek (zat (by (with_reducible repeat (first | apply zab | apply zac | apply zae)); exact HO_5.out)) k_ hk, zek (zat (by (with_reducible repeat (first | apply zab | apply zac | apply zae)); exact HO757.out)) k_ hk⟩)); (case aO => exact (by (with_reducible repeat (first | apply zab | apply zac | apply zae)); exact HO_7.out)); (case aS => exact (zax (by repeat (first | (with_reducible first | exact HB.out | apply zai | apply zad | apply zah) | exact HB.out)))); (case aL => have := LMc30.out; omega); intro v760 w32 ho hb hg hat; rw [← Ny759.out] at ho; have n0_ := Aside0.mk (zef (ok := (fun k_ => some k_ ≠ (v756 : Value).ownBlock)) (by (with_reducible repeat (first | apply zab | apply zac | apply zae)); exact zbe HO_5.out (fun _ hk => ⟨hk.2, hk.1⟩)) hg hat); have n1_ := Aside0.mk (zef (ok := (fun k_ => some k_ ≠ (.slice (some ad754) x5_3.length co21 : Value).ownBlock)) (by (with_reducible repeat (first | apply zab | apply zac | apply zae)); exact HO757.out) hg hat); have n2_ := Aside0.mk (hb); have n3_ := Aside0.mk (ho); clear HO_5 HO757 HB HO_7; have HO_5 := n0_; have HO757 := n1_; have HB := n2_; have HO761 := n3_; clear n0_ n1_ n2_ n3_; clear ho hb hg hat))
                 go_roundg k4
                 case measure => have := HJ2.out; have := HJ8.out; have := HK3.out; have := HK4.out; omega
                 case rel => exact ⟨(y755), (y759), (wrap64 (x8_4 + 1)), (by first | rfl | (simp; done) | (simp [*]; done)), H', ⟨by have := HJ2.out; have := HJ8.out; have := HK3.out; have := HK4.out; omega⟩, ⟨by (with_reducible repeat (first | apply zab | apply zac | apply zae)); exact HO_5.out⟩, ⟨by (with_reducible repeat (first | apply zab | apply zac | apply zae)); exact HO757.out⟩, ⟨by (with_reducible repeat (first | apply zab | apply zac | apply zae)); exact HO761.out⟩, ⟨by repeat (first | (with_reducible first | exact HB.out | apply zai | apply zad | apply zah) | exact HB.out)⟩⟩
                ·rw [if_neg c30] at H
                 exact absurd H (by simp)
               ·rw [if_neg c29] at H
                exact absurd H (by simp)
              ·rw [if_neg c28] at H
               exact absurd H (by simp)
             ·rw [if_neg c27] at H
              exact absurd H (by simp)
            ·rw [if_neg c26] at H
             have c26b0 : decide (x8_4 < 64) = false := zbr c26
             clear c26
             by_cases c33 : x6_4.length + l1.length < 140737488355328
             ·rw [if_pos c33] at H
              have LMc33 := Aside0.mk c33
              clear c33
              obtain ⟨y762, hy762⟩ : ∃ y_ : List Int, y_ = (x6_4 ++ l1) := ⟨_, rfl⟩
              replace H : ((spec_Hash.f k4 y762).bind fun t765 => (if x7_4.length + t765.length < 140737488355328 then ((spec_Hash.f k4 (x7_4 ++ t765)).bind fun t771 => (some t771)) else (none))) = some r := by first | (rw [hy762]; with_reducible first | exact H | exact bind_ofs H) | (with_reducible first | exact H | exact bind_ofs H) | (rw [hy762]; exact H) | exact H
              have Ny762 := Aside0.mk hy762
              clear hy762
              replace H := zaj.mp H
              obtain ⟨t765, A340, H⟩ := H
              try dsimp only at H
              have A34 := Aside0.mk A340
              clear A340
              by_cases c35 : x7_4.length + t765.length < 140737488355328
              ·rw [if_pos c35] at H
               have LMc35 := Aside0.mk c35
               clear c35
               obtain ⟨y768, hy768⟩ : ∃ y_ : List Int, y_ = (x7_4 ++ t765) := ⟨_, rfl⟩
               replace H : ((spec_Hash.f k4 y768).bind fun t771 => (some t771)) = some r := by first | (rw [hy768]; with_reducible first | exact H | exact bind_ofs H) | (with_reducible first | exact H | exact bind_ofs H) | (rw [hy768]; exact H) | exact H
               have Ny768 := Aside0.mk hy768
               clear hy768
               replace H := zaj.mp H
               obtain ⟨t771, A360, H⟩ := H
               try dsimp only at H
               have A36 := Aside0.mk A360
               clear A360
               obtain rfl := Option.some.inj H
               go_wp2_with (first | ((with_reducible refine zdr (b := .append) (xs := #[.tmp 55, .tmp 56]) rfl ?_); (try (refine zeg (by rfl) ?_; dsimp only)); at_builtin; refine zei (Kd.int .u8) (w0 := w) w.heap.size rfl (.tmp 55) (.tmp 56) 23 5 (.int .u8 0) 1 rfl Try.underlying23 info5 rfl (by decide) (by omega) u6 x6_4 l1 _ _ _ (fun k_ => some k_ ≠ (.slice Ao21 x5_3.length co21 : Value).ownBlock ∧ some k_ ≠ (u7 : Value).ownBlock) (fun _ => False) rfl rfl ?aO ?aR (fun _ _ h => h) (fun _ h => h.elim) ?aF ?aB ?aS ?aL ?_; (case aR => repeat (first | exact (zey HR1.out HB.out) | (with_reducible first | apply zba | apply zbb | apply zbg))); (case aB => exact (by repeat (first | (with_reducible first | exact HB.out | apply zai | apply zad | apply zah) | exact HB.out))); (case aF => exact (fun k_ hk => ⟨zek (zat (by (with_reducible repeat (first | apply zab | apply zac | apply zae)); exact HO_5.out)) k_ hk, zek (zat (by (with_reducible repeat (first | apply zab | apply zac | apply zae)); exact HO_7.out)) k_ hk⟩)); (case aO => exact (by (with_reducible repeat (first | apply zab | apply zac | apply zae)); exact HO_6.out)); (case aS => exact (zax (by repeat (first | (with_reducible first | exact HB.out | apply zai | apply zad | apply zah) | exact HB.out)))); (case aL => have := LMc33.out; omega); intro v763 w37 ho hb hg hat; rw [← Ny762.out] at ho; have n0_ := Aside0.mk (zef (ok := (fun k_ => some k_ ≠ (u7 : Value).ownBlock)) (by (with_reducible repeat (first | apply zab | apply zac | apply zae)); exact zbe HO_5.out (fun _ hk => ⟨hk.2, hk.1⟩)) hg hat); have n1_ := Aside0.mk (zef (ok := (fun k_ => some k_ ≠ (.slice Ao21 x5_3.length co21 : Value).ownBlock)) (by (with_reducible repeat (first | apply zab | apply zac | apply zae)); exact HO_7.out) hg hat); have n2_ := Aside0.mk (hb); have n3_ := Aside0.mk (ho); clear HO_5 HO_7 HB HO_6; have HO_5 := n0_; have HO_7 := n1_; have HB := n2_; have HO764 := n3_; clear n0_ n1_ n2_ n3_; clear ho hb hg hat; obtain ⟨Ao38, co38, eo38⟩ := zbm HO764.out; subst eo38) | ((with_reducible refine zbc (f := 24) rfl ?_); refine goesL_ (some 58) rfl rfl Try.func24 (by kernel_rfl) rfl #[.slice Ao38 y762.length co38] rfl (by (try simp only [zap, zau, zav]); first | done | rfl) ?_; (with_reducible refine (spec_Hash.calls k4 _ _ y762 t765 _ ?side1 ?side2 A34.out).mono ?_); (case side1 => repeat (first | exact (zao HO764.out).2.2 | (with_reducible first | apply zba | apply zbb | apply zbg))); (case side2 => exact (zao HO764.out).2.1); rintro e w39 ⟨v766, rfl, ho0, hb⟩; refine ⟨_, rfl, ?_⟩; have xb_ := below_ofs (by repeat (first | (with_reducible first | exact HB.out | apply zai | apply zad | apply zah) | exact HB.out)) hb; have qHO_5 := Kd.R_ofs (by (with_reducible repeat (first | apply zab | apply zac | apply zae)); exact HO_5.out) hb; have n0_ := Aside0.mk (zak qHO_5 (zal ho0) hb); have qHO_7 := Kd.R_ofs (by (with_reducible repeat (first | apply zab | apply zac | apply zae)); exact HO_7.out) hb; have n1_ := Aside0.mk (zak qHO_7 (zal ho0) hb); have qHO764 := Kd.R_ofs (by (with_reducible repeat (first | apply zab | apply zac | apply zae)); exact HO764.out) hb; have n2_ := Aside0.mk (zak qHO764 (zal ho0) hb); have n3_ := Aside0.mk (zbj (zam (zam (zam ho0 (zat qHO_5)) (zat qHO_7)) (zat qHO764)) (zax xb_)); have n4_ := Aside0.mk (zbf xb_ hb); clear qHO764 HO_5; clear qHO_5 HO_7; clear qHO_7 HO764; clear HB; have HO_5 := n0_; have HO_7 := n1_; have HO764 := n2_; have HO767 := n3_; have HB := n4_; clear n0_ n1_ n2_ n3_ n4_; clear xb_ hb ho0; obtain ⟨Ao41, co41, eo41⟩ := zbm HO767.out; subst eo41) | ((with_reducible refine zdr (b := .append) (xs := #[.tmp 54, .tmp 58]) rfl ?_); (try (refine zeg (by rfl) ?_; dsimp only)); at_builtin; refine zei (Kd.int .u8) (w0 := w) w.heap.size rfl (.tmp 54) (.tmp 58) 23 5 (.int .u8 0) 1 rfl Try.underlying23 info5 rfl (by decide) (by omega) u7 x7_4 t765 _ _ _ (fun k_ => some k_ ≠ (.slice Ao21 x5_3.length co21 : Value).ownBlock ∧ some k_ ≠ (.slice Ao38 y762.length co38 : Value).ownBlock ∧ some k_ ≠ (.slice Ao41 t765.length co41 : Value).ownBlock) (fun _ => False) rfl rfl ?aO ?aR (fun _ _ h => h) (fun _ h => h.elim) ?aF ?aB ?aS ?aL ?_; (case aR => repeat (first | exact (zao HO767.out).2.2 | (with_reducible first | apply zba | apply zbb | apply zbg))); (case aB => exact (by repeat (first | (with_reducible first | exact HB.out | apply zai | apply zad | apply zah) | exact HB.out))); (case aF => exact (fun k_ hk => ⟨zek (zat (by (with_reducible repeat (first | apply zab | apply zac | apply zae)); exact HO_5.out)) k_ hk, zek (zat (by (with_reducible repeat (first | apply zab | apply zac | apply zae)); exact HO764.out)) k_ hk, zek (zat (by (with_reducible repeat (first | apply zab | apply zac | apply zae)); exact HO767.out)) k_ hk⟩)); (case aO => exact (by (with_reducible repeat (first | apply zab | apply zac | apply zae)); exact zbe HO_7.out (fun _ hk => ⟨hk.1.1, ⟨hk.1.2, hk.2⟩⟩))); (case aS => exact (zax (by repeat (first | (with_reducible first | exact HB.out | apply zai | apply zad | apply zah) | exact HB.out)))); (case aL => have := LMc35.out; omega); intro v769 w40 ho hb hg hat; rw [← Ny768.out] at ho; have n0_ := Aside0.mk (zef (ok := (fun k_ => some k_ ≠ (.slice Ao38 y762.length co38 : Value).ownBlock ∧ some k_ ≠ (.slice Ao41 t765.length co41 : Value).ownBlock)) (by (with_reducible repeat (first | apply zab | apply zac | apply zae)); exact zbe HO_5.out (fun _ hk => ⟨⟨hk.1.2, hk.2⟩, hk.1.1⟩)) hg hat); have n1_ := Aside0.mk (zef (ok := (fun k_ => some k_ ≠ (.slice Ao21 x5_3.length co21 : Value).ownBlock ∧ some k_ ≠ (.slice Ao41 t765.length co41 : Value).ownBlock)) (by (with_reducible repeat (first | apply zab | apply zac | apply zae)); exact zbe HO764.out (fun _ hk => ⟨⟨hk.1.1, hk.2⟩, hk.1.2⟩)) hg hat); have n2_ := Aside0.mk (zef (ok := (fun k_ => some k_ ≠ (.slice Ao21 x5_3.length co21 : Value).ownBlock ∧ some k_ ≠ (.slice Ao38 y762.length co38 : Value).ownBlock)) (by (with_reducible repeat (first | apply zab | apply zac | apply zae)); exact zbe HO767.out (fun _ hk => ⟨⟨hk.1.1.2, hk.2⟩, hk.1.2⟩)) hg hat); have n3_ := Aside0.mk (hb); have n4_ := Aside0.mk (ho); clear HO_5 HO764 HO767 HB HO_7; have HO_5 := n0_; have HO764 := n1_; have HO767 := n2_; have HB := n3_; have HO770 := n4_; clear n0_ n1_ n2_ n3_ n4_; clear ho hb hg hat; obtain ⟨Ao42, co42, eo42⟩ := zbm HO770.out; subst eo42) | ((with_reducible refine zbc (f := 24) rfl ?_); refine goesL_ (some 60) rfl rfl Try.func24 (by kernel_rfl) rfl #[.slice Ao42 y768.length co42] rfl (by (try simp only [zap, zau, zav]); first | done | rfl) ?_; (with_reducible refine (spec_Hash.calls k4 _ _ y768 t771 _ ?side1 ?side2 A36.out).mono ?_); (case side1 => repeat (first | exact (zao HO770.out).2.2 | (with_reducible first | apply zba | apply zbb | apply zbg))); (case side2 => exact (zao HO770.out).2.1); rintro e w43 ⟨v772, rfl, ho0, hb⟩; refine ⟨_, rfl, ?_⟩; have xb_ := below_ofs (by repeat (first | (with_reducible first | exact HB.out | apply zai | apply zad | apply zah) | exact HB.out)) hb; have qHO_5 := Kd.R_ofs (by (with_reducible repeat (first | apply zab | apply zac | apply zae)); exact HO_5.out) hb; have n0_ := Aside0.mk (zak qHO_5 (zal ho0) hb); have qHO764 := Kd.R_ofs (by (with_reducible repeat (first | apply zab | apply zac | apply zae)); exact HO764.out) hb; have n1_ := Aside0.mk (zak qHO764 (zal ho0) hb); have qHO767 := Kd.R_ofs (by (with_reducible repeat (first | apply zab | apply zac | apply zae)); exact HO767.out) hb; have n2_ := Aside0.mk (zak qHO767 (zal ho0) hb); have qHO770 := Kd.R_ofs (by (with_reducible repeat (first | apply zab | apply zac | apply zae)); exact HO770.out) hb; have n3_ := Aside0.mk (zak qHO770 (zal ho0) hb); have n4_ := Aside0.mk (zbj (zam (zam (zam (zam ho0 (zat qHO_5)) (zat qHO764)) (zat qHO767)) (zat qHO770)) (zax xb_)); have n5_ := Aside0.mk (zbf xb_ hb); clear qHO764 HO_5; clear qHO767 HO764; clear qHO770 HO767; clear qHO_5 HO770; clear HB; have HO_5 := n0_; have HO764 := n1_; have HO767 := n2_; have HO770 := n3_; have HO773 := n4_; have HB := n5_; clear n0_ n1_ n2_ n3_ n4_ n5_; clear xb_ hb ho0))
               go_ret
               exact ⟨_, by first | rfl | (simp [zbk, zbl] <;> rfl) | (simp [*, zbk, zbl] <;> rfl), by (with_reducible repeat (first | apply zab | apply zac | apply zae)); exact zbe HO773.out (fun _ hk => zbw), by repeat (first | (with_reducible first | exact HB.out | apply zai | apply zad | apply zah) | exact HB.out)⟩
              ·rw [if_neg c35] at H
               exact absurd H (by simp)
             ·rw [if_neg c33] at H
              exact absurd H (by simp)
    ·rw [if_neg c8] at H
     exact absurd H (by simp)
end Go.Proofs.Ytienlgcjohpphaa.P
