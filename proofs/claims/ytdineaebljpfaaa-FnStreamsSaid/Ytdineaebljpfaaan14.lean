import Derived.Test.Ytdineaebljpfaaan13
namespace Go.Proofs.Ytdineaebljpfaaa.P
open Go.RowKit Go.Proofs.YtdineaebljpfaaaW.PrintWords Go.Proofs.YtdineaebljpfaaaW.PrintLast Go.Proofs.YtdineaebljpfaaaW.PrintMore
attribute [local go_sem] zcu zcv zdf zdg zci zcj zcw zcx   -- for this text's walks alone
set_option linter.unusedVariables false
set_option linter.unusedSimpArgs false

def spec_WordBytes.l0 : Nat → List Int → Bool → List Int → Int → Option (List Int)
 | 0, _, _, _, _ => none
 | k + 1, x0, x1, x5, x6 => if x6 < (x0.length : Int) then (if x1 = true then (if 0 ≤ x6 then ((spec_Word.f (rd x0 x6)).bind fun t373 => ((spec_Great.f k t373 4).bind fun t374 => (if x5.length + t374.length < 140737488355328 then (spec_WordBytes.l0 k x0 x1 (x5 ++ t374) (wrap64 (x6 + 1))) else (none)))) else (none)) else (if 0 ≤ x6 then ((spec_Word.f (rd x0 x6)).bind fun t381 => ((spec_Little.f k t381 4).bind fun t382 => (if x5.length + t382.length < 140737488355328 then (spec_WordBytes.l0 k x0 x1 (x5 ++ t382) (wrap64 (x6 + 1))) else (none)))) else (none))) else (some x5)
def spec_WordBytes.f (k : Nat) (l0 : List Int) (a1 : Bool) : Option (List Int) := spec_WordBytes.l0 k l0 a1 (([] : List Int)) 0
theorem spec_WordBytes.mono_l : ∀ k, (∀ y0 y1 y2 y3, LeO (spec_WordBytes.l0 k y0 y1 y2 y3) (spec_WordBytes.l0 (k + 1) y0 y1 y2 y3))
 | 0 => fun _ _ _ _ r h => by simp [spec_WordBytes.l0] at h
 | k + 1 => by
  have ih0 := spec_WordBytes.mono_l k
  ·intro y0 y1 y2 y3
   unfold spec_WordBytes.l0
   repeat' first
   | (with_reducible exact ih0 _ _ _ _)
   | (with_reducible exact spec_Great.mono _ _ _)
   | (with_reducible exact spec_Little.mono _ _ _)
   | (with_reducible exact zcc _)
   | (with_reducible exact zcg _)
   | (with_reducible refine zcr ?_ ?_)
   | (with_reducible refine zcd ?_ (fun _ => ?_))
   | exact ih0 _ _ _ _
theorem spec_WordBytes.mono : ∀ a0 a1 k, LeO (spec_WordBytes.f k a0 a1) (spec_WordBytes.f (k + 1) a0 a1) := by
 intro a0 a1 k
 have ih0 := spec_WordBytes.mono_l k
 unfold spec_WordBytes.f
 repeat' first
   | (with_reducible exact ih0 _ _ _ _)
   | (with_reducible exact spec_Great.mono _ _ _)
   | (with_reducible exact spec_Little.mono _ _ _)
   | (with_reducible exact zcc _)
   | (with_reducible exact zcg _)
   | (with_reducible refine zcr ?_ ?_)
   | (with_reducible refine zcd ?_ (fun _ => ?_))
   | exact ih0 _ _ _ _
set_option maxHeartbeats 8000000 in
set_option maxRecDepth 100000 in
theorem spec_WordBytes.calls (k : Nat) (A0 : Option Addr) (c0 : Nat) (l0 : List Int) (a1 : Bool) (r : List Int) (w : World) (hr0 : Kd.C (Kd.int .i64) w A0 l0.length l0) (hc0 : l0.length ≤ c0) (h : spec_WordBytes.f k l0 a1 = some r) :
  Calls Try.prog 45 #[.slice A0 l0.length c0, .bool a1] w fun e w' => ∃ v0_ : Value, e = .returned (v0_) ∧ Kd.R (Kd.int .u8) 5 w' w.heap.size (fun _ => True) v0_ r ∧ Below w.heap.size w w' := by
 have HR0 := Aside0.mk hr0
 have HC0 := Aside0.mk hc0
 clear hr0 hc0
 have HB := Aside0.mk (zbx w.heap.size w)
 have H : (spec_WordBytes.l0 k l0 a1 (([] : List Int)) 0) = some r := h
 clear h
 obtain ⟨y369, hy369⟩ : ∃ y_ : List Int, y_ = (([] : List Int)) := ⟨_, rfl⟩
 replace H : (spec_WordBytes.l0 k l0 a1 y369 0) = some r := by first | (rw [hy369]; with_reducible first | exact H | exact bind_ofs H) | (with_reducible first | exact H | exact bind_ofs H) | (rw [hy369]; exact H) | exact H
 have Ny369 := Aside0.mk hy369
 clear hy369
 have H' := Aside0.mk H
 clear H
 go_enter Try.func45, Try.ntmps45
 go_wp2_with (first | ((with_reducible refine zds (N := 7) rfl ?_); refine zec (Kd.int .u8) _ 5 ?hg (N := 7) ?hd (xs := ([] : List Int)) (inner := []) (ok := fun _ => True) (okp := fun _ => True) ?hr ?hp (fun _ hk => hk) trivial (zbx _ _) (zbp _) (by simp) ?_; (case hd => rfl); (case hg => rfl); (case hr => first | (go_simp; done) | (go_simp; rfl)); (case hp => exact (zdp _ _)); intro v370 w3 ho4 hb hg_ hnew_; have xb_ := below_ofs (by repeat (first | (with_reducible first | exact HB.out | apply zaj | apply zad | apply zai) | exact HB.out)) hb; clear hg_ hnew_; (first | rw [← Ny369.out] at ho4 | (simp only [Int.reduceToNat] at ho4; rw [← Ny369.out] at ho4)); have n0_ := Aside0.mk (zbc ho4 (zba xb_)); have n1_ := Aside0.mk (zbb xb_ hb); clear HB; have HO371 := n0_; have HB := n1_; clear n0_ n1_; clear xb_ hb ho4))
 go_loopg [5, 6] k (fun kq v5 v6 w' => ∃ (x5_1 : List Int) (x6_1 : Int), v6 = .int .i64 x6_1 ∧ Aside0 (spec_WordBytes.l0 kq l0 a1 x5_1 x6_1 = some r) ∧ Aside0 (kq ≤ k) ∧ Aside0 (Kd.R (Kd.int .u8) 5 w' w.heap.size (fun _ => True) v5 x5_1) ∧ Aside0 (Below w.heap.size w w'))
 case atStart => exact ⟨(y369), (0), (by first | rfl | (simp; done) | (simp [*]; done)), H', ⟨zbp _⟩, ⟨by (with_reducible repeat (first | apply zab | apply zac | apply zae)); exact HO371.out⟩, ⟨by repeat (first | (with_reducible first | exact HB.out | apply zaj | apply zad | apply zai) | exact HB.out)⟩⟩
 case round =>
  clear H'
  try clear p2
  try clear c4
  obtain ⟨x5_1, x6_1, rfl, HA, HK1, HO_5, HB⟩ := hrel
  cases gk with
  | zero => exact absurd HA.out (by simp [spec_WordBytes.l0])
  | succ k1 =>
   have H := HA.out
   clear HA
   simp only [spec_WordBytes.l0] at H
   by_cases c5 : x6_1 < (l0.length : Int)
   ·rw [if_pos c5] at H
    have c5b0 : decide (x6_1 < (l0.length : Int)) = true := zax c5
    clear c5
    by_cases c6 : a1 = true
    ·subst c6
     have H1 : (if 0 ≤ x6_1 then ((spec_Word.f (rd l0 x6_1)).bind fun t373 => ((spec_Great.f k1 t373 4).bind fun t374 => (if x5_1.length + t374.length < 140737488355328 then (spec_WordBytes.l0 k1 l0 true (x5_1 ++ t374) (wrap64 (x6_1 + 1))) else (none)))) else (none)) = some r := by rw [if_pos rfl] at H; exact H
     clear H
     have H := H1
     clear H1
     by_cases c7 : 0 ≤ x6_1
     ·rw [if_pos c7] at H
      have c7b0 : decide (0 ≤ x6_1) = true := zax c7
      clear c7
      replace H := zam.mp H
      obtain ⟨t373, A80, H⟩ := H
      try dsimp only at H
      have A8 := Aside0.mk A80
      clear A80
      replace H := zam.mp H
      obtain ⟨t374, A90, H⟩ := H
      try dsimp only at H
      have A9 := Aside0.mk A90
      clear A90
      by_cases c10 : x5_1.length + t374.length < 140737488355328
      ·rw [if_pos c10] at H
       have LMc10 := Aside0.mk c10
       clear c10
       obtain ⟨y377, hy377⟩ : ∃ y_ : List Int, y_ = (x5_1 ++ t374) := ⟨_, rfl⟩
       replace H : (spec_WordBytes.l0 k1 l0 true y377 (wrap64 (x6_1 + 1))) = some r := by first | (rw [hy377]; with_reducible first | exact H | exact bind_ofs H) | (with_reducible first | exact H | exact bind_ofs H) | (rw [hy377]; exact H) | exact H
       have Ny377 := Aside0.mk hy377
       clear hy377
       have H' := Aside0.mk H
       clear H
       have p372 : 0 ≤ (x6_1 : Int) := zap (by first | (with_reducible assumption) | assumption)
       have q372 : x6_1 < (l0.length : Int) := zap (by first | (with_reducible assumption) | assumption)
       obtain ⟨ad372, e372, hx372_0⟩ := zca HR0.out x6_1 p372 q372
       cases e372
       replace hx372_0 := (HB.out.cell (World.block_lt_of_cell? w _ hx372_0)).trans hx372_0
       replace p372 := zbn p372
       replace q372 := zbn q372
       go_wp2_with (first | ((with_reducible refine zau (f := 38) rfl ?_); refine goesL_ (some 20) rfl rfl Try.func38 (by kernel_rfl) rfl #[.int .i64 (rd l0 x6_1)] rfl (by (try simp only [zal, zaq, zar]); first | done | rfl) ?_; (with_reducible refine (spec_Word.calls (rd l0 x6_1) t373 _ A8.out).mono ?_); rintro e w' ⟨rfl, ⟨nd, rfl⟩⟩; refine ⟨_, rfl, ?_⟩) | ((with_reducible refine zau (f := 64) rfl ?_); refine goesL_ (some 21) rfl rfl Try.func64 (by kernel_rfl) rfl #[.int .i64 t373, .int .i64 4] rfl (by (try simp only [zal, zaq, zar]); first | done | rfl) ?_; (with_reducible refine (spec_Great.calls k1 t373 4 t374 _ A9.out).mono ?_); rintro e w11 ⟨v375, rfl, ho0, hb⟩; refine ⟨_, rfl, ?_⟩; have xb_ := below_ofs (by repeat (first | (with_reducible first | exact HB.out | apply zaj | apply zad | apply zai) | exact HB.out)) hb; have qHO_5 := Kd.R_ofs (by (with_reducible repeat (first | apply zab | apply zac | apply zae)); exact HO_5.out) hb; have n0_ := Aside0.mk (zak qHO_5 (zan ho0) hb); have n1_ := Aside0.mk (zbc (zao ho0 (zav qHO_5)) (zba xb_)); have n2_ := Aside0.mk (zbb xb_ hb); clear qHO_5 HO_5; clear HB; have HO_5 := n0_; have HO376 := n1_; have HB := n2_; clear n0_ n1_ n2_; clear xb_ hb ho0; obtain ⟨Ao13, co13, eo13⟩ := zbe HO376.out; subst eo13) | ((with_reducible refine zdk (b := .append) (xs := #[.tmp 15, .tmp 21]) rfl ?_); at_builtin; refine zdv (Kd.int .u8) (w0 := w) w.heap.size rfl (.tmp 15) (.tmp 21) 22 5 (.int .u8 0) 1 rfl Try.underlying22 info5 rfl (by decide) (by omega) u5 x5_1 t374 _ _ _ (fun k_ => some k_ ≠ (.slice Ao13 t374.length co13 : Value).ownBlock) (fun _ => False) rfl rfl ?aO ?aR (fun _ _ h => h) (fun _ h => h.elim) ?aF ?aB ?aS ?aL ?_; (case aR => repeat (first | exact (zaf HO376.out).2.2 | (with_reducible first | apply zas | apply zat | apply zaw))); (case aB => exact (by repeat (first | (with_reducible first | exact HB.out | apply zaj | apply zad | apply zai) | exact HB.out))); (case aF => exact (fun k_ hk => zel (zav (by (with_reducible repeat (first | apply zab | apply zac | apply zae)); exact HO376.out)) k_ hk)); (case aO => exact (by (with_reducible repeat (first | apply zab | apply zac | apply zae)); exact zbm HO_5.out (fun _ hk => hk.2))); (case aS => exact (zba (by repeat (first | (with_reducible first | exact HB.out | apply zaj | apply zad | apply zai) | exact HB.out)))); (case aL => have := LMc10.out; omega); intro v378 w12 ho hb hg hat; rw [← Ny377.out] at ho; have n0_ := Aside0.mk (zdw (ok := (fun _ => True)) (by (with_reducible repeat (first | apply zab | apply zac | apply zae)); exact HO376.out) hg hat); have n1_ := Aside0.mk (hb); have n2_ := Aside0.mk (ho); clear HO376 HB HO_5; have HO376 := n0_; have HB := n1_; have HO379 := n2_; clear n0_ n1_ n2_; clear ho hb hg hat))
       go_roundg k1
       case measure => have := HK1.out; omega
       case rel => exact ⟨(y377), (wrap64 (x6_1 + 1)), (by first | rfl | (simp; done) | (simp [*]; done)), H', ⟨by have := HK1.out; omega⟩, ⟨by (with_reducible repeat (first | apply zab | apply zac | apply zae)); exact zbm HO379.out (fun _ hk => trivial)⟩, ⟨by repeat (first | (with_reducible first | exact HB.out | apply zaj | apply zad | apply zai) | exact HB.out)⟩⟩
      ·rw [if_neg c10] at H
       exact absurd H (by simp)
     ·rw [if_neg c7] at H
      exact absurd H (by simp)
    ·replace c6 := zbu.mpr c6
     subst c6
     have H1 : (if 0 ≤ x6_1 then ((spec_Word.f (rd l0 x6_1)).bind fun t381 => ((spec_Little.f k1 t381 4).bind fun t382 => (if x5_1.length + t382.length < 140737488355328 then (spec_WordBytes.l0 k1 l0 false (x5_1 ++ t382) (wrap64 (x6_1 + 1))) else (none)))) else (none)) = some r := by rw [if_neg (show ¬ (false = true) by decide)] at H; exact H
     clear H
     have H := H1
     clear H1
     by_cases c14 : 0 ≤ x6_1
     ·rw [if_pos c14] at H
      have c14b0 : decide (0 ≤ x6_1) = true := zax c14
      clear c14
      replace H := zam.mp H
      obtain ⟨t381, A150, H⟩ := H
      try dsimp only at H
      have A15 := Aside0.mk A150
      clear A150
      replace H := zam.mp H
      obtain ⟨t382, A160, H⟩ := H
      try dsimp only at H
      have A16 := Aside0.mk A160
      clear A160
      by_cases c17 : x5_1.length + t382.length < 140737488355328
      ·rw [if_pos c17] at H
       have LMc17 := Aside0.mk c17
       clear c17
       obtain ⟨y385, hy385⟩ : ∃ y_ : List Int, y_ = (x5_1 ++ t382) := ⟨_, rfl⟩
       replace H : (spec_WordBytes.l0 k1 l0 false y385 (wrap64 (x6_1 + 1))) = some r := by first | (rw [hy385]; with_reducible first | exact H | exact bind_ofs H) | (with_reducible first | exact H | exact bind_ofs H) | (rw [hy385]; exact H) | exact H
       have Ny385 := Aside0.mk hy385
       clear hy385
       have H' := Aside0.mk H
       clear H
       have p380 : 0 ≤ (x6_1 : Int) := zap (by first | (with_reducible assumption) | assumption)
       have q380 : x6_1 < (l0.length : Int) := zap (by first | (with_reducible assumption) | assumption)
       obtain ⟨ad380, e380, hx380_0⟩ := zca HR0.out x6_1 p380 q380
       cases e380
       replace hx380_0 := (HB.out.cell (World.block_lt_of_cell? w _ hx380_0)).trans hx380_0
       replace p380 := zbn p380
       replace q380 := zbn q380
       go_wp2_with (first | ((with_reducible refine zau (f := 38) rfl ?_); refine goesL_ (some 28) rfl rfl Try.func38 (by kernel_rfl) rfl #[.int .i64 (rd l0 x6_1)] rfl (by (try simp only [zal, zaq, zar]); first | done | rfl) ?_; (with_reducible refine (spec_Word.calls (rd l0 x6_1) t381 _ A15.out).mono ?_); rintro e w' ⟨rfl, ⟨nd, rfl⟩⟩; refine ⟨_, rfl, ?_⟩) | ((with_reducible refine zau (f := 65) rfl ?_); refine goesL_ (some 29) rfl rfl Try.func65 (by kernel_rfl) rfl #[.int .i64 t381, .int .i64 4] rfl (by (try simp only [zal, zaq, zar]); first | done | rfl) ?_; (with_reducible refine (spec_Little.calls k1 t381 4 t382 _ A16.out).mono ?_); rintro e w18 ⟨v383, rfl, ho0, hb⟩; refine ⟨_, rfl, ?_⟩; have xb_ := below_ofs (by repeat (first | (with_reducible first | exact HB.out | apply zaj | apply zad | apply zai) | exact HB.out)) hb; have qHO_5 := Kd.R_ofs (by (with_reducible repeat (first | apply zab | apply zac | apply zae)); exact HO_5.out) hb; have n0_ := Aside0.mk (zak qHO_5 (zan ho0) hb); have n1_ := Aside0.mk (zbc (zao ho0 (zav qHO_5)) (zba xb_)); have n2_ := Aside0.mk (zbb xb_ hb); clear qHO_5 HO_5; clear HB; have HO_5 := n0_; have HO384 := n1_; have HB := n2_; clear n0_ n1_ n2_; clear xb_ hb ho0; obtain ⟨Ao20, co20, eo20⟩ := zbe HO384.out; subst eo20) | ((with_reducible refine zdk (b := .append) (xs := #[.tmp 23, .tmp 29]) rfl ?_); at_builtin; refine zdv (Kd.int .u8) (w0 := w) w.heap.size rfl (.tmp 23) (.tmp 29) 22 5 (.int .u8 0) 1 rfl Try.underlying22 info5 rfl (by decide) (by omega) u5 x5_1 t382 _ _ _ (fun k_ => some k_ ≠ (.slice Ao20 t382.length co20 : Value).ownBlock) (fun _ => False) rfl rfl ?aO ?aR (fun _ _ h => h) (fun _ h => h.elim) ?aF ?aB ?aS ?aL ?_; (case aR => repeat (first | exact (zaf HO384.out).2.2 | (with_reducible first | apply zas | apply zat | apply zaw))); (case aB => exact (by repeat (first | (with_reducible first | exact HB.out | apply zaj | apply zad | apply zai) | exact HB.out))); (case aF => exact (fun k_ hk => zel (zav (by (with_reducible repeat (first | apply zab | apply zac | apply zae)); exact HO384.out)) k_ hk)); (case aO => exact (by (with_reducible repeat (first | apply zab | apply zac | apply zae)); exact zbm HO_5.out (fun _ hk => hk.2))); (case aS => exact (zba (by repeat (first | (with_reducible first | exact HB.out | apply zaj | apply zad | apply zai) | exact HB.out)))); (case aL => have := LMc17.out; omega); intro v386 w19 ho hb hg hat; rw [← Ny385.out] at ho; have n0_ := Aside0.mk (zdw (ok := (fun _ => True)) (by (with_reducible repeat (first | apply zab | apply zac | apply zae)); exact HO384.out) hg hat); have n1_ := Aside0.mk (hb); have n2_ := Aside0.mk (ho); clear HO384 HB HO_5; have HO384 := n0_; have HB := n1_; have HO387 := n2_; clear n0_ n1_ n2_; clear ho hb hg hat))
       go_roundg k1
       case measure => have := HK1.out; omega
       case rel => exact ⟨(y385), (wrap64 (x6_1 + 1)), (by first | rfl | (simp; done) | (simp [*]; done)), H', ⟨by have := HK1.out; omega⟩, ⟨by (with_reducible repeat (first | apply zab | apply zac | apply zae)); exact zbm HO387.out (fun _ hk => trivial)⟩, ⟨by repeat (first | (with_reducible first | exact HB.out | apply zaj | apply zad | apply zai) | exact HB.out)⟩⟩
      ·rw [if_neg c17] at H
       exact absurd H (by simp)
     ·rw [if_neg c14] at H
      exact absurd H (by simp)
   ·rw [if_neg c5] at H
    have c5b0 : decide (x6_1 < (l0.length : Int)) = false := zbq c5
    clear c5
    obtain rfl := Option.some.inj H
    go_wp2
    go_ret
    exact ⟨_, by first | rfl | (simp [zbj, zbk] <;> rfl) | (simp [*, zbj, zbk] <;> rfl), by (with_reducible repeat (first | apply zab | apply zac | apply zae)); exact HO_5.out, by repeat (first | (with_reducible first | exact HB.out | apply zaj | apply zad | apply zai) | exact HB.out)⟩
end Go.Proofs.Ytdineaebljpfaaa.P
