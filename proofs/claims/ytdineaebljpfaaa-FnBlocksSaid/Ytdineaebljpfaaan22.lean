import Derived.Test.Ytdineaebljpfaaan21
namespace Go.Proofs.Ytdineaebljpfaaa.P
open Go.RowKit Go.Proofs.YtdineaebljpfaaaW.PrintWords Go.Proofs.YtdineaebljpfaaaW.PrintLast Go.Proofs.YtdineaebljpfaaaW.PrintMore
attribute [local go_sem] zcu zcv zdf zdg zci zcj zcw zcx   -- for this text's walks alone
set_option linter.unusedVariables false
set_option linter.unusedSimpArgs false

def impl_Great.f (k : Nat) (a0 : Int) (a1 : Int) : Option (List Int) := (impl_Little.f k a0 a1).bind fun t454 => ((impl_turned.f k t454).bind fun t457 => (some t457))
theorem impl_Great.mono : ∀ a0 a1 k, LeO (impl_Great.f k a0 a1) (impl_Great.f (k + 1) a0 a1) := by
 intro a0 a1 k
 unfold impl_Great.f
 repeat' first
   | (with_reducible exact impl_Little.mono _ _ _)
   | (with_reducible exact impl_turned.mono _ _)
   | (with_reducible exact zcc _)
   | (with_reducible exact zcg _)
   | (with_reducible refine zcr ?_ ?_)
   | (with_reducible refine zcd ?_ (fun _ => ?_))
set_option maxHeartbeats 8000000 in
set_option maxRecDepth 100000 in
theorem impl_Great.calls (k : Nat) (a0 : Int) (a1 : Int) (r : List Int) (w : World) (h : impl_Great.f k a0 a1 = some r) :
  Calls Try.prog 68 #[.int .i64 a0, .int .i64 a1] w fun e w' => ∃ v0_ : Value, e = .returned (v0_) ∧ Kd.R (Kd.int .u8) 5 w' w.heap.size (fun _ => True) v0_ r ∧ Below w.heap.size w w' := by
 have HB := Aside0.mk (zbx w.heap.size w)
 have H : ((impl_Little.f k a0 a1).bind fun t454 => ((impl_turned.f k t454).bind fun t457 => (some t457))) = some r := h
 clear h
 replace H := zam.mp H
 obtain ⟨t454, A30, H⟩ := H
 try dsimp only at H
 have A3 := Aside0.mk A30
 clear A30
 replace H := zam.mp H
 obtain ⟨t457, A40, H⟩ := H
 try dsimp only at H
 have A4 := Aside0.mk A40
 clear A40
 obtain rfl := Option.some.inj H
 go_enter Try.func68, Try.ntmps68
 go_wp2_with (first | ((with_reducible refine zau (f := 69) rfl ?_); refine goesL_ (some 7) rfl rfl Try.func69 (by kernel_rfl) rfl #[.int .i64 a0, .int .i64 a1] rfl (by (try simp only [zal, zaq, zar]); first | done | rfl) ?_; (with_reducible refine (impl_Little.calls k a0 a1 t454 _ A3.out).mono ?_); rintro e w5 ⟨v455, rfl, ho0, hb⟩; refine ⟨_, rfl, ?_⟩; have xb_ := below_ofs (by repeat (first | (with_reducible first | exact HB.out | apply zaj | apply zad | apply zai) | exact HB.out)) hb; have n0_ := Aside0.mk (zbc ho0 (zba xb_)); have n1_ := Aside0.mk (zbb xb_ hb); clear HB; have HO456 := n0_; have HB := n1_; clear n0_ n1_; clear xb_ hb ho0; obtain ⟨Ao6, co6, eo6⟩ := zbe HO456.out; subst eo6) | ((with_reducible refine zau (f := 76) rfl ?_); refine goesL_ (some 8) rfl rfl Try.func76 (by kernel_rfl) rfl #[.slice Ao6 t454.length co6] rfl (by (try simp only [zal, zaq, zar]); first | done | rfl) ?_; (with_reducible refine (impl_turned.calls k _ _ t454 t457 _ ?side1 ?side2 A4.out).mono ?_); (case side1 => repeat (first | exact (zaf HO456.out).2.2 | (with_reducible first | apply zas | apply zat | apply zaw))); (case side2 => exact (zaf HO456.out).2.1); rintro e w7 ⟨v458, rfl, ho0, hb⟩; refine ⟨_, rfl, ?_⟩; have xb_ := below_ofs (by repeat (first | (with_reducible first | exact HB.out | apply zaj | apply zad | apply zai) | exact HB.out)) hb; have qHO456 := Kd.R_ofs (by (with_reducible repeat (first | apply zab | apply zac | apply zae)); exact HO456.out) hb; have n0_ := Aside0.mk (zak qHO456 (zan ho0) hb); have n1_ := Aside0.mk (zbc (zao ho0 (zav qHO456)) (zba xb_)); have n2_ := Aside0.mk (zbb xb_ hb); clear qHO456 HO456; clear HB; have HO456 := n0_; have HO459 := n1_; have HB := n2_; clear n0_ n1_ n2_; clear xb_ hb ho0))
 go_ret
 exact ⟨_, by first | rfl | (simp [zbj, zbk] <;> rfl) | (simp [*, zbj, zbk] <;> rfl), by (with_reducible repeat (first | apply zab | apply zac | apply zae)); exact zbm HO459.out (fun _ hk => trivial), by repeat (first | (with_reducible first | exact HB.out | apply zaj | apply zad | apply zai) | exact HB.out)⟩
def impl_WordBytes.l0 : Nat → Bool → List Int → List Int → Int → Int → Option (List Int)
 | 0, _, _, _, _, _ => none
 | k + 1, x1, x5, x9, x10, x11 => if x11 < x10 then (if 0 ≤ x11 then (if x11 < (x9.length : Int) then (if x1 = true then ((impl_Word.f (rd x9 x11)).bind fun t464 => ((impl_Great.f k t464 4).bind fun t465 => (if x5.length + t465.length < 140737488355328 then (impl_WordBytes.l0 k x1 (x5 ++ t465) x9 x10 (wrap64 (x11 + 1))) else (none)))) else ((impl_Word.f (rd x9 x11)).bind fun t471 => ((impl_Little.f k t471 4).bind fun t472 => (if x5.length + t472.length < 140737488355328 then (impl_WordBytes.l0 k x1 (x5 ++ t472) x9 x10 (wrap64 (x11 + 1))) else (none))))) else (none)) else (none)) else (some x5)
def impl_WordBytes.f (k : Nat) (l0 : List Int) (a1 : Bool) : Option (List Int) := impl_WordBytes.l0 k a1 (([] : List Int)) l0 (l0.length : Int) 0
theorem impl_WordBytes.mono_l : ∀ k, (∀ y0 y1 y2 y3 y4, LeO (impl_WordBytes.l0 k y0 y1 y2 y3 y4) (impl_WordBytes.l0 (k + 1) y0 y1 y2 y3 y4))
 | 0 => fun _ _ _ _ _ r h => by simp [impl_WordBytes.l0] at h
 | k + 1 => by
  have ih0 := impl_WordBytes.mono_l k
  ·intro y0 y1 y2 y3 y4
   unfold impl_WordBytes.l0
   repeat' first
   | (with_reducible exact ih0 _ _ _ _ _)
   | (with_reducible exact impl_Great.mono _ _ _)
   | (with_reducible exact impl_Little.mono _ _ _)
   | (with_reducible exact zcc _)
   | (with_reducible exact zcg _)
   | (with_reducible refine zcr ?_ ?_)
   | (with_reducible refine zcd ?_ (fun _ => ?_))
   | exact ih0 _ _ _ _ _
theorem impl_WordBytes.mono : ∀ a0 a1 k, LeO (impl_WordBytes.f k a0 a1) (impl_WordBytes.f (k + 1) a0 a1) := by
 intro a0 a1 k
 have ih0 := impl_WordBytes.mono_l k
 unfold impl_WordBytes.f
 repeat' first
   | (with_reducible exact ih0 _ _ _ _ _)
   | (with_reducible exact impl_Great.mono _ _ _)
   | (with_reducible exact impl_Little.mono _ _ _)
   | (with_reducible exact zcc _)
   | (with_reducible exact zcg _)
   | (with_reducible refine zcr ?_ ?_)
   | (with_reducible refine zcd ?_ (fun _ => ?_))
   | exact ih0 _ _ _ _ _
set_option maxHeartbeats 8000000 in
set_option maxRecDepth 100000 in
theorem impl_WordBytes.calls (k : Nat) (A0 : Option Addr) (c0 : Nat) (l0 : List Int) (a1 : Bool) (r : List Int) (w : World) (hr0 : Kd.C (Kd.int .i64) w A0 l0.length l0) (hc0 : l0.length ≤ c0) (h : impl_WordBytes.f k l0 a1 = some r) :
  Calls Try.prog 50 #[.slice A0 l0.length c0, .bool a1] w fun e w' => ∃ v0_ : Value, e = .returned (v0_) ∧ Kd.R (Kd.int .u8) 5 w' w.heap.size (fun _ => True) v0_ r ∧ Below w.heap.size w w' := by
 have HR0 := Aside0.mk hr0
 have HC0 := Aside0.mk hc0
 clear hr0 hc0
 have HB := Aside0.mk (zbx w.heap.size w)
 have H : (impl_WordBytes.l0 k a1 (([] : List Int)) l0 (l0.length : Int) 0) = some r := h
 clear h
 obtain ⟨y460, hy460⟩ : ∃ y_ : List Int, y_ = (([] : List Int)) := ⟨_, rfl⟩
 replace H : (impl_WordBytes.l0 k a1 y460 l0 (l0.length : Int) 0) = some r := by first | (rw [hy460]; with_reducible first | exact H | exact bind_ofs H) | (with_reducible first | exact H | exact bind_ofs H) | (rw [hy460]; exact H) | exact H
 have Ny460 := Aside0.mk hy460
 clear hy460
 have H' := Aside0.mk H
 clear H
 go_enter Try.func50, Try.ntmps50
 go_wp2_with (first | ((with_reducible refine zds (N := 8) rfl ?_); refine zec (Kd.int .u8) _ 5 ?hg (N := 8) ?hd (xs := ([] : List Int)) (inner := []) (ok := fun _ => True) (okp := fun _ => True) ?hr ?hp (fun _ hk => hk) trivial (zbx _ _) (zbp _) (by simp) ?_; (case hd => rfl); (case hg => rfl); (case hr => first | (go_simp; done) | (go_simp; rfl)); (case hp => exact (zdp _ _)); intro v461 w3 ho4 hb hg_ hnew_; have xb_ := below_ofs (by repeat (first | (with_reducible first | exact HB.out | apply zaj | apply zad | apply zai) | exact HB.out)) hb; clear hg_ hnew_; (first | rw [← Ny460.out] at ho4 | (simp only [Int.reduceToNat] at ho4; rw [← Ny460.out] at ho4)); have n0_ := Aside0.mk (zbc ho4 (zba xb_)); have n1_ := Aside0.mk (zbb xb_ hb); clear HB; have HO462 := n0_; have HB := n1_; clear n0_ n1_; clear xb_ hb ho4))
 go_loopg [5, 11] k (fun kq v5 v11 w' => ∃ (x5_1 : List Int) (x11_1 : Int), v11 = .int .i64 x11_1 ∧ Aside0 (impl_WordBytes.l0 kq a1 x5_1 l0 (l0.length : Int) x11_1 = some r) ∧ Aside0 (kq ≤ k) ∧ Aside0 (Kd.R (Kd.int .u8) 5 w' w.heap.size (fun _ => True) v5 x5_1) ∧ Aside0 (Below w.heap.size w w'))
 case atStart => exact ⟨(y460), (0), (by first | rfl | (simp; done) | (simp [*]; done)), H', ⟨zbp _⟩, ⟨by (with_reducible repeat (first | apply zab | apply zac | apply zae)); exact HO462.out⟩, ⟨by repeat (first | (with_reducible first | exact HB.out | apply zaj | apply zad | apply zai) | exact HB.out)⟩⟩
 case round =>
  clear H'
  try clear p2
  obtain ⟨x5_1, x11_1, rfl, HA, HK1, HO_5, HB⟩ := hrel
  cases gk with
  | zero => exact absurd HA.out (by simp [impl_WordBytes.l0])
  | succ k1 =>
   have H := HA.out
   clear HA
   simp only [impl_WordBytes.l0] at H
   by_cases c5 : x11_1 < (l0.length : Int)
   ·rw [if_pos c5] at H
    have c5b0 : decide (x11_1 < (l0.length : Int)) = true := zax c5
    clear c5
    by_cases c6 : 0 ≤ x11_1
    ·rw [if_pos c6] at H
     have c6b0 : decide (0 ≤ x11_1) = true := zax c6
     clear c6
     by_cases c7 : x11_1 < (l0.length : Int)
     ·rw [if_pos c7] at H
      have c7b0 : decide (x11_1 < (l0.length : Int)) = true := zax c7
      clear c7
      by_cases c8 : a1 = true
      ·subst c8
       have H1 : ((impl_Word.f (rd l0 x11_1)).bind fun t464 => ((impl_Great.f k1 t464 4).bind fun t465 => (if x5_1.length + t465.length < 140737488355328 then (impl_WordBytes.l0 k1 true (x5_1 ++ t465) l0 (l0.length : Int) (wrap64 (x11_1 + 1))) else (none)))) = some r := by rw [if_pos rfl] at H; exact H
       clear H
       have H := H1
       clear H1
       replace H := zam.mp H
       obtain ⟨t464, A90, H⟩ := H
       try dsimp only at H
       have A9 := Aside0.mk A90
       clear A90
       replace H := zam.mp H
       obtain ⟨t465, A100, H⟩ := H
       try dsimp only at H
       have A10 := Aside0.mk A100
       clear A100
       by_cases c11 : x5_1.length + t465.length < 140737488355328
       ·rw [if_pos c11] at H
        have LMc11 := Aside0.mk c11
        clear c11
        obtain ⟨y468, hy468⟩ : ∃ y_ : List Int, y_ = (x5_1 ++ t465) := ⟨_, rfl⟩
        replace H : (impl_WordBytes.l0 k1 true y468 l0 (l0.length : Int) (wrap64 (x11_1 + 1))) = some r := by first | (rw [hy468]; with_reducible first | exact H | exact bind_ofs H) | (with_reducible first | exact H | exact bind_ofs H) | (rw [hy468]; exact H) | exact H
        have Ny468 := Aside0.mk hy468
        clear hy468
        have H' := Aside0.mk H
        clear H
        have p463 : 0 ≤ (x11_1 : Int) := zap (by first | (with_reducible assumption) | assumption)
        have q463 : x11_1 < (l0.length : Int) := zap (by first | (with_reducible assumption) | assumption)
        obtain ⟨ad463, e463, hx463_0⟩ := zca HR0.out x11_1 p463 q463
        cases e463
        replace hx463_0 := (HB.out.cell (World.block_lt_of_cell? w _ hx463_0)).trans hx463_0
        replace p463 := zbn p463
        replace q463 := zbn q463
        go_wp2_with (first | ((with_reducible refine zau (f := 49) rfl ?_); refine goesL_ (some 18) rfl rfl Try.func49 (by kernel_rfl) rfl #[.int .i64 (rd l0 x11_1)] rfl (by (try simp only [zal, zaq, zar]); first | done | rfl) ?_; (with_reducible refine (impl_Word.calls (rd l0 x11_1) t464 _ A9.out).mono ?_); rintro e w' ⟨rfl, ⟨nd, rfl⟩⟩; refine ⟨_, rfl, ?_⟩) | ((with_reducible refine zau (f := 68) rfl ?_); refine goesL_ (some 19) rfl rfl Try.func68 (by kernel_rfl) rfl #[.int .i64 t464, .int .i64 4] rfl (by (try simp only [zal, zaq, zar]); first | done | rfl) ?_; (with_reducible refine (impl_Great.calls k1 t464 4 t465 _ A10.out).mono ?_); rintro e w12 ⟨v466, rfl, ho0, hb⟩; refine ⟨_, rfl, ?_⟩; have xb_ := below_ofs (by repeat (first | (with_reducible first | exact HB.out | apply zaj | apply zad | apply zai) | exact HB.out)) hb; have qHO_5 := Kd.R_ofs (by (with_reducible repeat (first | apply zab | apply zac | apply zae)); exact HO_5.out) hb; have n0_ := Aside0.mk (zak qHO_5 (zan ho0) hb); have n1_ := Aside0.mk (zbc (zao ho0 (zav qHO_5)) (zba xb_)); have n2_ := Aside0.mk (zbb xb_ hb); clear qHO_5 HO_5; clear HB; have HO_5 := n0_; have HO467 := n1_; have HB := n2_; clear n0_ n1_ n2_; clear xb_ hb ho0; obtain ⟨Ao14, co14, eo14⟩ := zbe HO467.out; subst eo14) | ((with_reducible refine zdk (b := .append) (xs := #[.tmp 16, .tmp 19]) rfl ?_); at_builtin; refine zdv (Kd.int .u8) (w0 := w) w.heap.size rfl (.tmp 16) (.tmp 19) 22 5 (.int .u8 0) 1 rfl Try.underlying22 info5 rfl (by decide) (by omega) u5 x5_1 t465 _ _ _ (fun k_ => some k_ ≠ (.slice Ao14 t465.length co14 : Value).ownBlock) (fun _ => False) rfl rfl ?aO ?aR (fun _ _ h => h) (fun _ h => h.elim) ?aF ?aB ?aS ?aL ?_; (case aR => repeat (first | exact (zaf HO467.out).2.2 | (with_reducible first | apply zas | apply zat | apply zaw))); (case aB => exact (by repeat (first | (with_reducible first | exact HB.out | apply zaj | apply zad | apply zai) | exact HB.out))); (case aF => exact (fun k_ hk => zel (zav (by (with_reducible repeat (first | apply zab | apply zac | apply zae)); exact HO467.out)) k_ hk)); (case aO => exact (by (with_reducible repeat (first | apply zab | apply zac | apply zae)); exact zbm HO_5.out (fun _ hk => hk.2))); (case aS => exact (zba (by repeat (first | (with_reducible first | exact HB.out | apply zaj | apply zad | apply zai) | exact HB.out)))); (case aL => have := LMc11.out; omega); intro v469 w13 ho hb hg hat; rw [← Ny468.out] at ho; have n0_ := Aside0.mk (zdw (ok := (fun _ => True)) (by (with_reducible repeat (first | apply zab | apply zac | apply zae)); exact HO467.out) hg hat); have n1_ := Aside0.mk (hb); have n2_ := Aside0.mk (ho); clear HO467 HB HO_5; have HO467 := n0_; have HB := n1_; have HO470 := n2_; clear n0_ n1_ n2_; clear ho hb hg hat))
        go_roundg k1
        case measure => have := HK1.out; omega
        case rel => exact ⟨(y468), (wrap64 (x11_1 + 1)), (by first | rfl | (simp; done) | (simp [*]; done)), H', ⟨by have := HK1.out; omega⟩, ⟨by (with_reducible repeat (first | apply zab | apply zac | apply zae)); exact zbm HO470.out (fun _ hk => trivial)⟩, ⟨by repeat (first | (with_reducible first | exact HB.out | apply zaj | apply zad | apply zai) | exact HB.out)⟩⟩
       ·rw [if_neg c11] at H
        exact absurd H (by simp)
      ·replace c8 := zbu.mpr c8
       subst c8
       have H1 : ((impl_Word.f (rd l0 x11_1)).bind fun t471 => ((impl_Little.f k1 t471 4).bind fun t472 => (if x5_1.length + t472.length < 140737488355328 then (impl_WordBytes.l0 k1 false (x5_1 ++ t472) l0 (l0.length : Int) (wrap64 (x11_1 + 1))) else (none)))) = some r := by rw [if_neg (show ¬ (false = true) by decide)] at H; exact H
       clear H
       have H := H1
       clear H1
       replace H := zam.mp H
       obtain ⟨t471, A150, H⟩ := H
       try dsimp only at H
       have A15 := Aside0.mk A150
       clear A150
       replace H := zam.mp H
       obtain ⟨t472, A160, H⟩ := H
       try dsimp only at H
       have A16 := Aside0.mk A160
       clear A160
       by_cases c17 : x5_1.length + t472.length < 140737488355328
       ·rw [if_pos c17] at H
        have LMc17 := Aside0.mk c17
        clear c17
        obtain ⟨y475, hy475⟩ : ∃ y_ : List Int, y_ = (x5_1 ++ t472) := ⟨_, rfl⟩
        replace H : (impl_WordBytes.l0 k1 false y475 l0 (l0.length : Int) (wrap64 (x11_1 + 1))) = some r := by first | (rw [hy475]; with_reducible first | exact H | exact bind_ofs H) | (with_reducible first | exact H | exact bind_ofs H) | (rw [hy475]; exact H) | exact H
        have Ny475 := Aside0.mk hy475
        clear hy475
        have H' := Aside0.mk H
        clear H
        have p463 : 0 ≤ (x11_1 : Int) := zap (by first | (with_reducible assumption) | assumption)
        have q463 : x11_1 < (l0.length : Int) := zap (by first | (with_reducible assumption) | assumption)
        obtain ⟨ad463, e463, hx463_0⟩ := zca HR0.out x11_1 p463 q463
        cases e463
        replace hx463_0 := (HB.out.cell (World.block_lt_of_cell? w _ hx463_0)).trans hx463_0
        replace p463 := zbn p463
        replace q463 := zbn q463
        go_wp2_with (first | ((with_reducible refine zau (f := 49) rfl ?_); refine goesL_ (some 23) rfl rfl Try.func49 (by kernel_rfl) rfl #[.int .i64 (rd l0 x11_1)] rfl (by (try simp only [zal, zaq, zar]); first | done | rfl) ?_; (with_reducible refine (impl_Word.calls (rd l0 x11_1) t471 _ A15.out).mono ?_); rintro e w' ⟨rfl, ⟨nd, rfl⟩⟩; refine ⟨_, rfl, ?_⟩) | ((with_reducible refine zau (f := 69) rfl ?_); refine goesL_ (some 24) rfl rfl Try.func69 (by kernel_rfl) rfl #[.int .i64 t471, .int .i64 4] rfl (by (try simp only [zal, zaq, zar]); first | done | rfl) ?_; (with_reducible refine (impl_Little.calls k1 t471 4 t472 _ A16.out).mono ?_); rintro e w18 ⟨v473, rfl, ho0, hb⟩; refine ⟨_, rfl, ?_⟩; have xb_ := below_ofs (by repeat (first | (with_reducible first | exact HB.out | apply zaj | apply zad | apply zai) | exact HB.out)) hb; have qHO_5 := Kd.R_ofs (by (with_reducible repeat (first | apply zab | apply zac | apply zae)); exact HO_5.out) hb; have n0_ := Aside0.mk (zak qHO_5 (zan ho0) hb); have n1_ := Aside0.mk (zbc (zao ho0 (zav qHO_5)) (zba xb_)); have n2_ := Aside0.mk (zbb xb_ hb); clear qHO_5 HO_5; clear HB; have HO_5 := n0_; have HO474 := n1_; have HB := n2_; clear n0_ n1_ n2_; clear xb_ hb ho0; obtain ⟨Ao20, co20, eo20⟩ := zbe HO474.out; subst eo20) | ((with_reducible refine zdk (b := .append) (xs := #[.tmp 21, .tmp 24]) rfl ?_); at_builtin; refine zdv (Kd.int .u8) (w0 := w) w.heap.size rfl (.tmp 21) (.tmp 24) 22 5 (.int .u8 0) 1 rfl Try.underlying22 info5 rfl (by decide) (by omega) u5 x5_1 t472 _ _ _ (fun k_ => some k_ ≠ (.slice Ao20 t472.length co20 : Value).ownBlock) (fun _ => False) rfl rfl ?aO ?aR (fun _ _ h => h) (fun _ h => h.elim) ?aF ?aB ?aS ?aL ?_; (case aR => repeat (first | exact (zaf HO474.out).2.2 | (with_reducible first | apply zas | apply zat | apply zaw))); (case aB => exact (by repeat (first | (with_reducible first | exact HB.out | apply zaj | apply zad | apply zai) | exact HB.out))); (case aF => exact (fun k_ hk => zel (zav (by (with_reducible repeat (first | apply zab | apply zac | apply zae)); exact HO474.out)) k_ hk)); (case aO => exact (by (with_reducible repeat (first | apply zab | apply zac | apply zae)); exact zbm HO_5.out (fun _ hk => hk.2))); (case aS => exact (zba (by repeat (first | (with_reducible first | exact HB.out | apply zaj | apply zad | apply zai) | exact HB.out)))); (case aL => have := LMc17.out; omega); intro v476 w19 ho hb hg hat; rw [← Ny475.out] at ho; have n0_ := Aside0.mk (zdw (ok := (fun _ => True)) (by (with_reducible repeat (first | apply zab | apply zac | apply zae)); exact HO474.out) hg hat); have n1_ := Aside0.mk (hb); have n2_ := Aside0.mk (ho); clear HO474 HB HO_5; have HO474 := n0_; have HB := n1_; have HO477 := n2_; clear n0_ n1_ n2_; clear ho hb hg hat))
        go_roundg k1
        case measure => have := HK1.out; omega
        case rel => exact ⟨(y475), (wrap64 (x11_1 + 1)), (by first | rfl | (simp; done) | (simp [*]; done)), H', ⟨by have := HK1.out; omega⟩, ⟨by (with_reducible repeat (first | apply zab | apply zac | apply zae)); exact zbm HO477.out (fun _ hk => trivial)⟩, ⟨by repeat (first | (with_reducible first | exact HB.out | apply zaj | apply zad | apply zai) | exact HB.out)⟩⟩
       ·rw [if_neg c17] at H
        exact absurd H (by simp)
     ·rw [if_neg c7] at H
      exact absurd H (by simp)
    ·rw [if_neg c6] at H
     exact absurd H (by simp)
   ·rw [if_neg c5] at H
    have c5b0 : decide (x11_1 < (l0.length : Int)) = false := zbq c5
    clear c5
    obtain rfl := Option.some.inj H
    go_wp2
    go_ret
    exact ⟨_, by first | rfl | (simp [zbj, zbk] <;> rfl) | (simp [*, zbj, zbk] <;> rfl), by (with_reducible repeat (first | apply zab | apply zac | apply zae)); exact HO_5.out, by repeat (first | (with_reducible first | exact HB.out | apply zaj | apply zad | apply zai) | exact HB.out)⟩
end Go.Proofs.Ytdineaebljpfaaa.P
