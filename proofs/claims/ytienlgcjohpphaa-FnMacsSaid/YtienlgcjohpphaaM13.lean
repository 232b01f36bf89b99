import Derived.Test.YtienlgcjohpphaaM12
namespace Go.Proofs.Ytienlgcjohpphaa.P
open Go.RowKit Go.Proofs.YtienlgcjohpphaaW.PrintWords Go.Proofs.YtienlgcjohpphaaW.PrintLast Go.Proofs.YtienlgcjohpphaaW.PrintMore
attribute [local go_sem] zdd zde zdy zdz zcb zcc zdf zdg   -- for this text's walks alone
set_option linter.unusedVariables false
set_option linter.unusedSimpArgs false

def impl_HashStart.f  : Option (List Int) := some (([1779033703, 3144134277, 1013904242, 2773480762, 1359893119, 2600822924, 528734635, 1541459225] : List Int))
set_option maxHeartbeats 8000000 in
set_option maxRecDepth 100000 in
theorem impl_HashStart.calls  (r : List Int) (w : World) (h : impl_HashStart.f  = some r) :
  Calls Try.prog 35 #[] w fun e w' => ∃ v0_ : Value, e = .returned (v0_) ∧ Kd.R (Kd.int .i64) 3 w' w.heap.size (fun _ => True) v0_ r ∧ Below w.heap.size w w' := by
 have HB := Aside0.mk (zbq w.heap.size w)
 have H : (some (([1779033703, 3144134277, 1013904242, 2773480762, 1359893119, 2600822924, 528734635, 1541459225] : List Int))) = some r := h
 clear h
 obtain ⟨y455, hy455⟩ : ∃ y_ : List Int, y_ = (([1779033703, 3144134277, 1013904242, 2773480762, 1359893119, 2600822924, 528734635, 1541459225] : List Int)) := ⟨_, rfl⟩
 replace H : (some y455) = some r := by first | (rw [hy455]; with_reducible first | exact H | exact bind_ofs H) | (with_reducible first | exact H | exact bind_ofs H) | (rw [hy455]; exact H) | exact H
 have Ny455 := Aside0.mk hy455
 clear hy455
 obtain rfl := Option.some.inj H
 go_enter Try.func35, Try.ntmps35
 go_wp2_with (first | ((with_reducible refine zdt (N := 1) rfl ?_); refine zen (Kd.int .i64) _ 3 ?hg (N := 1) ?hd (xs := ([1779033703, 3144134277, 1013904242, 2773480762, 1359893119, 2600822924, 528734635, 1541459225] : List Int)) (inner := [.int .i64 1779033703, .int .i64 3144134277, .int .i64 1013904242, .int .i64 2773480762, .int .i64 1359893119, .int .i64 2600822924, .int .i64 528734635, .int .i64 1541459225]) (ok := fun _ => True) (okp := fun _ => True) ?hr ?hp (fun _ hk => hk) zbw (zbq _ _) (zbi _) (by simp) ?_; (case hd => rfl); (case hg => rfl); (case hr => first | (go_simp; done) | (go_simp; rfl)); (case hp => exact (zbh (show Kd.M (Kd.int .i64) _ _ _ 1779033703 [.int .i64 1779033703] from rfl) (zbh (show Kd.M (Kd.int .i64) _ _ _ 3144134277 [.int .i64 3144134277] from rfl) (zbh (show Kd.M (Kd.int .i64) _ _ _ 1013904242 [.int .i64 1013904242] from rfl) (zbh (show Kd.M (Kd.int .i64) _ _ _ 2773480762 [.int .i64 2773480762] from rfl) (zbh (show Kd.M (Kd.int .i64) _ _ _ 1359893119 [.int .i64 1359893119] from rfl) (zbh (show Kd.M (Kd.int .i64) _ _ _ 2600822924 [.int .i64 2600822924] from rfl) (zbh (show Kd.M (Kd.int .i64) _ _ _ 528734635 [.int .i64 528734635] from rfl) (zbh (show Kd.M (Kd.int .i64) _ _ _ 1541459225 [.int .i64 1541459225] from rfl) (zdq _ _)))))))))); intro v456 w1 ho2 hb hg_ hnew_; have xb_ := below_ofs (by repeat (first | (with_reducible first | exact HB.out | apply zai | apply zad | apply zah) | exact HB.out)) hb; clear hg_ hnew_; (first | rw [← Ny455.out] at ho2 | (simp only [Int.reduceToNat] at ho2; rw [← Ny455.out] at ho2)); have n0_ := Aside0.mk (zbj ho2 (zax xb_)); have n1_ := Aside0.mk (zbf xb_ hb); clear HB; have HO457 := n0_; have HB := n1_; clear n0_ n1_; clear xb_ hb ho2))
 go_ret
 exact ⟨_, by first | rfl | (simp [zbk, zbl] <;> rfl) | (simp [*, zbk, zbl] <;> rfl), by (with_reducible repeat (first | apply zab | apply zac | apply zae)); exact HO457.out, by repeat (first | (with_reducible first | exact HB.out | apply zai | apply zad | apply zah) | exact HB.out)⟩
def impl_WordBytes.l0 : Nat → Bool → List Int → List Int → Int → Int → Option (List Int)
 | 0, _, _, _, _, _ => none
 | k + 1, x1, x5, x9, x10, x11 => if x11 < x10 then (if 0 ≤ x11 then (if x11 < (x9.length : Int) then (if x1 = true then ((impl_Word.f (rd x9 x11)).bind fun t462 => ((impl_Great.f k t462 4).bind fun t463 => (if x5.length + t463.length < 140737488355328 then (impl_WordBytes.l0 k x1 (x5 ++ t463) x9 x10 (wrap64 (x11 + 1))) else (none)))) else ((impl_Word.f (rd x9 x11)).bind fun t469 => ((impl_Little.f k t469 4).bind fun t470 => (if x5.length + t470.length < 140737488355328 then (impl_WordBytes.l0 k x1 (x5 ++ t470) x9 x10 (wrap64 (x11 + 1))) else (none))))) else (none)) else (none)) else (some x5)
def impl_WordBytes.f (k : Nat) (l0 : List Int) (a1 : Bool) : Option (List Int) := impl_WordBytes.l0 k a1 (([] : List Int)) l0 (l0.length : Int) 0
theorem impl_WordBytes.mono_l : ∀ k, (∀ y0 y1 y2 y3 y4, LeO (impl_WordBytes.l0 k y0 y1 y2 y3 y4) (impl_WordBytes.l0 (k + 1) y0 y1 y2 y3 y4))
 | 0 => fun _ _ _ _ _ r h => by simp [impl_WordBytes.l0] at h
 | k + 1 => by
  have ih0 := impl_WordBytes.mono_l k
  ·intro y0 y1 y2 y3 y4
   unfold impl_WordBytes.l0
   repeat' first
   | (with_reducible exact ih0 _ _ _ _ _)
   | (with_reducible exact impl_Great.mono _ _ _)
   | (with_reducible exact impl_Little.mono _ _ _)
   | (with_reducible exact zcf _)
   | (with_reducible exact zcj _)
   | (with_reducible refine zdp ?_ ?_)
   | (with_reducible refine zcg ?_ (fun _ => ?_))
   | exact ih0 _ _ _ _ _
theorem impl_WordBytes.mono : ∀ a0 a1 k, LeO (impl_WordBytes.f k a0 a1) (impl_WordBytes.f (k + 1) a0 a1) := by
 intro a0 a1 k
 have ih0 := impl_WordBytes.mono_l k
 unfold impl_WordBytes.f
 repeat' first
   | (with_reducible exact ih0 _ _ _ _ _)
   | (with_reducible exact impl_Great.mono _ _ _)
   | (with_reducible exact impl_Little.mono _ _ _)
   | (with_reducible exact zcf _)
   | (with_reducible exact zcj _)
   | (with_reducible refine zdp ?_ ?_)
   | (with_reducible refine zcg ?_ (fun _ => ?_))
   | exact ih0 _ _ _ _ _
set_option maxHeartbeats 8000000 in
set_option maxRecDepth 100000 in
theorem impl_WordBytes.calls (k : Nat) (A0 : Option Addr) (c0 : Nat) (l0 : List Int) (a1 : Bool) (r : List Int) (w : World) (hr0 : Kd.C (Kd.int .i64) w A0 l0.length l0) (hc0 : l0.length ≤ c0) (h : impl_WordBytes.f k l0 a1 = some r) :
  Calls Try.prog 36 #[.slice A0 l0.length c0, .bool a1] w fun e w' => ∃ v0_ : Value, e = .returned (v0_) ∧ Kd.R (Kd.int .u8) 5 w' w.heap.size (fun _ => True) v0_ r ∧ Below w.heap.size w w' := by
 have HR0 := Aside0.mk hr0
 have HC0 := Aside0.mk hc0
 clear hr0 hc0
 have HB := Aside0.mk (zbq w.heap.size w)
 have H : (impl_WordBytes.l0 k a1 (([] : List Int)) l0 (l0.length : Int) 0) = some r := h
 clear h
 obtain ⟨y458, hy458⟩ : ∃ y_ : List Int, y_ = (([] : List Int)) := ⟨_, rfl⟩
 replace H : (impl_WordBytes.l0 k a1 y458 l0 (l0.length : Int) 0) = some r := by first | (rw [hy458]; with_reducible first | exact H | exact bind_ofs H) | (with_reducible first | exact H | exact bind_ofs H) | (rw [hy458]; exact H) | exact H
 have Ny458 := Aside0.mk hy458
 clear hy458
 have H' := Aside0.mk H
 clear H
 go_enter Try.func36, Try.ntmps36
 go_wp2_with (first | ((with_reducible refine zdt (N := 8) rfl ?_); refine zen (Kd.int .u8) _ 5 ?hg (N := 8) ?hd (xs := ([] : List Int)) (inner := []) (ok := fun _ => True) (okp := fun _ => True) ?hr ?hp (fun _ hk => hk) zbw (zbq _ _) (zbi _) (by simp) ?_; (case hd => rfl); (case hg => rfl); (case hr => first | (go_simp; done) | (go_simp; rfl)); (case hp => exact (zdq _ _)); intro v459 w3 ho4 hb hg_ hnew_; have xb_ := below_ofs (by repeat (first | (with_reducible first | exact HB.out | apply zai | apply zad | apply zah) | exact HB.out)) hb; clear hg_ hnew_; (first | rw [← Ny458.out] at ho4 | (simp only [Int.reduceToNat] at ho4; rw [← Ny458.out] at ho4)); have n0_ := Aside0.mk (zbj ho4 (zax xb_)); have n1_ := Aside0.mk (zbf xb_ hb); clear HB; have HO460 := n0_; have HB := n1_; clear n0_ n1_; clear xb_ hb ho4))
 go_loopg [5, 11] k (fun kq v5 v11 w' => ∃ (x5_1 : List Int) (x11_1 : Int), v11 = .int .i64 x11_1 ∧ Aside0 (impl_WordBytes.l0 kq a1 x5_1 l0 (l0.length : Int) x11_1 = some r) ∧ Aside0 (kq ≤ k) ∧ Aside0 (Kd.R (Kd.int .u8) 5 w' w.heap.size (fun _ => True) v5 x5_1) ∧ Aside0 (Below w.heap.size w w'))
 case atStart => exact ⟨(y458), (0), (by first | rfl | (simp; done) | (simp [*]; done)), H', ⟨zbi _⟩, ⟨by (with_reducible repeat (first | apply zab | apply zac | apply zae)); exact HO460.out⟩, ⟨by repeat (first | (with_reducible first | exact HB.out | apply zai | apply zad | apply zah) | exact HB.out)⟩⟩
 case round =>
  clear H'
  try clear p2
  try clear c3
  obtain ⟨x5_1, x11_1, rfl, HA, HK1, HO_5, HB⟩ := hrel
  cases gk with
  | zero => exact absurd HA.out (by simp [impl_WordBytes.l0])
  | succ k1 =>
   have H := HA.out
   clear HA
   simp only [impl_WordBytes.l0] at H
   by_cases c5 : x11_1 < (l0.length : Int)
   ·rw [if_pos c5] at H
    have c5b0 : decide (x11_1 < (l0.length : Int)) = true := zaq c5
    clear c5
    by_cases c6 : 0 ≤ x11_1
    ·rw [if_pos c6] at H
     have c6b0 : decide (0 ≤ x11_1) = true := zaq c6
     clear c6
     by_cases c7 : x11_1 < (l0.length : Int)
     ·rw [if_pos c7] at H
      have c7b0 : decide (x11_1 < (l0.length : Int)) = true := zaq c7
      clear c7
      by_cases c8 : a1 = true
      ·subst c8
       have H1 : ((impl_Word.f (rd l0 x11_1)).bind fun t462 => ((impl_Great.f k1 t462 4).bind fun t463 => (if x5_1.length + t463.length < 140737488355328 then (impl_WordBytes.l0 k1 true (x5_1 ++ t463) l0 (l0.length : Int) (wrap64 (x11_1 + 1))) else (none)))) = some r := by rw [if_pos rfl] at H; exact H
       clear H
       have H := H1
       clear H1
       replace H := zaj.mp H
       obtain ⟨t462, A90, H⟩ := H
       try dsimp only at H
       have A9 := Aside0.mk A90
       clear A90
       replace H := zaj.mp H
       obtain ⟨t463, A100, H⟩ := H
       try dsimp only at H
       have A10 := Aside0.mk A100
       clear A100
       by_cases c11 : x5_1.length + t463.length < 140737488355328
       ·rw [if_pos c11] at H
        have LMc11 := Aside0.mk c11
        clear c11
        obtain ⟨y466, hy466⟩ : ∃ y_ : List Int, y_ = (x5_1 ++ t463) := ⟨_, rfl⟩
        replace H : (impl_WordBytes.l0 k1 true y466 l0 (l0.length : Int) (wrap64 (x11_1 + 1))) = some r := by first | (rw [hy466]; with_reducible first | exact H | exact bind_ofs H) | (with_reducible first | exact H | exact bind_ofs H) | (rw [hy466]; exact H) | exact H
        have Ny466 := Aside0.mk hy466
        clear hy466
        have H' := Aside0.mk H
        clear H
        have p461 : 0 ≤ (x11_1 : Int) := zar (by first | (with_reducible assumption) | assumption)
        have q461 : x11_1 < (l0.length : Int) := zar (by first | (with_reducible assumption) | assumption)
        obtain ⟨ad461, e461, hx461_0⟩ := zca HR0.out x11_1 p461 q461
        cases e461
        replace hx461_0 := (HB.out.cell (World.block_lt_of_cell? w _ hx461_0)).trans hx461_0
        replace p461 := zbn p461
        replace q461 := zbn q461
        go_wp2_with (first | ((with_reducible refine zbc (f := 71) rfl ?_); refine goesL_ (some 18) rfl rfl Try.func71 (by kernel_rfl) rfl #[.int .i64 (rd l0 x11_1)] rfl (by (try simp only [zap, zau, zav]); first | done | rfl) ?_; (with_reducible refine (impl_Word.calls (rd l0 x11_1) t462 _ A9.out).mono ?_); rintro e w' ⟨rfl, ⟨nd, rfl⟩⟩; refine ⟨_, rfl, ?_⟩) | ((with_reducible refine zbc (f := 80) rfl ?_); refine goesL_ (some 19) rfl rfl Try.func80 (by kernel_rfl) rfl #[.int .i64 t462, .int .i64 4] rfl (by (try simp only [zap, zau, zav]); first | done | rfl) ?_; (with_reducible refine (impl_Great.calls k1 t462 4 t463 _ A10.out).mono ?_); rintro e w12 ⟨v464, rfl, ho0, hb⟩; refine ⟨_, rfl, ?_⟩; have xb_ := below_ofs (by repeat (first | (with_reducible first | exact HB.out | apply zai | apply zad | apply zah) | exact HB.out)) hb; have qHO_5 := Kd.R_ofs (by (with_reducible repeat (first | apply zab | apply zac | apply zae)); exact HO_5.out) hb; have n0_ := Aside0.mk (zak qHO_5 (zal ho0) hb); have n1_ := Aside0.mk (zbj (zam ho0 (zat qHO_5)) (zax xb_)); have n2_ := Aside0.mk (zbf xb_ hb); clear qHO_5 HO_5; clear HB; have HO_5 := n0_; have HO465 := n1_; have HB := n2_; clear n0_ n1_ n2_; clear xb_ hb ho0; obtain ⟨Ao14, co14, eo14⟩ := zbm HO465.out; subst eo14) | ((with_reducible refine zdr (b := .append) (xs := #[.tmp 16, .tmp 19]) rfl ?_); at_builtin; refine zei (Kd.int .u8) (w0 := w) w.heap.size rfl (.tmp 16) (.tmp 19) 23 5 (.int .u8 0) 1 rfl Try.underlying23 info5 rfl (by decide) (by omega) u5 x5_1 t463 _ _ _ (fun k_ => some k_ ≠ (.slice Ao14 t463.length co14 : Value).ownBlock) (fun _ => False) rfl rfl ?aO ?aR (fun _ _ h => h) (fun _ h => h.elim) ?aF ?aB ?aS ?aL ?_; (case aR => repeat (first | exact (zao HO465.out).2.2 | (with_reducible first | apply zba | apply zbb | apply zbg))); (case aB => exact (by repeat (first | (with_reducible first | exact HB.out | apply zai | apply zad | apply zah) | exact HB.out))); (case aF => exact (fun k_ hk => zek (zat (by (with_reducible repeat (first | apply zab | apply zac | apply zae)); exact HO465.out)) k_ hk)); (case aO => exact (by (with_reducible repeat (first | apply zab | apply zac | apply zae)); exact zbe HO_5.out (fun _ hk => hk.2))); (case aS => exact (zax (by repeat (first | (with_reducible first | exact HB.out | apply zai | apply zad | apply zah) | exact HB.out)))); (case aL => have := LMc11.out; omega); intro v467 w13 ho hb hg hat; rw [← Ny466.out] at ho; have n0_ := Aside0.mk (zef (ok := (fun _ => True)) (by (with_reducible repeat (first | apply zab | apply zac | apply zae)); exact HO465.out) hg hat); have n1_ := Aside0.mk (hb); have n2_ := Aside0.mk (ho); clear HO465 HB HO_5; have HO465 := n0_; have HB := n1_; have HO468 := n2_; clear n0_ n1_ n2_; clear ho hb hg hat))
        go_roundg k1
        case measure => have := HK1.out; omega
        case rel => exact ⟨(y466), (wrap64 (x11_1 + 1)), (by first | rfl | (simp; done) | (simp [*]; done)), H', ⟨by have := HK1.out; omega⟩, ⟨by (with_reducible repeat (first | apply zab | apply zac | apply zae)); exact zbe HO468.out (fun _ hk => zbw)⟩, ⟨by repeat (first | (with_reducible first | exact HB.out | apply zai | apply zad | apply zah) | exact HB.out)⟩⟩
       ·rw [if_neg c11] at H
        exact absurd H (by simp)
      ·replace c8 := zcv.mpr c8
       subst c8
       have H1 : ((impl_Word.f (rd l0 x11_1)).bind fun t469 => ((impl_Little.f k1 t469 4).bind fun t470 => (if x5_1.length + t470.length < 140737488355328 then (impl_WordBytes.l0 k1 false (x5_1 ++ t470) l0 (l0.length : Int) (wrap64 (x11_1 + 1))) else (none)))) = some r := by rw [if_neg (show ¬ (false = true) by decide)] at H; exact H
       clear H
       have H := H1
       clear H1
       replace H := zaj.mp H
       obtain ⟨t469, A150, H⟩ := H
       try dsimp only at H
       have A15 := Aside0.mk A150
       clear A150
       replace H := zaj.mp H
       obtain ⟨t470, A160, H⟩ := H
       try dsimp only at H
       have A16 := Aside0.mk A160
       clear A160
       by_cases c17 : x5_1.length + t470.length < 140737488355328
       ·rw [if_pos c17] at H
        have LMc17 := Aside0.mk c17
        clear c17
        obtain ⟨y473, hy473⟩ : ∃ y_ : List Int, y_ = (x5_1 ++ t470) := ⟨_, rfl⟩
        replace H : (impl_WordBytes.l0 k1 false y473 l0 (l0.length : Int) (wrap64 (x11_1 + 1))) = some r := by first | (rw [hy473]; with_reducible first | exact H | exact bind_ofs H) | (with_reducible first | exact H | exact bind_ofs H) | (rw [hy473]; exact H) | exact H
        have Ny473 := Aside0.mk hy473
        clear hy473
        have H' := Aside0.mk H
        clear H
        have p461 : 0 ≤ (x11_1 : Int) := zar (by first | (with_reducible assumption) | assumption)
        have q461 : x11_1 < (l0.length : Int) := zar (by first | (with_reducible assumption) | assumption)
        obtain ⟨ad461, e461, hx461_0⟩ := zca HR0.out x11_1 p461 q461
        cases e461
        replace hx461_0 := (HB.out.cell (World.block_lt_of_cell? w _ hx461_0)).trans hx461_0
        replace p461 := zbn p461
        replace q461 := zbn q461
        go_wp2_with (first | ((with_reducible refine zbc (f := 71) rfl ?_); refine goesL_ (some 23) rfl rfl Try.func71 (by kernel_rfl) rfl #[.int .i64 (rd l0 x11_1)] rfl (by (try simp only [zap, zau, zav]); first | done | rfl) ?_; (with_reducible refine (impl_Word.calls (rd l0 x11_1) t469 _ A15.out).mono ?_); rintro e w' ⟨rfl, ⟨nd, rfl⟩⟩; refine ⟨_, rfl, ?_⟩) | ((with_reducible refine zbc (f := 87) rfl ?_); refine goesL_ (some 24) rfl rfl Try.func87 (by kernel_rfl) rfl #[.int .i64 t469, .int .i64 4] rfl (by (try simp only [zap, zau, zav]); first | done | rfl) ?_; (with_reducible refine (impl_Little.calls k1 t469 4 t470 _ A16.out).mono ?_); rintro e w18 ⟨v471, rfl, ho0, hb⟩; refine ⟨_, rfl, ?_⟩; have xb_ := below_ofs (by repeat (first | (with_reducible first | exact HB.out | apply zai | apply zad | apply zah) | exact HB.out)) hb; have qHO_5 := Kd.R_ofs (by (with_reducible repeat (first | apply zab | apply zac | apply zae)); exact HO_5.out) hb; have n0_ := Aside0.mk (zak qHO_5 (zal ho0) hb); have n1_ := Aside0.mk (zbj (zam ho0 (zat qHO_5)) (zax xb_)); have n2_ := Aside0.mk (zbf xb_ hb); clear qHO_5 HO_5; clear HB; have HO_5 := n0_; have HO472 := n1_; have HB := n2_; clear n0_ n1_ n2_; clear xb_ hb ho0; obtain ⟨Ao20, co20, eo20⟩ := zbm HO472.out; subst eo20) | ((with_reducible refine zdr (b := .append) (xs := #[.tmp 21, .tmp 24]) rfl ?_); at_builtin; refine zei (Kd.int .u8) (w0 := w) w.heap.size rfl (.tmp 21) (.tmp 24) 23 5 (.int .u8 0) 1 rfl Try.underlying23 info5 rfl (by decide) (by omega) u5 x5_1 t470 _ _ _ (fun k_ => some k_ ≠ (.slice Ao20 t470.length co20 : Value).ownBlock) (fun _ => False) rfl rfl ?aO ?aR (fun _ _ h => h) (fun _ h => h.elim) ?aF ?aB ?aS ?aL ?_; (case aR => repeat (first | exact (zao HO472.out).2.2 | (with_reducible first | apply zba | apply zbb | apply zbg))); (case aB => exact (by repeat (first | (with_reducible first | exact HB.out | apply zai | apply zad | apply zah) | exact HB.out))); (case aF => exact (fun k_ hk => zek (zat (by (with_reducible repeat (first | apply zab | apply zac | apply zae)); exact HO472.out)) k_ hk)); (case aO => exact (by (with_reducible repeat (first | apply zab | apply zac | apply zae)); exact zbe HO_5.out (fun _ hk => hk.2))); (case aS => exact (zax (by repeat (first | (with_reducible first | exact HB.out | apply zai | apply zad | apply zah) | exact HB.out)))); (case aL => have := LMc17.out; omega); intro v474 w19 ho hb hg hat; rw [← Ny473.out] at ho; have n0_ := Aside0.mk (zef (ok := (fun _ => True)) (by (with_reducible repeat (first | apply zab | apply zac | apply zae)); exact HO472.out) hg hat); have n1_ := Aside0.mk (hb); have n2_ := Aside0.mk (ho); clear HO472 HB HO_5; have HO472 := n0_; have HB := n1_; have HO475 := n2_; clear n0_ n1_ n2_; clear ho hb hg hat))
        go_roundg k1
        case measure => have := HK1.out; omega
        case rel => exact ⟨(y473), (wrap64 (x11_1 + 1)), (by first | rfl | (simp; done) | (simp [*]; done)), H', ⟨by have := HK1.out; omega⟩, ⟨by (with_reducible repeat (first | apply zab | apply zac | apply zae)); exact zbe HO475.out (fun _ hk => zbw)⟩, ⟨by repeat (first | (with_reducible first | exact HB.out | apply zai | apply zad | apply zah) | exact HB.out)⟩⟩
       ·rw [if_neg c17] at H
        exact absurd H (by simp)
     ·rw [if_neg c7] at H
      exact absurd H (by simp)
    ·rw [if_neg c6] at H
     exact absurd H (by simp)
   ·rw [if_neg c5] at H
    have c5b0 : decide (x11_1 < (l0.length : Int)) = false := zbr c5
    clear c5
    obtain rfl := Option.some.inj H
    go_wp2
    go_ret
    exact ⟨_, by first | rfl | (simp [zbk, zbl] <;> rfl) | (simp [*, zbk, zbl] <;> rfl), by (with_reducible repeat (first | apply zab | apply zac | apply zae)); exact HO_5.out, by repeat (first | (with_reducible first | exact HB.out | apply zai | apply zad | apply zah) | exact HB.out)⟩
end Go.Proofs.Ytienlgcjohpphaa.P
