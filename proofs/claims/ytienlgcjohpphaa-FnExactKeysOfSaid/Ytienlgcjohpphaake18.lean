import Derived.Test.Ytienlgcjohpphaake17
namespace Go.Proofs.Ytienlgcjohpphaa.P
open Go.RowKit Go.Proofs.YtienlgcjohpphaaW.PrintWords Go.Proofs.YtienlgcjohpphaaW.PrintLast Go.Proofs.YtienlgcjohpphaaW.PrintMore
attribute [local go_sem] zbz zca zcn zco zbt zbu zcb zcc   -- for this text's walks alone
set_option linter.unusedVariables false
set_option linter.unusedSimpArgs false
set_option maxHeartbeats 8000000
set_option maxRecDepth 100000

def spec_HashPad.l0 : Nat → List Int → List Int → Option (List Int)
 | 0, _, _ => none
 | k + 1, x0, x3 => if ((x3.length : Int) % 64) = 56 then ((spec_Great.f k (wrap64 (8 * (x0.length : Int))) 8).bind fun t366 => (if x3.length + t366.length < 140737488355328 then (some (x3 ++ t366)) else (none))) else (if x3.length < 140737488355328 then (spec_HashPad.l0 k x0 (x3 ++ [0])) else (none))
def spec_HashPad.f (k : Nat) (l0 : List Int) : Option (List Int) := if (l0.length : Int) > 4000 then (some (([] : List Int))) else ((some (([] : List Int) : List Int)).bind fun y357 => (if y357.length + l0.length < 140737488355328 then ((some (y357 ++ l0 : List Int)).bind fun y360 => (if y360.length < 140737488355328 then (spec_HashPad.l0 k l0 (y360 ++ [128])) else (none))) else (none)))
theorem spec_HashPad.mono_l : ∀ k, (∀ y0 y1, LeO (spec_HashPad.l0 k y0 y1) (spec_HashPad.l0 (k + 1) y0 y1))
 | 0 => fun _ _ r h => by simp [spec_HashPad.l0] at h
 | k + 1 => by
  have ih0 := spec_HashPad.mono_l k
  ·intro y0 y1
   unfold spec_HashPad.l0
   have m0 := @spec_Great.mono
   exact mt
theorem spec_HashPad.mono : ∀ a0 k, LeO (spec_HashPad.f k a0) (spec_HashPad.f (k + 1) a0) := by
 intro a0 k
 have ih0 := spec_HashPad.mono_l k
 unfold spec_HashPad.f
 have m0 := @spec_Great.mono
 exact mt
theorem spec_HashPad.calls (k : Nat) (A0 : Option Addr) (c0 : Nat) (l0 : List Int) (r : List Int) (w : World) (hr0 : Kd.C (Kd.int .u8) w A0 l0.length l0) (hc0 : l0.length ≤ c0) (h : spec_HashPad.f k l0 = some r) :
  Calls Try.prog 33 #[.slice A0 l0.length c0] w fun e w' => ∃ v0_ : Value, e = .returned (v0_) ∧ Kd.R (Kd.int .u8) 5 w' w.heap.size (fun _ => True) v0_ r ∧ Below w.heap.size w w' := by
 have HR0 := Aside0.mk hr0
 have HC0 := Aside0.mk hc0
 clear hr0 hc0
 have HB := Aside0.mk (zbj w.heap.size w)
 have H : (if (l0.length : Int) > 4000 then (some (([] : List Int))) else ((some (([] : List Int) : List Int)).bind fun y357 => (if y357.length + l0.length < 140737488355328 then ((some (y357 ++ l0 : List Int)).bind fun y360 => (if y360.length < 140737488355328 then (spec_HashPad.l0 k l0 (y360 ++ [128])) else (none))) else (none)))) = some r := h
 clear h
 by_cases c2 : (l0.length : Int) > 4000
 ·rw [if_pos c2] at H
  have c2b0 := zaa c2
  have c2b1 : decide (4000 < l0.length) = true := zaa (by omega)
  clear c2
  obtain ⟨y354, hy354⟩ : ∃ y_ : List Int, y_ = (([] : List Int)) := ⟨_, rfl⟩
  replace H : (some y354) = some r := jrw hy354 H
  have Ny354 := Aside0.mk hy354
  clear hy354
  obtain rfl := Option.some.inj H
  go_enter Try.func33, Try.ntmps33
  go_wp2_with (first | (refine jgd 7 ?_; refine jlt 7 (Kd.int .u8) 5 ?_; intro v355 w3 ho4 hb; have xb_ := below_ofs bq hb; (first | rw [← Ny354.out] at ho4 | (simp only [Int.reduceToNat] at ho4; rw [← Ny354.out] at ho4)); have n_ := jA2 (zas ho4 (zaf xb_)) (zao xb_ hb); clear HB; obtain ⟨HO356, HB⟩ := n_; clear xb_ hb ho4))
  go_ret
  exact ⟨_, jex, by (with_reducible repeat (first | apply zau | apply zav | apply zaq)); exact HO356.out, bq⟩
 ·rw [if_neg c2] at H
  have c2b0 := zat c2
  have c2b1 : decide (4000 < l0.length) = false := zat (by omega)
  clear c2
  obtain ⟨y357, hy357⟩ : ∃ y_ : List Int, y_ = (([] : List Int)) := ⟨_, rfl⟩
  replace H := bto hy357 H
  have Ny357 := Aside0.mk hy357
  clear hy357
  by_cases c5 : y357.length + l0.length < 140737488355328
  ·rw [if_pos c5] at H
   have LMc5 := Aside0.mk c5
   clear c5
   obtain ⟨y360, hy360⟩ : ∃ y_ : List Int, y_ = (y357 ++ l0) := ⟨_, rfl⟩
   replace H := bto hy360 H
   have Ny360 := Aside0.mk hy360
   clear hy360
   by_cases c6 : y360.length < 140737488355328
   ·rw [if_pos c6] at H
    have LMc6 := Aside0.mk c6
    clear c6
    obtain ⟨y363, hy363⟩ : ∃ y_ : List Int, y_ = (y360 ++ [128]) := ⟨_, rfl⟩
    replace H : (spec_HashPad.l0 k l0 y363) = some r := jrw hy363 H
    have Ny363 := Aside0.mk hy363
    clear hy363
    have H' := Aside0.mk H
    clear H
    go_enter Try.func33, Try.ntmps33
    go_wp2_with (first | (refine jgd 8 ?_; refine jlt 8 (Kd.int .u8) 5 ?_; intro v358 w7 ho8 hb; have xb_ := below_ofs bq hb; (first | rw [← Ny357.out] at ho8 | (simp only [Int.reduceToNat] at ho8; rw [← Ny357.out] at ho8)); have n_ := jA2 (zas ho8 (zaf xb_)) (zao xb_ hb); clear HB; obtain ⟨HO359, HB⟩ := n_; clear xb_ hb ho8) | ((with_reducible refine zbx (b := .append) (xs := #[.tmp 8, .tmp 9]) rfl ?_); at_builtin; refine zce (Kd.int .u8) (w0 := w) w.heap.size rfl (.tmp 8) (.tmp 9) 23 5 (.int .u8 0) 1 rfl Try.underlying23 info5 rfl (by decide) (by omega) v358 y357 l0 _ _ _ (fun _ => True) (fun _ => False) rfl rfl ?aO ?aR (fun _ _ h => h) (fun _ h => h.elim) ?aF ?aB ?aS ?aL ?_; (case aR => exact jcs HR0.out); (case aB => exact bq); (case aF => exact (fun _ _ => trivial)); (case aO => exact (pR HO359.out)); (case aS => exact (zaf bq)); (case aL => have := LMc5.out; omega); intro v361 w9 ho hb hg hat; rw [← Ny360.out] at ho; have n_ := jA2 (hb) (ho); clear HB HO359; obtain ⟨HB, HO362⟩ := n_; clear ho hb hg hat) | ((with_reducible refine zbx (b := .append) (xs := #[.tmp 10, .tmp 11]) rfl ?_); at_builtin; refine zdt (Kd.int .u8) (w0 := w) w.heap.size rfl (.tmp 10) (.tmp 11) 23 5 (.int .u8 0) 1 rfl Try.underlying23 info5 rfl (by decide) (by omega) v361 y360 128 [.int .u8 128] (fun _ => True) (fun _ => False) rfl rfl ?aP (fun _ hk => hk.elim) ?aF ?aO ?aB ?aS ?aL ?_; (case aP => exact rfl); (case aB => exact bq); (case aF => exact (fun _ _ => trivial)); (case aO => exact (pR HO362.out)); (case aS => exact (zaf bq)); (case aL => have := LMc6.out; omega); intro v364 w10 ho hb hg hat; rw [← Ny363.out] at ho; have n_ := jA2 (hb) (ho); clear HB HO362; obtain ⟨HB, HO365⟩ := n_; clear ho hb hg hat))
    go_loopg [3] k (fun kq v3 w' => ∃ (x3_1 : List Int), Aside0 (spec_HashPad.l0 kq l0 x3_1 = some r) ∧ Aside0 (kq ≤ k) ∧ Aside0 (Kd.R (Kd.int .u8) 5 w' w.heap.size (fun _ => True) v3 x3_1) ∧ Aside0 (Below w.heap.size w w'))
    case atStart => exact ⟨(y363), H', ⟨zaw _⟩, ⟨pR HO365.out⟩, ⟨bq⟩⟩
    case round =>
     clear H'
     try clear c2
     try clear c2b0
     try clear c2b1
     try clear p2
     try clear c3
     try clear c5
     try clear c6
     obtain ⟨x3_1, HA, HK1, HO_3, HB⟩ := hrel
     cases gk with
     | zero => exact absurd HA.out (by simp [spec_HashPad.l0])
     | succ k1 =>
      have H := HA.out
      clear HA
      simp only [spec_HashPad.l0] at H
      by_cases c11 : ((x3_1.length : Int) % 64) = 56
      ·rw [if_pos c11] at H
       have c11b0 := beqT c11
       have c11b1 := zcv.mpr c11
       clear c11
       obtain ⟨t366, A12, H⟩ := bnd H
       by_cases c13 : x3_1.length + t366.length < 140737488355328
       ·rw [if_pos c13] at H
        have LMc13 := Aside0.mk c13
        clear c13
        obtain ⟨y369, hy369⟩ : ∃ y_ : List Int, y_ = (x3_1 ++ t366) := ⟨_, rfl⟩
        replace H : (some y369) = some r := jrw hy369 H
        have Ny369 := Aside0.mk hy369
        clear hy369
        obtain rfl := Option.some.inj H
        obtain ⟨Ao14, co14, eo14⟩ := zax HO_3.out
        subst eo14
        go_wp2_with (first | (refine jgc 86 ?_; refine jgs 24 Try.func86 #[.int .i64 (wrap64 (8 * (l0.length : Int))), .int .i64 8] ?_; (with_reducible refine (spec_Great.calls k1 (wrap64 (8 * (l0.length : Int))) 8 t366 _ A12.out).mono ?_); rintro e w15 ⟨v367, rfl, ho0, hb⟩; refine ⟨_, rfl, ?_⟩; have xb_ := below_ofs bq hb; have qHO_3 := Kd.R_ofs (pR HO_3.out) hb; have n_ := jA3 (zai qHO_3 (zag ho0) hb) (zas (zal ho0 (zar qHO_3)) (zaf xb_)) (zao xb_ hb); clear qHO_3 HO_3 HB; obtain ⟨HO_3, HO368, HB⟩ := n_; clear xb_ hb ho0; obtain ⟨Ao17, co17, eo17⟩ := zax HO368.out; subst eo17) | ((with_reducible refine zbx (b := .append) (xs := #[.tmp 20, .tmp 24]) rfl ?_); at_builtin; refine zce (Kd.int .u8) (w0 := w) w.heap.size rfl (.tmp 20) (.tmp 24) 23 5 (.int .u8 0) 1 rfl Try.underlying23 info5 rfl (by decide) (by omega) (.slice Ao14 x3_1.length co14) x3_1 t366 _ _ _ (fun k_ => some k_ ≠ (.slice Ao17 t366.length co17 : Value).ownBlock) (fun _ => False) rfl rfl ?aO ?aR (fun _ _ h => h) (fun _ h => h.elim) ?aF ?aB ?aS ?aL ?_; (case aR => repeat (first | exact (zad HO368.out).2.2 | (with_reducible first | apply zba | apply zbb | apply zbf))); (case aB => exact bq); (case aF => exact (fun k_ hk => zcs (zar (pR HO368.out)) k_ hk)); (case aO => exact (by (with_reducible repeat (first | apply zau | apply zav | apply zaq)); exact zap HO_3.out (fun _ hk => hk.2))); (case aS => exact (zaf bq)); (case aL => have := LMc13.out; omega); intro v370 w16 ho hb hg hat; rw [← Ny369.out] at ho; have n_ := jA3 (zch (ok := (fun _ => True)) (pR HO368.out) hg hat) (hb) (ho); clear HO368 HB HO_3; obtain ⟨HO368, HB, HO371⟩ := n_; clear ho hb hg hat))
        go_ret
        exact ⟨_, jex, tqR HO371.out, bq⟩
       ·rw [if_neg c13] at H
        exact absurd H (by simp)
      ·rw [if_neg c11] at H
       have c11b0 := zcr.mpr c11
       have c11b1 := bne_iff_ne.mpr c11
       by_cases c18 : x3_1.length < 140737488355328
       ·rw [if_pos c18] at H
        have LMc18 := Aside0.mk c18
        clear c18
        obtain ⟨y372, hy372⟩ : ∃ y_ : List Int, y_ = (x3_1 ++ [0]) := ⟨_, rfl⟩
        replace H : (spec_HashPad.l0 k1 l0 y372) = some r := jrw hy372 H
        have Ny372 := Aside0.mk hy372
        clear hy372
        have H' := Aside0.mk H
        clear H
        obtain ⟨Ao19, co19, eo19⟩ := zax HO_3.out
        subst eo19
        go_wp2_with (first | ((with_reducible refine zbx (b := .append) (xs := #[.tmp 17, .tmp 18]) rfl ?_); at_builtin; refine zdt (Kd.int .u8) (w0 := w) w.heap.size rfl (.tmp 17) (.tmp 18) 23 5 (.int .u8 0) 1 rfl Try.underlying23 info5 rfl (by decide) (by omega) (.slice Ao19 x3_1.length co19) x3_1 0 [.int .u8 0] (fun _ => True) (fun _ => False) rfl rfl ?aP (fun _ hk => hk.elim) ?aF ?aO ?aB ?aS ?aL ?_; (case aP => exact rfl); (case aB => exact bq); (case aF => exact (fun _ _ => trivial)); (case aO => exact (pR HO_3.out)); (case aS => exact (zaf bq)); (case aL => have := LMc18.out; omega); intro v373 w20 ho hb hg hat; rw [← Ny372.out] at ho; have n_ := jA2 (hb) (ho); clear HB HO_3; obtain ⟨HB, HO374⟩ := n_; clear ho hb hg hat))
        go_roundg k1
        case measure => have := HK1.out; omega
        case rel => exact ⟨(y372), H', ⟨by have := HK1.out; omega⟩, ⟨pR HO374.out⟩, ⟨bq⟩⟩
       ·rw [if_neg c18] at H
        exact absurd H (by simp)
   ·rw [if_neg c6] at H
    exact absurd H (by simp)
  ·rw [if_neg c5] at H
   exact absurd H (by simp)
def spec_HashStart.f  : Option (List Int) := some (([1779033703, 3144134277, 1013904242, 2773480762, 1359893119, 2600822924, 528734635, 1541459225] : List Int))
theorem spec_HashStart.calls  (r : List Int) (w : World) (h : spec_HashStart.f  = some r) :
  Calls Try.prog 75 #[] w fun e w' => ∃ v0_ : Value, e = .returned (v0_) ∧ Kd.R (Kd.int .i64) 3 w' w.heap.size (fun _ => True) v0_ r ∧ Below w.heap.size w w' := by
 have HB := Aside0.mk (zbj w.heap.size w)
 have H : (some (([1779033703, 3144134277, 1013904242, 2773480762, 1359893119, 2600822924, 528734635, 1541459225] : List Int))) = some r := h
 clear h
 obtain ⟨y375, hy375⟩ : ∃ y_ : List Int, y_ = (([1779033703, 3144134277, 1013904242, 2773480762, 1359893119, 2600822924, 528734635, 1541459225] : List Int)) := ⟨_, rfl⟩
 replace H : (some y375) = some r := jrw hy375 H
 have Ny375 := Aside0.mk hy375
 clear hy375
 obtain rfl := Option.some.inj H
 go_enter Try.func75, Try.ntmps75
 go_wp2_with (first | (refine jgd 1 ?_; refine Kd.R_lit (Kd.int .i64) _ 3 ?hg (N := 1) ?hd (xs := ([1779033703, 3144134277, 1013904242, 2773480762, 1359893119, 2600822924, 528734635, 1541459225] : List Int)) (inner := [.int .i64 1779033703, .int .i64 3144134277, .int .i64 1013904242, .int .i64 2773480762, .int .i64 1359893119, .int .i64 2600822924, .int .i64 528734635, .int .i64 1541459225]) (ok := fun _ => True) (okp := fun _ => True) ?hr ?hp (fun _ hk => hk) trivial (zbj _ _) (zaw _) (by simp) ?_; (case hd => rfl); (case hg => rfl); (case hr => first | (go_simp; done) | (go_simp; rfl)); (case hp => exact (zam (show Kd.M (Kd.int .i64) _ _ _ 1779033703 [.int .i64 1779033703] from rfl) (zam (show Kd.M (Kd.int .i64) _ _ _ 3144134277 [.int .i64 3144134277] from rfl) (zam (show Kd.M (Kd.int .i64) _ _ _ 1013904242 [.int .i64 1013904242] from rfl) (zam (show Kd.M (Kd.int .i64) _ _ _ 2773480762 [.int .i64 2773480762] from rfl) (zam (show Kd.M (Kd.int .i64) _ _ _ 1359893119 [.int .i64 1359893119] from rfl) (zam (show Kd.M (Kd.int .i64) _ _ _ 2600822924 [.int .i64 2600822924] from rfl) (zam (show Kd.M (Kd.int .i64) _ _ _ 528734635 [.int .i64 528734635] from rfl) (zam (show Kd.M (Kd.int .i64) _ _ _ 1541459225 [.int .i64 1541459225] from rfl) (zdu _ _)))))))))); intro v376 w1 ho2 hb hg_ hnew_; have xb_ := below_ofs bq hb; clear hg_ hnew_; (first | rw [← Ny375.out] at ho2 | (simp only [Int.reduceToNat] at ho2; rw [← Ny375.out] at ho2)); have n_ := jA2 (zas ho2 (zaf xb_)) (zao xb_ hb); clear HB; obtain ⟨HO377, HB⟩ := n_; clear xb_ hb ho2))
 go_ret
 exact ⟨_, jex, by (with_reducible repeat (first | apply zau | apply zav | apply zaq)); exact HO377.out, bq⟩
end Go.Proofs.Ytienlgcjohpphaa.P
