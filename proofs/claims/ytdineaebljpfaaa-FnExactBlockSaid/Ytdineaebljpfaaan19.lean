import Derived.Test.Ytdineaebljpfaaan18
namespace Go.Proofs.Ytdineaebljpfaaa.P
open Go.RowKit Go.Proofs.YtdineaebljpfaaaW.PrintWords Go.Proofs.YtdineaebljpfaaaW.PrintLast Go.Proofs.YtdineaebljpfaaaW.PrintMore
attribute [local go_sem] zcu zcv zdf zdg zci zcj zcw zcx   -- for this text's walks alone
set_option linter.unusedVariables false
set_option linter.unusedSimpArgs false

def impl_Quarter.j0 : Nat → Int → Int → Int → Int → List Int → Bool → Option (List Int)
 | 0, _, _, _, _, _, _ => none
 | k + 1, x1, x2, x3, x4, x11, x25 => if x25 = true then (some x11) else ((impl_step.f x11 x1 x2 x4 16).bind fun t296 => ((impl_step.f t296 x3 x4 x2 12).bind fun t297 => ((impl_step.f t297 x1 x2 x4 8).bind fun t298 => ((impl_step.f t298 x3 x4 x2 7).bind fun t299 => (some t299)))))
def impl_Quarter.f (k : Nat) (l0 : List Int) (a1 : Int) (a2 : Int) (a3 : Int) (a4 : Int) : Option (List Int) := (slices_Clone_int_int.f l0).bind fun t289 => (if (l0.length : Int) = 16 then ((impl_placesOk.f k (([a1, a2, a3, a4] : List Int)) 16).bind fun t295 => (impl_Quarter.j0 k a1 a2 a3 a4 t289 (!t295))) else (impl_Quarter.j0 k a1 a2 a3 a4 t289 true))
theorem impl_Quarter.mono_l : ∀ k, (∀ y0 y1 y2 y3 y4 y5, LeO (impl_Quarter.j0 k y0 y1 y2 y3 y4 y5) (impl_Quarter.j0 (k + 1) y0 y1 y2 y3 y4 y5))
 | 0 => fun _ _ _ _ _ _ r h => by simp [impl_Quarter.j0] at h
 | k + 1 => by
  have ih0 := impl_Quarter.mono_l k
  ·intro y0 y1 y2 y3 y4 y5
   unfold impl_Quarter.j0
   repeat' first
   | (with_reducible exact ih0 _ _ _ _ _ _)
   | (with_reducible exact impl_placesOk.mono _ _ _)
   | (with_reducible exact zcc _)
   | (with_reducible exact zcg _)
   | (with_reducible refine zcr ?_ ?_)
   | (with_reducible refine zcd ?_ (fun _ => ?_))
   | exact ih0 _ _ _ _ _ _
theorem impl_Quarter.mono : ∀ a0 a1 a2 a3 a4 k, LeO (impl_Quarter.f k a0 a1 a2 a3 a4) (impl_Quarter.f (k + 1) a0 a1 a2 a3 a4) := by
 intro a0 a1 a2 a3 a4 k
 have ih0 := impl_Quarter.mono_l k
 unfold impl_Quarter.f
 repeat' first
   | (with_reducible exact ih0 _ _ _ _ _ _)
   | (with_reducible exact impl_placesOk.mono _ _ _)
   | (with_reducible exact zcc _)
   | (with_reducible exact zcg _)
   | (with_reducible refine zcr ?_ ?_)
   | (with_reducible refine zcd ?_ (fun _ => ?_))
   | exact ih0 _ _ _ _ _ _
set_option maxHeartbeats 8000000 in
set_option maxRecDepth 100000 in
theorem impl_Quarter.calls (k : Nat) (A0 : Option Addr) (c0 : Nat) (l0 : List Int) (a1 : Int) (a2 : Int) (a3 : Int) (a4 : Int) (r : List Int) (w : World) (hr0 : Kd.C (Kd.int .i64) w A0 l0.length l0) (hc0 : l0.length ≤ c0) (h : impl_Quarter.f k l0 a1 a2 a3 a4 = some r) :
  Calls Try.prog 19 #[.slice A0 l0.length c0, .int .i64 a1, .int .i64 a2, .int .i64 a3, .int .i64 a4] w fun e w' => ∃ v0_ : Value, e = .returned (v0_) ∧ Kd.R (Kd.int .i64) 3 w' w.heap.size (fun _ => True) v0_ r ∧ Below w.heap.size w w' := by
 have HR0 := Aside0.mk hr0
 have HC0 := Aside0.mk hc0
 clear hr0 hc0
 have HB := Aside0.mk (zbx w.heap.size w)
 have H : ((slices_Clone_int_int.f l0).bind fun t289 => (if (l0.length : Int) = 16 then ((impl_placesOk.f k (([a1, a2, a3, a4] : List Int)) 16).bind fun t295 => (impl_Quarter.j0 k a1 a2 a3 a4 t289 (!t295))) else (impl_Quarter.j0 k a1 a2 a3 a4 t289 true))) = some r := h
 clear h
 replace H := zam.mp H
 obtain ⟨t289, A60, H⟩ := H
 try dsimp only at H
 have A6 := Aside0.mk A60
 clear A60
 have HC7 := Aside0.mk H
 clear H
 go_enter Try.func19, Try.ntmps19
 go_upto_region 2 with (first | ((with_reducible refine zau (f := 40) rfl ?_); refine goesL_ (some 13) rfl rfl Try.func40 (by kernel_rfl) rfl #[.slice A0 l0.length c0] rfl (by (try simp only [zal, zaq, zar]); first | done | rfl) ?_; (with_reducible refine (slices_Clone_int_int.calls _ _ l0 t289 _ ?side1 ?side2 A6.out).mono ?_); (case side1 => repeat (first | exact HR0.out | (with_reducible first | apply zas | apply zat | apply zaw))); (case side2 => exact HC0.out); rintro e w8 ⟨v290, rfl, ho0, hb⟩; refine ⟨_, rfl, ?_⟩; have xb_ := below_ofs (by repeat (first | (with_reducible first | exact HB.out | apply zaj | apply zad | apply zai) | exact HB.out)) hb; have n0_ := Aside0.mk (zbc ho0 (zba xb_)); have n1_ := Aside0.mk (zbb xb_ hb); clear HB; have HO291 := n0_; have HB := n1_; clear n0_ n1_; clear xb_ hb ho0))
 (try simp only [Act.put, zaa, zag, zah])
 go_cut [25] (fun v25 wc => ∃ (kq : Nat) (x25_6 : Bool), v25 = .bool x25_6 ∧ Aside0 (impl_Quarter.j0 kq a1 a2 a3 a4 t289 x25_6 = some r) ∧ Aside0 (kq ≤ k) ∧ Aside0 (Kd.R (Kd.int .i64) 3 wc w.heap.size (fun _ => True) v290 t289) ∧ Aside0 (Below w.heap.size w wc))
 case first =>
  have H := HC7.out
  clear HC7
  by_cases c9 : (l0.length : Int) = 16
  ·rw [if_pos c9] at H
   have c9b0 : ((l0.length : Int) == 16) = true := zdn.mpr c9
   have c9b1 : ((l0.length : Int) != 16) = false := zbv.mpr c9
   clear c9
   (first | rw [c9b0] | (simp only [i64_w, i32_w]; rw [c9b0]) | skip)
   obtain ⟨y292, hy292⟩ : ∃ y_ : List Int, y_ = (([a1, a2, a3, a4] : List Int)) := ⟨_, rfl⟩
   replace H : ((impl_placesOk.f k y292 16).bind fun t295 => (impl_Quarter.j0 k a1 a2 a3 a4 t289 (!t295))) = some r := by first | (rw [hy292]; with_reducible first | exact H | exact bind_ofs H) | (with_reducible first | exact H | exact bind_ofs H) | (rw [hy292]; exact H) | exact H
   have Ny292 := Aside0.mk hy292
   clear hy292
   replace H := zam.mp H
   obtain ⟨t295, A100, H⟩ := H
   try dsimp only at H
   have A10 := Aside0.mk A100
   clear A100
   have H' := Aside0.mk H
   clear H
   go_wp2_with (first | ((with_reducible refine zds (N := 22) rfl ?_); (try (refine gate_guard (by rfl) ?_; dsimp only)); refine zec (Kd.int .i64) _ 3 ?hg (N := 22) ?hd (xs := ([a1, a2, a3, a4] : List Int)) (inner := [.int .i64 a1, .int .i64 a2, .int .i64 a3, .int .i64 a4]) (ok := fun _ => True) (okp := fun _ => True) ?hr ?hp (fun _ hk => hk) trivial (zbx _ _) (zbp _) (by simp) ?_; (case hd => rfl); (case hg => rfl); (case hr => first | (go_simp; done) | (go_simp; rfl)); (case hp => exact (zdy (show Kd.M (Kd.int .i64) _ _ _ a1 [.int .i64 a1] from rfl) (zdy (show Kd.M (Kd.int .i64) _ _ _ a2 [.int .i64 a2] from rfl) (zdy (show Kd.M (Kd.int .i64) _ _ _ a3 [.int .i64 a3] from rfl) (zdy (show Kd.M (Kd.int .i64) _ _ _ a4 [.int .i64 a4] from rfl) (zdp _ _)))))); intro v293 w11 ho12 hb hg_ hnew_; have xb_ := below_ofs (by repeat (first | (with_reducible first | exact HB.out | apply zaj | apply zad | apply zai) | exact HB.out)) hb; clear hg_ hnew_; (first | rw [← Ny292.out] at ho12 | (simp only [Int.reduceToNat] at ho12; rw [← Ny292.out] at ho12)); have qHO291 := Kd.R_ofs (by (with_reducible repeat (first | apply zab | apply zac | apply zae)); exact HO291.out) hb; have n0_ := Aside0.mk (zak qHO291 (zan ho12) hb); have n1_ := Aside0.mk (zbc (zao ho12 (zav qHO291)) (zba xb_)); have n2_ := Aside0.mk (zbb xb_ hb); clear qHO291 HO291; clear HB; have HO291 := n0_; have HO294 := n1_; have HB := n2_; clear n0_ n1_ n2_; clear xb_ hb ho12; obtain ⟨Ao13, co13, eo13⟩ := zbe HO294.out; subst eo13) | (go_at_call 41; (with_reducible refine (impl_placesOk.calls k _ _ y292 16 t295 _ ?side1 ?side2 A10.out).mono ?_); (case side1 => repeat (first | exact (zaf HO294.out).2.2 | (with_reducible first | apply zas | apply zat | apply zaw))); (case side2 => exact (zaf HO294.out).2.1); rintro e w' ⟨rfl, ⟨nd, rfl⟩⟩))
   go_meet
   case rel => exact ⟨_, (!t295), (by first | rfl | (simp; done) | (simp [*]; done)), H', ⟨by first | omega | exact zbp _⟩, ⟨by (with_reducible repeat (first | apply zab | apply zac | apply zae)); exact zbm HO291.out (fun _ hk => trivial)⟩, ⟨by repeat (first | (with_reducible first | exact HB.out | apply zaj | apply zad | apply zai) | exact HB.out)⟩⟩
  ·rw [if_neg c9] at H
   have c9b0 : ((l0.length : Int) == 16) = false := zbz.mpr c9
   have c9b1 : ((l0.length : Int) != 16) = true := zdh.mpr c9
   (first | rw [c9b0] | (simp only [i64_w, i32_w]; rw [c9b0]) | skip)
   have H' := Aside0.mk H
   clear H
   go_wp2
   go_meet
   case rel => exact ⟨_, (true), (by first | rfl | (simp; done) | (simp [*]; done)), H', ⟨by first | omega | exact zbp _⟩, ⟨by (with_reducible repeat (first | apply zab | apply zac | apply zae)); exact HO291.out⟩, ⟨by repeat (first | (with_reducible first | exact HB.out | apply zaj | apply zad | apply zai) | exact HB.out)⟩⟩
 case rest =>
  clear HC7
  try clear c1
  try clear p2
  try clear c4
  try clear c9
  try clear c9b0
  try clear c9b1
  obtain ⟨kq, x25_6, rfl, HA, HJ6, HO_11, HB⟩ := hcut
  cases kq with
  | zero => exact absurd HA.out (by simp [impl_Quarter.j0])
  | succ kj6 =>
   have H := HA.out
   clear HA
   simp only [impl_Quarter.j0] at H
   by_cases c14 : x25_6 = true
   ·subst c14
    have H1 : (some t289) = some r := by rw [if_pos rfl] at H; exact H
    clear H
    have H := H1
    clear H1
    obtain rfl := Option.some.inj H
    go_wp2
    go_ret
    exact ⟨_, by first | rfl | (simp [zbj, zbk] <;> rfl) | (simp [*, zbj, zbk] <;> rfl), by (with_reducible repeat (first | apply zab | apply zac | apply zae)); exact HO_11.out, by repeat (first | (with_reducible first | exact HB.out | apply zaj | apply zad | apply zai) | exact HB.out)⟩
   ·replace c14 := zbu.mpr c14
    subst c14
    have H1 : ((impl_step.f t289 a1 a2 a4 16).bind fun t296 => ((impl_step.f t296 a3 a4 a2 12).bind fun t297 => ((impl_step.f t297 a1 a2 a4 8).bind fun t298 => ((impl_step.f t298 a3 a4 a2 7).bind fun t299 => (some t299))))) = some r := by rw [if_neg (show ¬ (false = true) by decide)] at H; exact H
    clear H
    have H := H1
    clear H1
    replace H := zam.mp H
    obtain ⟨t296, A150, H⟩ := H
    try dsimp only at H
    have A15 := Aside0.mk A150
    clear A150
    replace H := zam.mp H
    obtain ⟨t297, A160, H⟩ := H
    try dsimp only at H
    have A16 := Aside0.mk A160
    clear A160
    replace H := zam.mp H
    obtain ⟨t298, A170, H⟩ := H
    try dsimp only at H
    have A17 := Aside0.mk A170
    clear A170
    replace H := zam.mp H
    obtain ⟨t299, A180, H⟩ := H
    try dsimp only at H
    have A18 := Aside0.mk A180
    clear A180
    obtain rfl := Option.some.inj H
    obtain ⟨Ao19, co19, eo19⟩ := zbe HO_11.out
    subst eo19
    go_wp2_with (first | ((with_reducible refine zau (f := 42) rfl ?_); refine goesL_ (some 31) rfl rfl Try.func42 (by kernel_rfl) rfl #[.slice Ao19 t289.length co19, .int .i64 a1, .int .i64 a2, .int .i64 a4, .int .i64 16] rfl (by (try simp only [zal, zaq, zar]); first | done | rfl) ?_; (with_reducible refine (impl_step.calls (fun k_ => some k_ = (.slice Ao19 t289.length co19 : Value).ownBlock) (.slice Ao19 t289.length co19) t289 a1 a2 a4 16 t296 w _ ?side1 ?side2 A15.out).mono ?_); (case side1 => repeat (first | (with_reducible first | exact HB.out | apply zaj | apply zad | apply zai) | exact HB.out)); (case side2 => exact zdz rfl HO_11.out); rintro e w20 ⟨rfl, hy0, hb, hkp⟩; refine ⟨_, rfl, ?_⟩; have n0_ := Aside0.mk (zeh rfl hy0 (fun k_ e_ => HO_11.out.1 k_ e_)); have n1_ := Aside0.mk (hb); clear HO_11 HB; have HO_11 := n0_; have HB := n1_; clear n0_ n1_; (try clear hb); (try clear hkp); (try clear hy0)) | ((with_reducible refine zau (f := 42) rfl ?_); refine goesL_ (some 36) rfl rfl Try.func42 (by kernel_rfl) rfl #[.slice Ao19 t289.length co19, .int .i64 a3, .int .i64 a4, .int .i64 a2, .int .i64 12] rfl (by (try simp only [zal, zaq, zar]); first | done | rfl) ?_; (with_reducible refine (impl_step.calls (fun k_ => some k_ = (.slice Ao19 t289.length co19 : Value).ownBlock) (.slice Ao19 t289.length co19) t296 a3 a4 a2 12 t297 w _ ?side1 ?side2 A16.out).mono ?_); (case side1 => repeat (first | (with_reducible first | exact HB.out | apply zaj | apply zad | apply zai) | exact HB.out)); (case side2 => exact zdz rfl HO_11.out); rintro e w21 ⟨rfl, hy0, hb, hkp⟩; refine ⟨_, rfl, ?_⟩; have n0_ := Aside0.mk (zeh rfl hy0 (fun k_ e_ => HO_11.out.1 k_ e_)); have n1_ := Aside0.mk (hb); clear HO_11 HB; have HO_11 := n0_; have HB := n1_; clear n0_ n1_; (try clear hb); (try clear hkp); (try clear hy0)) | ((with_reducible refine zau (f := 42) rfl ?_); refine goesL_ (some 41) rfl rfl Try.func42 (by kernel_rfl) rfl #[.slice Ao19 t289.length co19, .int .i64 a1, .int .i64 a2, .int .i64 a4, .int .i64 8] rfl (by (try simp only [zal, zaq, zar]); first | done | rfl) ?_; (with_reducible refine (impl_step.calls (fun k_ => some k_ = (.slice Ao19 t289.length co19 : Value).ownBlock) (.slice Ao19 t289.length co19) t297 a1 a2 a4 8 t298 w _ ?side1 ?side2 A17.out).mono ?_); (case side1 => repeat (first | (with_reducible first | exact HB.out | apply zaj | apply zad | apply zai) | exact HB.out)); (case side2 => exact zdz rfl HO_11.out); rintro e w22 ⟨rfl, hy0, hb, hkp⟩; refine ⟨_, rfl, ?_⟩; have n0_ := Aside0.mk (zeh rfl hy0 (fun k_ e_ => HO_11.out.1 k_ e_)); have n1_ := Aside0.mk (hb); clear HO_11 HB; have HO_11 := n0_; have HB := n1_; clear n0_ n1_; (try clear hb); (try clear hkp); (try clear hy0)) | ((with_reducible refine zau (f := 42) rfl ?_); refine goesL_ (some 46) rfl rfl Try.func42 (by kernel_rfl) rfl #[.slice Ao19 t289.length co19, .int .i64 a3, .int .i64 a4, .int .i64 a2, .int .i64 7] rfl (by (try simp only [zal, zaq, zar]); first | done | rfl) ?_; (with_reducible refine (impl_step.calls (fun k_ => some k_ = (.slice Ao19 t289.length co19 : Value).ownBlock) (.slice Ao19 t289.length co19) t298 a3 a4 a2 7 t299 w _ ?side1 ?side2 A18.out).mono ?_); (case side1 => repeat (first | (with_reducible first | exact HB.out | apply zaj | apply zad | apply zai) | exact HB.out)); (case side2 => exact zdz rfl HO_11.out); rintro e w23 ⟨rfl, hy0, hb, hkp⟩; refine ⟨_, rfl, ?_⟩; have n0_ := Aside0.mk (zeh rfl hy0 (fun k_ e_ => HO_11.out.1 k_ e_)); have n1_ := Aside0.mk (hb); clear HO_11 HB; have HO_11 := n0_; have HB := n1_; clear n0_ n1_; (try clear hb); (try clear hkp); (try clear hy0)))
    go_ret
    exact ⟨_, by first | rfl | (simp [zbj, zbk] <;> rfl) | (simp [*, zbj, zbk] <;> rfl), by (with_reducible repeat (first | apply zab | apply zac | apply zae)); exact HO_11.out, by repeat (first | (with_reducible first | exact HB.out | apply zaj | apply zad | apply zai) | exact HB.out)⟩
def slices_Concat_int_int.f (l0 : List (List Int)) : Option (List Int) := if l0.flatten.length ≤ 1000000 ∧ l0.length ≤ 1000000 then some l0.flatten else none
theorem slices_Concat_int_int.cut (A : Option Addr) (c : Nat) (xs : List Int) (hc : xs.length ≤ c) (W : World) : (Instr.slice 33 (.slice A xs.length c) none (some (.int .i64 0)) none).run Try.prog W = .ok (.slice A 0 c) W := by
 obtain ⟨ti, hti, hz⟩ := Option.map_eq_some_iff.1 info3
 simp only [zdb] at hz
 have h := (print_take_of (P := Try.prog) (Value.int .i64) 0 33 3 .i64 Try.underlying33 hti hz.2.1 A c xs 0 (by omega) (by omega) hc).1 W
 simpa using h
set_option maxHeartbeats 8000000 in
set_option maxRecDepth 100000 in
theorem slices_Concat_int_int.grow (n : Nat) (hn : n ≤ 1000000) (w : World) : Calls Try.prog 66 #[.slice none 0 0, .int .i64 n] w fun e w' => ∃ v0_ : Value, e = .returned (v0_) ∧ Kd.R (Kd.int .i64) 3 w' w.heap.size (fun _ => True) v0_ [] ∧ Below w.heap.size w w' := by
 rcases Nat.eq_zero_or_pos n with rfl | h0
 ·go_enter Try.func66, Try.ntmps66
  go_wp2
  go_ret
  exact ⟨_, rfl, Kd.R_nil _ _ _ _ _, zbx _ _⟩
 ·have q0 : ¬ ((n : Int) < 0) := by omega
  have q1 : (0 : Int) < (n : Int) := by omega
  have q2 : (n : Int) ≤ 1000000 := by omega
  have hcut0 : ∀ W : World, (Instr.slice 33 (.slice none 0 0) none (some (.int .i64 0)) none).run Try.prog W = .ok (.slice none 0 0) W := by
   intro W
   obtain ⟨ti, hti, hz⟩ := Option.map_eq_some_iff.1 info3
   simp only [zdb] at hz
   have h := (print_take_of (P := Try.prog) (Value.int .i64) 0 33 3 .i64 Try.underlying33 hti hz.2.1 none 0 ([] : List Int) 0 (by omega) (by simp) (by simp)).1 W
   simpa using h
  have LM := Aside0.mk hn
  clear hn h0
  go_enter Try.func66, Try.ntmps66
  go_wp2_with (((with_reducible refine zdk (b := .append) (xs := #[.tmp 20, .tmp 21]) rfl ?_); at_builtin; refine Kd.R_append_zeros (Kd.int .i64) (w0 := w) w.heap.size rfl (.tmp 20) (.tmp 21) 33 3 3 (.int .i64 0) 8 rfl Try.underlying33 Try.underlying3 info3 rfl (by decide) (by omega) (.slice none 0 0) ([] : List Int) 0 (n : Int) (fun _ => True) rfl rfl rfl (fun _ _ => trivial) (Kd.R_nil _ _ _ _ _) (by omega) (zbx _ _) (zbp _) (by have := LM.out; simp; omega) ?_; intro v1 w1 ho hb hg hat; have n0_ := Aside0.mk hb; have n1_ := Aside0.mk ho; clear hb ho hg hat; generalize (([] : List Int) ++ List.replicate (n : Int).toNat (0 : Int)) = ys at n1_; obtain ⟨A1, c1, e1⟩ := zbe n1_.out; subst e1; have hcut1 := slices_Concat_int_int.cut A1 c1 ys (zaf n1_.out).2.1))
  go_ret
  exact ⟨_, rfl, by have h := Kd.R_take n1_.out (m := 0) (Nat.zero_le _); simpa using h, n0_.out⟩
theorem slices_Concat_int_int.part {w : World} {ad : Addr} {ls : List (List Int)} {i : Nat} {x : List Int} (hx : ls[i]? = some x)
  (h : ∀ j p, ls[j]? = some p → ∃ c, c.length = (Kd.slice 3 (Kd.int .i64)).sz ∧ (Kd.slice 3 (Kd.int .i64)).K w p c ∧ ∀ i u, c[i]? = some u → w.cell? (ad.add (j * (Kd.slice 3 (Kd.int .i64)).sz + i)) = some u) :
  ∃ A c, w.cell? (ad.add i) = some (.slice A x.length c) ∧ x.length ≤ c ∧ Kd.C (Kd.int .i64) w A x.length x := by
 obtain ⟨c, _, ⟨A, c1, rfl, hl, hC⟩, hcell⟩ := h i x hx
 have h3 := hcell 0 _ rfl
 rw [show i * (Kd.slice 3 (Kd.int .i64)).sz + 0 = i from by show i * 1 + 0 = i; omega] at h3
 exact ⟨A, c1, h3, hl, hC⟩
theorem slices_Concat_int_int.sum_step (ls : List (List Int)) (i : Nat) (x : List Int) (hx : ls[i]? = some x) : (ls.take (i + 1)).flatten = (ls.take i).flatten ++ x := by
 have hi : i < ls.length := (List.getElem?_eq_some_iff.1 hx).1
 have he : ls[i] = x := (List.getElem?_eq_some_iff.1 hx).2
 rw [List.take_succ_eq_append_getElem hi, List.flatten_append, he]
 simp
theorem slices_Concat_int_int.sum_le (ls : List (List Int)) (i : Nat) : (ls.take i).flatten.length ≤ ls.flatten.length := by
 conv => rhs; rw [← List.take_append_drop i ls]
 rw [List.flatten_append, List.length_append]
 omega
set_option maxHeartbeats 8000000 in
set_option maxRecDepth 100000 in
theorem slices_Concat_int_int.calls (A0 : Option Addr) (c0 : Nat) (l0 : List (List Int)) (r : List Int) (w : World) (hr0 : Kd.C (Kd.slice 3 (Kd.int .i64)) w A0 l0.length l0) (hc0 : l0.length ≤ c0) (h : slices_Concat_int_int.f l0 = some r) :
  Calls Try.prog 47 #[.slice A0 l0.length c0] w fun e w' => ∃ v0_ : Value, e = .returned (v0_) ∧ Kd.R (Kd.int .i64) 3 w' w.heap.size (fun _ => True) v0_ r ∧ Below w.heap.size w w' := by
 unfold slices_Concat_int_int.f at h
 by_cases c3 : l0.flatten.length ≤ 1000000 ∧ l0.length ≤ 1000000
 ·rw [if_pos c3] at h
  obtain rfl := Option.some.inj h
  clear h
  obtain ⟨hT, hN⟩ := c3
  have PA := Aside0.mk hr0
  have HT := Aside0.mk hT
  obtain ⟨n, hn⟩ : ∃ n, l0.length = n := ⟨_, rfl⟩
  rw [hn] at hN hc0 ⊢
  have HNH := Aside0.mk hn
  clear hn hr0 hT
  go_enter Try.func47, Try.ntmps47
  go_wp2
  go_loopg [3, 11] n (fun g s3 s11 wr => w = wr ∧ ∃ i : Nat, i ≤ n ∧ g = n - i ∧ s11 = .int .i64 i ∧ s3 = .int .i64 (((l0.take i).flatten.length : Nat) : Int))
  case atStart => exact ⟨rfl, 0, Nat.zero_le _, rfl, rfl, by simp⟩
  case round =>
   obtain ⟨rfl, i, hi, rfl, rfl, rfl⟩ := hrel
   by_cases hlt : i < n
   ·obtain ⟨x, hx⟩ : ∃ x, l0[i]? = some x := ⟨l0[i]'(by rw [HNH.out]; exact hlt), List.getElem?_eq_getElem _⟩
    obtain ⟨ad, rfl, hcell⟩ := PA.out.2.2 (by have := HNH.out; omega)
    obtain ⟨A, c, hcl, _, _⟩ := slices_Concat_int_int.part hx hcell
    clear hcell
    have hs1 := congrArg List.length (slices_Concat_int_int.sum_step l0 i x hx)
    rw [List.length_append] at hs1
    have hs2 := slices_Concat_int_int.sum_le l0 (i + 1)
    have hT := HT.out
    have HS := Aside0.mk hs1
    generalize (l0.take i).flatten.length = acc at hs1 HS ⊢
    have hb2 : (acc : Int) + (x.length : Int) ≤ 140737488355328 := by omega
    have hb4 : ¬ ((acc : Int) + (x.length : Int) < 0) := by omega
    have hb3 : (0 : Int) ≤ (acc : Int) := by omega
    clear hs1 hs2 hT hx
    go_wp2
    go_roundg (n - (i + 1))
    case measure => omega
    case rel => exact ⟨rfl, i + 1, by omega, rfl, by go_num, by rw [HS.out]; first | rfl | (congr 1; push_cast; omega)⟩
   ·obtain rfl : n = i := by omega
    rw [show l0.take n = l0 by rw [← HNH.out, List.take_length]]
    have HG := fun W => slices_Concat_int_int.grow l0.flatten.length HT.out W
    generalize hTT : l0.flatten.length = T at HG ⊢
    have hTi : (0 : Int) ≤ (T : Int) := by omega
    have HTT := Aside0.mk hTT
    clear hTT
    go_wp2_with ((go_at_call 66; (with_reducible refine (HG _).mono ?_); rintro e w1 ⟨v1, rfl, ho0, hb⟩; have HO1 := Aside0.mk ho0; have HB := Aside0.mk hb; clear ho0 hb))
    go_loopg [6, 27] n (fun g s6 s27 wr => ∃ i : Nat, i ≤ n ∧ n - i ≤ g ∧ s27 = .int .i64 i ∧ Aside0 (Kd.R (Kd.int .i64) 3 wr w.heap.size (fun _ => True) s6 (l0.take i).flatten) ∧ Aside0 (Below w.heap.size w wr))
    case atStart => exact ⟨0, Nat.zero_le _, by omega, rfl, ⟨by simpa using HO1.out⟩, HB⟩
    case round =>
     clear HO1 HB
     obtain ⟨i, hi, hg2, rfl, HO, HB⟩ := hrel
     by_cases hlt : i < n
     ·obtain ⟨x, hx⟩ : ∃ x, l0[i]? = some x := ⟨l0[i]'(by rw [HNH.out]; exact hlt), List.getElem?_eq_getElem _⟩
      obtain ⟨ad, rfl, hcell⟩ := PA.out.2.2 (by have := HNH.out; omega)
      obtain ⟨A, c, hcl0, _, hC⟩ := slices_Concat_int_int.part hx hcell
      have hcl : wr.cell? (ad.add i) = some (.slice A x.length c) := pw_cell_below HB.out hcl0
      have HC := Aside0.mk (zbr hC HB.out)
      have hlz : (i : Int) < (n : Int) := by omega
      have hs1 := slices_Concat_int_int.sum_step l0 i x hx
      have hs2 := slices_Concat_int_int.sum_le l0 (i + 1)
      have HS := Aside0.mk hs1
      have HL := Aside0.mk (show (l0.take i).flatten.length + x.length ≤ 1000000 by rw [hs1, List.length_append] at hs2; have := HT.out; omega)
      clear hs1 hs2 hcell hcl0 hC hx
      generalize (l0.take i).flatten = acc at HO HS HL
      go_wp2_with (((with_reducible refine zdk (b := .append) (xs := #[.tmp 31, .tmp 32]) rfl ?_); at_builtin; refine zdv (Kd.int .i64) (w0 := w) w.heap.size rfl (.tmp 31) (.tmp 32) 33 3 (.int .i64 0) 8 rfl Try.underlying33 info3 rfl (by decide) (by omega) _ acc x _ _ _ (fun _ => True) (fun _ => False) rfl rfl HO.out HC.out (fun _ _ h => h) (fun _ h => h.elim) (fun _ _ => trivial) HB.out HB.out.size (by have := HL.out; omega) ?_; intro v2 w2 ho hb hg hat; have n0_ := Aside0.mk hb; have n1_ := Aside0.mk ho; clear hb ho hg hat))
      go_roundg (n - (i + 1))
      case measure => omega
      case rel => exact ⟨i + 1, by omega, zbp _, by go_num, ⟨by rw [HS.out]; exact n1_.out⟩, n0_⟩
     ·obtain rfl : n = i := by omega
      rw [show l0.take n = l0 by rw [← HNH.out, List.take_length]] at HO
      go_wp2
      go_ret
      exact ⟨_, rfl, HO.out, HB.out⟩
 ·rw [if_neg c3] at h
  cases h
end Go.Proofs.Ytdineaebljpfaaa.P
