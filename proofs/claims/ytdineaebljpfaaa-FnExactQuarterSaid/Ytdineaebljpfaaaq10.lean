import Derived.Test.Ytdineaebljpfaaaq7
import Derived.Test.Ytdineaebljpfaaaq9
namespace Go.Proofs.Ytdineaebljpfaaa.P
open Go.RowKit Go.Proofs.YtdineaebljpfaaaW.PrintWords Go.Proofs.YtdineaebljpfaaaW.PrintLast Go.Proofs.YtdineaebljpfaaaW.PrintMore
attribute [local go_sem] max2_int min2_int max_two min_two zcg zch max_four min_four   -- for this text's walks alone
set_option linter.unusedVariables false
set_option linter.unusedSimpArgs false

def impl_Quarter.j0 : Nat → Int → Int → Int → Int → List Int → Bool → Option (List Int)
 | 0, _, _, _, _, _, _ => none
 | k + 1, x1, x2, x3, x4, x11, x25 => if x25 = true then (some x11) else ((impl_step.f x11 x1 x2 x4 16).bind fun t296 => ((impl_step.f t296 x3 x4 x2 12).bind fun t297 => ((impl_step.f t297 x1 x2 x4 8).bind fun t298 => ((impl_step.f t298 x3 x4 x2 7).bind fun t299 => (some t299)))))
def impl_Quarter.f (k : Nat) (l0 : List Int) (a1 : Int) (a2 : Int) (a3 : Int) (a4 : Int) : Option (List Int) := (slices_Clone_int_int.f l0).bind fun t289 => (if (l0.length : Int) = 16 then ((impl_placesOk.f k (([a1, a2, a3, a4] : List Int)) 16).bind fun t295 => (impl_Quarter.j0 k a1 a2 a3 a4 t289 (!t295))) else (impl_Quarter.j0 k a1 a2 a3 a4 t289 true))
theorem impl_Quarter.mono_l : ∀ k, (∀ y0 y1 y2 y3 y4 y5, LeO (impl_Quarter.j0 k y0 y1 y2 y3 y4 y5) (impl_Quarter.j0 (k + 1) y0 y1 y2 y3 y4 y5))
 | 0 => fun _ _ _ _ _ _ r h => by simp [impl_Quarter.j0] at h
 | k + 1 => by
  have ih0 := impl_Quarter.mono_l k
  ·intro y0 y1 y2 y3 y4 y5
   unfold impl_Quarter.j0
   repeat' first
   | (with_reducible exact ih0 _ _ _ _ _ _)
   | (with_reducible exact impl_placesOk.mono _ _ _)
   | (with_reducible exact zcl _)
   | (with_reducible exact zcm _)
   | (with_reducible refine LeO.ite ?_ ?_)
   | (with_reducible refine zcn ?_ (fun _ => ?_))
   | exact ih0 _ _ _ _ _ _
theorem impl_Quarter.mono : ∀ a0 a1 a2 a3 a4 k, LeO (impl_Quarter.f k a0 a1 a2 a3 a4) (impl_Quarter.f (k + 1) a0 a1 a2 a3 a4) := by
 intro a0 a1 a2 a3 a4 k
 have ih0 := impl_Quarter.mono_l k
 unfold impl_Quarter.f
 repeat' first
   | (with_reducible exact ih0 _ _ _ _ _ _)
   | (with_reducible exact impl_placesOk.mono _ _ _)
   | (with_reducible exact zcl _)
   | (with_reducible exact zcm _)
   | (with_reducible refine LeO.ite ?_ ?_)
   | (with_reducible refine zcn ?_ (fun _ => ?_))
   | exact ih0 _ _ _ _ _ _
set_option maxHeartbeats 8000000 in
set_option maxRecDepth 100000 in
theorem impl_Quarter.calls (k : Nat) (A0 : Option Addr) (c0 : Nat) (l0 : List Int) (a1 : Int) (a2 : Int) (a3 : Int) (a4 : Int) (r : List Int) (w : World) (hr0 : Kd.C (Kd.int .i64) w A0 l0.length l0) (hc0 : l0.length ≤ c0) (h : impl_Quarter.f k l0 a1 a2 a3 a4 = some r) :
  Calls Try.prog 19 #[.slice A0 l0.length c0, .int .i64 a1, .int .i64 a2, .int .i64 a3, .int .i64 a4] w fun e w' => ∃ v0_ : Value, e = .returned (v0_) ∧ Kd.R (Kd.int .i64) 3 w' w.heap.size (fun _ => True) v0_ r ∧ Below w.heap.size w w' := by
 have HR0 := Aside0.mk hr0
 have HC0 := Aside0.mk hc0
 clear hr0 hc0
 have HB := Aside0.mk (Below.refl w.heap.size w)
 have H : ((slices_Clone_int_int.f l0).bind fun t289 => (if (l0.length : Int) = 16 then ((impl_placesOk.f k (([a1, a2, a3, a4] : List Int)) 16).bind fun t295 => (impl_Quarter.j0 k a1 a2 a3 a4 t289 (!t295))) else (impl_Quarter.j0 k a1 a2 a3 a4 t289 true))) = some r := h
 clear h
 replace H := zai.mp H
 obtain ⟨t289, A60, H⟩ := H
 try dsimp only at H
 have A6 := Aside0.mk A60
 clear A60
 have HC7 := Aside0.mk H
 clear H
 go_enter Try.func19, Try.ntmps19
 go_upto_region 2 with (first | ((with_reducible refine zat (f := 40) rfl ?_); refine goesL_ (some 13) rfl rfl Try.func40 (by kernel_rfl) rfl #[.slice A0 l0.length c0] rfl (by (try simp only [zah, zak, zao]); first | done | rfl) ?_; (with_reducible refine (slices_Clone_int_int.calls _ _ l0 t289 _ ?side1 ?side2 A6.out).mono ?_); (case side1 => repeat (first | exact HR0.out | (with_reducible first | apply zau | apply zav | apply zba))); (case side2 => exact HC0.out); rintro e w8 ⟨v290, rfl, ho0, hb⟩; refine ⟨_, rfl, ?_⟩; have xb_ := below_ofs (by repeat (first | (with_reducible first | exact HB.out | apply zaj | apply zae | apply zag) | exact HB.out)) hb; have n0_ := Aside0.mk (zbr ho0 (zbm xb_)); have n1_ := Aside0.mk (zbs xb_ hb); clear HB; have HO291 := n0_; have HB := n1_; clear n0_ n1_; clear xb_ hb ho0))
 (try simp only [Act.put, zaa, zab, zac])
 go_cut [25] (fun v25 wc => ∃ (kq : Nat) (x25_6 : Bool), v25 = .bool x25_6 ∧ Aside0 (impl_Quarter.j0 kq a1 a2 a3 a4 t289 x25_6 = some r) ∧ Aside0 (kq ≤ k) ∧ Aside0 (Kd.R (Kd.int .i64) 3 wc w.heap.size (fun _ => True) v290 t289) ∧ Aside0 (Below w.heap.size w wc))
 case first =>
  have H := HC7.out
  clear HC7
  by_cases c9 : (l0.length : Int) = 16
  ·rw [if_pos c9] at H
   have c9b0 : ((l0.length : Int) == 16) = true := zcp.mpr c9
   have c9b1 : ((l0.length : Int) != 16) = false := zbi.mpr c9
   clear c9
   (first | rw [c9b0] | (simp only [i64_w, i32_w]; rw [c9b0]) | skip)
   obtain ⟨y292, hy292⟩ : ∃ y_ : List Int, y_ = (([a1, a2, a3, a4] : List Int)) := ⟨_, rfl⟩
   replace H : ((impl_placesOk.f k y292 16).bind fun t295 => (impl_Quarter.j0 k a1 a2 a3 a4 t289 (!t295))) = some r := by first | (rw [hy292]; with_reducible first | exact H | exact bind_ofs H) | (with_reducible first | exact H | exact bind_ofs H) | (rw [hy292]; exact H) | exact H
   have Ny292 := Aside0.mk hy292
   clear hy292
   replace H := zai.mp H
   obtain ⟨t295, A100, H⟩ := H
   try dsimp only at H
   have A10 := Aside0.mk A100
   clear A100
   have H' := Aside0.mk H
   clear H
   go_wp2_with (first | ((with_reducible refine gate_dst (N := 22) rfl ?_); (try (refine gate_guard (by rfl) ?_; dsimp only)); refine Kd.R_lit (Kd.int .i64) _ 3 ?hg (N := 22) ?hd (xs := ([a1, a2, a3, a4] : List Int)) (inner := [.int .i64 a1, .int .i64 a2, .int .i64 a3, .int .i64 a4]) (ok := fun _ => True) (okp := fun _ => True) ?hr ?hp (fun _ hk => hk) trivial (Below.refl _ _) (zbn _) (by simp) ?_; (case hd => rfl); (case hg => rfl); (case hr => first | (go_simp; done) | (go_simp; rfl)); (case hp => exact (Reps.one (show Kd.M (Kd.int .i64) _ _ _ a1 [.int .i64 a1] from rfl) (Reps.one (show Kd.M (Kd.int .i64) _ _ _ a2 [.int .i64 a2] from rfl) (Reps.one (show Kd.M (Kd.int .i64) _ _ _ a3 [.int .i64 a3] from rfl) (Reps.one (show Kd.M (Kd.int .i64) _ _ _ a4 [.int .i64 a4] from rfl) (Reps.none _ _)))))); intro v293 w11 ho12 hb hg_ hnew_; have xb_ := below_ofs (by repeat (first | (with_reducible first | exact HB.out | apply zaj | apply zae | apply zag) | exact HB.out)) hb; clear hg_ hnew_; (first | rw [← Ny292.out] at ho12 | (simp only [Int.reduceToNat] at ho12; rw [← Ny292.out] at ho12)); have qHO291 := Kd.R_ofs (by (with_reducible repeat (first | apply zal | apply zam | apply zan)); exact HO291.out) hb; have n0_ := Aside0.mk (zay qHO291 (zbf ho12) hb); have n1_ := Aside0.mk (zbr (zbg ho12 (zbt qHO291)) (zbm xb_)); have n2_ := Aside0.mk (zbs xb_ hb); clear qHO291 HO291; clear HB; have HO291 := n0_; have HO294 := n1_; have HB := n2_; clear n0_ n1_ n2_; clear xb_ hb ho12; obtain ⟨Ao13, co13, eo13⟩ := zbo HO294.out; subst eo13) | (go_at_call 41; (with_reducible refine (impl_placesOk.calls k _ _ y292 16 t295 _ ?side1 ?side2 A10.out).mono ?_); (case side1 => repeat (first | exact (zaf HO294.out).2.2 | (with_reducible first | apply zau | apply zav | apply zba))); (case side2 => exact (zaf HO294.out).2.1); rintro e w' ⟨rfl, ⟨nd, rfl⟩⟩))
   go_meet
   case rel => exact ⟨_, (!t295), (by first | rfl | (simp; done) | (simp [*]; done)), H', ⟨by first | omega | exact zbn _⟩, ⟨by (with_reducible repeat (first | apply zal | apply zam | apply zan)); exact zcj HO291.out (fun _ hk => trivial)⟩, ⟨by repeat (first | (with_reducible first | exact HB.out | apply zaj | apply zae | apply zag) | exact HB.out)⟩⟩
  ·rw [if_neg c9] at H
   have c9b0 : ((l0.length : Int) == 16) = false := zbj.mpr c9
   have c9b1 : ((l0.length : Int) != 16) = true := zcq.mpr c9
   (first | rw [c9b0] | (simp only [i64_w, i32_w]; rw [c9b0]) | skip)
   have H' := Aside0.mk H
   clear H
   go_wp2
   go_meet
   case rel => exact ⟨_, (true), (by first | rfl | (simp; done) | (simp [*]; done)), H', ⟨by first | omega | exact zbn _⟩, ⟨by (with_reducible repeat (first | apply zal | apply zam | apply zan)); exact HO291.out⟩, ⟨by repeat (first | (with_reducible first | exact HB.out | apply zaj | apply zae | apply zag) | exact HB.out)⟩⟩
 case rest =>
  clear HC7
  try clear c1
  try clear p2
  try clear c4
  try clear c9
  try clear c9b0
  try clear c9b1
  obtain ⟨kq, x25_6, rfl, HA, HJ6, HO_11, HB⟩ := hcut
  cases kq with
  | zero => exact absurd HA.out (by simp [impl_Quarter.j0])
  | succ kj6 =>
   have H := HA.out
   clear HA
   simp only [impl_Quarter.j0] at H
   by_cases c14 : x25_6 = true
   ·subst c14
    have H1 : (some t289) = some r := by rw [if_pos rfl] at H; exact H
    clear H
    have H := H1
    clear H1
    obtain rfl := Option.some.inj H
    go_wp2
    go_ret
    exact ⟨_, by first | rfl | (simp [zbk, zbl] <;> rfl) | (simp [*, zbk, zbl] <;> rfl), by (with_reducible repeat (first | apply zal | apply zam | apply zan)); exact HO_11.out, by repeat (first | (with_reducible first | exact HB.out | apply zaj | apply zae | apply zag) | exact HB.out)⟩
   ·replace c14 := zbv.mpr c14
    subst c14
    have H1 : ((impl_step.f t289 a1 a2 a4 16).bind fun t296 => ((impl_step.f t296 a3 a4 a2 12).bind fun t297 => ((impl_step.f t297 a1 a2 a4 8).bind fun t298 => ((impl_step.f t298 a3 a4 a2 7).bind fun t299 => (some t299))))) = some r := by rw [if_neg (show ¬ (false = true) by decide)] at H; exact H
    clear H
    have H := H1
    clear H1
    replace H := zai.mp H
    obtain ⟨t296, A150, H⟩ := H
    try dsimp only at H
    have A15 := Aside0.mk A150
    clear A150
    replace H := zai.mp H
    obtain ⟨t297, A160, H⟩ := H
    try dsimp only at H
    have A16 := Aside0.mk A160
    clear A160
    replace H := zai.mp H
    obtain ⟨t298, A170, H⟩ := H
    try dsimp only at H
    have A17 := Aside0.mk A170
    clear A170
    replace H := zai.mp H
    obtain ⟨t299, A180, H⟩ := H
    try dsimp only at H
    have A18 := Aside0.mk A180
    clear A180
    obtain rfl := Option.some.inj H
    obtain ⟨Ao19, co19, eo19⟩ := zbo HO_11.out
    subst eo19
    go_wp2_with (first | ((with_reducible refine zat (f := 42) rfl ?_); refine goesL_ (some 31) rfl rfl Try.func42 (by kernel_rfl) rfl #[.slice Ao19 t289.length co19, .int .i64 a1, .int .i64 a2, .int .i64 a4, .int .i64 16] rfl (by (try simp only [zah, zak, zao]); first | done | rfl) ?_; (with_reducible refine (impl_step.calls (fun k_ => some k_ = (.slice Ao19 t289.length co19 : Value).ownBlock) (.slice Ao19 t289.length co19) t289 a1 a2 a4 16 t296 w _ ?side1 ?side2 A15.out).mono ?_); (case side1 => repeat (first | (with_reducible first | exact HB.out | apply zaj | apply zae | apply zag) | exact HB.out)); (case side2 => exact Kd.R_tight rfl HO_11.out); rintro e w20 ⟨rfl, hy0, hb, hkp⟩; refine ⟨_, rfl, ?_⟩; have n0_ := Aside0.mk (Kd.R_reok rfl hy0 (fun k_ e_ => HO_11.out.1 k_ e_)); have n1_ := Aside0.mk (hb); clear HO_11 HB; have HO_11 := n0_; have HB := n1_; clear n0_ n1_; (try clear hb); (try clear hkp); (try clear hy0)) | ((with_reducible refine zat (f := 42) rfl ?_); refine goesL_ (some 36) rfl rfl Try.func42 (by kernel_rfl) rfl #[.slice Ao19 t289.length co19, .int .i64 a3, .int .i64 a4, .int .i64 a2, .int .i64 12] rfl (by (try simp only [zah, zak, zao]); first | done | rfl) ?_; (with_reducible refine (impl_step.calls (fun k_ => some k_ = (.slice Ao19 t289.length co19 : Value).ownBlock) (.slice Ao19 t289.length co19) t296 a3 a4 a2 12 t297 w _ ?side1 ?side2 A16.out).mono ?_); (case side1 => repeat (first | (with_reducible first | exact HB.out | apply zaj | apply zae | apply zag) | exact HB.out)); (case side2 => exact Kd.R_tight rfl HO_11.out); rintro e w21 ⟨rfl, hy0, hb, hkp⟩; refine ⟨_, rfl, ?_⟩; have n0_ := Aside0.mk (Kd.R_reok rfl hy0 (fun k_ e_ => HO_11.out.1 k_ e_)); have n1_ := Aside0.mk (hb); clear HO_11 HB; have HO_11 := n0_; have HB := n1_; clear n0_ n1_; (try clear hb); (try clear hkp); (try clear hy0)) | ((with_reducible refine zat (f := 42) rfl ?_); refine goesL_ (some 41) rfl rfl Try.func42 (by kernel_rfl) rfl #[.slice Ao19 t289.length co19, .int .i64 a1, .int .i64 a2, .int .i64 a4, .int .i64 8] rfl (by (try simp only [zah, zak, zao]); first | done | rfl) ?_; (with_reducible refine (impl_step.calls (fun k_ => some k_ = (.slice Ao19 t289.length co19 : Value).ownBlock) (.slice Ao19 t289.length co19) t297 a1 a2 a4 8 t298 w _ ?side1 ?side2 A17.out).mono ?_); (case side1 => repeat (first | (with_reducible first | exact HB.out | apply zaj | apply zae | apply zag) | exact HB.out)); (case side2 => exact Kd.R_tight rfl HO_11.out); rintro e w22 ⟨rfl, hy0, hb, hkp⟩; refine ⟨_, rfl, ?_⟩; have n0_ := Aside0.mk (Kd.R_reok rfl hy0 (fun k_ e_ => HO_11.out.1 k_ e_)); have n1_ := Aside0.mk (hb); clear HO_11 HB; have HO_11 := n0_; have HB := n1_; clear n0_ n1_; (try clear hb); (try clear hkp); (try clear hy0)) | ((with_reducible refine zat (f := 42) rfl ?_); refine goesL_ (some 46) rfl rfl Try.func42 (by kernel_rfl) rfl #[.slice Ao19 t289.length co19, .int .i64 a3, .int .i64 a4, .int .i64 a2, .int .i64 7] rfl (by (try simp only [zah, zak, zao]); first | done | rfl) ?_; (with_reducible refine (impl_step.calls (fun k_ => some k_ = (.slice Ao19 t289.length co19 : Value).ownBlock) (.slice Ao19 t289.length co19) t298 a3 a4 a2 7 t299 w _ ?side1 ?side2 A18.out).mono ?_); (case side1 => repeat (first | (with_reducible first | exact HB.out | apply zaj | apply zae | apply zag) | exact HB.out)); (case side2 => exact Kd.R_tight rfl HO_11.out); rintro e w23 ⟨rfl, hy0, hb, hkp⟩; refine ⟨_, rfl, ?_⟩; have n0_ := Aside0.mk (Kd.R_reok rfl hy0 (fun k_ e_ => HO_11.out.1 k_ e_)); have n1_ := Aside0.mk (hb); clear HO_11 HB; have HO_11 := n0_; have HB := n1_; clear n0_ n1_; (try clear hb); (try clear hkp); (try clear hy0)))
    go_ret
    exact ⟨_, by first | rfl | (simp [zbk, zbl] <;> rfl) | (simp [*, zbk, zbl] <;> rfl), by (with_reducible repeat (first | apply zal | apply zam | apply zan)); exact HO_11.out, by repeat (first | (with_reducible first | exact HB.out | apply zaj | apply zae | apply zag) | exact HB.out)⟩
end Go.Proofs.Ytdineaebljpfaaa.P
