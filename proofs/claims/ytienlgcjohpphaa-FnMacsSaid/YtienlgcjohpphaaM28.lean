import Derived.Test.YtienlgcjohpphaaM24
import Derived.Test.YtienlgcjohpphaaM27
namespace Go.Proofs.Ytienlgcjohpphaa.P
open Go.RowKit Go.Proofs.YtienlgcjohpphaaW.PrintWords Go.Proofs.YtienlgcjohpphaaW.PrintLast Go.Proofs.YtienlgcjohpphaaW.PrintMore
attribute [local go_sem] zdd zde zdy zdz zcb zcc zdf zdg   -- for this text's walks alone
set_option linter.unusedVariables false
set_option linter.unusedSimpArgs false

def spec_Extract.f (k : Nat) (l0 : List Int) (l1 : List Int) : Option (List Int) := if (l0.length : Int) = 0 then (if 32 ≤ 281474976710656 then ((spec_Mac.f k (List.replicate 32 0) l1).bind fun t842 => (some t842)) else (none)) else ((spec_Mac.f k l0 l1).bind fun t845 => (some t845))
theorem spec_Extract.mono : ∀ a0 a1 k, LeO (spec_Extract.f k a0 a1) (spec_Extract.f (k + 1) a0 a1) := by
 intro a0 a1 k
 unfold spec_Extract.f
 repeat' first
   | (with_reducible exact spec_Mac.mono _ _ _)
   | (with_reducible exact zcf _)
   | (with_reducible exact zcj _)
   | (with_reducible refine zdp ?_ ?_)
   | (with_reducible refine zcg ?_ (fun _ => ?_))
set_option maxHeartbeats 8000000 in
set_option maxRecDepth 100000 in
theorem spec_Extract.calls (k : Nat) (A0 : Option Addr) (c0 : Nat) (l0 : List Int) (A1 : Option Addr) (c1 : Nat) (l1 : List Int) (r : List Int) (w : World) (hr0 : Kd.C (Kd.int .u8) w A0 l0.length l0) (hc0 : l0.length ≤ c0) (hr1 : Kd.C (Kd.int .u8) w A1 l1.length l1) (hc1 : l1.length ≤ c1) (h : spec_Extract.f k l0 l1 = some r) :
  Calls Try.prog 39 #[.slice A0 l0.length c0, .slice A1 l1.length c1] w fun e w' => ∃ v0_ : Value, e = .returned (v0_) ∧ Kd.R (Kd.int .u8) 5 w' w.heap.size (fun _ => True) v0_ r ∧ Below w.heap.size w w' := by
 have HR0 := Aside0.mk hr0
 have HC0 := Aside0.mk hc0
 clear hr0 hc0
 have HR1 := Aside0.mk hr1
 have HC1 := Aside0.mk hc1
 clear hr1 hc1
 have HB := Aside0.mk (zbq w.heap.size w)
 have H : (if (l0.length : Int) = 0 then (if 32 ≤ 281474976710656 then ((spec_Mac.f k (List.replicate 32 0) l1).bind fun t842 => (some t842)) else (none)) else ((spec_Mac.f k l0 l1).bind fun t845 => (some t845))) = some r := h
 clear h
 by_cases c3 : (l0.length : Int) = 0
 ·rw [if_pos c3] at H
  have c3b0 : ((l0.length : Int) == 0) = true := beq_iff_eq.mpr c3
  have c3b1 : ((l0.length : Int) != 0) = false := zeu.mpr c3
  clear c3
  by_cases c4 : 32 ≤ 281474976710656
  ·rw [if_pos c4] at H
   have c4b0 := zbn c4
   have c4b1 : decide (32 ≤ 281474976710656) = true := zaq c4
   clear c4
   obtain ⟨y839, hy839⟩ : ∃ y_ : List Int, y_ = (List.replicate 32 0) := ⟨_, rfl⟩
   replace H : ((spec_Mac.f k y839 l1).bind fun t842 => (some t842)) = some r := by first | (rw [hy839]; with_reducible first | exact H | exact bind_ofs H) | (with_reducible first | exact H | exact bind_ofs H) | (rw [hy839]; exact H) | exact H
   have Ny839 := Aside0.mk hy839
   clear hy839
   replace H := zaj.mp H
   obtain ⟨t842, A50, H⟩ := H
   try dsimp only at H
   have A5 := Aside0.mk A50
   clear A50
   obtain rfl := Option.some.inj H
   go_enter Try.func39, Try.ntmps39
   go_wp2_with (first | ((with_reducible refine zdt (N := 8) rfl ?_); refine Kd.R_make (Kd.int .u8) _ 5 rfl (N := 8) rfl 23 _ _ rfl 32 rfl rfl Try.underlying23 (.int .u8 0) 1 info5 rfl (by decide) (by omega) 0 (ok := fun _ => True) (okp := fun _ => True) rfl (fun _ hk => hk) zbw (by omega) (by omega) (zbq _ _) (zbi _) ?_; intro v840 w6 ho7 hb hg_ hnew_; have xb_ := below_ofs (by repeat (first | (with_reducible first | exact HB.out | apply zai | apply zad | apply zah) | exact HB.out)) hb; clear hg_ hnew_; (first | rw [← Ny839.out] at ho7 | (simp only [Int.reduceToNat] at ho7; rw [← Ny839.out] at ho7)); have n0_ := Aside0.mk (zbj ho7 (zax xb_)); have n1_ := Aside0.mk (zbf xb_ hb); clear HB; have HO841 := n0_; have HB := n1_; clear n0_ n1_; clear xb_ hb ho7; obtain ⟨Ao8, co8, eo8⟩ := zbm HO841.out; subst eo8) | ((with_reducible refine zbc (f := 37) rfl ?_); refine goesL_ (some 10) rfl rfl Try.func37 (by kernel_rfl) rfl #[.slice Ao8 y839.length co8, .slice A1 l1.length c1] rfl (by (try simp only [zap, zau, zav]); first | done | rfl) ?_; (with_reducible refine (spec_Mac.calls k _ _ y839 _ _ l1 t842 _ ?side1 ?side2 ?side3 ?side4 A5.out).mono ?_); (case side1 => repeat (first | exact (zao HO841.out).2.2 | (with_reducible first | apply zba | apply zbb | apply zbg))); (case side2 => exact (zao HO841.out).2.1); (case side3 => repeat (first | exact (zey HR1.out HB.out) | (with_reducible first | apply zba | apply zbb | apply zbg))); (case side4 => exact HC1.out); rintro e w9 ⟨v843, rfl, ho0, hb⟩; refine ⟨_, rfl, ?_⟩; have xb_ := below_ofs (by repeat (first | (with_reducible first | exact HB.out | apply zai | apply zad | apply zah) | exact HB.out)) hb; have qHO841 := Kd.R_ofs (by (with_reducible repeat (first | apply zab | apply zac | apply zae)); exact HO841.out) hb; have n0_ := Aside0.mk (zak qHO841 (zal ho0) hb); have n1_ := Aside0.mk (zbj (zam ho0 (zat qHO841)) (zax xb_)); have n2_ := Aside0.mk (zbf xb_ hb); clear qHO841 HO841; clear HB; have HO841 := n0_; have HO844 := n1_; have HB := n2_; clear n0_ n1_ n2_; clear xb_ hb ho0))
   go_ret
   exact ⟨_, by first | rfl | (simp [zbk, zbl] <;> rfl) | (simp [*, zbk, zbl] <;> rfl), by (with_reducible repeat (first | apply zab | apply zac | apply zae)); exact zbe HO844.out (fun _ hk => zbw), by repeat (first | (with_reducible first | exact HB.out | apply zai | apply zad | apply zah) | exact HB.out)⟩
  ·rw [if_neg c4] at H
   exact absurd H (by simp)
 ·rw [if_neg c3] at H
  have c3b0 : ((l0.length : Int) == 0) = false := zeb.mpr c3
  have c3b1 : ((l0.length : Int) != 0) = true := bne_iff_ne.mpr c3
  have c3b2 : ¬ (l0 = []) := fun h_ => c3 (by rw [h_]; rfl)
  replace H := zaj.mp H
  obtain ⟨t845, A100, H⟩ := H
  try dsimp only at H
  have A10 := Aside0.mk A100
  clear A100
  obtain rfl := Option.some.inj H
  go_enter Try.func39, Try.ntmps39
  go_wp2_with (first | ((with_reducible refine zbc (f := 37) rfl ?_); refine goesL_ (some 13) rfl rfl Try.func37 (by kernel_rfl) rfl #[.slice A0 l0.length c0, .slice A1 l1.length c1] rfl (by (try simp only [zap, zau, zav]); first | done | rfl) ?_; (with_reducible refine (spec_Mac.calls k _ _ l0 _ _ l1 t845 _ ?side1 ?side2 ?side3 ?side4 A10.out).mono ?_); (case side1 => repeat (first | exact HR0.out | (with_reducible first | apply zba | apply zbb | apply zbg))); (case side2 => exact HC0.out); (case side3 => repeat (first | exact HR1.out | (with_reducible first | apply zba | apply zbb | apply zbg))); (case side4 => exact HC1.out); rintro e w11 ⟨v846, rfl, ho0, hb⟩; refine ⟨_, rfl, ?_⟩; have xb_ := below_ofs (by repeat (first | (with_reducible first | exact HB.out | apply zai | apply zad | apply zah) | exact HB.out)) hb; have n0_ := Aside0.mk (zbj ho0 (zax xb_)); have n1_ := Aside0.mk (zbf xb_ hb); clear HB; have HO847 := n0_; have HB := n1_; clear n0_ n1_; clear xb_ hb ho0))
  go_ret
  exact ⟨_, by first | rfl | (simp [zbk, zbl] <;> rfl) | (simp [*, zbk, zbl] <;> rfl), by (with_reducible repeat (first | apply zab | apply zac | apply zae)); exact HO847.out, by repeat (first | (with_reducible first | exact HB.out | apply zai | apply zad | apply zah) | exact HB.out)⟩
def impl_Extract.f (k : Nat) (l0 : List Int) (l1 : List Int) : Option (List Int) := if (l0.length : Int) = 0 then (if 32 ≤ 281474976710656 then ((impl_Mac.f k (List.replicate 32 0) l1).bind fun t851 => (some t851)) else (none)) else ((impl_Mac.f k l0 l1).bind fun t854 => (some t854))
theorem impl_Extract.mono : ∀ a0 a1 k, LeO (impl_Extract.f k a0 a1) (impl_Extract.f (k + 1) a0 a1) := by
 intro a0 a1 k
 unfold impl_Extract.f
 repeat' first
   | (with_reducible exact impl_Mac.mono _ _ _)
   | (with_reducible exact zcf _)
   | (with_reducible exact zcj _)
   | (with_reducible refine zdp ?_ ?_)
   | (with_reducible refine zcg ?_ (fun _ => ?_))
set_option maxHeartbeats 8000000 in
set_option maxRecDepth 100000 in
theorem impl_Extract.calls (k : Nat) (A0 : Option Addr) (c0 : Nat) (l0 : List Int) (A1 : Option Addr) (c1 : Nat) (l1 : List Int) (r : List Int) (w : World) (hr0 : Kd.C (Kd.int .u8) w A0 l0.length l0) (hc0 : l0.length ≤ c0) (hr1 : Kd.C (Kd.int .u8) w A1 l1.length l1) (hc1 : l1.length ≤ c1) (h : impl_Extract.f k l0 l1 = some r) :
  Calls Try.prog 40 #[.slice A0 l0.length c0, .slice A1 l1.length c1] w fun e w' => ∃ v0_ : Value, e = .returned (v0_) ∧ Kd.R (Kd.int .u8) 5 w' w.heap.size (fun _ => True) v0_ r ∧ Below w.heap.size w w' := by
 have HR0 := Aside0.mk hr0
 have HC0 := Aside0.mk hc0
 clear hr0 hc0
 have HR1 := Aside0.mk hr1
 have HC1 := Aside0.mk hc1
 clear hr1 hc1
 have HB := Aside0.mk (zbq w.heap.size w)
 have H : (if (l0.length : Int) = 0 then (if 32 ≤ 281474976710656 then ((impl_Mac.f k (List.replicate 32 0) l1).bind fun t851 => (some t851)) else (none)) else ((impl_Mac.f k l0 l1).bind fun t854 => (some t854))) = some r := h
 clear h
 by_cases c3 : (l0.length : Int) = 0
 ·rw [if_pos c3] at H
  have c3b0 : ((l0.length : Int) == 0) = true := beq_iff_eq.mpr c3
  have c3b1 : ((l0.length : Int) != 0) = false := zeu.mpr c3
  clear c3
  by_cases c4 : 32 ≤ 281474976710656
  ·rw [if_pos c4] at H
   have c4b0 := zbn c4
   have c4b1 : decide (32 ≤ 281474976710656) = true := zaq c4
   clear c4
   obtain ⟨y848, hy848⟩ : ∃ y_ : List Int, y_ = (List.replicate 32 0) := ⟨_, rfl⟩
   replace H : ((impl_Mac.f k y848 l1).bind fun t851 => (some t851)) = some r := by first | (rw [hy848]; with_reducible first | exact H | exact bind_ofs H) | (with_reducible first | exact H | exact bind_ofs H) | (rw [hy848]; exact H) | exact H
   have Ny848 := Aside0.mk hy848
   clear hy848
   replace H := zaj.mp H
   obtain ⟨t851, A50, H⟩ := H
   try dsimp only at H
   have A5 := Aside0.mk A50
   clear A50
   obtain rfl := Option.some.inj H
   go_enter Try.func40, Try.ntmps40
   go_wp2_with (first | ((with_reducible refine zdt (N := 8) rfl ?_); refine Kd.R_make (Kd.int .u8) _ 5 rfl (N := 8) rfl 23 _ _ rfl 32 rfl rfl Try.underlying23 (.int .u8 0) 1 info5 rfl (by decide) (by omega) 0 (ok := fun _ => True) (okp := fun _ => True) rfl (fun _ hk => hk) zbw (by omega) (by omega) (zbq _ _) (zbi _) ?_; intro v849 w6 ho7 hb hg_ hnew_; have xb_ := below_ofs (by repeat (first | (with_reducible first | exact HB.out | apply zai | apply zad | apply zah) | exact HB.out)) hb; clear hg_ hnew_; (first | rw [← Ny848.out] at ho7 | (simp only [Int.reduceToNat] at ho7; rw [← Ny848.out] at ho7)); have n0_ := Aside0.mk (zbj ho7 (zax xb_)); have n1_ := Aside0.mk (zbf xb_ hb); clear HB; have HO850 := n0_; have HB := n1_; clear n0_ n1_; clear xb_ hb ho7; obtain ⟨Ao8, co8, eo8⟩ := zbm HO850.out; subst eo8) | ((with_reducible refine zbc (f := 38) rfl ?_); refine goesL_ (some 11) rfl rfl Try.func38 (by kernel_rfl) rfl #[.slice Ao8 y848.length co8, .slice A1 l1.length c1] rfl (by (try simp only [zap, zau, zav]); first | done | rfl) ?_; (with_reducible refine (impl_Mac.calls k _ _ y848 _ _ l1 t851 _ ?side1 ?side2 ?side3 ?side4 A5.out).mono ?_); (case side1 => repeat (first | exact (zao HO850.out).2.2 | (with_reducible first | apply zba | apply zbb | apply zbg))); (case side2 => exact (zao HO850.out).2.1); (case side3 => repeat (first | exact (zey HR1.out HB.out) | (with_reducible first | apply zba | apply zbb | apply zbg))); (case side4 => exact HC1.out); rintro e w9 ⟨v852, rfl, ho0, hb⟩; refine ⟨_, rfl, ?_⟩; have xb_ := below_ofs (by repeat (first | (with_reducible first | exact HB.out | apply zai | apply zad | apply zah) | exact HB.out)) hb; have qHO850 := Kd.R_ofs (by (with_reducible repeat (first | apply zab | apply zac | apply zae)); exact HO850.out) hb; have n0_ := Aside0.mk (zak qHO850 (zal ho0) hb); have n1_ := Aside0.mk (zbj (zam ho0 (zat qHO850)) (zax xb_)); have n2_ := Aside0.mk (zbf xb_ hb); clear qHO850 HO850; clear HB; have HO850 := n0_; have HO853 := n1_; have HB := n2_; clear n0_ n1_ n2_; clear xb_ hb ho0))
   go_ret
   exact ⟨_, by first | rfl | (simp [zbk, zbl] <;> rfl) | (simp [*, zbk, zbl] <;> rfl), by (with_reducible repeat (first | apply zab | apply zac | apply zae)); exact zbe HO853.out (fun _ hk => zbw), by repeat (first | (with_reducible first | exact HB.out | apply zai | apply zad | apply zah) | exact HB.out)⟩
  ·rw [if_neg c4] at H
   exact absurd H (by simp)
 ·rw [if_neg c3] at H
  have c3b0 : ((l0.length : Int) == 0) = false := zeb.mpr c3
  have c3b1 : ((l0.length : Int) != 0) = true := bne_iff_ne.mpr c3
  have c3b2 : ¬ (l0 = []) := fun h_ => c3 (by rw [h_]; rfl)
  replace H := zaj.mp H
  obtain ⟨t854, A100, H⟩ := H
  try dsimp only at H
  have A10 := Aside0.mk A100
  clear A100
  obtain rfl := Option.some.inj H
  go_enter Try.func40, Try.ntmps40
  go_wp2_with (first | ((with_reducible refine zbc (f := 38) rfl ?_); refine goesL_ (some 11) rfl rfl Try.func38 (by kernel_rfl) rfl #[.slice A0 l0.length c0, .slice A1 l1.length c1] rfl (by (try simp only [zap, zau, zav]); first | done | rfl) ?_; (with_reducible refine (impl_Mac.calls k _ _ l0 _ _ l1 t854 _ ?side1 ?side2 ?side3 ?side4 A10.out).mono ?_); (case side1 => repeat (first | exact HR0.out | (with_reducible first | apply zba | apply zbb | apply zbg))); (case side2 => exact HC0.out); (case side3 => repeat (first | exact HR1.out | (with_reducible first | apply zba | apply zbb | apply zbg))); (case side4 => exact HC1.out); rintro e w11 ⟨v855, rfl, ho0, hb⟩; refine ⟨_, rfl, ?_⟩; have xb_ := below_ofs (by repeat (first | (with_reducible first | exact HB.out | apply zai | apply zad | apply zah) | exact HB.out)) hb; have n0_ := Aside0.mk (zbj ho0 (zax xb_)); have n1_ := Aside0.mk (zbf xb_ hb); clear HB; have HO856 := n0_; have HB := n1_; clear n0_ n1_; clear xb_ hb ho0))
  go_ret
  exact ⟨_, by first | rfl | (simp [zbk, zbl] <;> rfl) | (simp [*, zbk, zbl] <;> rfl), by (with_reducible repeat (first | apply zab | apply zac | apply zae)); exact HO856.out, by repeat (first | (with_reducible first | exact HB.out | apply zai | apply zad | apply zah) | exact HB.out)⟩
end Go.Proofs.Ytienlgcjohpphaa.P
