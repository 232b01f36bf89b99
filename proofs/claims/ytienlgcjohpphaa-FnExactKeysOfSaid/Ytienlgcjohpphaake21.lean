import Derived.Test.Ytienlgcjohpphaake20
namespace Go.Proofs.Ytienlgcjohpphaa.P
open Go.RowKit Go.Proofs.YtienlgcjohpphaaW.PrintWords Go.Proofs.YtienlgcjohpphaaW.PrintLast Go.Proofs.YtienlgcjohpphaaW.PrintMore
attribute [local go_sem] zbz zca zcn zco zbt zbu zcb zcc   -- for this text's walks alone
set_option linter.unusedVariables false
set_option linter.unusedSimpArgs false
set_option maxHeartbeats 8000000
set_option maxRecDepth 100000

def spec_Extract.f (k : Nat) (l0 : List Int) (l1 : List Int) : Option (List Int) := if (l0.length : Int) = 0 then (if 32 ≤ 281474976710656 then ((spec_Mac.f k (List.replicate 32 0) l1).bind fun t842 => (some t842)) else (none)) else ((spec_Mac.f k l0 l1).bind fun t845 => (some t845))
theorem spec_Extract.mono : ∀ a0 a1 k, LeO (spec_Extract.f k a0 a1) (spec_Extract.f (k + 1) a0 a1) := by
 intro a0 a1 k
 unfold spec_Extract.f
 have m0 := @spec_Mac.mono
 exact mt
theorem spec_Extract.wk {P : Prop} (h : P := by
 go_enter Try.func39, Try.ntmps39
 go_wp2_with (first | (refine jgd 8 ?_; refine Kd.R_make (Kd.int .u8) _ 5 rfl (N := 8) rfl 23 _ _ rfl 32 rfl rfl Try.underlying23 (.int .u8 0) 1 info5 rfl (by decide) (by omega) 0 (ok := fun _ => True) (okp := fun _ => True) rfl (fun _ hk => hk) trivial (by omega) (by omega) (zbj _ _) (zaw _) ?_; intro v840 w_ ho7 hb hg_ hnew_; have xb_ := below_ofs bq hb; clear hg_ hnew_; (first | rw [← Ny839.out] at ho7 | (simp only [Int.reduceToNat] at ho7; rw [← Ny839.out] at ho7)); have n_ := jA2 (zas ho7 (zaf xb_)) (zao xb_ hb); clear HB; obtain ⟨HO841, HB⟩ := n_; clear xb_ hb ho7; obtain ⟨Ao8, co8, eo8⟩ := zax HO841.out; subst eo8) | (refine jgc 37 ?_; refine jgs 10 Try.func37 #[.slice Ao8 y839.length co8, .slice A1 l1.length c1] ?_; (with_reducible refine (spec_Mac.calls k _ _ y839 _ _ l1 t842 _ ?side1 ?side2 ?side3 ?side4 A5.out).mono ?_); (case side1 => repeat (first | exact (zad HO841.out).2.2 | (with_reducible first | apply zba | apply zbb | apply zbf))); (case side2 => exact (zad HO841.out).2.1); (case side3 => exact jcs HR1.out); (case side4 => exact HC1.out); rintro e w_ ⟨v843, rfl, ho0, hb⟩; refine ⟨_, rfl, ?_⟩; have xb_ := below_ofs bq hb; have qHO841 := Kd.R_ofs (pR HO841.out) hb; have n_ := jA3 (zai qHO841 (zag ho0) hb) (zas (zal ho0 (zar qHO841)) (zaf xb_)) (zao xb_ hb); clear qHO841 HO841 HB; obtain ⟨HO841, HO844, HB⟩ := n_; clear xb_ hb ho0) | (refine jgc 37 ?_; refine jgs 13 Try.func37 #[.slice A0 l0.length c0, .slice A1 l1.length c1] ?_; (with_reducible refine (spec_Mac.calls k _ _ l0 _ _ l1 t845 _ ?side1 ?side2 ?side3 ?side4 A10.out).mono ?_); (case side1 => repeat (first | exact HR0.out | (with_reducible first | apply zba | apply zbb | apply zbf))); (case side2 => exact HC0.out); (case side3 => repeat (first | exact HR1.out | (with_reducible first | apply zba | apply zbb | apply zbf))); (case side4 => exact HC1.out); rintro e w_ ⟨v846, rfl, ho0, hb⟩; refine ⟨_, rfl, ?_⟩; have xb_ := below_ofs bq hb; have n_ := jA2 (zas ho0 (zaf xb_)) (zao xb_ hb); clear HB; obtain ⟨HO847, HB⟩ := n_; clear xb_ hb ho0))
 go_ret
 first | (exact ⟨_, jex, tqR HO844.out, bq⟩) | (exact ⟨_, jex, by (with_reducible repeat (first | apply zau | apply zav | apply zaq)); exact HO847.out, bq⟩)) : P := h
theorem spec_Extract.calls (k : Nat) (A0 : Option Addr) (c0 : Nat) (l0 : List Int) (A1 : Option Addr) (c1 : Nat) (l1 : List Int) (r : List Int) (w : World) (hr0 : Kd.C (Kd.int .u8) w A0 l0.length l0) (hc0 : l0.length ≤ c0) (hr1 : Kd.C (Kd.int .u8) w A1 l1.length l1) (hc1 : l1.length ≤ c1) (h : spec_Extract.f k l0 l1 = some r) :
  Calls Try.prog 39 #[.slice A0 l0.length c0, .slice A1 l1.length c1] w fun e w' => ∃ v0_ : Value, e = .returned (v0_) ∧ Kd.R (Kd.int .u8) 5 w' w.heap.size (fun _ => True) v0_ r ∧ Below w.heap.size w w' := by
 have HR0 := Aside0.mk hr0
 have HC0 := Aside0.mk hc0
 clear hr0 hc0
 have HR1 := Aside0.mk hr1
 have HC1 := Aside0.mk hc1
 clear hr1 hc1
 have HB := Aside0.mk (zbj w.heap.size w)
 have H : (if (l0.length : Int) = 0 then (if 32 ≤ 281474976710656 then ((spec_Mac.f k (List.replicate 32 0) l1).bind fun t842 => (some t842)) else (none)) else ((spec_Mac.f k l0 l1).bind fun t845 => (some t845))) = some r := h
 clear h
 by_cases c3 : (l0.length : Int) = 0
 ·rw [if_pos c3] at H
  have c3b0 := beqT c3
  have c3b1 := zcv.mpr c3
  clear c3
  by_cases c4 : 32 ≤ 281474976710656
  ·rw [if_pos c4] at H
   have c4b0 := zan c4
   have c4b1 := zaa c4
   clear c4
   obtain ⟨y839, hy839⟩ : ∃ y_ : List Int, y_ = (List.replicate 32 0) := ⟨_, rfl⟩
   replace H : ((spec_Mac.f k y839 l1).bind fun t842 => (some t842)) = some r := jrw hy839 H
   have Ny839 := Aside0.mk hy839
   clear hy839
   obtain ⟨t842, A5, H⟩ := bnd H
   obtain rfl := Option.some.inj H
   exact spec_Extract.wk
  ·rw [if_neg c4] at H
   exact absurd H (by simp)
 ·rw [if_neg c3] at H
  have c3b0 := zcr.mpr c3
  have c3b1 := bne_iff_ne.mpr c3
  have c3b2 : ¬ (l0 = []) := fun h_ => c3 (by rw [h_]; rfl)
  obtain ⟨t845, A10, H⟩ := bnd H
  obtain rfl := Option.some.inj H
  exact spec_Extract.wk
end Go.Proofs.Ytienlgcjohpphaa.P
