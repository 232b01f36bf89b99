import Derived.Test.Ytlalkldjpniakaao16
namespace Go.Proofs.Ytlalkldjpniakaa.P
open Go.RowKit Go.Proofs.YtlalkldjpniakaaW.PrintWords Go.Proofs.YtlalkldjpniakaaW.PrintLast Go.Proofs.YtlalkldjpniakaaW.PrintMore
attribute [local go_sem] max2_int min2_int max_two min_two max_three min_three max_four min_four   -- for this text's walks alone
set_option linter.unusedVariables false
set_option linter.unusedSimpArgs false

def laws_FnExactOf.f (k : Nat) (l0 : List (S31)) (a1 : ByteArray) : Option (Bool) := if (a1.size : Int) > 1048576 then (some true) else ((laws_szItemS.f k l0 1048576).bind fun t139 => (if t139 < 0 then (some true) else ((laws_toItemS.f k l0).bind fun t140 => ((spec_Of.f k t140 a1).bind fun t143 => ((laws_toItemS.f k l0).bind fun t144 => ((impl_Of.f k t144 a1).bind fun t147 => (if t147 = t143 then ((laws_toItemS.f k l0).bind fun t148 => ((laws_eqItemS.f k t144 t148).bind fun t151 => (if t151 = true then (some true) else (some false)))) else (some false))))))))
theorem laws_FnExactOf.mono : ∀ a0 a1 k, LeO (laws_FnExactOf.f k a0 a1) (laws_FnExactOf.f (k + 1) a0 a1) := by
 intro a0 a1 k
 unfold laws_FnExactOf.f
 repeat' first
   | (with_reducible exact impl_Of.mono _ _ _)
   | (with_reducible exact laws_eqItemS.mono _ _ _)
   | (with_reducible exact laws_szItemS.mono _ _ _)
   | (with_reducible exact laws_toItemS.mono _ _)
   | (with_reducible exact spec_Of.mono _ _ _)
   | (with_reducible exact zbu _)
   | (with_reducible exact zbv _)
   | (with_reducible refine LeO.ite ?_ ?_)
   | (with_reducible refine zbw ?_ (fun _ => ?_))
set_option maxHeartbeats 8000000 in
set_option maxRecDepth 100000 in
theorem laws_FnExactOf.calls (k : Nat) (A0 : Option Addr) (c0 : Nat) (l0 : List (S31)) (a1 : ByteArray) (r : Bool) (w : World) (hr0 : Kd.C k31 w A0 l0.length l0) (hc0 : l0.length ≤ c0) (h : laws_FnExactOf.f k l0 a1 = some r) :
  Calls Try.prog 3 #[.slice A0 l0.length c0, .string a1] w fun e w' => e = .returned (.bool r) ∧ Below w.heap.size w w' := by
 have HR0 := Aside0.mk hr0
 have HC0 := Aside0.mk hc0
 clear hr0 hc0
 have HB := Aside0.mk (Below.refl w.heap.size w)
 have H : (if (a1.size : Int) > 1048576 then (some true) else ((laws_szItemS.f k l0 1048576).bind fun t139 => (if t139 < 0 then (some true) else ((laws_toItemS.f k l0).bind fun t140 => ((spec_Of.f k t140 a1).bind fun t143 => ((laws_toItemS.f k l0).bind fun t144 => ((impl_Of.f k t144 a1).bind fun t147 => (if t147 = t143 then ((laws_toItemS.f k l0).bind fun t148 => ((laws_eqItemS.f k t144 t148).bind fun t151 => (if t151 = true then (some true) else (some false)))) else (some false))))))))) = some r := h
 clear h
 by_cases c3 : (a1.size : Int) > 1048576
 ·rw [if_pos c3] at H
  have c3b0 : decide (1048576 < (a1.size : Int)) = true := zaj c3
  have c3b1 : decide (1048576 < a1.size) = true := zaj (by omega)
  clear c3
  obtain rfl := Option.some.inj H
  go_enter Try.func3, Try.ntmps3
  go_wp2
  go_ret
  exact ⟨by first | rfl | (simp [zar, zas] <;> rfl) | (simp [*, zar, zas] <;> rfl), by repeat (first | (with_reducible first | exact HB.out | apply zad | apply zab | apply zac) | exact HB.out)⟩
 ·rw [if_neg c3] at H
  have c3b0 : decide (1048576 < (a1.size : Int)) = false := zbg c3
  have c3b1 : decide (1048576 < a1.size) = false := zbg (by omega)
  clear c3
  replace H := zau.mp H
  obtain ⟨t139, A40, H⟩ := H
  try dsimp only at H
  have A4 := Aside0.mk A40
  clear A40
  by_cases c5 : t139 < 0
  ·rw [if_pos c5] at H
   have c5b0 : decide (t139 < 0) = true := zaj c5
   clear c5
   obtain rfl := Option.some.inj H
   go_enter Try.func3, Try.ntmps3
   go_wp2_with (first | ((with_reducible refine zbd (f := 18) rfl ?_); refine goesL_ (some 14) rfl rfl Try.func18 (by kernel_rfl) rfl #[.slice A0 l0.length c0, .int .i64 1048576] rfl (by (try simp only [zai, zan, zav]); first | done | rfl) ?_; (with_reducible refine (laws_szItemS.calls k _ _ l0 1048576 t139 _ ?side1 ?side2 A4.out).mono ?_); (case side1 => repeat (first | exact HR0.out | (with_reducible first | apply zba | apply zbb | apply zbe))); (case side2 => exact HC0.out); rintro e w6 ⟨rfl, hb⟩; refine ⟨_, rfl, ?_⟩; have n0_ := Aside0.mk (zao (by repeat (first | (with_reducible first | exact HB.out | apply zad | apply zab | apply zac) | exact HB.out)) hb); clear HB; have HB := n0_; clear n0_; (try clear hb); (try clear hb2); (try clear hk); (try clear hi)))
   go_ret
   exact ⟨by first | rfl | (simp [zar, zas] <;> rfl) | (simp [*, zar, zas] <;> rfl), by repeat (first | (with_reducible first | exact HB.out | apply zad | apply zab | apply zac) | exact HB.out)⟩
  ·rw [if_neg c5] at H
   have c5b0 : decide (t139 < 0) = false := zbg c5
   clear c5
   replace H := zau.mp H
   obtain ⟨t140, A70, H⟩ := H
   try dsimp only at H
   have A7 := Aside0.mk A70
   clear A70
   replace H := zau.mp H
   obtain ⟨t143, A80, H⟩ := H
   try dsimp only at H
   have A8 := Aside0.mk A80
   clear A80
   replace H := zau.mp H
   obtain ⟨t144, A90, H⟩ := H
   try dsimp only at H
   have A9 := Aside0.mk A90
   clear A90
   replace H := zau.mp H
   obtain ⟨t147, A100, H⟩ := H
   try dsimp only at H
   have A10 := Aside0.mk A100
   clear A100
   by_cases c11 : t147 = t143
   ·rw [if_pos c11] at H
    have c11b0 : (t147 == t143) = true := beq_iff_eq.mpr c11
    have c11b1 : (t147 != t143) = false := zbp.mpr c11
    clear c11
    replace H := zau.mp H
    obtain ⟨t148, A120, H⟩ := H
    try dsimp only at H
    have A12 := Aside0.mk A120
    clear A120
    replace H := zau.mp H
    obtain ⟨t151, A130, H⟩ := H
    try dsimp only at H
    have A13 := Aside0.mk A130
    clear A130
    by_cases c14 : t151 = true
    ·subst c14
     have H1 : (some true) = some r := by rw [if_pos rfl] at H; exact H
     clear H
     have H := H1
     clear H1
     obtain rfl := Option.some.inj H
     go_enter Try.func3, Try.ntmps3
     go_wp2_with (first | ((with_reducible refine zbd (f := 18) rfl ?_); refine goesL_ (some 14) rfl rfl Try.func18 (by kernel_rfl) rfl #[.slice A0 l0.length c0, .int .i64 1048576] rfl (by (try simp only [zai, zan, zav]); first | done | rfl) ?_; (with_reducible refine (laws_szItemS.calls k _ _ l0 1048576 t139 _ ?side1 ?side2 A4.out).mono ?_); (case side1 => repeat (first | exact HR0.out | (with_reducible first | apply zba | apply zbb | apply zbe))); (case side2 => exact HC0.out); rintro e w15 ⟨rfl, hb⟩; refine ⟨_, rfl, ?_⟩; have n0_ := Aside0.mk (zao (by repeat (first | (with_reducible first | exact HB.out | apply zad | apply zab | apply zac) | exact HB.out)) hb); clear HB; have HB := n0_; clear n0_; (try clear hb); (try clear hb2); (try clear hk); (try clear hi)) | ((with_reducible refine zbd (f := 20) rfl ?_); refine goesL_ (some 18) rfl rfl Try.func20 (by kernel_rfl) rfl #[.slice A0 l0.length c0] rfl (by (try simp only [zai, zan, zav]); first | done | rfl) ?_; (with_reducible refine (laws_toItemS.calls k _ _ l0 t140 _ ?side1 ?side2 A7.out).mono ?_); (case side1 => repeat (first | exact (zbn HR0.out HB.out) | (with_reducible first | apply zba | apply zbb | apply zbe))); (case side2 => exact HC0.out); rintro e w16 ⟨v141, rfl, ho0, hb⟩; refine ⟨_, rfl, ?_⟩; have xb_ := below_ofs (by repeat (first | (with_reducible first | exact HB.out | apply zad | apply zab | apply zac) | exact HB.out)) hb; have n0_ := Aside0.mk (Kd.S_lower ho0 (zal xb_)); have n1_ := Aside0.mk (zao xb_ hb); clear HB; have HO142 := n0_; have HB := n1_; clear n0_ n1_; clear xb_ hb ho0; obtain ⟨Ao17, co17, eo17⟩ := Kd.S_slice HO142.out; subst eo17) | ((with_reducible refine zbd (f := 19) rfl ?_); refine goesL_ (some 20) rfl rfl Try.func19 (by kernel_rfl) rfl #[.slice Ao17 t140.length co17, .string a1] rfl (by (try simp only [zai, zan, zav]); first | done | rfl) ?_; (with_reducible refine (spec_Of.calls k _ _ t140 a1 t143 _ ?side1 ?side2 A8.out).mono ?_); (case side1 => repeat (first | exact (zbm HO142.out).2.2 | (with_reducible first | apply zba | apply zbb | apply zbe))); (case side2 => exact (zbm HO142.out).2.1); rintro e w' ⟨rfl, ⟨nd, rfl⟩⟩; refine ⟨_, rfl, ?_⟩) | ((with_reducible refine zbd (f := 20) rfl ?_); refine goesL_ (some 22) rfl rfl Try.func20 (by kernel_rfl) rfl #[.slice A0 l0.length c0] rfl (by (try simp only [zai, zan, zav]); first | done | rfl) ?_; (with_reducible refine (laws_toItemS.calls k _ _ l0 t144 _ ?side1 ?side2 A9.out).mono ?_); (case side1 => repeat (first | exact (zbn HR0.out (by repeat (first | (with_reducible first | exact HB.out | apply zad | apply zab | apply zac) | exact HB.out))) | (with_reducible first | apply zba | apply zbb | apply zbe))); (case side2 => exact HC0.out); rintro e w18 ⟨v145, rfl, ho0, hb⟩; refine ⟨_, rfl, ?_⟩; have xb_ := below_ofs (by repeat (first | (with_reducible first | exact HB.out | apply zad | apply zab | apply zac) | exact HB.out)) hb; have n0_ := Aside0.mk (Kd.S_elder' (by (with_reducible repeat (first | apply zbh | apply zbi | apply zbl)); exact HO142.out) (Kd.S_base ho0) hb); have n1_ := Aside0.mk (Kd.S_lower (Kd.S_new' ho0 (Kd.S_lt (by (with_reducible repeat (first | apply zbh | apply zbi | apply zbl)); exact HO142.out))) (zal xb_)); have n2_ := Aside0.mk (zao xb_ hb); clear HO142 HB; have HO142 := n0_; have HO146 := n1_; have HB := n2_; clear n0_ n1_ n2_; clear xb_ hb ho0; obtain ⟨Ao19, co19, eo19⟩ := Kd.S_slice HO146.out; subst eo19) | ((with_reducible refine zbd (f := 21) rfl ?_); refine goesL_ (some 25) rfl rfl Try.func21 (by kernel_rfl) rfl #[.slice Ao19 t144.length co19, .string a1] rfl (by (try simp only [zai, zan, zav]); first | done | rfl) ?_; (with_reducible refine (impl_Of.calls k _ _ t144 a1 t147 _ ?side1 ?side2 A10.out).mono ?_); (case side1 => repeat (first | exact (zbm HO146.out).2.2 | (with_reducible first | apply zba | apply zbb | apply zbe))); (case side2 => exact (zbm HO146.out).2.1); rintro e w20 ⟨rfl, hb⟩; refine ⟨_, rfl, ?_⟩; have n0_ := Aside0.mk (Kd.S_below (by (with_reducible repeat (first | apply zbh | apply zbi | apply zbl)); exact HO142.out) hb); have n1_ := Aside0.mk (Kd.S_below (by (with_reducible repeat (first | apply zbh | apply zbi | apply zbl)); exact HO146.out) hb); have n2_ := Aside0.mk (zao (by repeat (first | (with_reducible first | exact HB.out | apply zad | apply zab | apply zac) | exact HB.out)) hb); clear HO142 HO146 HB; have HO142 := n0_; have HO146 := n1_; have HB := n2_; clear n0_ n1_ n2_; (try clear hb); (try clear hb2); (try clear hk); (try clear hi)) | ((with_reducible refine zbd (f := 20) rfl ?_); refine goesL_ (some 31) rfl rfl Try.func20 (by kernel_rfl) rfl #[.slice A0 l0.length c0] rfl (by (try simp only [zai, zan, zav]); first | done | rfl) ?_; (with_reducible refine (laws_toItemS.calls k _ _ l0 t148 _ ?side1 ?side2 A12.out).mono ?_); (case side1 => repeat (first | exact (zbn HR0.out HB.out) | (with_reducible first | apply zba | apply zbb | apply zbe))); (case side2 => exact HC0.out); rintro e w21 ⟨v149, rfl, ho0, hb⟩; refine ⟨_, rfl, ?_⟩; have xb_ := below_ofs (by repeat (first | (with_reducible first | exact HB.out | apply zad | apply zab | apply zac) | exact HB.out)) hb; have n0_ := Aside0.mk (Kd.S_elder' (by (with_reducible repeat (first | apply zbh | apply zbi | apply zbl)); exact HO142.out) (Kd.S_base ho0) hb); have n1_ := Aside0.mk (Kd.S_elder' (by (with_reducible repeat (first | apply zbh | apply zbi | apply zbl)); exact HO146.out) (Kd.S_base ho0) hb); have n2_ := Aside0.mk (Kd.S_lower (Kd.S_new' (Kd.S_new' ho0 (Kd.S_lt (by (with_reducible repeat (first | apply zbh | apply zbi | apply zbl)); exact HO142.out))) (Kd.S_lt (by (with_reducible repeat (first | apply zbh | apply zbi | apply zbl)); exact HO146.out))) (zal xb_)); have n3_ := Aside0.mk (zao xb_ hb); clear HO142 HO146 HB; have HO142 := n0_; have HO146 := n1_; have HO150 := n2_; have HB := n3_; clear n0_ n1_ n2_ n3_; clear xb_ hb ho0; obtain ⟨Ao22, co22, eo22⟩ := Kd.S_slice HO150.out; subst eo22) | ((with_reducible refine zbd (f := 22) rfl ?_); refine goesL_ (some 32) rfl rfl Try.func22 (by kernel_rfl) rfl #[.slice Ao19 t144.length co19, .slice Ao22 t148.length co22] rfl (by (try simp only [zai, zan, zav]); first | done | rfl) ?_; (with_reducible refine (laws_eqItemS.calls k _ _ t144 _ _ t148 true _ ?side1 ?side2 ?side3 ?side4 A13.out).mono ?_); (case side1 => repeat (first | exact (zbm HO146.out).2.2 | (with_reducible first | apply zba | apply zbb | apply zbe))); (case side2 => exact (zbm HO146.out).2.1); (case side3 => repeat (first | exact (zbm HO150.out).2.2 | (with_reducible first | apply zba | apply zbb | apply zbe))); (case side4 => exact (zbm HO150.out).2.1); rintro e w23 ⟨rfl, hb⟩; refine ⟨_, rfl, ?_⟩; have n0_ := Aside0.mk (Kd.S_below (by (with_reducible repeat (first | apply zbh | apply zbi | apply zbl)); exact HO142.out) hb); have n1_ := Aside0.mk (Kd.S_below (by (with_reducible repeat (first | apply zbh | apply zbi | apply zbl)); exact HO146.out) hb); have n2_ := Aside0.mk (Kd.S_below (by (with_reducible repeat (first | apply zbh | apply zbi | apply zbl)); exact HO150.out) hb); have n3_ := Aside0.mk (zao (by repeat (first | (with_reducible first | exact HB.out | apply zad | apply zab | apply zac) | exact HB.out)) hb); clear HO142 HO146 HO150 HB; have HO142 := n0_; have HO146 := n1_; have HO150 := n2_; have HB := n3_; clear n0_ n1_ n2_ n3_; (try clear hb); (try clear hb2); (try clear hk); (try clear hi)))
     go_ret
     exact ⟨by first | rfl | (simp [zar, zas] <;> rfl) | (simp [*, zar, zas] <;> rfl), by repeat (first | (with_reducible first | exact HB.out | apply zad | apply zab | apply zac) | exact HB.out)⟩
    ·replace c14 := Bool.eq_false_iff.mpr c14
     subst c14
     have H1 : (some false) = some r := by rw [if_neg (show ¬ (false = true) by decide)] at H; exact H
     clear H
     have H := H1
     clear H1
     obtain rfl := Option.some.inj H
     go_enter Try.func3, Try.ntmps3
     go_wp2_with (first | ((with_reducible refine zbd (f := 18) rfl ?_); refine goesL_ (some 14) rfl rfl Try.func18 (by kernel_rfl) rfl #[.slice A0 l0.length c0, .int .i64 1048576] rfl (by (try simp only [zai, zan, zav]); first | done | rfl) ?_; (with_reducible refine (laws_szItemS.calls k _ _ l0 1048576 t139 _ ?side1 ?side2 A4.out).mono ?_); (case side1 => repeat (first | exact HR0.out | (with_reducible first | apply zba | apply zbb | apply zbe))); (case side2 => exact HC0.out); rintro e w24 ⟨rfl, hb⟩; refine ⟨_, rfl, ?_⟩; have n0_ := Aside0.mk (zao (by repeat (first | (with_reducible first | exact HB.out | apply zad | apply zab | apply zac) | exact HB.out)) hb); clear HB; have HB := n0_; clear n0_; (try clear hb); (try clear hb2); (try clear hk); (try clear hi)) | ((with_reducible refine zbd (f := 20) rfl ?_); refine goesL_ (some 18) rfl rfl Try.func20 (by kernel_rfl) rfl #[.slice A0 l0.length c0] rfl (by (try simp only [zai, zan, zav]); first | done | rfl) ?_; (with_reducible refine (laws_toItemS.calls k _ _ l0 t140 _ ?side1 ?side2 A7.out).mono ?_); (case side1 => repeat (first | exact (zbn HR0.out HB.out) | (with_reducible first | apply zba | apply zbb | apply zbe))); (case side2 => exact HC0.out); rintro e w25 ⟨v141, rfl, ho0, hb⟩; refine ⟨_, rfl, ?_⟩; have xb_ := below_ofs (by repeat (first | (with_reducible first | exact HB.out | apply zad | apply zab | apply zac) | exact HB.out)) hb; have n0_ := Aside0.mk (Kd.S_lower ho0 (zal xb_)); have n1_ := Aside0.mk (zao xb_ hb); clear HB; have HO142 := n0_; have HB := n1_; clear n0_ n1_; clear xb_ hb ho0; obtain ⟨Ao26, co26, eo26⟩ := Kd.S_slice HO142.out; subst eo26) | ((with_reducible refine zbd (f := 19) rfl ?_); refine goesL_ (some 20) rfl rfl Try.func19 (by kernel_rfl) rfl #[.slice Ao26 t140.length co26, .string a1] rfl (by (try simp only [zai, zan, zav]); first | done | rfl) ?_; (with_reducible refine (spec_Of.calls k _ _ t140 a1 t143 _ ?side1 ?side2 A8.out).mono ?_); (case side1 => repeat (first | exact (zbm HO142.out).2.2 | (with_reducible first | apply zba | apply zbb | apply zbe))); (case side2 => exact (zbm HO142.out).2.1); rintro e w' ⟨rfl, ⟨nd, rfl⟩⟩; refine ⟨_, rfl, ?_⟩) | ((with_reducible refine zbd (f := 20) rfl ?_); refine goesL_ (some 22) rfl rfl Try.func20 (by kernel_rfl) rfl #[.slice A0 l0.length c0] rfl (by (try simp only [zai, zan, zav]); first | done | rfl) ?_; (with_reducible refine (laws_toItemS.calls k _ _ l0 t144 _ ?side1 ?side2 A9.out).mono ?_); (case side1 => repeat (first | exact (zbn HR0.out (by repeat (first | (with_reducible first | exact HB.out | apply zad | apply zab | apply zac) | exact HB.out))) | (with_reducible first | apply zba | apply zbb | apply zbe))); (case side2 => exact HC0.out); rintro e w27 ⟨v145, rfl, ho0, hb⟩; refine ⟨_, rfl, ?_⟩; have xb_ := below_ofs (by repeat (first | (with_reducible first | exact HB.out | apply zad | apply zab | apply zac) | exact HB.out)) hb; have n0_ := Aside0.mk (Kd.S_elder' (by (with_reducible repeat (first | apply zbh | apply zbi | apply zbl)); exact HO142.out) (Kd.S_base ho0) hb); have n1_ := Aside0.mk (Kd.S_lower (Kd.S_new' ho0 (Kd.S_lt (by (with_reducible repeat (first | apply zbh | apply zbi | apply zbl)); exact HO142.out))) (zal xb_)); have n2_ := Aside0.mk (zao xb_ hb); clear HO142 HB; have HO142 := n0_; have HO146 := n1_; have HB := n2_; clear n0_ n1_ n2_; clear xb_ hb ho0; obtain ⟨Ao28, co28, eo28⟩ := Kd.S_slice HO146.out; subst eo28) | ((with_reducible refine zbd (f := 21) rfl ?_); refine goesL_ (some 25) rfl rfl Try.func21 (by kernel_rfl) rfl #[.slice Ao28 t144.length co28, .string a1] rfl (by (try simp only [zai, zan, zav]); first | done | rfl) ?_; (with_reducible refine (impl_Of.calls k _ _ t144 a1 t147 _ ?side1 ?side2 A10.out).mono ?_); (case side1 => repeat (first | exact (zbm HO146.out).2.2 | (with_reducible first | apply zba | apply zbb | apply zbe))); (case side2 => exact (zbm HO146.out).2.1); rintro e w29 ⟨rfl, hb⟩; refine ⟨_, rfl, ?_⟩; have n0_ := Aside0.mk (Kd.S_below (by (with_reducible repeat (first | apply zbh | apply zbi | apply zbl)); exact HO142.out) hb); have n1_ := Aside0.mk (Kd.S_below (by (with_reducible repeat (first | apply zbh | apply zbi | apply zbl)); exact HO146.out) hb); have n2_ := Aside0.mk (zao (by repeat (first | (with_reducible first | exact HB.out | apply zad | apply zab | apply zac) | exact HB.out)) hb); clear HO142 HO146 HB; have HO142 := n0_; have HO146 := n1_; have HB := n2_; clear n0_ n1_ n2_; (try clear hb); (try clear hb2); (try clear hk); (try clear hi)) | ((with_reducible refine zbd (f := 20) rfl ?_); refine goesL_ (some 31) rfl rfl Try.func20 (by kernel_rfl) rfl #[.slice A0 l0.length c0] rfl (by (try simp only [zai, zan, zav]); first | done | rfl) ?_; (with_reducible refine (laws_toItemS.calls k _ _ l0 t148 _ ?side1 ?side2 A12.out).mono ?_); (case side1 => repeat (first | exact (zbn HR0.out HB.out) | (with_reducible first | apply zba | apply zbb | apply zbe))); (case side2 => exact HC0.out); rintro e w30 ⟨v149, rfl, ho0, hb⟩; refine ⟨_, rfl, ?_⟩; have xb_ := below_ofs (by repeat (first | (with_reducible first | exact HB.out | apply zad | apply zab | apply zac) | exact HB.out)) hb; have n0_ := Aside0.mk (Kd.S_elder' (by (with_reducible repeat (first | apply zbh | apply zbi | apply zbl)); exact HO142.out) (Kd.S_base ho0) hb); have n1_ := Aside0.mk (Kd.S_elder' (by (with_reducible repeat (first | apply zbh | apply zbi | apply zbl)); exact HO146.out) (Kd.S_base ho0) hb); have n2_ := Aside0.mk (Kd.S_lower (Kd.S_new' (Kd.S_new' ho0 (Kd.S_lt (by (with_reducible repeat (first | apply zbh | apply zbi | apply zbl)); exact HO142.out))) (Kd.S_lt (by (with_reducible repeat (first | apply zbh | apply zbi | apply zbl)); exact HO146.out))) (zal xb_)); have n3_ := Aside0.mk (zao xb_ hb); clear HO142 HO146 HB; have HO142 := n0_; have HO146 := n1_; have HO150 := n2_; have HB := n3_; clear n0_ n1_ n2_ n3_; clear xb_ hb ho0; obtain ⟨Ao31, co31, eo31⟩ := Kd.S_slice HO150.out; subst eo31) | ((with_reducible refine zbd (f := 22) rfl ?_); refine goesL_ (some 32) rfl rfl Try.func22 (by kernel_rfl) rfl #[.slice Ao28 t144.length co28, .slice Ao31 t148.length co31] rfl (by (try simp only [zai, zan, zav]); first | done | rfl) ?_; (with_reducible refine (laws_eqItemS.calls k _ _ t144 _ _ t148 false _ ?side1 ?side2 ?side3 ?side4 A13.out).mono ?_); (case side1 => repeat (first | exact (zbm HO146.out).2.2 | (with_reducible first | apply zba | apply zbb | apply zbe))); (case side2 => exact (zbm HO146.out).2.1); (case side3 => repeat (first | exact (zbm HO150.out).2.2 | (with_reducible first | apply zba | apply zbb | apply zbe))); (case side4 => exact (zbm HO150.out).2.1); rintro e w32 ⟨rfl, hb⟩; refine ⟨_, rfl, ?_⟩; have n0_ := Aside0.mk (Kd.S_below (by (with_reducible repeat (first | apply zbh | apply zbi | apply zbl)); exact HO142.out) hb); have n1_ := Aside0.mk (Kd.S_below (by (with_reducible repeat (first | apply zbh | apply zbi | apply zbl)); exact HO146.out) hb); have n2_ := Aside0.mk (Kd.S_below (by (with_reducible repeat (first | apply zbh | apply zbi | apply zbl)); exact HO150.out) hb); have n3_ := Aside0.mk (zao (by repeat (first | (with_reducible first | exact HB.out | apply zad | apply zab | apply zac) | exact HB.out)) hb); clear HO142 HO146 HO150 HB; have HO142 := n0_; have HO146 := n1_; have HO150 := n2_; have HB := n3_; clear n0_ n1_ n2_ n3_; (try clear hb); (try clear hb2); (try clear hk); (try clear hi)))
     go_ret
     exact ⟨by first | rfl | (simp [zar, zas] <;> rfl) | (simp [*, zar, zas] <;> rfl), by repeat (first | (with_reducible first | exact HB.out | apply zad | apply zab | apply zac) | exact HB.out)⟩
   ·rw [if_neg c11] at H
    have c11b0 : (t147 == t143) = false := zbq.mpr c11
    have c11b1 : (t147 != t143) = true := bne_iff_ne.mpr c11
    obtain rfl := Option.some.inj H
    go_enter Try.func3, Try.ntmps3
    go_wp2_with (first | ((with_reducible refine zbd (f := 18) rfl ?_); refine goesL_ (some 14) rfl rfl Try.func18 (by kernel_rfl) rfl #[.slice A0 l0.length c0, .int .i64 1048576] rfl (by (try simp only [zai, zan, zav]); first | done | rfl) ?_; (with_reducible refine (laws_szItemS.calls k _ _ l0 1048576 t139 _ ?side1 ?side2 A4.out).mono ?_); (case side1 => repeat (first | exact HR0.out | (with_reducible first | apply zba | apply zbb | apply zbe))); (case side2 => exact HC0.out); rintro e w33 ⟨rfl, hb⟩; refine ⟨_, rfl, ?_⟩; have n0_ := Aside0.mk (zao (by repeat (first | (with_reducible first | exact HB.out | apply zad | apply zab | apply zac) | exact HB.out)) hb); clear HB; have HB := n0_; clear n0_; (try clear hb); (try clear hb2); (try clear hk); (try clear hi)) | ((with_reducible refine zbd (f := 20) rfl ?_); refine goesL_ (some 18) rfl rfl Try.func20 (by kernel_rfl) rfl #[.slice A0 l0.length c0] rfl (by (try simp only [zai, zan, zav]); first | done | rfl) ?_; (with_reducible refine (laws_toItemS.calls k _ _ l0 t140 _ ?side1 ?side2 A7.out).mono ?_); (case side1 => repeat (first | exact (zbn HR0.out HB.out) | (with_reducible first | apply zba | apply zbb | apply zbe))); (case side2 => exact HC0.out); rintro e w34 ⟨v141, rfl, ho0, hb⟩; refine ⟨_, rfl, ?_⟩; have xb_ := below_ofs (by repeat (first | (with_reducible first | exact HB.out | apply zad | apply zab | apply zac) | exact HB.out)) hb; have n0_ := Aside0.mk (Kd.S_lower ho0 (zal xb_)); have n1_ := Aside0.mk (zao xb_ hb); clear HB; have HO142 := n0_; have HB := n1_; clear n0_ n1_; clear xb_ hb ho0; obtain ⟨Ao35, co35, eo35⟩ := Kd.S_slice HO142.out; subst eo35) | ((with_reducible refine zbd (f := 19) rfl ?_); refine goesL_ (some 20) rfl rfl Try.func19 (by kernel_rfl) rfl #[.slice Ao35 t140.length co35, .string a1] rfl (by (try simp only [zai, zan, zav]); first | done | rfl) ?_; (with_reducible refine (spec_Of.calls k _ _ t140 a1 t143 _ ?side1 ?side2 A8.out).mono ?_); (case side1 => repeat (first | exact (zbm HO142.out).2.2 | (with_reducible first | apply zba | apply zbb | apply zbe))); (case side2 => exact (zbm HO142.out).2.1); rintro e w' ⟨rfl, ⟨nd, rfl⟩⟩; refine ⟨_, rfl, ?_⟩) | ((with_reducible refine zbd (f := 20) rfl ?_); refine goesL_ (some 22) rfl rfl Try.func20 (by kernel_rfl) rfl #[.slice A0 l0.length c0] rfl (by (try simp only [zai, zan, zav]); first | done | rfl) ?_; (with_reducible refine (laws_toItemS.calls k _ _ l0 t144 _ ?side1 ?side2 A9.out).mono ?_); (case side1 => repeat (first | exact (zbn HR0.out (by repeat (first | (with_reducible first | exact HB.out | apply zad | apply zab | apply zac) | exact HB.out))) | (with_reducible first | apply zba | apply zbb | apply zbe))); (case side2 => exact HC0.out); rintro e w36 ⟨v145, rfl, ho0, hb⟩; refine ⟨_, rfl, ?_⟩; have xb_ := below_ofs (by repeat (first | (with_reducible first | exact HB.out | apply zad | apply zab | apply zac) | exact HB.out)) hb; have n0_ := Aside0.mk (Kd.S_elder' (by (with_reducible repeat (first | apply zbh | apply zbi | apply zbl)); exact HO142.out) (Kd.S_base ho0) hb); have n1_ := Aside0.mk (Kd.S_lower (Kd.S_new' ho0 (Kd.S_lt (by (with_reducible repeat (first | apply zbh | apply zbi | apply zbl)); exact HO142.out))) (zal xb_)); have n2_ := Aside0.mk (zao xb_ hb); clear HO142 HB; have HO142 := n0_; have HO146 := n1_; have HB := n2_; clear n0_ n1_ n2_; clear xb_ hb ho0; obtain ⟨Ao37, co37, eo37⟩ := Kd.S_slice HO146.out; subst eo37) | ((with_reducible refine zbd (f := 21) rfl ?_); refine goesL_ (some 25) rfl rfl Try.func21 (by kernel_rfl) rfl #[.slice Ao37 t144.length co37, .string a1] rfl (by (try simp only [zai, zan, zav]); first | done | rfl) ?_; (with_reducible refine (impl_Of.calls k _ _ t144 a1 t147 _ ?side1 ?side2 A10.out).mono ?_); (case side1 => repeat (first | exact (zbm HO146.out).2.2 | (with_reducible first | apply zba | apply zbb | apply zbe))); (case side2 => exact (zbm HO146.out).2.1); rintro e w38 ⟨rfl, hb⟩; refine ⟨_, rfl, ?_⟩; have n0_ := Aside0.mk (Kd.S_below (by (with_reducible repeat (first | apply zbh | apply zbi | apply zbl)); exact HO142.out) hb); have n1_ := Aside0.mk (Kd.S_below (by (with_reducible repeat (first | apply zbh | apply zbi | apply zbl)); exact HO146.out) hb); have n2_ := Aside0.mk (zao (by repeat (first | (with_reducible first | exact HB.out | apply zad | apply zab | apply zac) | exact HB.out)) hb); clear HO142 HO146 HB; have HO142 := n0_; have HO146 := n1_; have HB := n2_; clear n0_ n1_ n2_; (try clear hb); (try clear hb2); (try clear hk); (try clear hi)))
    go_ret
    exact ⟨by first | rfl | (simp [zar, zas] <;> rfl) | (simp [*, zar, zas] <;> rfl), by repeat (first | (with_reducible first | exact HB.out | apply zad | apply zab | apply zac) | exact HB.out)⟩
end Go.Proofs.Ytlalkldjpniakaa.P
-- Written by a program of this session (wip/drive.py) over the kit's print.
namespace Go.Proofs.Ytlalkldjpniakaa.P
open Go.RowKit Go.Proofs.YtlalkldjpniakaaW.PrintWords
def good31 (x : S31) : Prop := x.f0.size ≤ maxLen ∧ (Lit.int .i64 x.f1).wf = true ∧ (Lit.int .i64 x.f2).wf = true ∧ (x.f3.length ≤ maxLen ∧ ∀ y_ ∈ x.f3, (Lit.int .u8 y_).wf = true)
/-- The one pure statement of laws_FnExactOf. -/
def laws_FnExactOf.Pure : Prop := ∀ (l0 : List (S31)) (a1 : ByteArray), (l0.length ≤ maxLen ∧ ∀ y_ ∈ l0, good31 y_) → a1.size ≤ maxLen → ∃ k, laws_FnExactOf.f k l0 a1 = some true
end Go.Proofs.Ytlalkldjpniakaa.P
/- FnExactOf: of every list of items both answers are one, and it is not changed. -/
namespace Go.Proofs.Ytlalkldjpniakaa.Pure
open Go.RowKit Go.Proofs.Ytlalkldjpniakaa.P Go.Proofs.Ytlalkldjpniakaa.B Go.Proofs.YtlalkldjpniakaaW.PrintWords Go.Proofs.YtlalkldjpniakaaW.PrintLast Go.Proofs.YtlalkldjpniakaaW.PrintMore
theorem FnExactOf : laws_FnExactOf.Pure := by
  intro l a hl _
  obtain ⟨hl, hg⟩ := hl
  obtain ⟨k, hk⟩ : ∃ k, l.length + 2999999 < k := ⟨_, Nat.lt_succ_self _⟩
  refine ⟨k, ?_⟩
  unfold laws_FnExactOf.f
  by_cases h0 : (a.size : Int) > 1048576
  · rw [if_pos h0]
  · rw [if_neg h0]
    obtain ⟨r, hr, hf⟩ := szItemS l 1048576 hl (fun y hy => ⟨(hg y hy).1, (hg y hy).2.2.2.1⟩) (by omega) (by omega) k (by omega)
    rw [hr, Option.bind_some]
    by_cases h1 : r < 0
    · rw [if_pos h1]
    · obtain ⟨h2, h3⟩ := hf h1
      have hm : (l.map it).length = l.length := List.length_map it
      have ht := toItemS l h2 h3 k (by omega)
      have hs := specOf (l.map it) a (by omega) k (by omega)
      have hi := implOf (l.map it) a (by omega) k (by omega)
      have he := eqItemS_same (l.map it) (by omega) (fun y hy => by obtain ⟨x, hx, rfl⟩ := List.mem_map.1 hy; exact (h3 x hx).2) k (by omega)
      rw [if_neg h1]
      simp only [ht, hs, hi, he, Option.bind_some, if_true]
end Go.Proofs.Ytlalkldjpniakaa.Pure
