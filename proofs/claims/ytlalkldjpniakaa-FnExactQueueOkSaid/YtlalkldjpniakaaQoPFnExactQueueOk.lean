import Derived.Test.YtlalkldjpniakaaQo30
namespace Go.Proofs.Ytlalkldjpniakaa.P
open Go.RowKit Go.Proofs.YtlalkldjpniakaaW.PrintWords Go.Proofs.YtlalkldjpniakaaW.PrintLast Go.Proofs.YtlalkldjpniakaaW.PrintMore
attribute [local go_sem] zct zcu zdd zde zcl zcm zcv zcw   -- for this text's walks alone
set_option linter.unusedVariables false
set_option linter.unusedSimpArgs false

def laws_FnExactQueueOk.f (k : Nat) (l0 : List (S31)) : Option (Bool) := (laws_szItemS.f k l0 1048576).bind fun t404 => (if t404 < 0 then (some true) else ((laws_toItemS.f k l0).bind fun t405 => ((spec_QueueOk.f k t405).bind fun t408 => ((laws_toItemS.f k l0).bind fun t409 => ((impl_QueueOk.f k t409).bind fun t412 => (if (t412 != t408) = true then (some false) else ((laws_toItemS.f k l0).bind fun t413 => ((laws_eqItemS.f k t409 t413).bind fun t416 => (if t416 = true then (some true) else (some false))))))))))
theorem laws_FnExactQueueOk.mono : ∀ a0 k, LeO (laws_FnExactQueueOk.f k a0) (laws_FnExactQueueOk.f (k + 1) a0) := by
 intro a0 k
 unfold laws_FnExactQueueOk.f
 repeat' first
   | (with_reducible exact impl_QueueOk.mono _ _)
   | (with_reducible exact laws_eqItemS.mono _ _ _)
   | (with_reducible exact laws_szItemS.mono _ _ _)
   | (with_reducible exact laws_toItemS.mono _ _)
   | (with_reducible exact spec_QueueOk.mono _ _)
   | (with_reducible exact zci _)
   | (with_reducible exact zck _)
   | (with_reducible refine zcp ?_ ?_)
   | (with_reducible refine zcj ?_ (fun _ => ?_))
set_option maxHeartbeats 8000000 in
set_option maxRecDepth 100000 in
theorem laws_FnExactQueueOk.calls (k : Nat) (A0 : Option Addr) (c0 : Nat) (l0 : List (S31)) (r : Bool) (w : World) (hr0 : Kd.C k31 w A0 l0.length l0) (hc0 : l0.length ≤ c0) (h : laws_FnExactQueueOk.f k l0 = some r) :
  Calls Try.prog 8 #[.slice A0 l0.length c0] w fun e w' => e = .returned (.bool r) ∧ Below w.heap.size w w' := by
 have HR0 := Aside0.mk hr0
 have HC0 := Aside0.mk hc0
 clear hr0 hc0
 have HB := Aside0.mk (zbt w.heap.size w)
 have H : ((laws_szItemS.f k l0 1048576).bind fun t404 => (if t404 < 0 then (some true) else ((laws_toItemS.f k l0).bind fun t405 => ((spec_QueueOk.f k t405).bind fun t408 => ((laws_toItemS.f k l0).bind fun t409 => ((impl_QueueOk.f k t409).bind fun t412 => (if (t412 != t408) = true then (some false) else ((laws_toItemS.f k l0).bind fun t413 => ((laws_eqItemS.f k t409 t413).bind fun t416 => (if t416 = true then (some true) else (some false))))))))))) = some r := h
 clear h
 replace H := zam.mp H
 obtain ⟨t404, A20, H⟩ := H
 try dsimp only at H
 have A2 := Aside0.mk A20
 clear A20
 by_cases c3 : t404 < 0
 ·rw [if_pos c3] at H
  have c3b0 : decide (t404 < 0) = true := zak c3
  clear c3
  obtain rfl := Option.some.inj H
  go_enter Try.func8, Try.ntmps8
  go_wp2_with (first | ((with_reducible refine zbe (f := 18) rfl ?_); refine goesL_ (some 9) rfl rfl Try.func18 (by kernel_rfl) rfl #[.slice A0 l0.length c0, .int .i64 1048576] rfl (by (try simp only [zap, zax, zaz]); first | done | rfl) ?_; (with_reducible refine (laws_szItemS.calls k _ _ l0 1048576 t404 _ ?side1 ?side2 A2.out).mono ?_); (case side1 => repeat (first | exact HR0.out | (with_reducible first | apply zbg | apply zbh | apply zbp))); (case side2 => exact HC0.out); rintro e w4 ⟨rfl, hb⟩; refine ⟨_, rfl, ?_⟩; have n0_ := Aside0.mk (zai (by repeat (first | (with_reducible first | exact HB.out | apply zae | apply zab | apply zad) | exact HB.out)) hb); clear HB; have HB := n0_; clear n0_; (try clear hb); (try clear hb2); (try clear hk); (try clear hi)))
  go_ret
  exact ⟨by first | rfl | (simp [zan, zao] <;> rfl) | (simp [*, zan, zao] <;> rfl), by repeat (first | (with_reducible first | exact HB.out | apply zae | apply zab | apply zad) | exact HB.out)⟩
 ·rw [if_neg c3] at H
  have c3b0 : decide (t404 < 0) = false := zbd c3
  clear c3
  replace H := zam.mp H
  obtain ⟨t405, A50, H⟩ := H
  try dsimp only at H
  have A5 := Aside0.mk A50
  clear A50
  replace H := zam.mp H
  obtain ⟨t408, A60, H⟩ := H
  try dsimp only at H
  have A6 := Aside0.mk A60
  clear A60
  replace H := zam.mp H
  obtain ⟨t409, A70, H⟩ := H
  try dsimp only at H
  have A7 := Aside0.mk A70
  clear A70
  replace H := zam.mp H
  obtain ⟨t412, A80, H⟩ := H
  try dsimp only at H
  have A8 := Aside0.mk A80
  clear A80
  by_cases c9 : (t412 != t408) = true
  ·rw [if_pos c9] at H
   have c9b0 : (t412 != t408) = true := c9
   (try (have c9b1 : decide (t412 = t408) = false := by simpa using c9))
   (try (have c9b2 : (t412 == t408) = false := by simpa using c9))
   (try (have c9b3 : ¬ (t412 = t408) := by simpa using c9))
   clear c9
   obtain rfl := Option.some.inj H
   go_enter Try.func8, Try.ntmps8
   go_wp2_with (first | ((with_reducible refine zbe (f := 18) rfl ?_); refine goesL_ (some 9) rfl rfl Try.func18 (by kernel_rfl) rfl #[.slice A0 l0.length c0, .int .i64 1048576] rfl (by (try simp only [zap, zax, zaz]); first | done | rfl) ?_; (with_reducible refine (laws_szItemS.calls k _ _ l0 1048576 t404 _ ?side1 ?side2 A2.out).mono ?_); (case side1 => repeat (first | exact HR0.out | (with_reducible first | apply zbg | apply zbh | apply zbp))); (case side2 => exact HC0.out); rintro e w10 ⟨rfl, hb⟩; refine ⟨_, rfl, ?_⟩; have n0_ := Aside0.mk (zai (by repeat (first | (with_reducible first | exact HB.out | apply zae | apply zab | apply zad) | exact HB.out)) hb); clear HB; have HB := n0_; clear n0_; (try clear hb); (try clear hb2); (try clear hk); (try clear hi)) | ((with_reducible refine zbe (f := 20) rfl ?_); refine goesL_ (some 13) rfl rfl Try.func20 (by kernel_rfl) rfl #[.slice A0 l0.length c0] rfl (by (try simp only [zap, zax, zaz]); first | done | rfl) ?_; (with_reducible refine (laws_toItemS.calls k _ _ l0 t405 _ ?side1 ?side2 A5.out).mono ?_); (case side1 => repeat (first | exact (zbn HR0.out HB.out) | (with_reducible first | apply zbg | apply zbh | apply zbp))); (case side2 => exact HC0.out); rintro e w11 ⟨v406, rfl, ho0, hb⟩; refine ⟨_, rfl, ?_⟩; have xb_ := below_ofs (by repeat (first | (with_reducible first | exact HB.out | apply zae | apply zab | apply zad) | exact HB.out)) hb; have n0_ := Aside0.mk (Kd.S_lower ho0 (zal xb_)); have n1_ := Aside0.mk (zai xb_ hb); clear HB; have HO407 := n0_; have HB := n1_; clear n0_ n1_; clear xb_ hb ho0; obtain ⟨Ao12, co12, eo12⟩ := Kd.S_slice HO407.out; subst eo12) | ((with_reducible refine zbe (f := 42) rfl ?_); refine goesL_ (some 14) rfl rfl Try.func42 (by kernel_rfl) rfl #[.slice Ao12 t405.length co12] rfl (by (try simp only [zap, zax, zaz]); first | done | rfl) ?_; (with_reducible refine (spec_QueueOk.calls k _ _ t405 t408 _ ?side1 ?side2 A6.out).mono ?_); (case side1 => repeat (first | exact (zcn HO407.out).2.2 | (with_reducible first | apply zbg | apply zbh | apply zbp))); (case side2 => exact (zcn HO407.out).2.1); rintro e w13 ⟨rfl, hb⟩; refine ⟨_, rfl, ?_⟩; have n0_ := Aside0.mk (zdg (by (with_reducible repeat (first | apply zbw | apply zbx | apply zce)); exact HO407.out) hb); have n1_ := Aside0.mk (zai (by repeat (first | (with_reducible first | exact HB.out | apply zae | apply zab | apply zad) | exact HB.out)) hb); clear HO407 HB; have HO407 := n0_; have HB := n1_; clear n0_ n1_; (try clear hb); (try clear hb2); (try clear hk); (try clear hi)) | ((with_reducible refine zbe (f := 20) rfl ?_); refine goesL_ (some 16) rfl rfl Try.func20 (by kernel_rfl) rfl #[.slice A0 l0.length c0] rfl (by (try simp only [zap, zax, zaz]); first | done | rfl) ?_; (with_reducible refine (laws_toItemS.calls k _ _ l0 t409 _ ?side1 ?side2 A7.out).mono ?_); (case side1 => repeat (first | exact (zbn HR0.out HB.out) | (with_reducible first | apply zbg | apply zbh | apply zbp))); (case side2 => exact HC0.out); rintro e w14 ⟨v410, rfl, ho0, hb⟩; refine ⟨_, rfl, ?_⟩; have xb_ := below_ofs (by repeat (first | (with_reducible first | exact HB.out | apply zae | apply zab | apply zad) | exact HB.out)) hb; have n0_ := Aside0.mk (Kd.S_elder' (by (with_reducible repeat (first | apply zbw | apply zbx | apply zce)); exact HO407.out) (Kd.S_base ho0) hb); have n1_ := Aside0.mk (Kd.S_lower (Kd.S_new' ho0 (Kd.S_lt (by (with_reducible repeat (first | apply zbw | apply zbx | apply zce)); exact HO407.out))) (zal xb_)); have n2_ := Aside0.mk (zai xb_ hb); clear HO407 HB; have HO407 := n0_; have HO411 := n1_; have HB := n2_; clear n0_ n1_ n2_; clear xb_ hb ho0; obtain ⟨Ao15, co15, eo15⟩ := Kd.S_slice HO411.out; subst eo15) | ((with_reducible refine zbe (f := 43) rfl ?_); refine goesL_ (some 18) rfl rfl Try.func43 (by kernel_rfl) rfl #[.slice Ao15 t409.length co15] rfl (by (try simp only [zap, zax, zaz]); first | done | rfl) ?_; (with_reducible refine (impl_QueueOk.calls k _ _ t409 t412 _ ?side1 ?side2 A8.out).mono ?_); (case side1 => repeat (first | exact (zcn HO411.out).2.2 | (with_reducible first | apply zbg | apply zbh | apply zbp))); (case side2 => exact (zcn HO411.out).2.1); rintro e w16 ⟨rfl, hb⟩; refine ⟨_, rfl, ?_⟩; have n0_ := Aside0.mk (zdg (by (with_reducible repeat (first | apply zbw | apply zbx | apply zce)); exact HO407.out) hb); have n1_ := Aside0.mk (zdg (by (with_reducible repeat (first | apply zbw | apply zbx | apply zce)); exact HO411.out) hb); have n2_ := Aside0.mk (zai (by repeat (first | (with_reducible first | exact HB.out | apply zae | apply zab | apply zad) | exact HB.out)) hb); clear HO407 HO411 HB; have HO407 := n0_; have HO411 := n1_; have HB := n2_; clear n0_ n1_ n2_; (try clear hb); (try clear hb2); (try clear hk); (try clear hi)))
   go_ret
   exact ⟨by first | rfl | (simp [zan, zao] <;> rfl) | (simp [*, zan, zao] <;> rfl), by repeat (first | (with_reducible first | exact HB.out | apply zae | apply zab | apply zad) | exact HB.out)⟩
  ·rw [if_neg c9] at H
   have c9b0 : (t412 != t408) = false := by simpa using c9
   (try (have c9b1 : decide (t412 = t408) = true := by simpa using c9))
   (try (have c9b2 : (t412 == t408) = true := by simpa using c9))
   clear c9
   replace H := zam.mp H
   obtain ⟨t413, A170, H⟩ := H
   try dsimp only at H
   have A17 := Aside0.mk A170
   clear A170
   replace H := zam.mp H
   obtain ⟨t416, A180, H⟩ := H
   try dsimp only at H
   have A18 := Aside0.mk A180
   clear A180
   by_cases c19 : t416 = true
   ·subst c19
    have H1 : (some true) = some r := by rw [if_pos rfl] at H; exact H
    clear H
    have H := H1
    clear H1
    obtain rfl := Option.some.inj H
    go_enter Try.func8, Try.ntmps8
    go_wp2_with (first | ((with_reducible refine zbe (f := 18) rfl ?_); refine goesL_ (some 9) rfl rfl Try.func18 (by kernel_rfl) rfl #[.slice A0 l0.length c0, .int .i64 1048576] rfl (by (try simp only [zap, zax, zaz]); first | done | rfl) ?_; (with_reducible refine (laws_szItemS.calls k _ _ l0 1048576 t404 _ ?side1 ?side2 A2.out).mono ?_); (case side1 => repeat (first | exact HR0.out | (with_reducible first | apply zbg | apply zbh | apply zbp))); (case side2 => exact HC0.out); rintro e w20 ⟨rfl, hb⟩; refine ⟨_, rfl, ?_⟩; have n0_ := Aside0.mk (zai (by repeat (first | (with_reducible first | exact HB.out | apply zae | apply zab | apply zad) | exact HB.out)) hb); clear HB; have HB := n0_; clear n0_; (try clear hb); (try clear hb2); (try clear hk); (try clear hi)) | ((with_reducible refine zbe (f := 20) rfl ?_); refine goesL_ (some 13) rfl rfl Try.func20 (by kernel_rfl) rfl #[.slice A0 l0.length c0] rfl (by (try simp only [zap, zax, zaz]); first | done | rfl) ?_; (with_reducible refine (laws_toItemS.calls k _ _ l0 t405 _ ?side1 ?side2 A5.out).mono ?_); (case side1 => repeat (first | exact (zbn HR0.out HB.out) | (with_reducible first | apply zbg | apply zbh | apply zbp))); (case side2 => exact HC0.out); rintro e w21 ⟨v406, rfl, ho0, hb⟩; refine ⟨_, rfl, ?_⟩; have xb_ := below_ofs (by repeat (first | (with_reducible first | exact HB.out | apply zae | apply zab | apply zad) | exact HB.out)) hb; have n0_ := Aside0.mk (Kd.S_lower ho0 (zal xb_)); have n1_ := Aside0.mk (zai xb_ hb); clear HB; have HO407 := n0_; have HB := n1_; clear n0_ n1_; clear xb_ hb ho0; obtain ⟨Ao22, co22, eo22⟩ := Kd.S_slice HO407.out; subst eo22) | ((with_reducible refine zbe (f := 42) rfl ?_); refine goesL_ (some 14) rfl rfl Try.func42 (by kernel_rfl) rfl #[.slice Ao22 t405.length co22] rfl (by (try simp only [zap, zax, zaz]); first | done | rfl) ?_; (with_reducible refine (spec_QueueOk.calls k _ _ t405 t408 _ ?side1 ?side2 A6.out).mono ?_); (case side1 => repeat (first | exact (zcn HO407.out).2.2 | (with_reducible first | apply zbg | apply zbh | apply zbp))); (case side2 => exact (zcn HO407.out).2.1); rintro e w23 ⟨rfl, hb⟩; refine ⟨_, rfl, ?_⟩; have n0_ := Aside0.mk (zdg (by (with_reducible repeat (first | apply zbw | apply zbx | apply zce)); exact HO407.out) hb); have n1_ := Aside0.mk (zai (by repeat (first | (with_reducible first | exact HB.out | apply zae | apply zab | apply zad) | exact HB.out)) hb); clear HO407 HB; have HO407 := n0_; have HB := n1_; clear n0_ n1_; (try clear hb); (try clear hb2); (try clear hk); (try clear hi)) | ((with_reducible refine zbe (f := 20) rfl ?_); refine goesL_ (some 16) rfl rfl Try.func20 (by kernel_rfl) rfl #[.slice A0 l0.length c0] rfl (by (try simp only [zap, zax, zaz]); first | done | rfl) ?_; (with_reducible refine (laws_toItemS.calls k _ _ l0 t409 _ ?side1 ?side2 A7.out).mono ?_); (case side1 => repeat (first | exact (zbn HR0.out HB.out) | (with_reducible first | apply zbg | apply zbh | apply zbp))); (case side2 => exact HC0.out); rintro e w24 ⟨v410, rfl, ho0, hb⟩; refine ⟨_, rfl, ?_⟩; have xb_ := below_ofs (by repeat (first | (with_reducible first | exact HB.out | apply zae | apply zab | apply zad) | exact HB.out)) hb; have n0_ := Aside0.mk (Kd.S_elder' (by (with_reducible repeat (first | apply zbw | apply zbx | apply zce)); exact HO407.out) (Kd.S_base ho0) hb); have n1_ := Aside0.mk (Kd.S_lower (Kd.S_new' ho0 (Kd.S_lt (by (with_reducible repeat (first | apply zbw | apply zbx | apply zce)); exact HO407.out))) (zal xb_)); have n2_ := Aside0.mk (zai xb_ hb); clear HO407 HB; have HO407 := n0_; have HO411 := n1_; have HB := n2_; clear n0_ n1_ n2_; clear xb_ hb ho0; obtain ⟨Ao25, co25, eo25⟩ := Kd.S_slice HO411.out; subst eo25) | ((with_reducible refine zbe (f := 43) rfl ?_); refine goesL_ (some 18) rfl rfl Try.func43 (by kernel_rfl) rfl #[.slice Ao25 t409.length co25] rfl (by (try simp only [zap, zax, zaz]); first | done | rfl) ?_; (with_reducible refine (impl_QueueOk.calls k _ _ t409 t412 _ ?side1 ?side2 A8.out).mono ?_); (case side1 => repeat (first | exact (zcn HO411.out).2.2 | (with_reducible first | apply zbg | apply zbh | apply zbp))); (case side2 => exact (zcn HO411.out).2.1); rintro e w26 ⟨rfl, hb⟩; refine ⟨_, rfl, ?_⟩; have n0_ := Aside0.mk (zdg (by (with_reducible repeat (first | apply zbw | apply zbx | apply zce)); exact HO407.out) hb); have n1_ := Aside0.mk (zdg (by (with_reducible repeat (first | apply zbw | apply zbx | apply zce)); exact HO411.out) hb); have n2_ := Aside0.mk (zai (by repeat (first | (with_reducible first | exact HB.out | apply zae | apply zab | apply zad) | exact HB.out)) hb); clear HO407 HO411 HB; have HO407 := n0_; have HO411 := n1_; have HB := n2_; clear n0_ n1_ n2_; (try clear hb); (try clear hb2); (try clear hk); (try clear hi)) | ((with_reducible refine zbe (f := 20) rfl ?_); refine goesL_ (some 24) rfl rfl Try.func20 (by kernel_rfl) rfl #[.slice A0 l0.length c0] rfl (by (try simp only [zap, zax, zaz]); first | done | rfl) ?_; (with_reducible refine (laws_toItemS.calls k _ _ l0 t413 _ ?side1 ?side2 A17.out).mono ?_); (case side1 => repeat (first | exact (zbn HR0.out HB.out) | (with_reducible first | apply zbg | apply zbh | apply zbp))); (case side2 => exact HC0.out); rintro e w27 ⟨v414, rfl, ho0, hb⟩; refine ⟨_, rfl, ?_⟩; have xb_ := below_ofs (by repeat (first | (with_reducible first | exact HB.out | apply zae | apply zab | apply zad) | exact HB.out)) hb; have n0_ := Aside0.mk (Kd.S_elder' (by (with_reducible repeat (first | apply zbw | apply zbx | apply zce)); exact HO407.out) (Kd.S_base ho0) hb); have n1_ := Aside0.mk (Kd.S_elder' (by (with_reducible repeat (first | apply zbw | apply zbx | apply zce)); exact HO411.out) (Kd.S_base ho0) hb); have n2_ := Aside0.mk (Kd.S_lower (Kd.S_new' (Kd.S_new' ho0 (Kd.S_lt (by (with_reducible repeat (first | apply zbw | apply zbx | apply zce)); exact HO407.out))) (Kd.S_lt (by (with_reducible repeat (first | apply zbw | apply zbx | apply zce)); exact HO411.out))) (zal xb_)); have n3_ := Aside0.mk (zai xb_ hb); clear HO407 HO411 HB; have HO407 := n0_; have HO411 := n1_; have HO415 := n2_; have HB := n3_; clear n0_ n1_ n2_ n3_; clear xb_ hb ho0; obtain ⟨Ao28, co28, eo28⟩ := Kd.S_slice HO415.out; subst eo28) | ((with_reducible refine zbe (f := 22) rfl ?_); refine goesL_ (some 25) rfl rfl Try.func22 (by kernel_rfl) rfl #[.slice Ao25 t409.length co25, .slice Ao28 t413.length co28] rfl (by (try simp only [zap, zax, zaz]); first | done | rfl) ?_; (with_reducible refine (laws_eqItemS.calls k _ _ t409 _ _ t413 true _ ?side1 ?side2 ?side3 ?side4 A18.out).mono ?_); (case side1 => repeat (first | exact (zcn HO411.out).2.2 | (with_reducible first | apply zbg | apply zbh | apply zbp))); (case side2 => exact (zcn HO411.out).2.1); (case side3 => repeat (first | exact (zcn HO415.out).2.2 | (with_reducible first | apply zbg | apply zbh | apply zbp))); (case side4 => exact (zcn HO415.out).2.1); rintro e w29 ⟨rfl, hb⟩; refine ⟨_, rfl, ?_⟩; have n0_ := Aside0.mk (zdg (by (with_reducible repeat (first | apply zbw | apply zbx | apply zce)); exact HO407.out) hb); have n1_ := Aside0.mk (zdg (by (with_reducible repeat (first | apply zbw | apply zbx | apply zce)); exact HO411.out) hb); have n2_ := Aside0.mk (zdg (by (with_reducible repeat (first | apply zbw | apply zbx | apply zce)); exact HO415.out) hb); have n3_ := Aside0.mk (zai (by repeat (first | (with_reducible first | exact HB.out | apply zae | apply zab | apply zad) | exact HB.out)) hb); clear HO407 HO411 HO415 HB; have HO407 := n0_; have HO411 := n1_; have HO415 := n2_; have HB := n3_; clear n0_ n1_ n2_ n3_; (try clear hb); (try clear hb2); (try clear hk); (try clear hi)))
    go_ret
    exact ⟨by first | rfl | (simp [zan, zao] <;> rfl) | (simp [*, zan, zao] <;> rfl), by repeat (first | (with_reducible first | exact HB.out | apply zae | apply zab | apply zad) | exact HB.out)⟩
   ·replace c19 := zbz.mpr c19
    subst c19
    have H1 : (some false) = some r := by rw [if_neg (show ¬ (false = true) by decide)] at H; exact H
    clear H
    have H := H1
    clear H1
    obtain rfl := Option.some.inj H
    go_enter Try.func8, Try.ntmps8
    go_wp2_with (first | ((with_reducible refine zbe (f := 18) rfl ?_); refine goesL_ (some 9) rfl rfl Try.func18 (by kernel_rfl) rfl #[.slice A0 l0.length c0, .int .i64 1048576] rfl (by (try simp only [zap, zax, zaz]); first | done | rfl) ?_; (with_reducible refine (laws_szItemS.calls k _ _ l0 1048576 t404 _ ?side1 ?side2 A2.out).mono ?_); (case side1 => repeat (first | exact HR0.out | (with_reducible first | apply zbg | apply zbh | apply zbp))); (case side2 => exact HC0.out); rintro e w30 ⟨rfl, hb⟩; refine ⟨_, rfl, ?_⟩; have n0_ := Aside0.mk (zai (by repeat (first | (with_reducible first | exact HB.out | apply zae | apply zab | apply zad) | exact HB.out)) hb); clear HB; have HB := n0_; clear n0_; (try clear hb); (try clear hb2); (try clear hk); (try clear hi)) | ((with_reducible refine zbe (f := 20) rfl ?_); refine goesL_ (some 13) rfl rfl Try.func20 (by kernel_rfl) rfl #[.slice A0 l0.length c0] rfl (by (try simp only [zap, zax, zaz]); first | done | rfl) ?_; (with_reducible refine (laws_toItemS.calls k _ _ l0 t405 _ ?side1 ?side2 A5.out).mono ?_); (case side1 => repeat (first | exact (zbn HR0.out HB.out) | (with_reducible first | apply zbg | apply zbh | apply zbp))); (case side2 => exact HC0.out); rintro e w31 ⟨v406, rfl, ho0, hb⟩; refine ⟨_, rfl, ?_⟩; have xb_ := below_ofs (by repeat (first | (with_reducible first | exact HB.out | apply zae | apply zab | apply zad) | exact HB.out)) hb; have n0_ := Aside0.mk (Kd.S_lower ho0 (zal xb_)); have n1_ := Aside0.mk (zai xb_ hb); clear HB; have HO407 := n0_; have HB := n1_; clear n0_ n1_; clear xb_ hb ho0; obtain ⟨Ao32, co32, eo32⟩ := Kd.S_slice HO407.out; subst eo32) | ((with_reducible refine zbe (f := 42) rfl ?_); refine goesL_ (some 14) rfl rfl Try.func42 (by kernel_rfl) rfl #[.slice Ao32 t405.length co32] rfl (by (try simp only [zap, zax, zaz]); first | done | rfl) ?_; (with_reducible refine (spec_QueueOk.calls k _ _ t405 t408 _ ?side1 ?side2 A6.out).mono ?_); (case side1 => repeat (first | exact (zcn HO407.out).2.2 | (with_reducible first | apply zbg | apply zbh | apply zbp))); (case side2 => exact (zcn HO407.out).2.1); rintro e w33 ⟨rfl, hb⟩; refine ⟨_, rfl, ?_⟩; have n0_ := Aside0.mk (zdg (by (with_reducible repeat (first | apply zbw | apply zbx | apply zce)); exact HO407.out) hb); have n1_ := Aside0.mk (zai (by repeat (first | (with_reducible first | exact HB.out | apply zae | apply zab | apply zad) | exact HB.out)) hb); clear HO407 HB; have HO407 := n0_; have HB := n1_; clear n0_ n1_; (try clear hb); (try clear hb2); (try clear hk); (try clear hi)) | ((with_reducible refine zbe (f := 20) rfl ?_); refine goesL_ (some 16) rfl rfl Try.func20 (by kernel_rfl) rfl #[.slice A0 l0.length c0] rfl (by (try simp only [zap, zax, zaz]); first | done | rfl) ?_; (with_reducible refine (laws_toItemS.calls k _ _ l0 t409 _ ?side1 ?side2 A7.out).mono ?_); (case side1 => repeat (first | exact (zbn HR0.out HB.out) | (with_reducible first | apply zbg | apply zbh | apply zbp))); (case side2 => exact HC0.out); rintro e w34 ⟨v410, rfl, ho0, hb⟩; refine ⟨_, rfl, ?_⟩; have xb_ := below_ofs (by repeat (first | (with_reducible first | exact HB.out | apply zae | apply zab | apply zad) | exact HB.out)) hb; have n0_ := Aside0.mk (Kd.S_elder' (by (with_reducible repeat (first | apply zbw | apply zbx | apply zce)); exact HO407.out) (Kd.S_base ho0) hb); have n1_ := Aside0.mk (Kd.S_lower (Kd.S_new' ho0 (Kd.S_lt (by (with_reducible repeat (first | apply zbw | apply zbx | apply zce)); exact HO407.out))) (zal xb_)); have n2_ := Aside0.mk (zai xb_ hb); clear HO407 HB; have HO407 := n0_; have HO411 := n1_; have HB := n2_; clear n0_ n1_ n2_; clear xb_ hb ho0; obtain ⟨Ao35, co35, eo35⟩ := Kd.S_slice HO411.out; subst eo35) | ((with_reducible refine zbe (f := 43) rfl ?_); refine goesL_ (some 18) rfl rfl Try.func43 (by kernel_rfl) rfl #[.slice Ao35 t409.length co35] rfl (by (try simp only [zap, zax, zaz]); first | done | rfl) ?_; (with_reducible refine (impl_QueueOk.calls k _ _ t409 t412 _ ?side1 ?side2 A8.out).mono ?_); (case side1 => repeat (first | exact (zcn HO411.out).2.2 | (with_reducible first | apply zbg | apply zbh | apply zbp))); (case side2 => exact (zcn HO411.out).2.1); rintro e w36 ⟨rfl, hb⟩; refine ⟨_, rfl, ?_⟩; have n0_ := Aside0.mk (zdg (by (with_reducible repeat (first | apply zbw | apply zbx | apply zce)); exact HO407.out) hb); have n1_ := Aside0.mk (zdg (by (with_reducible repeat (first | apply zbw | apply zbx | apply zce)); exact HO411.out) hb); have n2_ := Aside0.mk (zai (by repeat (first | (with_reducible first | exact HB.out | apply zae | apply zab | apply zad) | exact HB.out)) hb); clear HO407 HO411 HB; have HO407 := n0_; have HO411 := n1_; have HB := n2_; clear n0_ n1_ n2_; (try clear hb); (try clear hb2); (try clear hk); (try clear hi)) | ((with_reducible refine zbe (f := 20) rfl ?_); refine goesL_ (some 24) rfl rfl Try.func20 (by kernel_rfl) rfl #[.slice A0 l0.length c0] rfl (by (try simp only [zap, zax, zaz]); first | done | rfl) ?_; (with_reducible refine (laws_toItemS.calls k _ _ l0 t413 _ ?side1 ?side2 A17.out).mono ?_); (case side1 => repeat (first | exact (zbn HR0.out HB.out) | (with_reducible first | apply zbg | apply zbh | apply zbp))); (case side2 => exact HC0.out); rintro e w37 ⟨v414, rfl, ho0, hb⟩; refine ⟨_, rfl, ?_⟩; have xb_ := below_ofs (by repeat (first | (with_reducible first | exact HB.out | apply zae | apply zab | apply zad) | exact HB.out)) hb; have n0_ := Aside0.mk (Kd.S_elder' (by (with_reducible repeat (first | apply zbw | apply zbx | apply zce)); exact HO407.out) (Kd.S_base ho0) hb); have n1_ := Aside0.mk (Kd.S_elder' (by (with_reducible repeat (first | apply zbw | apply zbx | apply zce)); exact HO411.out) (Kd.S_base ho0) hb); have n2_ := Aside0.mk (Kd.S_lower (Kd.S_new' (Kd.S_new' ho0 (Kd.S_lt (by (with_reducible repeat (first | apply zbw | apply zbx | apply zce)); exact HO407.out))) (Kd.S_lt (by (with_reducible repeat (first | apply zbw | apply zbx | apply zce)); exact HO411.out))) (zal xb_)); have n3_ := Aside0.mk (zai xb_ hb); clear HO407 HO411 HB; have HO407 := n0_; have HO411 := n1_; have HO415 := n2_; have HB := n3_; clear n0_ n1_ n2_ n3_; clear xb_ hb ho0; obtain ⟨Ao38, co38, eo38⟩ := Kd.S_slice HO415.out; subst eo38) | ((with_reducible refine zbe (f := 22) rfl ?_); refine goesL_ (some 25) rfl rfl Try.func22 (by kernel_rfl) rfl #[.slice Ao35 t409.length co35, .slice Ao38 t413.length co38] rfl (by (try simp only [zap, zax, zaz]); first | done | rfl) ?_; (with_reducible refine (laws_eqItemS.calls k _ _ t409 _ _ t413 false _ ?side1 ?side2 ?side3 ?side4 A18.out).mono ?_); (case side1 => repeat (first | exact (zcn HO411.out).2.2 | (with_reducible first | apply zbg | apply zbh | apply zbp))); (case side2 => exact (zcn HO411.out).2.1); (case side3 => repeat (first | exact (zcn HO415.out).2.2 | (with_reducible first | apply zbg | apply zbh | apply zbp))); (case side4 => exact (zcn HO415.out).2.1); rintro e w39 ⟨rfl, hb⟩; refine ⟨_, rfl, ?_⟩; have n0_ := Aside0.mk (zdg (by (with_reducible repeat (first | apply zbw | apply zbx | apply zce)); exact HO407.out) hb); have n1_ := Aside0.mk (zdg (by (with_reducible repeat (first | apply zbw | apply zbx | apply zce)); exact HO411.out) hb); have n2_ := Aside0.mk (zdg (by (with_reducible repeat (first | apply zbw | apply zbx | apply zce)); exact HO415.out) hb); have n3_ := Aside0.mk (zai (by repeat (first | (with_reducible first | exact HB.out | apply zae | apply zab | apply zad) | exact HB.out)) hb); clear HO407 HO411 HO415 HB; have HO407 := n0_; have HO411 := n1_; have HO415 := n2_; have HB := n3_; clear n0_ n1_ n2_ n3_; (try clear hb); (try clear hb2); (try clear hk); (try clear hi)))
    go_ret
    exact ⟨by first | rfl | (simp [zan, zao] <;> rfl) | (simp [*, zan, zao] <;> rfl), by repeat (first | (with_reducible first | exact HB.out | apply zae | apply zab | apply zad) | exact HB.out)⟩
end Go.Proofs.Ytlalkldjpniakaa.P
-- Written by a program of this session (wip/drive.py) over the kit's print.
namespace Go.Proofs.Ytlalkldjpniakaa.P
open Go.RowKit Go.Proofs.YtlalkldjpniakaaW.PrintWords
def good31 (x : S31) : Prop := x.f0.size ≤ maxLen ∧ (Lit.int .i64 x.f1).wf = true ∧ (Lit.int .i64 x.f2).wf = true ∧ (x.f3.length ≤ maxLen ∧ ∀ y_ ∈ x.f3, (Lit.int .u8 y_).wf = true)
/-- The one pure statement of laws_FnExactQueueOk. -/
def laws_FnExactQueueOk.Pure : Prop := ∀ (l0 : List (S31)), (l0.length ≤ maxLen ∧ ∀ y_ ∈ l0, good31 y_) → ∃ k, laws_FnExactQueueOk.f k l0 = some true
end Go.Proofs.Ytlalkldjpniakaa.P
/- FnExactQueueOk: of every list of items both answers are one, and it is not changed. -/
namespace Go.Proofs.Ytlalkldjpniakaa.Pure
open Go.RowKit Go.Proofs.Ytlalkldjpniakaa.P Go.Proofs.Ytlalkldjpniakaa.B Go.Proofs.YtlalkldjpniakaaW.PrintWords Go.Proofs.YtlalkldjpniakaaW.PrintLast Go.Proofs.YtlalkldjpniakaaW.PrintMore
theorem FnExactQueueOk : laws_FnExactQueueOk.Pure := by
  intro l hl
  obtain ⟨hl, hg⟩ := hl
  obtain ⟨r, h0⟩ : ∃ r, (∀ k, l.length < k → laws_szItemS.f k l 1048576 = some r) ∧ (¬ r < 0 → l.length ≤ 1048576 ∧ ∀ y ∈ l, fits y) := by
    obtain ⟨r, hr, hf⟩ := szItemS l 1048576 hl (fun y hy => ⟨(hg y hy).1, (hg y hy).2.2.2.1⟩) (by omega) (by omega) (l.length + 1) (by omega)
    refine ⟨r, fun k hk => ?_, hf⟩
    obtain ⟨r2, hr2, _⟩ := szItemS l 1048576 hl (fun y hy => ⟨(hg y hy).1, (hg y hy).2.2.2.1⟩) (by omega) (by omega) k hk
    have hm := at_rounds (g := fun k => laws_szItemS.f k l 1048576) (fun k => laws_szItemS.mono l 1048576 k) (show l.length + 1 ≤ k by omega) hr
    exact hm
  refine (Ev.rounds ?_)
  unfold laws_FnExactQueueOk.f
  refine evBind (a := r) (evOf _ h0.1) ?_
  by_cases h1 : r < 0
  · exact evPos h1 (evConst _)
  · obtain ⟨h2, h3⟩ := h0.2 h1
    have hm : (l.map it).length = l.length := List.length_map it
    have hx : ∀ y ∈ l.map it, y.f0.size ≤ 1099511627776 := fun y hy => by obtain ⟨x, hx, rfl⟩ := List.mem_map.1 hy; have := (h3 x hx).1; show x.f0.size ≤ _; omega
    have ht : Ev (fun k => laws_toItemS.f k l) (l.map it) := evOf 2097152 fun k hk => toItemS l h2 h3 k hk
    refine evNeg h1 (evBind ht (evBind (specQueueOk _ (by omega) hx) (evBind ht (evBind (implQueueOk _ (by omega) hx) (evNeg (by simp) (evBind ht (evBind (a := true) (evOf 2097152 fun k hk => eqItemS_same (l.map it) (by omega) (fun y hy => by obtain ⟨x, hx, rfl⟩ := List.mem_map.1 hy; exact (h3 x hx).2) k hk) (evPos rfl (evConst _)))))))))
end Go.Proofs.Ytlalkldjpniakaa.Pure
