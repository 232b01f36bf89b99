import Derived.Test.Ytienlgcjohpphaas22
namespace Go.Proofs.Ytienlgcjohpphaa.P
open Go.RowKit Go.Proofs.YtienlgcjohpphaaW.PrintWords Go.Proofs.YtienlgcjohpphaaW.PrintLast Go.Proofs.YtienlgcjohpphaaW.PrintMore
attribute [local go_sem] zcx zcy zdl zdm zcm zcn zcz zda   -- for this text's walks alone
set_option linter.unusedVariables false
set_option linter.unusedSimpArgs false

def impl_HashPad.l0 : Nat → List Int → List Int → Option (List Int)
 | 0, _, _ => none
 | k + 1, x0, x3 => if ((x3.length : Int) % 64) = 56 then ((impl_Great.f k (wrap64 (8 * (x0.length : Int))) 8).bind fun t446 => (if x3.length + t446.length < 140737488355328 then (some (x3 ++ t446)) else (none))) else (if x3.length < 140737488355328 then (impl_HashPad.l0 k x0 (x3 ++ [0])) else (none))
def impl_HashPad.f (k : Nat) (l0 : List Int) : Option (List Int) := if (l0.length : Int) > 4000 then (some ([] : List Int)) else ((impl_joined.f (([l0, (([128] : List Int))] : List (List Int)))).bind fun t443 => (impl_HashPad.l0 k l0 t443))
theorem impl_HashPad.mono_l : ∀ k, (∀ y0 y1, LeO (impl_HashPad.l0 k y0 y1) (impl_HashPad.l0 (k + 1) y0 y1))
 | 0 => fun _ _ r h => by simp [impl_HashPad.l0] at h
 | k + 1 => by
  have ih0 := impl_HashPad.mono_l k
  ·intro y0 y1
   unfold impl_HashPad.l0
   repeat' first
   | (with_reducible exact ih0 _ _)
   | (with_reducible exact impl_Great.mono _ _ _)
   | (with_reducible exact zck _)
   | (with_reducible exact zbs _)
   | (with_reducible refine zby ?_ ?_)
   | (with_reducible refine zbq ?_ (fun _ => ?_))
   | exact ih0 _ _
   | exact impl_Great.mono _ _ _
   | exact zbs _
   | refine zby ?_ ?_
   | refine zbq ?_ (fun _ => ?_)
theorem impl_HashPad.mono : ∀ a0 k, LeO (impl_HashPad.f k a0) (impl_HashPad.f (k + 1) a0) := by
 intro a0 k
 have ih0 := impl_HashPad.mono_l k
 unfold impl_HashPad.f
 repeat' first
   | (with_reducible exact ih0 _ _)
   | (with_reducible exact impl_Great.mono _ _ _)
   | (with_reducible exact zck _)
   | (with_reducible exact zbs _)
   | (with_reducible refine zby ?_ ?_)
   | (with_reducible refine zbq ?_ (fun _ => ?_))
   | exact ih0 _ _
   | exact impl_Great.mono _ _ _
   | exact zbs _
   | refine zby ?_ ?_
   | refine zbq ?_ (fun _ => ?_)
set_option maxHeartbeats 8000000 in
set_option maxRecDepth 100000 in
theorem impl_HashPad.calls (k : Nat) (P0_ : Nat → Prop) (A0 : Option Addr) (c0 : Nat) (l0 : List Int) (r : List Int) (w : World) (hs0 : Kd.V (Kd.int .u8) 5 w w.heap.size (fun k_ => P0_ k_) (.slice A0 l0.length c0) l0) (h : impl_HashPad.f k l0 = some r) :
  Calls Try.prog 29 #[.slice A0 l0.length c0] w fun e w' => ∃ v0_ : Value, e = .returned (v0_) ∧ Kd.R (Kd.int .u8) 5 w' w.heap.size (fun k_ => (w.heap.size ≤ k_)) v0_ r ∧ Below w.heap.size w w' := by
 have HO0 := Aside0.mk (show Kd.V (Kd.int .u8) 5 w w.heap.size (fun k_ => (P0_ k_ ∨ w.heap.size ≤ k_)) (.slice A0 l0.length c0) l0 from Kd.V_mono hs0 (fun k_ hk => .inl hk))
 have HB := Aside0.mk (zbu w.heap.size w)
 have H : (if (l0.length : Int) > 4000 then (some ([] : List Int)) else ((impl_joined.f (([l0, (([128] : List Int))] : List (List Int)))).bind fun t443 => (impl_HashPad.l0 k l0 t443))) = some r := h
 clear h
 by_cases c2 : (l0.length : Int) > 4000
 ·rw [if_pos c2] at H
  have c2b0 : decide (4000 < (l0.length : Int)) = true := zap c2
  have c2b1 : decide (4000 < l0.length) = true := zap (by omega)
  clear c2
  obtain rfl := Option.some.inj H
  go_enter Try.func29, Try.ntmps29
  go_wp2
  go_ret
  exact ⟨_, by first | rfl | (simp [zbn, zbo] <;> rfl) | (simp [*, zbn, zbo] <;> rfl), by first | exact Kd.R_nil _ _ _ _ _ | exact Kd.N_nil _ _ _ _ _ | exact Kd.V_nil _ _ _ _ _ | exact Kd.Q_nil _ _ _ _ _ | exact Kd.S_nil _ _ _ _ _, by repeat (first | (with_reducible first | exact HB.out | apply zaf | apply zab | apply zae) | exact HB.out)⟩
 ·rw [if_neg c2] at H
  have c2b0 : decide (4000 < (l0.length : Int)) = false := zbw c2
  have c2b1 : decide (4000 < l0.length) = false := zbw (by omega)
  clear c2
  obtain ⟨y437, hy437⟩ : ∃ y_ : List Int, y_ = (([128] : List Int)) := ⟨_, rfl⟩
  replace H : ((impl_joined.f (([l0, y437] : List (List Int)))).bind fun t443 => (impl_HashPad.l0 k l0 t443)) = some r := by first | (rw [hy437]; with_reducible exact H) | (have H2_ := (zao _ _).symm.trans H; rw [hy437]; with_reducible exact H2_) | (have H2_ := (zao _ _).symm.trans H; with_reducible exact H2_) | with_reducible exact H | (rw [hy437]; exact H) | exact H
  have Ny437 := Aside0.mk hy437
  clear hy437
  obtain ⟨y440, hy440⟩ : ∃ y_ : List (List Int), y_ = (([l0, y437] : List (List Int))) := ⟨_, rfl⟩
  replace H : ((impl_joined.f y440).bind fun t443 => (impl_HashPad.l0 k l0 t443)) = some r := by first | (rw [hy440]; with_reducible exact H) | (have H2_ := (zao _ _).symm.trans H; rw [hy440]; with_reducible exact H2_) | (have H2_ := (zao _ _).symm.trans H; with_reducible exact H2_) | with_reducible exact H | (rw [hy440]; exact H) | exact H
  have Ny440 := Aside0.mk hy440
  clear hy440
  replace H := zal.mp H
  obtain ⟨t443, A30, H⟩ := H
  replace H : (impl_HashPad.l0 k l0 t443) = some r := H
  have A3 := Aside0.mk A30
  clear A30
  have H' := Aside0.mk H
  clear H
  go_enter Try.func29, Try.ntmps29
  go_wp2_with (first | ((with_reducible refine zdc (N := 8) rfl ?_); refine zdx (Kd.int .u8) _ 5 ?hg (N := 8) ?hd (xs := ([128] : List Int)) (inner := [.int .u8 128]) (ok := fun _ => True) (okp := fun _ => True) ?hr ?hp (fun _ hk => hk) zcc (zbu _ _) (zbh _) (by simp) ?_; (case hd => rfl); (case hg => rfl); (case hr => first | (go_simp; done) | (go_simp; rfl)); (case hp => exact (zbi (show Kd.M (Kd.int .u8) _ _ _ 128 [.int .u8 128] from rfl) (zcv _ _))); intro v438 w4 ho5 hb hg_ hnew_; clear hg_ hnew_; (first | rw [← Ny437.out] at ho5 | (simp only [Int.reduceToNat] at ho5; rw [← Ny437.out] at ho5)); have n0_ := Aside0.mk (Kd.V_elder' (by (with_reducible repeat (first | apply zce | apply zcf | apply zcj)); exact HO0.out) (zbt ho5) hb); have n1_ := Aside0.mk (zbm (Kd.R_newM (M := fun k_ => (w.heap.size ≤ k_)) ho5 (zba (by repeat (first | (with_reducible first | exact HB.out | apply zaf | apply zab | apply zae) | exact HB.out))) (fun k_ h_ => h_)) (zba (by repeat (first | (with_reducible first | exact HB.out | apply zaf | apply zab | apply zae) | exact HB.out)))); have n2_ := Aside0.mk (zbb (by repeat (first | (with_reducible first | exact HB.out | apply zaf | apply zab | apply zae) | exact HB.out)) hb); clear HO0; clear HB; have HO0 := n0_; have HO439 := n1_; have HB := n2_; clear n0_ n1_ n2_; clear hb ho5; obtain ⟨Ao6, co6, eo6⟩ := zbr HO439.out; subst eo6) | ((with_reducible refine zdc (N := 9) rfl ?_); refine Kd.N_lit (Kd.slice 5 (Kd.int .u8)) _ 23 ?hg (N' := 9) ?hd (xs := ([l0, y437] : List (List Int))) (inner := [.slice A0 l0.length c0, .slice Ao6 y437.length co6]) (ok := (fun k_ => (P0_ k_ ∨ w.heap.size ≤ k_))) (okp := (fun k_ => (P0_ k_ ∨ w.heap.size ≤ k_))) ?hr ?hp (fun _ hk => hk) ((show ∀ k_, w4.heap.size ≤ k_ → (fun k_ => (P0_ k_ ∨ w.heap.size ≤ k_)) k_ from fun k_ hk => (.inr (Nat.le_trans (zba (by repeat (first | (with_reducible first | exact HB.out | apply zaf | apply zab | apply zae) | exact HB.out))) hk))) _ (zbh _)) (zbu _ _) (zbh _) (by simp) ?_; (case hd => rfl); (case hg => rfl); (case hr => first | (go_simp; done) | (go_simp; rfl)); (case hp => exact (zbi (show Kd.FK (Kd.slice 5 (Kd.int .u8)) _ _ l0 [.slice A0 l0.length c0] from (zdq (zcl (Kd.V_mono (ok' := (fun k_ => (P0_ k_ ∨ w.heap.size ≤ k_))) (HO0.out) (fun k_ hk => hk.1))).2.1 (Kd.V_F (Kd.V_mono (ok' := (fun k_ => (P0_ k_ ∨ w.heap.size ≤ k_))) (HO0.out) (fun k_ hk => hk.1))))) (zbi (show Kd.FK (Kd.slice 5 (Kd.int .u8)) _ _ y437 [.slice Ao6 y437.length co6] from (zdq (zas (zbx (ok' := (fun k_ => (P0_ k_ ∨ w.heap.size ≤ k_))) (HO439.out) (fun k_ hk => (.inr (hk.1))))).2.1 (Kd.R_F (zbx (ok' := (fun k_ => (P0_ k_ ∨ w.heap.size ≤ k_))) (HO439.out) (fun k_ hk => (.inr (hk.1))))))) (zcv _ _)))); intro v441 w7 ho8 hb hg_ hnew_; clear hg_ hnew_; (first | rw [← Ny440.out] at ho8 | (simp only [Int.reduceToNat] at ho8; rw [← Ny440.out] at ho8)); have n0_ := Aside0.mk (Kd.V_elder' (by (with_reducible repeat (first | apply zce | apply zcf | apply zcj)); exact HO0.out) (Kd.N_base ho8) hb); have n1_ := Aside0.mk (Kd.N_lower ho8 (zba (by repeat (first | (with_reducible first | exact HB.out | apply zaf | apply zab | apply zae) | exact HB.out)))); have n2_ := Aside0.mk (zbb (by repeat (first | (with_reducible first | exact HB.out | apply zaf | apply zab | apply zae) | exact HB.out)) hb); clear HO0; clear HB; clear HO439; have HO0 := n0_; have HO442 := n1_; have HB := n2_; clear n0_ n1_ n2_; clear hb ho8; obtain ⟨Ao9, co9, eo9⟩ := Kd.N_slice HO442.out; subst eo9) | ((with_reducible refine zax (f := 79) rfl ?_); refine goesL_ (some 10) rfl rfl Try.func79 (by kernel_rfl) rfl #[.slice Ao9 y440.length co9] rfl (by (try simp only [zan, zar, zav]); first | done | rfl | (simp only [zah, zag]; rfl) | (simp only [zah, zag]; rw [zat (zay.mpr (zbg (by assumption)))])) ?_; (with_reducible refine (impl_joined.calls _ _ y440 t443 _ ?side1 ?side2 A3.out).mono ?_); (case side1 => repeat (first | exact (zee HO442.out).2.2 | (with_reducible refine zbe ?_ _) | (with_reducible refine zbf ?_ _) | (with_reducible refine zbl ?_))); (case side2 => exact (zee HO442.out).2.1); rintro e w10 ⟨v444, rfl, ho0, hb⟩; refine ⟨_, rfl, ?_⟩; have n0_ := Aside0.mk (Kd.V_elder' (by (with_reducible repeat (first | apply zce | apply zcf | apply zcj)); exact HO0.out) (zbt ho0) hb); have n1_ := Aside0.mk (Kd.N_elder' (by (with_reducible repeat (first | apply Kd.N_alloc | apply Kd.N_drewN | apply Kd.N_drew)); exact HO442.out) (zbt ho0) hb); have n2_ := Aside0.mk (zbm (Kd.R_newM (M := fun k_ => (w.heap.size ≤ k_)) ho0 (zba (by repeat (first | (with_reducible first | exact HB.out | apply zaf | apply zab | apply zae) | exact HB.out))) (fun k_ h_ => h_)) (zba (by repeat (first | (with_reducible first | exact HB.out | apply zaf | apply zab | apply zae) | exact HB.out)))); have n3_ := Aside0.mk (zbb (by repeat (first | (with_reducible first | exact HB.out | apply zaf | apply zab | apply zae) | exact HB.out)) hb); clear HO0; clear HO442; clear HB; have HO0 := n0_; have HO442 := n1_; have HO445 := n2_; have HB := n3_; clear n0_ n1_ n2_ n3_; (try clear hb); (try clear hb2); (try clear hk); (try clear hi); (try clear ho0)))
  go_loopg [3] k (fun kq v3 w' => ∃ (x3_1 : List Int), Aside0 (impl_HashPad.l0 kq l0 x3_1 = some r) ∧ Aside0 (kq ≤ k) ∧ Aside0 (Kd.V (Kd.int .u8) 5 w' w.heap.size (fun k_ => (P0_ k_ ∨ w.heap.size ≤ k_) ∧ some k_ ≠ (v3 : Value).ownBlock) (.slice A0 l0.length c0) l0) ∧ Aside0 (Kd.R (Kd.int .u8) 5 w' w.heap.size (fun k_ => (w.heap.size ≤ k_)) v3 x3_1) ∧ Aside0 (Below w.heap.size w w'))
  case atStart => exact ⟨(t443), H', ⟨zbh _⟩, ⟨by (with_reducible repeat (first | apply zce | apply zcf | apply zcj)); exact Kd.V_mono HO0.out (fun _ hk => ⟨hk.1.1.1, hk.2⟩)⟩, ⟨by (with_reducible repeat (first | apply zai | apply zaj | apply zak)); exact zbx HO445.out (fun _ hk => hk.1)⟩, ⟨by repeat (first | (with_reducible first | exact HB.out | apply zaf | apply zab | apply zae) | exact HB.out)⟩⟩
  case round =>
   clear H'
   try clear c2
   try clear c2b0
   try clear c2b1
   try clear p2
   try clear c7
   obtain ⟨x3_1, HA, HK1, HO_0, HO_3, HB⟩ := hrel
   cases gk with
   | zero => exact absurd HA.out (by simp [impl_HashPad.l0])
   | succ k1 =>
    have H := HA.out
    clear HA
    simp only [impl_HashPad.l0] at H
    by_cases c11 : ((x3_1.length : Int) % 64) = 56
    ·rw [if_pos c11] at H
     have c11b0 : (((x3_1.length : Int) % 64) == 56) = true := zey.mpr c11
     have c11b1 : (((x3_1.length : Int) % 64) != 56) = false := zdr.mpr c11
     clear c11
     replace H := zal.mp H
     obtain ⟨t446, A120, H⟩ := H
     replace H : (if x3_1.length + t446.length < 140737488355328 then (some (x3_1 ++ t446)) else (none)) = some r := H
     have A12 := Aside0.mk A120
     clear A120
     by_cases c13 : x3_1.length + t446.length < 140737488355328
     ·rw [if_pos c13] at H
      have LMc13 := Aside0.mk c13
      clear c13
      obtain ⟨y449, hy449⟩ : ∃ y_ : List Int, y_ = (x3_1 ++ t446) := ⟨_, rfl⟩
      replace H : (some y449) = some r := by first | (rw [hy449]; with_reducible exact H) | (have H2_ := (zao _ _).symm.trans H; rw [hy449]; with_reducible exact H2_) | (have H2_ := (zao _ _).symm.trans H; with_reducible exact H2_) | with_reducible exact H | (rw [hy449]; exact H) | exact H
      have Ny449 := Aside0.mk hy449
      clear hy449
      obtain rfl := Option.some.inj H
      obtain ⟨Ao14, co14, eo14⟩ := zbr HO_3.out
      subst eo14
      go_wp2_with (first | ((with_reducible refine zax (f := 80) rfl ?_); refine goesL_ (some 22) rfl rfl Try.func80 (by kernel_rfl) rfl #[.int .i64 (wrap64 (8 * (l0.length : Int))), .int .i64 8] rfl (by (try simp only [zan, zar, zav]); first | done | rfl | (simp only [zah, zag]; rfl) | (simp only [zah, zag]; rw [zat (zay.mpr (zbg (by assumption)))])) ?_; (with_reducible refine (impl_Great.calls k1 (wrap64 (8 * (l0.length : Int))) 8 t446 _ A12.out).mono ?_); rintro e w15 ⟨v447, rfl, ho0, hb⟩; refine ⟨_, rfl, ?_⟩; have n0_ := Aside0.mk (Kd.V_elder' (by (with_reducible repeat (first | apply zce | apply zcf | apply zcj)); exact HO_0.out) (zbt ho0) hb); have n1_ := Aside0.mk (zbj (by (with_reducible repeat (first | apply zai | apply zaj | apply zak)); exact HO_3.out) (zbt ho0) hb); have n2_ := Aside0.mk (zbm (zbv (Kd.R_newM (M := fun k_ => (w.heap.size ≤ k_)) ho0 (zba (by repeat (first | (with_reducible first | exact HB.out | apply zaf | apply zab | apply zae) | exact HB.out))) (fun k_ h_ => h_)) (zcb (by (with_reducible repeat (first | apply zai | apply zaj | apply zak)); exact HO_3.out))) (zba (by repeat (first | (with_reducible first | exact HB.out | apply zaf | apply zab | apply zae) | exact HB.out)))); have n3_ := Aside0.mk (zbb (by repeat (first | (with_reducible first | exact HB.out | apply zaf | apply zab | apply zae) | exact HB.out)) hb); clear HO_0; clear HO_3; clear HB; have HO_0 := n0_; have HO_3 := n1_; have HO448 := n2_; have HB := n3_; clear n0_ n1_ n2_ n3_; (try clear hb); (try clear hb2); (try clear hk); (try clear hi); (try clear ho0); obtain ⟨Ao17, co17, eo17⟩ := zbr HO448.out; subst eo17) | ((with_reducible refine zdf (b := .append) (xs := #[.tmp 18, .tmp 22]) rfl ?_); at_builtin; refine zds (Kd.int .u8) (w0 := w) w.heap.size rfl (.tmp 18) (.tmp 22) 23 5 (.int .u8 0) 1 rfl Try.underlying23 info5 rfl (by decide) (by omega) (.slice Ao14 x3_1.length co14) x3_1 t446 _ _ _ (fun k_ => (w.heap.size ≤ k_) ∧ some k_ ≠ (.slice Ao17 t446.length co17 : Value).ownBlock) (fun _ => False) rfl rfl ?aO ?aR (fun _ _ h => h) (fun _ h => h.elim) ?aF ?aB ?aS ?aL ?_; (case aR => repeat (first | exact (zas HO448.out).2.2 | (with_reducible refine zbe ?_ _) | (with_reducible refine zbf ?_ _) | (with_reducible refine zbl ?_))); (case aB => exact (by repeat (first | (with_reducible first | exact HB.out | apply zaf | apply zab | apply zae) | exact HB.out))); (case aF => exact (fun k_ hk => ⟨(Nat.le_trans (zba (by repeat (first | (with_reducible first | exact HB.out | apply zaf | apply zab | apply zae) | exact HB.out))) hk), zdt (zcb (by (with_reducible repeat (first | apply zai | apply zaj | apply zak)); exact HO448.out)) k_ hk⟩)); (case aO => exact (by (with_reducible repeat (first | apply zai | apply zaj | apply zak)); exact HO_3.out)); (case aS => exact (zba (by repeat (first | (with_reducible first | exact HB.out | apply zaf | apply zab | apply zae) | exact HB.out)))); (case aL => have := LMc13.out; omega); intro v450 w16 ho hb hg hat; rw [← Ny449.out] at ho; have n0_ := Aside0.mk (Kd.V_afterv (ok := (fun k_ => (P0_ k_ ∨ w.heap.size ≤ k_) ∧ some k_ ≠ (.slice Ao17 t446.length co17 : Value).ownBlock)) (by (with_reducible repeat (first | apply zce | apply zcf | apply zcj)); exact Kd.V_mono HO_0.out (fun _ hk => ⟨⟨hk.1.1, hk.2⟩, hk.1.2⟩)) hg hat); have n1_ := Aside0.mk (zdh (ok := (fun k_ => (w.heap.size ≤ k_))) (by (with_reducible repeat (first | apply zai | apply zaj | apply zak)); exact zbx HO448.out (fun _ hk => ⟨hk.1.1, hk.2⟩)) hg hat); have n2_ := Aside0.mk (hb); have n3_ := Aside0.mk (ho); clear HO_0; clear HO448; clear HB; clear HO_3; have HO_0 := n0_; have HO448 := n1_; have HB := n2_; have HO451 := n3_; clear n0_ n1_ n2_ n3_; clear ho hb hg hat))
      go_ret
      exact ⟨_, by first | rfl | (simp [zbn, zbo] <;> rfl) | (simp [*, zbn, zbo] <;> rfl), by (with_reducible repeat (first | apply zai | apply zaj | apply zak)); exact zbx HO451.out (fun _ hk => hk.1), by repeat (first | (with_reducible first | exact HB.out | apply zaf | apply zab | apply zae) | exact HB.out)⟩
     ·rw [if_neg c13] at H
      exact absurd H (by simp)
    ·rw [if_neg c11] at H
     have c11b0 : (((x3_1.length : Int) % 64) == 56) = false := zdg.mpr c11
     have c11b1 : (((x3_1.length : Int) % 64) != 56) = true := zez.mpr c11
     by_cases c18 : x3_1.length < 140737488355328
     ·rw [if_pos c18] at H
      have LMc18 := Aside0.mk c18
      clear c18
      obtain ⟨y452, hy452⟩ : ∃ y_ : List Int, y_ = (x3_1 ++ [0]) := ⟨_, rfl⟩
      replace H : (impl_HashPad.l0 k1 l0 y452) = some r := by first | (rw [hy452]; with_reducible exact H) | (have H2_ := (zao _ _).symm.trans H; rw [hy452]; with_reducible exact H2_) | (have H2_ := (zao _ _).symm.trans H; with_reducible exact H2_) | with_reducible exact H | (rw [hy452]; exact H) | exact H
      have Ny452 := Aside0.mk hy452
      clear hy452
      have H' := Aside0.mk H
      clear H
      obtain ⟨Ao19, co19, eo19⟩ := zbr HO_3.out
      subst eo19
      go_wp2_with (first | ((with_reducible refine zdf (b := .append) (xs := #[.tmp 15, .tmp 16]) rfl ?_); at_builtin; refine zes (Kd.int .u8) (w0 := w) w.heap.size rfl (.tmp 15) (.tmp 16) 23 5 (.int .u8 0) 1 rfl Try.underlying23 info5 rfl (by decide) (by omega) (.slice Ao19 x3_1.length co19) x3_1 0 [.int .u8 0] (fun k_ => (w.heap.size ≤ k_)) (fun _ => False) rfl rfl ?aP (fun _ hk => hk.elim) ?aF ?aO ?aB ?aS ?aL ?_; (case aP => exact rfl); (case aB => exact (by repeat (first | (with_reducible first | exact HB.out | apply zaf | apply zab | apply zae) | exact HB.out))); (case aF => exact (fun k_ hk => (Nat.le_trans (zba (by repeat (first | (with_reducible first | exact HB.out | apply zaf | apply zab | apply zae) | exact HB.out))) hk))); (case aO => exact (by (with_reducible repeat (first | apply zai | apply zaj | apply zak)); exact HO_3.out)); (case aS => exact (zba (by repeat (first | (with_reducible first | exact HB.out | apply zaf | apply zab | apply zae) | exact HB.out)))); (case aL => have := LMc18.out; omega); intro v453 w20 ho hb hg hat; rw [← Ny452.out] at ho; have n0_ := Aside0.mk (Kd.V_afterv (ok := (fun k_ => (P0_ k_ ∨ w.heap.size ≤ k_))) (by (with_reducible repeat (first | apply zce | apply zcf | apply zcj)); exact HO_0.out) hg hat); have n1_ := Aside0.mk (hb); have n2_ := Aside0.mk (ho); clear HO_0; clear HB; clear HO_3; have HO_0 := n0_; have HB := n1_; have HO454 := n2_; clear n0_ n1_ n2_; clear ho hb hg hat))
      go_roundg k1
      case measure => have := HK1.out; omega
      case rel => exact ⟨(y452), H', ⟨by have := HK1.out; omega⟩, ⟨by (with_reducible repeat (first | apply zce | apply zcf | apply zcj)); exact HO_0.out⟩, ⟨by (with_reducible repeat (first | apply zai | apply zaj | apply zak)); exact HO454.out⟩, ⟨by repeat (first | (with_reducible first | exact HB.out | apply zaf | apply zab | apply zae) | exact HB.out)⟩⟩
     ·rw [if_neg c18] at H
      exact absurd H (by simp)
def impl_HashStart.f  : Option (List Int) := some (([1779033703, 3144134277, 1013904242, 2773480762, 1359893119, 2600822924, 528734635, 1541459225] : List Int))
set_option maxHeartbeats 8000000 in
set_option maxRecDepth 100000 in
theorem impl_HashStart.calls  (r : List Int) (w : World) (h : impl_HashStart.f  = some r) :
  Calls Try.prog 35 #[] w fun e w' => ∃ v0_ : Value, e = .returned (v0_) ∧ Kd.R (Kd.int .i64) 3 w' w.heap.size (fun _ => True) v0_ r ∧ Below w.heap.size w w' := by
 have HB := Aside0.mk (zbu w.heap.size w)
 have H : (some (([1779033703, 3144134277, 1013904242, 2773480762, 1359893119, 2600822924, 528734635, 1541459225] : List Int))) = some r := h
 clear h
 obtain ⟨y455, hy455⟩ : ∃ y_ : List Int, y_ = (([1779033703, 3144134277, 1013904242, 2773480762, 1359893119, 2600822924, 528734635, 1541459225] : List Int)) := ⟨_, rfl⟩
 replace H : (some y455) = some r := by first | (rw [hy455]; with_reducible exact H) | (have H2_ := (zao _ _).symm.trans H; rw [hy455]; with_reducible exact H2_) | (have H2_ := (zao _ _).symm.trans H; with_reducible exact H2_) | with_reducible exact H | (rw [hy455]; exact H) | exact H
 have Ny455 := Aside0.mk hy455
 clear hy455
 obtain rfl := Option.some.inj H
 go_enter Try.func35, Try.ntmps35
 go_wp2_with (first | ((with_reducible refine zdc (N := 1) rfl ?_); refine zdx (Kd.int .i64) _ 3 ?hg (N := 1) ?hd (xs := ([1779033703, 3144134277, 1013904242, 2773480762, 1359893119, 2600822924, 528734635, 1541459225] : List Int)) (inner := [.int .i64 1779033703, .int .i64 3144134277, .int .i64 1013904242, .int .i64 2773480762, .int .i64 1359893119, .int .i64 2600822924, .int .i64 528734635, .int .i64 1541459225]) (ok := fun _ => True) (okp := fun _ => True) ?hr ?hp (fun _ hk => hk) zcc (zbu _ _) (zbh _) (by simp) ?_; (case hd => rfl); (case hg => rfl); (case hr => first | (go_simp; done) | (go_simp; rfl)); (case hp => exact (zbi (show Kd.M (Kd.int .i64) _ _ _ 1779033703 [.int .i64 1779033703] from rfl) (zbi (show Kd.M (Kd.int .i64) _ _ _ 3144134277 [.int .i64 3144134277] from rfl) (zbi (show Kd.M (Kd.int .i64) _ _ _ 1013904242 [.int .i64 1013904242] from rfl) (zbi (show Kd.M (Kd.int .i64) _ _ _ 2773480762 [.int .i64 2773480762] from rfl) (zbi (show Kd.M (Kd.int .i64) _ _ _ 1359893119 [.int .i64 1359893119] from rfl) (zbi (show Kd.M (Kd.int .i64) _ _ _ 2600822924 [.int .i64 2600822924] from rfl) (zbi (show Kd.M (Kd.int .i64) _ _ _ 528734635 [.int .i64 528734635] from rfl) (zbi (show Kd.M (Kd.int .i64) _ _ _ 1541459225 [.int .i64 1541459225] from rfl) (zcv _ _)))))))))); intro v456 w1 ho2 hb hg_ hnew_; clear hg_ hnew_; (first | rw [← Ny455.out] at ho2 | (simp only [Int.reduceToNat] at ho2; rw [← Ny455.out] at ho2)); have n0_ := Aside0.mk (zbm ho2 (zba (by repeat (first | (with_reducible first | exact HB.out | apply zaf | apply zab | apply zae) | exact HB.out)))); have n1_ := Aside0.mk (zbb (by repeat (first | (with_reducible first | exact HB.out | apply zaf | apply zab | apply zae) | exact HB.out)) hb); clear HB; have HO457 := n0_; have HB := n1_; clear n0_ n1_; clear hb ho2))
 go_ret
 exact ⟨_, by first | rfl | (simp [zbn, zbo] <;> rfl) | (simp [*, zbn, zbo] <;> rfl), by (with_reducible repeat (first | apply zai | apply zaj | apply zak)); exact HO457.out, by repeat (first | (with_reducible first | exact HB.out | apply zaf | apply zab | apply zae) | exact HB.out)⟩
end Go.Proofs.Ytienlgcjohpphaa.P
