import Derived.Test.YtienlgcjohpphaaM11
namespace Go.Proofs.Ytienlgcjohpphaa.P
open Go.RowKit Go.Proofs.YtienlgcjohpphaaW.PrintWords Go.Proofs.YtienlgcjohpphaaW.PrintLast Go.Proofs.YtienlgcjohpphaaW.PrintMore
attribute [local go_sem] zdd zde zdy zdz zcb zcc zdf zdg   -- for this text's walks alone
set_option linter.unusedVariables false
set_option linter.unusedSimpArgs false

def impl_Great.f (k : Nat) (a0 : Int) (a1 : Int) : Option (List Int) := (impl_Little.f k a0 a1).bind fun t431 => ((impl_turned.f k t431).bind fun t434 => (some t434))
theorem impl_Great.mono : ∀ a0 a1 k, LeO (impl_Great.f k a0 a1) (impl_Great.f (k + 1) a0 a1) := by
 intro a0 a1 k
 unfold impl_Great.f
 repeat' first
   | (with_reducible exact impl_Little.mono _ _ _)
   | (with_reducible exact impl_turned.mono _ _)
   | (with_reducible exact zcf _)
   | (with_reducible exact zcj _)
   | (with_reducible refine zdp ?_ ?_)
   | (with_reducible refine zcg ?_ (fun _ => ?_))
set_option maxHeartbeats 8000000 in
set_option maxRecDepth 100000 in
theorem impl_Great.calls (k : Nat) (a0 : Int) (a1 : Int) (r : List Int) (w : World) (h : impl_Great.f k a0 a1 = some r) :
  Calls Try.prog 80 #[.int .i64 a0, .int .i64 a1] w fun e w' => ∃ v0_ : Value, e = .returned (v0_) ∧ Kd.R (Kd.int .u8) 5 w' w.heap.size (fun _ => True) v0_ r ∧ Below w.heap.size w w' := by
 have HB := Aside0.mk (zbq w.heap.size w)
 have H : ((impl_Little.f k a0 a1).bind fun t431 => ((impl_turned.f k t431).bind fun t434 => (some t434))) = some r := h
 clear h
 replace H := zaj.mp H
 obtain ⟨t431, A30, H⟩ := H
 try dsimp only at H
 have A3 := Aside0.mk A30
 clear A30
 replace H := zaj.mp H
 obtain ⟨t434, A40, H⟩ := H
 try dsimp only at H
 have A4 := Aside0.mk A40
 clear A40
 obtain rfl := Option.some.inj H
 go_enter Try.func80, Try.ntmps80
 go_wp2_with (first | ((with_reducible refine zbc (f := 87) rfl ?_); refine goesL_ (some 7) rfl rfl Try.func87 (by kernel_rfl) rfl #[.int .i64 a0, .int .i64 a1] rfl (by (try simp only [zap, zau, zav]); first | done | rfl) ?_; (with_reducible refine (impl_Little.calls k a0 a1 t431 _ A3.out).mono ?_); rintro e w5 ⟨v432, rfl, ho0, hb⟩; refine ⟨_, rfl, ?_⟩; have xb_ := below_ofs (by repeat (first | (with_reducible first | exact HB.out | apply zai | apply zad | apply zah) | exact HB.out)) hb; have n0_ := Aside0.mk (zbj ho0 (zax xb_)); have n1_ := Aside0.mk (zbf xb_ hb); clear HB; have HO433 := n0_; have HB := n1_; clear n0_ n1_; clear xb_ hb ho0; obtain ⟨Ao6, co6, eo6⟩ := zbm HO433.out; subst eo6) | ((with_reducible refine zbc (f := 106) rfl ?_); refine goesL_ (some 8) rfl rfl Try.func106 (by kernel_rfl) rfl #[.slice Ao6 t431.length co6] rfl (by (try simp only [zap, zau, zav]); first | done | rfl) ?_; (with_reducible refine (impl_turned.calls k _ _ t431 t434 _ ?side1 ?side2 A4.out).mono ?_); (case side1 => repeat (first | exact (zao HO433.out).2.2 | (with_reducible first | apply zba | apply zbb | apply zbg))); (case side2 => exact (zao HO433.out).2.1); rintro e w7 ⟨v435, rfl, ho0, hb⟩; refine ⟨_, rfl, ?_⟩; have xb_ := below_ofs (by repeat (first | (with_reducible first | exact HB.out | apply zai | apply zad | apply zah) | exact HB.out)) hb; have qHO433 := Kd.R_ofs (by (with_reducible repeat (first | apply zab | apply zac | apply zae)); exact HO433.out) hb; have n0_ := Aside0.mk (zak qHO433 (zal ho0) hb); have n1_ := Aside0.mk (zbj (zam ho0 (zat qHO433)) (zax xb_)); have n2_ := Aside0.mk (zbf xb_ hb); clear qHO433 HO433; clear HB; have HO433 := n0_; have HO436 := n1_; have HB := n2_; clear n0_ n1_ n2_; clear xb_ hb ho0))
 go_ret
 exact ⟨_, by first | rfl | (simp [zbk, zbl] <;> rfl) | (simp [*, zbk, zbl] <;> rfl), by (with_reducible repeat (first | apply zab | apply zac | apply zae)); exact zbe HO436.out (fun _ hk => zbw), by repeat (first | (with_reducible first | exact HB.out | apply zai | apply zad | apply zah) | exact HB.out)⟩
def impl_HashPad.l0 : Nat → List Int → List Int → Option (List Int)
 | 0, _, _ => none
 | k + 1, x0, x3 => if ((x3.length : Int) % 64) = 56 then ((impl_Great.f k (wrap64 (8 * (x0.length : Int))) 8).bind fun t446 => (if x3.length + t446.length < 140737488355328 then (some (x3 ++ t446)) else (none))) else (if x3.length < 140737488355328 then (impl_HashPad.l0 k x0 (x3 ++ [0])) else (none))
def impl_HashPad.f (k : Nat) (l0 : List Int) : Option (List Int) := if (l0.length : Int) > 4000 then (some ([] : List Int)) else ((impl_joined.f (([l0, (([128] : List Int))] : List (List Int)))).bind fun t443 => (impl_HashPad.l0 k l0 t443))
theorem impl_HashPad.mono_l : ∀ k, (∀ y0 y1, LeO (impl_HashPad.l0 k y0 y1) (impl_HashPad.l0 (k + 1) y0 y1))
 | 0 => fun _ _ r h => by simp [impl_HashPad.l0] at h
 | k + 1 => by
  have ih0 := impl_HashPad.mono_l k
  ·intro y0 y1
   unfold impl_HashPad.l0
   repeat' first
   | (with_reducible exact ih0 _ _)
   | (with_reducible exact impl_Great.mono _ _ _)
   | (with_reducible exact zcf _)
   | (with_reducible exact zcj _)
   | (with_reducible refine zdp ?_ ?_)
   | (with_reducible refine zcg ?_ (fun _ => ?_))
   | exact ih0 _ _
theorem impl_HashPad.mono : ∀ a0 k, LeO (impl_HashPad.f k a0) (impl_HashPad.f (k + 1) a0) := by
 intro a0 k
 have ih0 := impl_HashPad.mono_l k
 unfold impl_HashPad.f
 repeat' first
   | (with_reducible exact ih0 _ _)
   | (with_reducible exact impl_Great.mono _ _ _)
   | (with_reducible exact zcf _)
   | (with_reducible exact zcj _)
   | (with_reducible refine zdp ?_ ?_)
   | (with_reducible refine zcg ?_ (fun _ => ?_))
   | exact ih0 _ _
set_option maxHeartbeats 8000000 in
set_option maxRecDepth 100000 in
theorem impl_HashPad.calls (k : Nat) (P0_ : Nat → Prop) (A0 : Option Addr) (c0 : Nat) (l0 : List Int) (r : List Int) (w : World) (hs0 : Kd.V (Kd.int .u8) 5 w w.heap.size (fun k_ => P0_ k_) (.slice A0 l0.length c0) l0) (h : impl_HashPad.f k l0 = some r) :
  Calls Try.prog 29 #[.slice A0 l0.length c0] w fun e w' => ∃ v0_ : Value, e = .returned (v0_) ∧ Kd.R (Kd.int .u8) 5 w' w.heap.size (fun k_ => (w.heap.size ≤ k_)) v0_ r ∧ Below w.heap.size w w' := by
 have HO0 := Aside0.mk (show Kd.V (Kd.int .u8) 5 w w.heap.size (fun k_ => (P0_ k_ ∨ w.heap.size ≤ k_)) (.slice A0 l0.length c0) l0 from Kd.V_mono hs0 (fun k_ hk => .inl hk))
 have HB := Aside0.mk (zbq w.heap.size w)
 have H : (if (l0.length : Int) > 4000 then (some ([] : List Int)) else ((impl_joined.f (([l0, (([128] : List Int))] : List (List Int)))).bind fun t443 => (impl_HashPad.l0 k l0 t443))) = some r := h
 clear h
 by_cases c2 : (l0.length : Int) > 4000
 ·rw [if_pos c2] at H
  have c2b0 : decide (4000 < (l0.length : Int)) = true := zaq c2
  have c2b1 : decide (4000 < l0.length) = true := zaq (by omega)
  clear c2
  obtain rfl := Option.some.inj H
  go_enter Try.func29, Try.ntmps29
  go_wp2
  go_ret
  exact ⟨_, by first | rfl | (simp [zbk, zbl] <;> rfl) | (simp [*, zbk, zbl] <;> rfl), by first | exact Kd.R_nil _ _ _ _ _ | exact Kd.N_nil _ _ _ _ _ | exact Kd.V_nil _ _ _ _ _ | exact Kd.Q_nil _ _ _ _ _ | exact Kd.S_nil _ _ _ _ _, by repeat (first | (with_reducible first | exact HB.out | apply zai | apply zad | apply zah) | exact HB.out)⟩
 ·rw [if_neg c2] at H
  have c2b0 : decide (4000 < (l0.length : Int)) = false := zbr c2
  have c2b1 : decide (4000 < l0.length) = false := zbr (by omega)
  clear c2
  obtain ⟨y437, hy437⟩ : ∃ y_ : List Int, y_ = (([128] : List Int)) := ⟨_, rfl⟩
  replace H : ((impl_joined.f (([l0, y437] : List (List Int)))).bind fun t443 => (impl_HashPad.l0 k l0 t443)) = some r := by first | (rw [hy437]; with_reducible first | exact H | exact bind_ofs H) | (with_reducible first | exact H | exact bind_ofs H) | (rw [hy437]; exact H) | exact H
  have Ny437 := Aside0.mk hy437
  clear hy437
  obtain ⟨y440, hy440⟩ : ∃ y_ : List (List Int), y_ = (([l0, y437] : List (List Int))) := ⟨_, rfl⟩
  replace H : ((impl_joined.f y440).bind fun t443 => (impl_HashPad.l0 k l0 t443)) = some r := by first | (rw [hy440]; with_reducible first | exact H | exact bind_ofs H) | (with_reducible first | exact H | exact bind_ofs H) | (rw [hy440]; exact H) | exact H
  have Ny440 := Aside0.mk hy440
  clear hy440
  replace H := zaj.mp H
  obtain ⟨t443, A30, H⟩ := H
  try dsimp only at H
  have A3 := Aside0.mk A30
  clear A30
  have H' := Aside0.mk H
  clear H
  go_enter Try.func29, Try.ntmps29
  go_wp2_with (first | ((with_reducible refine zdt (N := 8) rfl ?_); refine zen (Kd.int .u8) _ 5 ?hg (N := 8) ?hd (xs := ([128] : List Int)) (inner := [.int .u8 128]) (ok := fun _ => True) (okp := fun _ => True) ?hr ?hp (fun _ hk => hk) zbw (zbq _ _) (zbi _) (by simp) ?_; (case hd => rfl); (case hg => rfl); (case hr => first | (go_simp; done) | (go_simp; rfl)); (case hp => exact (zbh (show Kd.M (Kd.int .u8) _ _ _ 128 [.int .u8 128] from rfl) (zdq _ _))); intro v438 w4 ho5 hb hg_ hnew_; have xb_ := below_ofs (by repeat (first | (with_reducible first | exact HB.out | apply zai | apply zad | apply zah) | exact HB.out)) hb; clear hg_ hnew_; (first | rw [← Ny437.out] at ho5 | (simp only [Int.reduceToNat] at ho5; rw [← Ny437.out] at ho5)); have n0_ := Aside0.mk (Kd.V_elder' (by (with_reducible repeat (first | apply zck | apply zcl | apply zdl)); exact HO0.out) (zal ho5) hb); have n1_ := Aside0.mk (zbj (Kd.R_newM (M := fun k_ => (w.heap.size ≤ k_)) ho5 (zax xb_) (fun k_ h_ => h_)) (zax xb_)); have n2_ := Aside0.mk (zbf xb_ hb); clear HO0 HB; have HO0 := n0_; have HO439 := n1_; have HB := n2_; clear n0_ n1_ n2_; clear xb_ hb ho5; obtain ⟨Ao6, co6, eo6⟩ := zbm HO439.out; subst eo6) | ((with_reducible refine zdt (N := 9) rfl ?_); refine Kd.N_lit (Kd.slice 5 (Kd.int .u8)) _ 23 ?hg (N' := 9) ?hd (xs := ([l0, y437] : List (List Int))) (inner := [.slice A0 l0.length c0, .slice Ao6 y437.length co6]) (ok := (fun k_ => (P0_ k_ ∨ w.heap.size ≤ k_))) (okp := (fun k_ => (P0_ k_ ∨ w.heap.size ≤ k_))) ?hr ?hp (fun _ hk => hk) ((show ∀ k_, w4.heap.size ≤ k_ → (fun k_ => (P0_ k_ ∨ w.heap.size ≤ k_)) k_ from fun k_ hk => (.inr (zff (zax (by repeat (first | (with_reducible first | exact HB.out | apply zai | apply zad | apply zah) | exact HB.out))) hk))) _ (zbi _)) (zbq _ _) (zbi _) (by simp) ?_; (case hd => rfl); (case hg => rfl); (case hr => first | (go_simp; done) | (go_simp; rfl)); (case hp => exact (zbh (show Kd.FK (Kd.slice 5 (Kd.int .u8)) _ _ l0 [.slice A0 l0.length c0] from (zem (zea (Kd.V_mono (ok' := (fun k_ => (P0_ k_ ∨ w.heap.size ≤ k_))) (HO0.out) (fun k_ hk => hk.1))).2.1 (Kd.V_F (Kd.V_mono (ok' := (fun k_ => (P0_ k_ ∨ w.heap.size ≤ k_))) (HO0.out) (fun k_ hk => hk.1))))) (zbh (show Kd.FK (Kd.slice 5 (Kd.int .u8)) _ _ y437 [.slice Ao6 y437.length co6] from (zem (zao (zbe (ok' := (fun k_ => (P0_ k_ ∨ w.heap.size ≤ k_))) (HO439.out) (fun k_ hk => (.inr (hk.1))))).2.1 (Kd.R_F (zbe (ok' := (fun k_ => (P0_ k_ ∨ w.heap.size ≤ k_))) (HO439.out) (fun k_ hk => (.inr (hk.1))))))) (zdq _ _)))); intro v441 w7 ho8 hb hg_ hnew_; have xb_ := below_ofs (by repeat (first | (with_reducible first | exact HB.out | apply zai | apply zad | apply zah) | exact HB.out)) hb; clear hg_ hnew_; (first | rw [← Ny440.out] at ho8 | (simp only [Int.reduceToNat] at ho8; rw [← Ny440.out] at ho8)); have n0_ := Aside0.mk (Kd.V_elder' (by (with_reducible repeat (first | apply zck | apply zcl | apply zdl)); exact HO0.out) (Kd.N_base ho8) hb); have n1_ := Aside0.mk (Kd.N_lower ho8 (zax xb_)); have n2_ := Aside0.mk (zbf xb_ hb); clear HO0 HB HO439; have HO0 := n0_; have HO442 := n1_; have HB := n2_; clear n0_ n1_ n2_; clear xb_ hb ho8; obtain ⟨Ao9, co9, eo9⟩ := Kd.N_slice HO442.out; subst eo9) | ((with_reducible refine zbc (f := 79) rfl ?_); refine goesL_ (some 10) rfl rfl Try.func79 (by kernel_rfl) rfl #[.slice Ao9 y440.length co9] rfl (by (try simp only [zap, zau, zav]); first | done | rfl) ?_; (with_reducible refine (impl_joined.calls _ _ y440 t443 _ ?side1 ?side2 A3.out).mono ?_); (case side1 => repeat (first | exact (zex HO442.out).2.2 | (with_reducible first | apply zba | apply zbb | apply zbg))); (case side2 => exact (zex HO442.out).2.1); rintro e w10 ⟨v444, rfl, ho0, hb⟩; refine ⟨_, rfl, ?_⟩; have xb_ := below_ofs (by repeat (first | (with_reducible first | exact HB.out | apply zai | apply zad | apply zah) | exact HB.out)) hb; have n0_ := Aside0.mk (Kd.V_elder' (by (with_reducible repeat (first | apply zck | apply zcl | apply zdl)); exact HO0.out) (zal ho0) hb); have n1_ := Aside0.mk (Kd.N_elder' (by (with_reducible repeat (first | apply Kd.N_alloc | apply Kd.N_drewN | apply Kd.N_drew)); exact HO442.out) (zal ho0) hb); have n2_ := Aside0.mk (zbj (Kd.R_newM (M := fun k_ => (w.heap.size ≤ k_)) ho0 (zax xb_) (fun k_ h_ => h_)) (zax xb_)); have n3_ := Aside0.mk (zbf xb_ hb); clear HO0 HO442 HB; have HO0 := n0_; have HO442 := n1_; have HO445 := n2_; have HB := n3_; clear n0_ n1_ n2_ n3_; clear xb_ hb ho0))
  go_loopg [3] k (fun kq v3 w' => ∃ (x3_1 : List Int), Aside0 (impl_HashPad.l0 kq l0 x3_1 = some r) ∧ Aside0 (kq ≤ k) ∧ Aside0 (Kd.V (Kd.int .u8) 5 w' w.heap.size (fun k_ => (P0_ k_ ∨ w.heap.size ≤ k_) ∧ some k_ ≠ (v3 : Value).ownBlock) (.slice A0 l0.length c0) l0) ∧ Aside0 (Kd.R (Kd.int .u8) 5 w' w.heap.size (fun k_ => (w.heap.size ≤ k_)) v3 x3_1) ∧ Aside0 (Below w.heap.size w w'))
  case atStart => exact ⟨(t443), H', ⟨zbi _⟩, ⟨by (with_reducible repeat (first | apply zck | apply zcl | apply zdl)); exact Kd.V_mono HO0.out (fun _ hk => ⟨hk.1.1.1, hk.2⟩)⟩, ⟨by (with_reducible repeat (first | apply zab | apply zac | apply zae)); exact zbe HO445.out (fun _ hk => hk.1)⟩, ⟨by repeat (first | (with_reducible first | exact HB.out | apply zai | apply zad | apply zah) | exact HB.out)⟩⟩
  case round =>
   clear H'
   try clear c2
   try clear c2b0
   try clear c2b1
   try clear p2
   try clear c7
   obtain ⟨x3_1, HA, HK1, HO_0, HO_3, HB⟩ := hrel
   cases gk with
   | zero => exact absurd HA.out (by simp [impl_HashPad.l0])
   | succ k1 =>
    have H := HA.out
    clear HA
    simp only [impl_HashPad.l0] at H
    by_cases c11 : ((x3_1.length : Int) % 64) = 56
    ·rw [if_pos c11] at H
     have c11b0 : (((x3_1.length : Int) % 64) == 56) = true := beq_iff_eq.mpr c11
     have c11b1 : (((x3_1.length : Int) % 64) != 56) = false := zeu.mpr c11
     clear c11
     replace H := zaj.mp H
     obtain ⟨t446, A120, H⟩ := H
     try dsimp only at H
     have A12 := Aside0.mk A120
     clear A120
     by_cases c13 : x3_1.length + t446.length < 140737488355328
     ·rw [if_pos c13] at H
      have LMc13 := Aside0.mk c13
      clear c13
      obtain ⟨y449, hy449⟩ : ∃ y_ : List Int, y_ = (x3_1 ++ t446) := ⟨_, rfl⟩
      replace H : (some y449) = some r := by first | (rw [hy449]; with_reducible first | exact H | exact bind_ofs H) | (with_reducible first | exact H | exact bind_ofs H) | (rw [hy449]; exact H) | exact H
      have Ny449 := Aside0.mk hy449
      clear hy449
      obtain rfl := Option.some.inj H
      obtain ⟨Ao14, co14, eo14⟩ := zbm HO_3.out
      subst eo14
      go_wp2_with (first | ((with_reducible refine zbc (f := 80) rfl ?_); refine goesL_ (some 22) rfl rfl Try.func80 (by kernel_rfl) rfl #[.int .i64 (wrap64 (8 * (l0.length : Int))), .int .i64 8] rfl (by (try simp only [zap, zau, zav]); first | done | rfl) ?_; (with_reducible refine (impl_Great.calls k1 (wrap64 (8 * (l0.length : Int))) 8 t446 _ A12.out).mono ?_); rintro e w15 ⟨v447, rfl, ho0, hb⟩; refine ⟨_, rfl, ?_⟩; have xb_ := below_ofs (by repeat (first | (with_reducible first | exact HB.out | apply zai | apply zad | apply zah) | exact HB.out)) hb; have n0_ := Aside0.mk (Kd.V_elder' (by (with_reducible repeat (first | apply zck | apply zcl | apply zdl)); exact HO_0.out) (zal ho0) hb); have qHO_3 := Kd.R_ofs (by (with_reducible repeat (first | apply zab | apply zac | apply zae)); exact HO_3.out) hb; have n1_ := Aside0.mk (zak qHO_3 (zal ho0) hb); have n2_ := Aside0.mk (zbj (zam (Kd.R_newM (M := fun k_ => (w.heap.size ≤ k_)) ho0 (zax xb_) (fun k_ h_ => h_)) (zat qHO_3)) (zax xb_)); have n3_ := Aside0.mk (zbf xb_ hb); clear qHO_3 HO_0; clear HO_3 HB; have HO_0 := n0_; have HO_3 := n1_; have HO448 := n2_; have HB := n3_; clear n0_ n1_ n2_ n3_; clear xb_ hb ho0; obtain ⟨Ao17, co17, eo17⟩ := zbm HO448.out; subst eo17) | ((with_reducible refine zdr (b := .append) (xs := #[.tmp 18, .tmp 22]) rfl ?_); at_builtin; refine zei (Kd.int .u8) (w0 := w) w.heap.size rfl (.tmp 18) (.tmp 22) 23 5 (.int .u8 0) 1 rfl Try.underlying23 info5 rfl (by decide) (by omega) (.slice Ao14 x3_1.length co14) x3_1 t446 _ _ _ (fun k_ => (w.heap.size ≤ k_) ∧ some k_ ≠ (.slice Ao17 t446.length co17 : Value).ownBlock) (fun _ => False) rfl rfl ?aO ?aR (fun _ _ h => h) (fun _ h => h.elim) ?aF ?aB ?aS ?aL ?_; (case aR => repeat (first | exact (zao HO448.out).2.2 | (with_reducible first | apply zba | apply zbb | apply zbg))); (case aB => exact (by repeat (first | (with_reducible first | exact HB.out | apply zai | apply zad | apply zah) | exact HB.out))); (case aF => exact (fun k_ hk => ⟨(zff (zax (by repeat (first | (with_reducible first | exact HB.out | apply zai | apply zad | apply zah) | exact HB.out))) hk), zek (zat (by (with_reducible repeat (first | apply zab | apply zac | apply zae)); exact HO448.out)) k_ hk⟩)); (case aO => exact (by (with_reducible repeat (first | apply zab | apply zac | apply zae)); exact HO_3.out)); (case aS => exact (zax (by repeat (first | (with_reducible first | exact HB.out | apply zai | apply zad | apply zah) | exact HB.out)))); (case aL => have := LMc13.out; omega); intro v450 w16 ho hb hg hat; rw [← Ny449.out] at ho; have n0_ := Aside0.mk (Kd.V_afterv (ok := (fun k_ => (P0_ k_ ∨ w.heap.size ≤ k_) ∧ some k_ ≠ (.slice Ao17 t446.length co17 : Value).ownBlock)) (by (with_reducible repeat (first | apply zck | apply zcl | apply zdl)); exact Kd.V_mono HO_0.out (fun _ hk => ⟨⟨hk.1.1, hk.2⟩, hk.1.2⟩)) hg hat); have n1_ := Aside0.mk (zef (ok := (fun k_ => (w.heap.size ≤ k_))) (by (with_reducible repeat (first | apply zab | apply zac | apply zae)); exact zbe HO448.out (fun _ hk => ⟨hk.1.1, hk.2⟩)) hg hat); have n2_ := Aside0.mk (hb); have n3_ := Aside0.mk (ho); clear HO_0 HO448 HB HO_3; have HO_0 := n0_; have HO448 := n1_; have HB := n2_; have HO451 := n3_; clear n0_ n1_ n2_ n3_; clear ho hb hg hat))
      go_ret
      exact ⟨_, by first | rfl | (simp [zbk, zbl] <;> rfl) | (simp [*, zbk, zbl] <;> rfl), by (with_reducible repeat (first | apply zab | apply zac | apply zae)); exact zbe HO451.out (fun _ hk => hk.1), by repeat (first | (with_reducible first | exact HB.out | apply zai | apply zad | apply zah) | exact HB.out)⟩
     ·rw [if_neg c13] at H
      exact absurd H (by simp)
    ·rw [if_neg c11] at H
     have c11b0 : (((x3_1.length : Int) % 64) == 56) = false := zeb.mpr c11
     have c11b1 : (((x3_1.length : Int) % 64) != 56) = true := bne_iff_ne.mpr c11
     by_cases c18 : x3_1.length < 140737488355328
     ·rw [if_pos c18] at H
      have LMc18 := Aside0.mk c18
      clear c18
      obtain ⟨y452, hy452⟩ : ∃ y_ : List Int, y_ = (x3_1 ++ [0]) := ⟨_, rfl⟩
      replace H : (impl_HashPad.l0 k1 l0 y452) = some r := by first | (rw [hy452]; with_reducible first | exact H | exact bind_ofs H) | (with_reducible first | exact H | exact bind_ofs H) | (rw [hy452]; exact H) | exact H
      have Ny452 := Aside0.mk hy452
      clear hy452
      have H' := Aside0.mk H
      clear H
      obtain ⟨Ao19, co19, eo19⟩ := zbm HO_3.out
      subst eo19
      go_wp2_with (first | ((with_reducible refine zdr (b := .append) (xs := #[.tmp 15, .tmp 16]) rfl ?_); at_builtin; refine zfc (Kd.int .u8) (w0 := w) w.heap.size rfl (.tmp 15) (.tmp 16) 23 5 (.int .u8 0) 1 rfl Try.underlying23 info5 rfl (by decide) (by omega) (.slice Ao19 x3_1.length co19) x3_1 0 [.int .u8 0] (fun k_ => (w.heap.size ≤ k_)) (fun _ => False) rfl rfl ?aP (fun _ hk => hk.elim) ?aF ?aO ?aB ?aS ?aL ?_; (case aP => exact rfl); (case aB => exact (by repeat (first | (with_reducible first | exact HB.out | apply zai | apply zad | apply zah) | exact HB.out))); (case aF => exact (fun k_ hk => (zff (zax (by repeat (first | (with_reducible first | exact HB.out | apply zai | apply zad | apply zah) | exact HB.out))) hk))); (case aO => exact (by (with_reducible repeat (first | apply zab | apply zac | apply zae)); exact HO_3.out)); (case aS => exact (zax (by repeat (first | (with_reducible first | exact HB.out | apply zai | apply zad | apply zah) | exact HB.out)))); (case aL => have := LMc18.out; omega); intro v453 w20 ho hb hg hat; rw [← Ny452.out] at ho; have n0_ := Aside0.mk (Kd.V_afterv (ok := (fun k_ => (P0_ k_ ∨ w.heap.size ≤ k_))) (by (with_reducible repeat (first | apply zck | apply zcl | apply zdl)); exact HO_0.out) hg hat); have n1_ := Aside0.mk (hb); have n2_ := Aside0.mk (ho); clear HO_0 HB HO_3; have HO_0 := n0_; have HB := n1_; have HO454 := n2_; clear n0_ n1_ n2_; clear ho hb hg hat))
      go_roundg k1
      case measure => have := HK1.out; omega
      case rel => exact ⟨(y452), H', ⟨by have := HK1.out; omega⟩, ⟨by (with_reducible repeat (first | apply zck | apply zcl | apply zdl)); exact HO_0.out⟩, ⟨by (with_reducible repeat (first | apply zab | apply zac | apply zae)); exact HO454.out⟩, ⟨by repeat (first | (with_reducible first | exact HB.out | apply zai | apply zad | apply zah) | exact HB.out)⟩⟩
     ·rw [if_neg c18] at H
      exact absurd H (by simp)
end Go.Proofs.Ytienlgcjohpphaa.P
