import Derived.Test.Ytienlgcjohpphaake10
import Derived.Test.Ytienlgcjohpphaake28
namespace Go.Proofs.Ytienlgcjohpphaa.P
open Go.RowKit Go.Proofs.YtienlgcjohpphaaW.PrintWords Go.Proofs.YtienlgcjohpphaaW.PrintLast Go.Proofs.YtienlgcjohpphaaW.PrintMore
attribute [local go_sem] zbz zca zcn zco zbt zbu zcb zcc   -- for this text's walks alone
set_option linter.unusedVariables false
set_option linter.unusedSimpArgs false
set_option maxHeartbeats 8000000
set_option maxRecDepth 100000

def impl_HashPad.l0 : Nat → List Int → List Int → Option (List Int)
 | 0, _, _ => none
 | k + 1, x0, x3 => if ((x3.length : Int) % 64) = 56 then ((impl_Great.f k (wrap64 (8 * (x0.length : Int))) 8).bind fun t446 => (if x3.length + t446.length < 140737488355328 then (some (x3 ++ t446)) else (none))) else (if x3.length < 140737488355328 then (impl_HashPad.l0 k x0 (x3 ++ [0])) else (none))
def impl_HashPad.f (k : Nat) (l0 : List Int) : Option (List Int) := if (l0.length : Int) > 4000 then (some ([] : List Int)) else ((impl_joined.f (([l0, (([128] : List Int))] : List (List Int)))).bind fun t443 => (impl_HashPad.l0 k l0 t443))
theorem impl_HashPad.mono_l : ∀ k, (∀ y0 y1, LeO (impl_HashPad.l0 k y0 y1) (impl_HashPad.l0 (k + 1) y0 y1))
 | 0 => fun _ _ r h => by simp [impl_HashPad.l0] at h
 | k + 1 => by
  have ih0 := impl_HashPad.mono_l k
  ·intro y0 y1
   unfold impl_HashPad.l0
   have m0 := @impl_Great.mono
   exact mt
theorem impl_HashPad.mono : ∀ a0 k, LeO (impl_HashPad.f k a0) (impl_HashPad.f (k + 1) a0) := by
 intro a0 k
 have ih0 := impl_HashPad.mono_l k
 unfold impl_HashPad.f
 have m0 := @impl_Great.mono
 exact mt
theorem impl_HashPad.calls (k : Nat) (P0_ : Nat → Prop) (A0 : Option Addr) (c0 : Nat) (l0 : List Int) (r : List Int) (w : World) (hs0 : Kd.V (Kd.int .u8) 5 w w.heap.size (fun k_ => P0_ k_) (.slice A0 l0.length c0) l0) (h : impl_HashPad.f k l0 = some r) :
  Calls Try.prog 29 #[.slice A0 l0.length c0] w fun e w' => ∃ v0_ : Value, e = .returned (v0_) ∧ Kd.R (Kd.int .u8) 5 w' w.heap.size (fun k_ => (w.heap.size ≤ k_)) v0_ r ∧ Below w.heap.size w w' := by
 have HO0 := Aside0.mk (show Kd.V (Kd.int .u8) 5 w w.heap.size (fun k_ => (P0_ k_ ∨ w.heap.size ≤ k_)) (.slice A0 l0.length c0) l0 from Kd.V_mono hs0 (fun k_ hk => .inl hk))
 have HB := Aside0.mk (zbj w.heap.size w)
 have H : (if (l0.length : Int) > 4000 then (some ([] : List Int)) else ((impl_joined.f (([l0, (([128] : List Int))] : List (List Int)))).bind fun t443 => (impl_HashPad.l0 k l0 t443))) = some r := h
 clear h
 by_cases c2 : (l0.length : Int) > 4000
 ·rw [if_pos c2] at H
  have c2b0 := zaa c2
  have c2b1 : decide (4000 < l0.length) = true := zaa (by omega)
  clear c2
  obtain rfl := Option.some.inj H
  go_enter Try.func29, Try.ntmps29
  go_wp2
  go_ret
  exact ⟨_, jex, by first | exact Kd.R_nil _ _ _ _ _ | exact Kd.N_nil _ _ _ _ _ | exact Kd.V_nil _ _ _ _ _ | exact Kd.Q_nil _ _ _ _ _ | exact Kd.S_nil _ _ _ _ _, bq⟩
 ·rw [if_neg c2] at H
  have c2b0 := zat c2
  have c2b1 : decide (4000 < l0.length) = false := zat (by omega)
  clear c2
  obtain ⟨y437, hy437⟩ : ∃ y_ : List Int, y_ = (([128] : List Int)) := ⟨_, rfl⟩
  replace H : ((impl_joined.f (([l0, y437] : List (List Int)))).bind fun t443 => (impl_HashPad.l0 k l0 t443)) = some r := jrw hy437 H
  have Ny437 := Aside0.mk hy437
  clear hy437
  obtain ⟨y440, hy440⟩ : ∃ y_ : List (List Int), y_ = (([l0, y437] : List (List Int))) := ⟨_, rfl⟩
  replace H : ((impl_joined.f y440).bind fun t443 => (impl_HashPad.l0 k l0 t443)) = some r := jrw hy440 H
  have Ny440 := Aside0.mk hy440
  clear hy440
  obtain ⟨t443, A3, H⟩ := bnd H
  have H' := Aside0.mk H
  clear H
  go_enter Try.func29, Try.ntmps29
  go_wp2_with (first | (refine jgd 8 ?_; refine Kd.R_lit (Kd.int .u8) _ 5 ?hg (N := 8) ?hd (xs := ([128] : List Int)) (inner := [.int .u8 128]) (ok := fun _ => True) (okp := fun _ => True) ?hr ?hp (fun _ hk => hk) trivial (zbj _ _) (zaw _) (by simp) ?_; (case hd => rfl); (case hg => rfl); (case hr => first | (go_simp; done) | (go_simp; rfl)); (case hp => exact (zam (show Kd.M (Kd.int .u8) _ _ _ 128 [.int .u8 128] from rfl) (zdu _ _))); intro v438 w4 ho5 hb hg_ hnew_; have xb_ := below_ofs bq hb; clear hg_ hnew_; (first | rw [← Ny437.out] at ho5 | (simp only [Int.reduceToNat] at ho5; rw [← Ny437.out] at ho5)); have n_ := jA3 (Kd.V_elder' (pV HO0.out) (zag ho5) hb) (zas (Kd.R_newM (M := fun k_ => (w.heap.size ≤ k_)) ho5 (zaf xb_) (fun k_ h_ => h_)) (zaf xb_)) (zao xb_ hb); clear HO0 HB; obtain ⟨HO0, HO439, HB⟩ := n_; clear xb_ hb ho5; obtain ⟨Ao6, co6, eo6⟩ := zax HO439.out; subst eo6) | (refine jgd 9 ?_; refine Kd.N_lit (Kd.slice 5 (Kd.int .u8)) _ 23 ?hg (N' := 9) ?hd (xs := ([l0, y437] : List (List Int))) (inner := [.slice A0 l0.length c0, .slice Ao6 y437.length co6]) (ok := (fun k_ => (P0_ k_ ∨ w.heap.size ≤ k_))) (okp := (fun k_ => (P0_ k_ ∨ w.heap.size ≤ k_))) ?hr ?hp (fun _ hk => hk) ((show ∀ k_, w4.heap.size ≤ k_ → (fun k_ => (P0_ k_ ∨ w.heap.size ≤ k_)) k_ from fun k_ hk => (.inr (Nat.le_trans (zaf bq) hk))) _ (zaw _)) (zbj _ _) (zaw _) (by simp) ?_; (case hd => rfl); (case hg => rfl); (case hr => first | (go_simp; done) | (go_simp; rfl)); (case hp => exact (zam (show Kd.FK (Kd.slice 5 (Kd.int .u8)) _ _ l0 [.slice A0 l0.length c0] from (zcw (zbo (Kd.V_mono (ok' := (fun k_ => (P0_ k_ ∨ w.heap.size ≤ k_))) (HO0.out) (fun k_ hk => hk.1))).2.1 (Kd.V_F (Kd.V_mono (ok' := (fun k_ => (P0_ k_ ∨ w.heap.size ≤ k_))) (HO0.out) (fun k_ hk => hk.1))))) (zam (show Kd.FK (Kd.slice 5 (Kd.int .u8)) _ _ y437 [.slice Ao6 y437.length co6] from (zcw (zad (zap (ok' := (fun k_ => (P0_ k_ ∨ w.heap.size ≤ k_))) (HO439.out) (fun k_ hk => (.inr (hk.1))))).2.1 (Kd.R_F (zap (ok' := (fun k_ => (P0_ k_ ∨ w.heap.size ≤ k_))) (HO439.out) (fun k_ hk => (.inr (hk.1))))))) (zdu _ _)))); intro v441 w7 ho8 hb hg_ hnew_; have xb_ := below_ofs bq hb; clear hg_ hnew_; (first | rw [← Ny440.out] at ho8 | (simp only [Int.reduceToNat] at ho8; rw [← Ny440.out] at ho8)); have n_ := jA3 (Kd.V_elder' (pV HO0.out) (Kd.N_base ho8) hb) (Kd.N_lower ho8 (zaf xb_)) (zao xb_ hb); clear HO0 HB HO439; obtain ⟨HO0, HO442, HB⟩ := n_; clear xb_ hb ho8; obtain ⟨Ao9, co9, eo9⟩ := Kd.N_slice HO442.out; subst eo9) | (refine jgc 79 ?_; refine jgs 10 Try.func79 #[.slice Ao9 y440.length co9] ?_; (with_reducible refine (impl_joined.calls _ _ y440 t443 _ ?side1 ?side2 A3.out).mono ?_); (case side1 => repeat (first | exact (zdy HO442.out).2.2 | (with_reducible first | apply zba | apply zbb | apply zbf))); (case side2 => exact (zdy HO442.out).2.1); rintro e w10 ⟨v444, rfl, ho0, hb⟩; refine ⟨_, rfl, ?_⟩; have xb_ := below_ofs bq hb; have n_ := jA4 (Kd.V_elder' (pV HO0.out) (zag ho0) hb) (Kd.N_elder' (pN HO442.out) (zag ho0) hb) (zas (Kd.R_newM (M := fun k_ => (w.heap.size ≤ k_)) ho0 (zaf xb_) (fun k_ h_ => h_)) (zaf xb_)) (zao xb_ hb); clear HO0 HO442 HB; obtain ⟨HO0, HO442, HO445, HB⟩ := n_; clear xb_ hb ho0))
  go_loopg [3] k (fun kq v3 w' => ∃ (x3_1 : List Int), Aside0 (impl_HashPad.l0 kq l0 x3_1 = some r) ∧ Aside0 (kq ≤ k) ∧ Aside0 (Kd.V (Kd.int .u8) 5 w' w.heap.size (fun k_ => (P0_ k_ ∨ w.heap.size ≤ k_) ∧ some k_ ≠ (v3 : Value).ownBlock) (.slice A0 l0.length c0) l0) ∧ Aside0 (Kd.R (Kd.int .u8) 5 w' w.heap.size (fun k_ => (w.heap.size ≤ k_)) v3 x3_1) ∧ Aside0 (Below w.heap.size w w'))
  case atStart => exact ⟨(t443), H', ⟨zaw _⟩, ⟨by (with_reducible repeat (first | apply Kd.V_alloc | apply Kd.V_drewN | apply Kd.V_drew)); exact Kd.V_mono HO0.out (fun _ hk => ⟨hk.1.1.1, hk.2⟩)⟩, ⟨by (with_reducible repeat (first | apply zau | apply zav | apply zaq)); exact zap HO445.out (fun _ hk => hk.1)⟩, ⟨bq⟩⟩
  case round =>
   clear H'
   try clear c2
   try clear c2b0
   try clear c2b1
   try clear p2
   try clear c7
   obtain ⟨x3_1, HA, HK1, HO_0, HO_3, HB⟩ := hrel
   cases gk with
   | zero => exact absurd HA.out (by simp [impl_HashPad.l0])
   | succ k1 =>
    have H := HA.out
    clear HA
    simp only [impl_HashPad.l0] at H
    by_cases c11 : ((x3_1.length : Int) % 64) = 56
    ·rw [if_pos c11] at H
     have c11b0 := beqT c11
     have c11b1 := zcv.mpr c11
     clear c11
     obtain ⟨t446, A12, H⟩ := bnd H
     by_cases c13 : x3_1.length + t446.length < 140737488355328
     ·rw [if_pos c13] at H
      have LMc13 := Aside0.mk c13
      clear c13
      obtain ⟨y449, hy449⟩ : ∃ y_ : List Int, y_ = (x3_1 ++ t446) := ⟨_, rfl⟩
      replace H : (some y449) = some r := jrw hy449 H
      have Ny449 := Aside0.mk hy449
      clear hy449
      obtain rfl := Option.some.inj H
      obtain ⟨Ao14, co14, eo14⟩ := zax HO_3.out
      subst eo14
      go_wp2_with (first | (refine jgc 80 ?_; refine jgs 22 Try.func80 #[.int .i64 (wrap64 (8 * (l0.length : Int))), .int .i64 8] ?_; (with_reducible refine (impl_Great.calls k1 (wrap64 (8 * (l0.length : Int))) 8 t446 _ A12.out).mono ?_); rintro e w15 ⟨v447, rfl, ho0, hb⟩; refine ⟨_, rfl, ?_⟩; have xb_ := below_ofs bq hb; have n0_ := Aside0.mk (Kd.V_elder' (pV HO_0.out) (zag ho0) hb); have qHO_3 := Kd.R_ofs (pR HO_3.out) hb; have n1_ := Aside0.mk (zai qHO_3 (zag ho0) hb); have n2_ := Aside0.mk (zas (zal (Kd.R_newM (M := fun k_ => (w.heap.size ≤ k_)) ho0 (zaf xb_) (fun k_ h_ => h_)) (zar qHO_3)) (zaf xb_)); have n3_ := Aside0.mk (zao xb_ hb); clear qHO_3 HO_0; clear HO_3 HB; have HO_0 := n0_; have HO_3 := n1_; have HO448 := n2_; have HB := n3_; clear n0_ n1_ n2_ n3_; clear xb_ hb ho0; obtain ⟨Ao17, co17, eo17⟩ := zax HO448.out; subst eo17) | ((with_reducible refine zbx (b := .append) (xs := #[.tmp 18, .tmp 22]) rfl ?_); at_builtin; refine zce (Kd.int .u8) (w0 := w) w.heap.size rfl (.tmp 18) (.tmp 22) 23 5 (.int .u8 0) 1 rfl Try.underlying23 info5 rfl (by decide) (by omega) (.slice Ao14 x3_1.length co14) x3_1 t446 _ _ _ (fun k_ => (w.heap.size ≤ k_) ∧ some k_ ≠ (.slice Ao17 t446.length co17 : Value).ownBlock) (fun _ => False) rfl rfl ?aO ?aR (fun _ _ h => h) (fun _ h => h.elim) ?aF ?aB ?aS ?aL ?_; (case aR => repeat (first | exact (zad HO448.out).2.2 | (with_reducible first | apply zba | apply zbb | apply zbf))); (case aB => exact bq); (case aF => exact (fun k_ hk => ⟨(Nat.le_trans (zaf bq) hk), zcs (zar (pR HO448.out)) k_ hk⟩)); (case aO => exact (pR HO_3.out)); (case aS => exact (zaf bq)); (case aL => have := LMc13.out; omega); intro v450 w16 ho hb hg hat; rw [← Ny449.out] at ho; have n_ := jA4 (Kd.V_afterv (ok := (fun k_ => (P0_ k_ ∨ w.heap.size ≤ k_) ∧ some k_ ≠ (.slice Ao17 t446.length co17 : Value).ownBlock)) (by (with_reducible repeat (first | apply Kd.V_alloc | apply Kd.V_drewN | apply Kd.V_drew)); exact Kd.V_mono HO_0.out (fun _ hk => ⟨⟨hk.1.1, hk.2⟩, hk.1.2⟩)) hg hat) (zch (ok := (fun k_ => (w.heap.size ≤ k_))) (by (with_reducible repeat (first | apply zau | apply zav | apply zaq)); exact zap HO448.out (fun _ hk => ⟨hk.1.1, hk.2⟩)) hg hat) (hb) (ho); clear HO_0 HO448 HB HO_3; obtain ⟨HO_0, HO448, HB, HO451⟩ := n_; clear ho hb hg hat))
      go_ret
      exact ⟨_, jex, by (with_reducible repeat (first | apply zau | apply zav | apply zaq)); exact zap HO451.out (fun _ hk => hk.1), bq⟩
     ·rw [if_neg c13] at H
      exact absurd H (by simp)
    ·rw [if_neg c11] at H
     have c11b0 := zcr.mpr c11
     have c11b1 := bne_iff_ne.mpr c11
     by_cases c18 : x3_1.length < 140737488355328
     ·rw [if_pos c18] at H
      have LMc18 := Aside0.mk c18
      clear c18
      obtain ⟨y452, hy452⟩ : ∃ y_ : List Int, y_ = (x3_1 ++ [0]) := ⟨_, rfl⟩
      replace H : (impl_HashPad.l0 k1 l0 y452) = some r := jrw hy452 H
      have Ny452 := Aside0.mk hy452
      clear hy452
      have H' := Aside0.mk H
      clear H
      obtain ⟨Ao19, co19, eo19⟩ := zax HO_3.out
      subst eo19
      go_wp2_with (first | ((with_reducible refine zbx (b := .append) (xs := #[.tmp 15, .tmp 16]) rfl ?_); at_builtin; refine zdt (Kd.int .u8) (w0 := w) w.heap.size rfl (.tmp 15) (.tmp 16) 23 5 (.int .u8 0) 1 rfl Try.underlying23 info5 rfl (by decide) (by omega) (.slice Ao19 x3_1.length co19) x3_1 0 [.int .u8 0] (fun k_ => (w.heap.size ≤ k_)) (fun _ => False) rfl rfl ?aP (fun _ hk => hk.elim) ?aF ?aO ?aB ?aS ?aL ?_; (case aP => exact rfl); (case aB => exact bq); (case aF => exact (fun k_ hk => (Nat.le_trans (zaf bq) hk))); (case aO => exact (pR HO_3.out)); (case aS => exact (zaf bq)); (case aL => have := LMc18.out; omega); intro v453 w20 ho hb hg hat; rw [← Ny452.out] at ho; have n_ := jA3 (Kd.V_afterv (ok := (fun k_ => (P0_ k_ ∨ w.heap.size ≤ k_))) (pV HO_0.out) hg hat) (hb) (ho); clear HO_0 HB HO_3; obtain ⟨HO_0, HB, HO454⟩ := n_; clear ho hb hg hat))
      go_roundg k1
      case measure => have := HK1.out; omega
      case rel => exact ⟨(y452), H', ⟨by have := HK1.out; omega⟩, ⟨pV HO_0.out⟩, ⟨pR HO454.out⟩, ⟨bq⟩⟩
     ·rw [if_neg c18] at H
      exact absurd H (by simp)
def impl_HashStart.f  : Option (List Int) := some (([1779033703, 3144134277, 1013904242, 2773480762, 1359893119, 2600822924, 528734635, 1541459225] : List Int))
theorem impl_HashStart.calls  (r : List Int) (w : World) (h : impl_HashStart.f  = some r) :
  Calls Try.prog 35 #[] w fun e w' => ∃ v0_ : Value, e = .returned (v0_) ∧ Kd.R (Kd.int .i64) 3 w' w.heap.size (fun _ => True) v0_ r ∧ Below w.heap.size w w' := by
 have HB := Aside0.mk (zbj w.heap.size w)
 have H : (some (([1779033703, 3144134277, 1013904242, 2773480762, 1359893119, 2600822924, 528734635, 1541459225] : List Int))) = some r := h
 clear h
 obtain ⟨y455, hy455⟩ : ∃ y_ : List Int, y_ = (([1779033703, 3144134277, 1013904242, 2773480762, 1359893119, 2600822924, 528734635, 1541459225] : List Int)) := ⟨_, rfl⟩
 replace H : (some y455) = some r := jrw hy455 H
 have Ny455 := Aside0.mk hy455
 clear hy455
 obtain rfl := Option.some.inj H
 go_enter Try.func35, Try.ntmps35
 go_wp2_with (first | (refine jgd 1 ?_; refine Kd.R_lit (Kd.int .i64) _ 3 ?hg (N := 1) ?hd (xs := ([1779033703, 3144134277, 1013904242, 2773480762, 1359893119, 2600822924, 528734635, 1541459225] : List Int)) (inner := [.int .i64 1779033703, .int .i64 3144134277, .int .i64 1013904242, .int .i64 2773480762, .int .i64 1359893119, .int .i64 2600822924, .int .i64 528734635, .int .i64 1541459225]) (ok := fun _ => True) (okp := fun _ => True) ?hr ?hp (fun _ hk => hk) trivial (zbj _ _) (zaw _) (by simp) ?_; (case hd => rfl); (case hg => rfl); (case hr => first | (go_simp; done) | (go_simp; rfl)); (case hp => exact (zam (show Kd.M (Kd.int .i64) _ _ _ 1779033703 [.int .i64 1779033703] from rfl) (zam (show Kd.M (Kd.int .i64) _ _ _ 3144134277 [.int .i64 3144134277] from rfl) (zam (show Kd.M (Kd.int .i64) _ _ _ 1013904242 [.int .i64 1013904242] from rfl) (zam (show Kd.M (Kd.int .i64) _ _ _ 2773480762 [.int .i64 2773480762] from rfl) (zam (show Kd.M (Kd.int .i64) _ _ _ 1359893119 [.int .i64 1359893119] from rfl) (zam (show Kd.M (Kd.int .i64) _ _ _ 2600822924 [.int .i64 2600822924] from rfl) (zam (show Kd.M (Kd.int .i64) _ _ _ 528734635 [.int .i64 528734635] from rfl) (zam (show Kd.M (Kd.int .i64) _ _ _ 1541459225 [.int .i64 1541459225] from rfl) (zdu _ _)))))))))); intro v456 w1 ho2 hb hg_ hnew_; have xb_ := below_ofs bq hb; clear hg_ hnew_; (first | rw [← Ny455.out] at ho2 | (simp only [Int.reduceToNat] at ho2; rw [← Ny455.out] at ho2)); have n_ := jA2 (zas ho2 (zaf xb_)) (zao xb_ hb); clear HB; obtain ⟨HO457, HB⟩ := n_; clear xb_ hb ho2))
 go_ret
 exact ⟨_, jex, by (with_reducible repeat (first | apply zau | apply zav | apply zaq)); exact HO457.out, bq⟩
end Go.Proofs.Ytienlgcjohpphaa.P
