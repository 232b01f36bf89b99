import Derived.Test.YtienlgcjohpphaaM19
import Derived.Test.YtienlgcjohpphaaM21
import Derived.Test.YtienlgcjohpphaaM22
namespace Go.Proofs.Ytienlgcjohpphaa.P
open Go.RowKit Go.Proofs.YtienlgcjohpphaaW.PrintWords Go.Proofs.YtienlgcjohpphaaW.PrintLast Go.Proofs.YtienlgcjohpphaaW.PrintMore
attribute [local go_sem] zdd zde zdy zdz zcb zcc zdf zdg   -- for this text's walks alone
set_option linter.unusedVariables false
set_option linter.unusedSimpArgs false

def spec_Hash.l0 : Nat → List Int → List Int → Int → Option (List Int)
 | 0, _, _, _ => none
 | k + 1, x3, x4, x5 => if (wrap64 (x5 + 63)) < (x3.length : Int) then (if 0 ≤ x5 then (if x5 ≤ (wrap64 (x5 + 64)) then (if (wrap64 (x5 + 64)) ≤ (x3.length : Int) then ((spec_HashBlock.f k x4 ((x3.take ((wrap64 (x5 + 64)) : Int).toNat).drop (x5 : Int).toNat)).bind fun t410 => (spec_Hash.l0 k x3 t410 (wrap64 (x5 + 64)))) else (none)) else (none)) else (none)) else ((spec_WordBytes.f k x4 true).bind fun t413 => (some t413))
def spec_Hash.f (k : Nat) (l0 : List Int) : Option (List Int) := if (l0.length : Int) > 4000 then (some (([] : List Int))) else ((spec_HashPad.f k l0).bind fun t400 => ((spec_HashStart.f).bind fun t403 => (spec_Hash.l0 k t400 t403 0)))
theorem spec_Hash.mono_l : ∀ k, (∀ y0 y1 y2, LeO (spec_Hash.l0 k y0 y1 y2) (spec_Hash.l0 (k + 1) y0 y1 y2))
 | 0 => fun _ _ _ r h => by simp [spec_Hash.l0] at h
 | k + 1 => by
  have ih0 := spec_Hash.mono_l k
  ·intro y0 y1 y2
   unfold spec_Hash.l0
   repeat' first
   | (with_reducible exact ih0 _ _ _)
   | (with_reducible exact spec_HashBlock.mono _ _ _)
   | (with_reducible exact spec_HashPad.mono _ _)
   | (with_reducible exact spec_WordBytes.mono _ _ _)
   | (with_reducible exact zcf _)
   | (with_reducible exact zcj _)
   | (with_reducible refine zdp ?_ ?_)
   | (with_reducible refine zcg ?_ (fun _ => ?_))
   | exact ih0 _ _ _
theorem spec_Hash.mono : ∀ a0 k, LeO (spec_Hash.f k a0) (spec_Hash.f (k + 1) a0) := by
 intro a0 k
 have ih0 := spec_Hash.mono_l k
 unfold spec_Hash.f
 repeat' first
   | (with_reducible exact ih0 _ _ _)
   | (with_reducible exact spec_HashBlock.mono _ _ _)
   | (with_reducible exact spec_HashPad.mono _ _)
   | (with_reducible exact spec_WordBytes.mono _ _ _)
   | (with_reducible exact zcf _)
   | (with_reducible exact zcj _)
   | (with_reducible refine zdp ?_ ?_)
   | (with_reducible refine zcg ?_ (fun _ => ?_))
   | exact ih0 _ _ _
set_option maxHeartbeats 8000000 in
set_option maxRecDepth 100000 in
theorem spec_Hash.calls (k : Nat) (A0 : Option Addr) (c0 : Nat) (l0 : List Int) (r : List Int) (w : World) (hr0 : Kd.C (Kd.int .u8) w A0 l0.length l0) (hc0 : l0.length ≤ c0) (h : spec_Hash.f k l0 = some r) :
  Calls Try.prog 24 #[.slice A0 l0.length c0] w fun e w' => ∃ v0_ : Value, e = .returned (v0_) ∧ Kd.R (Kd.int .u8) 5 w' w.heap.size (fun _ => True) v0_ r ∧ Below w.heap.size w w' := by
 have HR0 := Aside0.mk hr0
 have HC0 := Aside0.mk hc0
 clear hr0 hc0
 have HB := Aside0.mk (zbq w.heap.size w)
 have H : (if (l0.length : Int) > 4000 then (some (([] : List Int))) else ((spec_HashPad.f k l0).bind fun t400 => ((spec_HashStart.f).bind fun t403 => (spec_Hash.l0 k t400 t403 0)))) = some r := h
 clear h
 by_cases c2 : (l0.length : Int) > 4000
 ·rw [if_pos c2] at H
  have c2b0 : decide (4000 < (l0.length : Int)) = true := zaq c2
  have c2b1 : decide (4000 < l0.length) = true := zaq (by omega)
  clear c2
  obtain ⟨y397, hy397⟩ : ∃ y_ : List Int, y_ = (([] : List Int)) := ⟨_, rfl⟩
  replace H : (some y397) = some r := by first | (rw [hy397]; with_reducible first | exact H | exact bind_ofs H) | (with_reducible first | exact H | exact bind_ofs H) | (rw [hy397]; exact H) | exact H
  have Ny397 := Aside0.mk hy397
  clear hy397
  obtain rfl := Option.some.inj H
  go_enter Try.func24, Try.ntmps24
  go_wp2_with (first | ((with_reducible refine zdt (N := 9) rfl ?_); refine zen (Kd.int .u8) _ 5 ?hg (N := 9) ?hd (xs := ([] : List Int)) (inner := []) (ok := fun _ => True) (okp := fun _ => True) ?hr ?hp (fun _ hk => hk) zbw (zbq _ _) (zbi _) (by simp) ?_; (case hd => rfl); (case hg => rfl); (case hr => first | (go_simp; done) | (go_simp; rfl)); (case hp => exact (zdq _ _)); intro v398 w3 ho4 hb hg_ hnew_; have xb_ := below_ofs (by repeat (first | (with_reducible first | exact HB.out | apply zai | apply zad | apply zah) | exact HB.out)) hb; clear hg_ hnew_; (first | rw [← Ny397.out] at ho4 | (simp only [Int.reduceToNat] at ho4; rw [← Ny397.out] at ho4)); have n0_ := Aside0.mk (zbj ho4 (zax xb_)); have n1_ := Aside0.mk (zbf xb_ hb); clear HB; have HO399 := n0_; have HB := n1_; clear n0_ n1_; clear xb_ hb ho4))
  go_ret
  exact ⟨_, by first | rfl | (simp [zbk, zbl] <;> rfl) | (simp [*, zbk, zbl] <;> rfl), by (with_reducible repeat (first | apply zab | apply zac | apply zae)); exact HO399.out, by repeat (first | (with_reducible first | exact HB.out | apply zai | apply zad | apply zah) | exact HB.out)⟩
 ·rw [if_neg c2] at H
  have c2b0 : decide (4000 < (l0.length : Int)) = false := zbr c2
  have c2b1 : decide (4000 < l0.length) = false := zbr (by omega)
  clear c2
  replace H := zaj.mp H
  obtain ⟨t400, A50, H⟩ := H
  try dsimp only at H
  have A5 := Aside0.mk A50
  clear A50
  replace H := zaj.mp H
  obtain ⟨t403, A60, H⟩ := H
  try dsimp only at H
  have A6 := Aside0.mk A60
  clear A60
  have H' := Aside0.mk H
  clear H
  go_enter Try.func24, Try.ntmps24
  go_wp2_with (first | ((with_reducible refine zbc (f := 33) rfl ?_); refine goesL_ (some 11) rfl rfl Try.func33 (by kernel_rfl) rfl #[.slice A0 l0.length c0] rfl (by (try simp only [zap, zau, zav]); first | done | rfl) ?_; (with_reducible refine (spec_HashPad.calls k _ _ l0 t400 _ ?side1 ?side2 A5.out).mono ?_); (case side1 => repeat (first | exact HR0.out | (with_reducible first | apply zba | apply zbb | apply zbg))); (case side2 => exact HC0.out); rintro e w7 ⟨v401, rfl, ho0, hb⟩; refine ⟨_, rfl, ?_⟩; have xb_ := below_ofs (by repeat (first | (with_reducible first | exact HB.out | apply zai | apply zad | apply zah) | exact HB.out)) hb; have n0_ := Aside0.mk (zbj ho0 (zax xb_)); have n1_ := Aside0.mk (zbf xb_ hb); clear HB; have HO402 := n0_; have HB := n1_; clear n0_ n1_; clear xb_ hb ho0) | ((with_reducible refine zbc (f := 75) rfl ?_); refine goesL_ (some 12) rfl rfl Try.func75 (by kernel_rfl) rfl #[] rfl (by (try simp only [zap, zau, zav]); first | done | rfl) ?_; (with_reducible refine (spec_HashStart.calls  t403 _ A6.out).mono ?_); rintro e w8 ⟨v404, rfl, ho0, hb⟩; refine ⟨_, rfl, ?_⟩; have xb_ := below_ofs (by repeat (first | (with_reducible first | exact HB.out | apply zai | apply zad | apply zah) | exact HB.out)) hb; have n0_ := Aside0.mk (Kd.R_below (by (with_reducible repeat (first | apply zab | apply zac | apply zae)); exact HO402.out) hb); have n1_ := Aside0.mk (zbj ho0 (zax xb_)); have n2_ := Aside0.mk (zbf xb_ hb); clear HO402 HB; have HO402 := n0_; have HO405 := n1_; have HB := n2_; clear n0_ n1_ n2_; clear xb_ hb ho0))
  go_loopg [4, 5] k (fun kq v4 v5 w' => ∃ (x4_1 : List Int) (x5_1 : Int), v5 = .int .i64 x5_1 ∧ Aside0 (spec_Hash.l0 kq t400 x4_1 x5_1 = some r) ∧ Aside0 (kq ≤ k) ∧ Aside0 (Kd.R (Kd.int .u8) 5 w' w.heap.size (fun _ => True) v401 t400) ∧ Aside0 (Kd.R (Kd.int .i64) 3 w' w.heap.size (fun _ => True) v4 x4_1) ∧ Aside0 (Below w.heap.size w w'))
  case atStart => exact ⟨(t403), (0), (by first | rfl | (simp; done) | (simp [*]; done)), H', ⟨zbi _⟩, ⟨by (with_reducible repeat (first | apply zab | apply zac | apply zae)); exact HO402.out⟩, ⟨by (with_reducible repeat (first | apply zab | apply zac | apply zae)); exact HO405.out⟩, ⟨by repeat (first | (with_reducible first | exact HB.out | apply zai | apply zad | apply zah) | exact HB.out)⟩⟩
  case round =>
   clear H'
   try clear c2
   try clear c2b0
   try clear c2b1
   try clear p2
   try clear c3
   try clear c7
   obtain ⟨x4_1, x5_1, rfl, HA, HK1, HO_3, HO_4, HB⟩ := hrel
   cases gk with
   | zero => exact absurd HA.out (by simp [spec_Hash.l0])
   | succ k1 =>
    have H := HA.out
    clear HA
    simp only [spec_Hash.l0] at H
    by_cases c9 : (wrap64 (x5_1 + 63)) < (t400.length : Int)
    ·rw [if_pos c9] at H
     have c9b0 : decide ((wrap64 (x5_1 + 63)) < (t400.length : Int)) = true := zaq c9
     clear c9
     by_cases c10 : 0 ≤ x5_1
     ·rw [if_pos c10] at H
      have c10b0 := zbn c10
      have c10b1 : decide (0 ≤ x5_1) = true := zaq c10
      clear c10
      by_cases c11 : x5_1 ≤ (wrap64 (x5_1 + 64))
      ·rw [if_pos c11] at H
       have c11b0 := zbn c11
       have c11b1 : decide (x5_1 ≤ (wrap64 (x5_1 + 64))) = true := zaq c11
       by_cases c12 : (wrap64 (x5_1 + 64)) ≤ (t400.length : Int)
       ·rw [if_pos c12] at H
        have c12b0 := zbn c12
        have c12b1 : decide ((wrap64 (x5_1 + 64)) ≤ (t400.length : Int)) = true := zaq c12
        obtain ⟨y406, hy406⟩ : ∃ y_ : List Int, y_ = ((t400.take ((wrap64 (x5_1 + 64)) : Int).toNat).drop (x5_1 : Int).toNat) := ⟨_, rfl⟩
        replace H : ((spec_HashBlock.f k1 x4_1 y406).bind fun t410 => (spec_Hash.l0 k1 t400 t410 (wrap64 (x5_1 + 64)))) = some r := by first | (rw [hy406]; with_reducible first | exact H | exact bind_ofs H) | (with_reducible first | exact H | exact bind_ofs H) | (rw [hy406]; exact H) | exact H
        have Ny406 := Aside0.mk hy406
        clear hy406
        replace H := zaj.mp H
        obtain ⟨t410, A130, H⟩ := H
        try dsimp only at H
        have A13 := Aside0.mk A130
        clear A130
        have H' := Aside0.mk H
        clear H
        obtain ⟨Ao14, co14, eo14⟩ := zbm HO_3.out
        subst eo14
        have q15 : ((wrap64 (x5_1 + 64)) : Int) ≤ ((t400.length : Int) : Int) := zar (by first | (with_reducible assumption) | assumption)
        obtain ⟨i015, hi015, _, hsz15, _⟩ := info_parts info5
        have hroom15 : t400.length ≤ co14 := (zao HO_3.out).2.1
        have hC15 : Kd.C (Kd.int .u8) _ Ao14 t400.length t400 := (zao HO_3.out).2.2
        have ql15 : (x5_1 : Int) ≤ ((wrap64 (x5_1 + 64)) : Int) := zar (by first | (with_reducible assumption) | assumption)
        have q015 : (0 : Int) ≤ (x5_1 : Int) := zar (by first | (with_reducible assumption) | assumption)
        have hcut15 := cut_mid (P := Try.prog) 23 5 .i64 .i64 Try.underlying23 hi015 1 hsz15 Ao14 t400.length co14 x5_1 (wrap64 (x5_1 + 64)) q015 ql15 q15 hroom15
        have hr15 := Kd.C_mid (lo := (x5_1 : Int).toNat) (hi := ((wrap64 (x5_1 + 64)) : Int).toNat) (c := co14) hC15 (by omega) (by omega) hroom15
        obtain ⟨A15, hA15⟩ : ∃ A1, A1 = (if co14 = (x5_1 : Int).toNat then Ao14 else (Ao14 : Option Addr).map (·.add ((x5_1 : Int).toNat * 1))) := ⟨_, rfl⟩
        obtain ⟨c15, hc15⟩ : ∃ c1, c1 = co14 - (x5_1 : Int).toNat := ⟨_, rfl⟩
        have hy15 : y406.length = ((wrap64 (x5_1 + 64)) : Int).toNat - (x5_1 : Int).toNat := (by rw [Ny406.out, zbp, zbo] <;> omega)
        rw [show ((t400).take ((wrap64 (x5_1 + 64)) : Int).toNat).drop (x5_1 : Int).toNat = y406 from Ny406.out.symm] at hr15
        replace hr15 : Kd.C (Kd.int .u8) _ A15 y406.length y406 := (by rw [hA15]; exact hr15)
        rw [← hy15, ← hA15, ← hc15] at hcut15
        have HR409 := Aside0.mk hr15
        have HC409 := Aside0.mk (show y406.length ≤ c15 from by rw [hy15, hc15]; exact Nat.sub_le_sub_right (zff (by omega) hroom15) _)
        clear hr15 hC15 hroom15 hi015 hsz15 hc15
        have KY15 := Aside0.mk hy15
        have KA15 := Aside0.mk hA15
        clear hy15 hA15
        have KL15 := Aside0.mk (show ((wrap64 (x5_1 + 64)) : Int).toNat ≤ t400.length from by omega)
        have KM15 := Aside0.mk (show (x5_1 : Int).toNat ≤ ((wrap64 (x5_1 + 64)) : Int).toNat from by omega)
        replace q15 := zbn q15
        obtain ⟨Ao16, co16, eo16⟩ := zbm HO_4.out
        subst eo16
        go_wp2_with (first | ((with_reducible refine zbc (f := 15) rfl ?_); refine goesL_ (some 26) rfl rfl Try.func15 (by kernel_rfl) rfl #[.slice Ao16 x4_1.length co16, .slice A15 y406.length c15] rfl (by (try simp only [zap, zau, zav]); first | done | rfl) ?_; (with_reducible refine (spec_HashBlock.calls k1 _ _ x4_1 _ _ y406 t410 _ ?side1 ?side2 ?side3 ?side4 A13.out).mono ?_); (case side1 => repeat (first | exact (zao HO_4.out).2.2 | (with_reducible first | apply zba | apply zbb | apply zbg))); (case side2 => exact (zao HO_4.out).2.1); (case side3 => repeat (first | exact (by repeat (first | (with_reducible exact HR409.out) | (with_reducible first | apply zba | apply zbb | apply zbg) | exact HR409.out)) | (with_reducible first | apply zba | apply zbb | apply zbg))); (case side4 => exact HC409.out); rintro e w17 ⟨v411, rfl, ho0, hb⟩; refine ⟨_, rfl, ?_⟩; have xb_ := below_ofs (by repeat (first | (with_reducible first | exact HB.out | apply zai | apply zad | apply zah) | exact HB.out)) hb; have n0_ := Aside0.mk (Kd.R_below (by (with_reducible repeat (first | apply zab | apply zac | apply zae)); exact HO_3.out) hb); have qHO_4 := Kd.R_ofs (by (with_reducible repeat (first | apply zab | apply zac | apply zae)); exact HO_4.out) hb; have n1_ := Aside0.mk (zak qHO_4 (zal ho0) hb); have n2_ := Aside0.mk (zbj (zam ho0 (zat qHO_4)) (zax xb_)); have n3_ := Aside0.mk (zey (by repeat (first | (with_reducible exact HR409.out) | (with_reducible first | apply zba | apply zbb | apply zbg) | exact HR409.out)) hb); have n4_ := Aside0.mk (zbf xb_ hb); clear qHO_4 HO_3; clear HO_4 HR409 HB; have HO_3 := n0_; have HO_4 := n1_; have HO412 := n2_; have HR409 := n3_; have HB := n4_; clear n0_ n1_ n2_ n3_ n4_; clear xb_ hb ho0))
        go_roundg k1
        case measure => have := HK1.out; omega
        case rel => exact ⟨(t410), (wrap64 (x5_1 + 64)), (by first | rfl | (simp; done) | (simp [*]; done)), H', ⟨by have := HK1.out; omega⟩, ⟨by (with_reducible repeat (first | apply zab | apply zac | apply zae)); exact HO_3.out⟩, ⟨by (with_reducible repeat (first | apply zab | apply zac | apply zae)); exact zbe HO412.out (fun _ hk => zbw)⟩, ⟨by repeat (first | (with_reducible first | exact HB.out | apply zai | apply zad | apply zah) | exact HB.out)⟩⟩
       ·rw [if_neg c12] at H
        exact absurd H (by simp)
      ·rw [if_neg c11] at H
       exact absurd H (by simp)
     ·rw [if_neg c10] at H
      exact absurd H (by simp)
    ·rw [if_neg c9] at H
     have c9b0 : decide ((wrap64 (x5_1 + 63)) < (t400.length : Int)) = false := zbr c9
     clear c9
     replace H := zaj.mp H
     obtain ⟨t413, A180, H⟩ := H
     try dsimp only at H
     have A18 := Aside0.mk A180
     clear A180
     obtain rfl := Option.some.inj H
     obtain ⟨Ao19, co19, eo19⟩ := zbm HO_3.out
     subst eo19
     obtain ⟨Ao20, co20, eo20⟩ := zbm HO_4.out
     subst eo20
     go_wp2_with (first | ((with_reducible refine zbc (f := 76) rfl ?_); refine goesL_ (some 28) rfl rfl Try.func76 (by kernel_rfl) rfl #[.slice Ao20 x4_1.length co20, .bool true] rfl (by (try simp only [zap, zau, zav]); first | done | rfl) ?_; (with_reducible refine (spec_WordBytes.calls k1 _ _ x4_1 true t413 _ ?side1 ?side2 A18.out).mono ?_); (case side1 => repeat (first | exact (zao HO_4.out).2.2 | (with_reducible first | apply zba | apply zbb | apply zbg))); (case side2 => exact (zao HO_4.out).2.1); rintro e w21 ⟨v414, rfl, ho0, hb⟩; refine ⟨_, rfl, ?_⟩; have xb_ := below_ofs (by repeat (first | (with_reducible first | exact HB.out | apply zai | apply zad | apply zah) | exact HB.out)) hb; have qHO_3 := Kd.R_ofs (by (with_reducible repeat (first | apply zab | apply zac | apply zae)); exact HO_3.out) hb; have n0_ := Aside0.mk (zak qHO_3 (zal ho0) hb); have n1_ := Aside0.mk (Kd.R_below (by (with_reducible repeat (first | apply zab | apply zac | apply zae)); exact HO_4.out) hb); have n2_ := Aside0.mk (zbj (zam ho0 (zat qHO_3)) (zax xb_)); have n3_ := Aside0.mk (zbf xb_ hb); clear qHO_3 HO_3; clear HO_4 HB; have HO_3 := n0_; have HO_4 := n1_; have HO415 := n2_; have HB := n3_; clear n0_ n1_ n2_ n3_; clear xb_ hb ho0))
     go_ret
     exact ⟨_, by first | rfl | (simp [zbk, zbl] <;> rfl) | (simp [*, zbk, zbl] <;> rfl), by (with_reducible repeat (first | apply zab | apply zac | apply zae)); exact zbe HO415.out (fun _ hk => zbw), by repeat (first | (with_reducible first | exact HB.out | apply zai | apply zad | apply zah) | exact HB.out)⟩
end Go.Proofs.Ytienlgcjohpphaa.P
