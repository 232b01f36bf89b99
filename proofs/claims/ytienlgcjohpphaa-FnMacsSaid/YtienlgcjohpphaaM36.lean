import Derived.Test.YtienlgcjohpphaaM34
import Derived.Test.YtienlgcjohpphaaM35
namespace Go.Proofs.Ytienlgcjohpphaa.P
open Go.RowKit Go.Proofs.YtienlgcjohpphaaW.PrintWords Go.Proofs.YtienlgcjohpphaaW.PrintLast Go.Proofs.YtienlgcjohpphaaW.PrintMore
attribute [local go_sem] zdd zde zdy zdz zcb zcc zdf zdg   -- for this text's walks alone
set_option linter.unusedVariables false
set_option linter.unusedSimpArgs false

def spec_l4DrawKey.f (k : Nat) (s0_0 : List Int) (s0_1 : Int) (s0_2 : Int) : Option (List Int × Int × Int) := (spec_l1Below.f s0_0 s0_1 s0_2 20).bind fun bt1250 => (if bt1250.1 = 0 then ((spec_l1Below.f s0_0 bt1250.2.1 bt1250.2.2 4).bind fun bt1253 => ((spec_l1DrawJust.f k s0_0 bt1253.2.1 bt1253.2.2 (wrap64 (63 + bt1253.1))).bind fun bt1256 => (some (bt1256.1, bt1256.2.1, bt1256.2.2)))) else (if bt1250.1 = 1 then ((spec_l1Below.f s0_0 bt1250.2.1 bt1250.2.2 3).bind fun bt1261 => (if 0 ≤ (wrap64 (399 + bt1261.1)) then (if (wrap64 (399 + bt1261.1) : Int).toNat ≤ 281474976710656 then (some ((List.replicate (wrap64 (399 + bt1261.1) : Int).toNat 0), bt1261.2.1, bt1261.2.2)) else (none)) else (none))) else ((spec_l1DrawBytes.f k s0_0 bt1250.2.1 bt1250.2.2 40).bind fun bt1267 => (some (bt1267.1, bt1267.2.1, bt1267.2.2)))))
theorem spec_l4DrawKey.mono : ∀ a0 a1 a2 k, LeO (spec_l4DrawKey.f k a0 a1 a2) (spec_l4DrawKey.f (k + 1) a0 a1 a2) := by
 intro a0 a1 a2 k
 unfold spec_l4DrawKey.f
 repeat' first
   | (with_reducible exact spec_l1DrawBytes.mono _ _ _ _ _)
   | (with_reducible exact spec_l1DrawJust.mono _ _ _ _ _)
   | (with_reducible exact zcf _)
   | (with_reducible exact zcj _)
   | (with_reducible refine zdp ?_ ?_)
   | (with_reducible refine zcg ?_ (fun _ => ?_))
set_option maxHeartbeats 8000000 in
set_option maxRecDepth 100000 in
theorem spec_l4DrawKey.calls (k : Nat) (g : Nat) (s0_0 : List Int) (s0_1 : Int) (s0_2 : Int) (r1 : List Int) (r2 : Int) (r3 : Int) (w0 w : World) (hI : IsS85 w0 w g s0_0 s0_1 s0_2) (hB : Below w0.heap.size w0 w) (h : spec_l4DrawKey.f k s0_0 s0_1 s0_2 = some (r1, r2, r3)) :
  Calls Try.prog 95 #[.pointer (some ⟨g, 0, none⟩)] w fun e w' => ∃ v0_ : Value, e = .returned (v0_) ∧ Kd.R (Kd.int .u8) 5 w' w.heap.size (fun _ => True) v0_ r1 ∧ IsS85 w0 w' g s0_0 r2 r3 ∧ Below w0.heap.size w0 w' ∧ KeepBut w w' g none := by
 have HI0 := Aside0.mk hI
 have HK := Aside0.mk (KeepBut.refl w g none)
 have HL := Aside0.mk hB.size
 clear hI
 have HW0 := Aside0.mk hB.size
 have HB := Aside0.mk hB
 clear hB
 have H : ((spec_l1Below.f s0_0 s0_1 s0_2 20).bind fun bt1250 => (if bt1250.1 = 0 then ((spec_l1Below.f s0_0 bt1250.2.1 bt1250.2.2 4).bind fun bt1253 => ((spec_l1DrawJust.f k s0_0 bt1253.2.1 bt1253.2.2 (wrap64 (63 + bt1253.1))).bind fun bt1256 => (some (bt1256.1, bt1256.2.1, bt1256.2.2)))) else (if bt1250.1 = 1 then ((spec_l1Below.f s0_0 bt1250.2.1 bt1250.2.2 3).bind fun bt1261 => (if 0 ≤ (wrap64 (399 + bt1261.1)) then (if (wrap64 (399 + bt1261.1) : Int).toNat ≤ 281474976710656 then (some ((List.replicate (wrap64 (399 + bt1261.1) : Int).toNat 0), bt1261.2.1, bt1261.2.2)) else (none)) else (none))) else ((spec_l1DrawBytes.f k s0_0 bt1250.2.1 bt1250.2.2 40).bind fun bt1267 => (some (bt1267.1, bt1267.2.1, bt1267.2.2)))))) = some (r1, r2, r3) := h
 clear h
 replace H := zaj.mp H
 obtain ⟨⟨t1250, t1251, t1252⟩, A20, H⟩ := H
 try dsimp only at H
 have A2 := Aside0.mk A20
 clear A20
 by_cases c3 : t1250 = 0
 ·rw [if_pos c3] at H
  have c3b0 : (t1250 == 0) = true := beq_iff_eq.mpr c3
  have c3b1 : (t1250 != 0) = false := zeu.mpr c3
  clear c3
  replace H := zaj.mp H
  obtain ⟨⟨t1253, t1254, t1255⟩, A40, H⟩ := H
  try dsimp only at H
  have A4 := Aside0.mk A40
  clear A40
  replace H := zaj.mp H
  obtain ⟨⟨t1256, t1259, t1260⟩, A50, H⟩ := H
  try dsimp only at H
  have A5 := Aside0.mk A50
  clear A50
  simp only [zdb, zee] at H
  obtain ⟨rfl, rfl, rfl⟩ := H
  go_enter Try.func95, Try.ntmps95
  go_wp2_with (first | ((with_reducible refine zbc (f := 83) rfl ?_); refine goesL_ (some 4) rfl rfl Try.func83 (by kernel_rfl) rfl #[.pointer (some ⟨g, 0, none⟩), .int .i64 20] rfl (by (try simp only [zap, zau, zav]); first | done | rfl) ?_; (with_reducible refine (spec_l1Below.calls g s0_0 s0_1 s0_2 20 t1250 t1251 t1252 w0 _ ?side1 ?side2 A2.out).mono ?_); (case side1 => repeat (first | (with_reducible first | exact HI0.out | apply IsS85.alloc | apply IsS85.drewN | apply IsS85.drew | apply IsS85.set_1 | apply IsS85.set_2) | exact HI0.out)); (case side2 => repeat (first | (with_reducible first | exact HB.out | apply zai | apply zad | apply zah | refine zby ?_ (IsS85.ge HI0.out)) | exact HB.out)); rintro e w6 ⟨rfl, hi, hb, hk⟩; refine ⟨_, rfl, ?_⟩; have n0_ := Aside0.mk (zdu (by repeat (first | (with_reducible first | exact HK.out | apply zbx | apply zcd | apply zdk | apply zce) | exact HK.out)) hk (.inl rfl)); have n1_ := Aside0.mk (hb); have n2_ := Aside0.mk (hi); clear HK HB HI0; have HK := n0_; have HB := n1_; have HI0 := n2_; clear n0_ n1_ n2_; (try clear hb); (try clear hb2); (try clear hk); (try clear hi)) | ((with_reducible refine zbc (f := 83) rfl ?_); refine goesL_ (some 9) rfl rfl Try.func83 (by kernel_rfl) rfl #[.pointer (some ⟨g, 0, none⟩), .int .i64 4] rfl (by (try simp only [zap, zau, zav]); first | done | rfl) ?_; (with_reducible refine (spec_l1Below.calls g s0_0 t1251 t1252 4 t1253 t1254 t1255 w0 _ ?side1 ?side2 A4.out).mono ?_); (case side1 => repeat (first | (with_reducible first | exact HI0.out | apply IsS85.alloc | apply IsS85.drewN | apply IsS85.drew | apply IsS85.set_1 | apply IsS85.set_2) | exact HI0.out)); (case side2 => repeat (first | (with_reducible first | exact HB.out | apply zai | apply zad | apply zah | refine zby ?_ (IsS85.ge HI0.out)) | exact HB.out)); rintro e w7 ⟨rfl, hi, hb, hk⟩; refine ⟨_, rfl, ?_⟩; have n0_ := Aside0.mk (zdu (by repeat (first | (with_reducible first | exact HK.out | apply zbx | apply zcd | apply zdk | apply zce) | exact HK.out)) hk (.inl rfl)); have n1_ := Aside0.mk (hb); have n2_ := Aside0.mk (hi); clear HK HB HI0; have HK := n0_; have HB := n1_; have HI0 := n2_; clear n0_ n1_ n2_; (try clear hb); (try clear hb2); (try clear hk); (try clear hi)) | ((with_reducible refine zbc (f := 109) rfl ?_); refine goesL_ (some 11) rfl rfl Try.func109 (by kernel_rfl) rfl #[.pointer (some ⟨g, 0, none⟩), .int .i64 (wrap64 (63 + t1253))] rfl (by (try simp only [zap, zau, zav]); first | done | rfl) ?_; (with_reducible refine (spec_l1DrawJust.calls k g s0_0 t1254 t1255 (wrap64 (63 + t1253)) t1256 t1259 t1260 w0 _ ?side1 ?side2 A5.out).mono ?_); (case side1 => repeat (first | (with_reducible first | exact HI0.out | apply IsS85.alloc | apply IsS85.drewN | apply IsS85.drew | apply IsS85.set_1 | apply IsS85.set_2) | exact HI0.out)); (case side2 => repeat (first | (with_reducible first | exact HB.out | apply zai | apply zad | apply zah | refine zby ?_ (IsS85.ge HI0.out)) | exact HB.out)); rintro e w8 ⟨v1257, rfl, ho0, hi, hb, hk⟩; refine ⟨_, rfl, ?_⟩; have n0_ := Aside0.mk (zbj ho0 (keep_size (w := w) (g := g) (row := none) (by repeat (first | (with_reducible first | exact HK.out | apply zbx | apply zcd | apply zdk | apply zce) | exact HK.out)))); have n1_ := Aside0.mk (zdu (by repeat (first | (with_reducible first | exact HK.out | apply zbx | apply zcd | apply zdk | apply zce) | exact HK.out)) hk (.inl rfl)); have n2_ := Aside0.mk (hb); have n3_ := Aside0.mk (hi); clear HK HB HI0; have HO1258 := n0_; have HK := n1_; have HB := n2_; have HI0 := n3_; clear n0_ n1_ n2_ n3_; clear hb hk hi ho0))
  go_ret
  exact ⟨_, by first | rfl | (simp [zbk, zbl] <;> rfl) | (simp [*, zbk, zbl] <;> rfl), by (with_reducible repeat (first | apply zab | apply zac | apply zae)); exact HO1258.out, by repeat (first | (with_reducible first | exact HI0.out | apply IsS85.alloc | apply IsS85.drewN | apply IsS85.drew | apply IsS85.set_1 | apply IsS85.set_2) | exact HI0.out), by repeat (first | (with_reducible first | exact HB.out | apply zai | apply zad | apply zah | refine zby ?_ (IsS85.ge HI0.out)) | exact HB.out), by repeat (first | (with_reducible first | exact HK.out | apply zbx | apply zcd | apply zdk | apply zce) | exact HK.out)⟩
 ·rw [if_neg c3] at H
  have c3b0 : (t1250 == 0) = false := zeb.mpr c3
  have c3b1 : (t1250 != 0) = true := bne_iff_ne.mpr c3
  by_cases c9 : t1250 = 1
  ·rw [if_pos c9] at H
   have c9b0 : (t1250 == 1) = true := beq_iff_eq.mpr c9
   have c9b1 : (t1250 != 1) = false := zeu.mpr c9
   clear c9
   replace H := zaj.mp H
   obtain ⟨⟨t1261, t1262, t1263⟩, A100, H⟩ := H
   try dsimp only at H
   have A10 := Aside0.mk A100
   clear A100
   obtain ⟨ji11, hji11⟩ : ∃ j_ : Int, (wrap64 (399 + t1261)) = j_ := ⟨_, rfl⟩
   replace H : (if 0 ≤ (ji11) then (if (ji11 : Int).toNat ≤ 281474976710656 then (some ((List.replicate (ji11 : Int).toNat 0), t1262, t1263)) else (none)) else (none)) = some (r1, r2, r3) := by first | (rw [hji11] at H; exact H) | (simp only [hji11] at H ⊢; exact H)
   (try rw [hji11] at A2)
   (try rw [hji11] at A10)
   have hji11w : (IntKind.i64.wrap (399 + t1261)) = ji11 := (i64_w _).trans hji11
   by_cases c12 : 0 ≤ (ji11)
   ·rw [if_pos c12] at H
    have c12b0 := zbn c12
    have c12b1 : decide (0 ≤ (ji11)) = true := zaq c12
    clear c12
    by_cases c13 : (ji11 : Int).toNat ≤ 281474976710656
    ·rw [if_pos c13] at H
     have c13b0 := zbn c13
     have c13b1 : decide ((ji11 : Int).toNat ≤ 281474976710656) = true := zaq c13
     clear c13
     obtain ⟨y1264, hy1264⟩ : ∃ y_ : List Int, y_ = (List.replicate (ji11 : Int).toNat 0) := ⟨_, rfl⟩
     replace H : (some (y1264, t1262, t1263)) = some (r1, r2, r3) := by first | (rw [hy1264]; with_reducible first | exact H | exact bind_ofs H) | (with_reducible first | exact H | exact bind_ofs H) | (rw [hy1264]; exact H) | exact H
     have Ny1264 := Aside0.mk hy1264
     clear hy1264
     simp only [zdb, zee] at H
     obtain ⟨rfl, rfl, rfl⟩ := H
     go_enter Try.func95, Try.ntmps95
     go_wp2_with (first | ((with_reducible refine zbc (f := 83) rfl ?_); refine goesL_ (some 4) rfl rfl Try.func83 (by kernel_rfl) rfl #[.pointer (some ⟨g, 0, none⟩), .int .i64 20] rfl (by (try simp only [zap, zau, zav]); first | done | rfl) ?_; (with_reducible refine (spec_l1Below.calls g s0_0 s0_1 s0_2 20 t1250 t1251 t1252 w0 _ ?side1 ?side2 A2.out).mono ?_); (case side1 => repeat (first | (with_reducible first | exact HI0.out | apply IsS85.alloc | apply IsS85.drewN | apply IsS85.drew | apply IsS85.set_1 | apply IsS85.set_2) | exact HI0.out)); (case side2 => repeat (first | (with_reducible first | exact HB.out | apply zai | apply zad | apply zah | refine zby ?_ (IsS85.ge HI0.out)) | exact HB.out)); rintro e w14 ⟨rfl, hi, hb, hk⟩; refine ⟨_, rfl, ?_⟩; have n0_ := Aside0.mk (zdu (by repeat (first | (with_reducible first | exact HK.out | apply zbx | apply zcd | apply zdk | apply zce) | exact HK.out)) hk (.inl rfl)); have n1_ := Aside0.mk (hb); have n2_ := Aside0.mk (hi); clear HK HB HI0; have HK := n0_; have HB := n1_; have HI0 := n2_; clear n0_ n1_ n2_; (try clear hb); (try clear hb2); (try clear hk); (try clear hi)) | ((with_reducible refine zbc (f := 83) rfl ?_); refine goesL_ (some 15) rfl rfl Try.func83 (by kernel_rfl) rfl #[.pointer (some ⟨g, 0, none⟩), .int .i64 3] rfl (by (try simp only [zap, zau, zav]); first | done | rfl) ?_; (with_reducible refine (spec_l1Below.calls g s0_0 t1251 t1252 3 t1261 t1262 t1263 w0 _ ?side1 ?side2 A10.out).mono ?_); (case side1 => repeat (first | (with_reducible first | exact HI0.out | apply IsS85.alloc | apply IsS85.drewN | apply IsS85.drew | apply IsS85.set_1 | apply IsS85.set_2) | exact HI0.out)); (case side2 => repeat (first | (with_reducible first | exact HB.out | apply zai | apply zad | apply zah | refine zby ?_ (IsS85.ge HI0.out)) | exact HB.out)); rintro e w15 ⟨rfl, hi, hb, hk⟩; refine ⟨_, rfl, ?_⟩; have n0_ := Aside0.mk (zdu (by repeat (first | (with_reducible first | exact HK.out | apply zbx | apply zcd | apply zdk | apply zce) | exact HK.out)) hk (.inl rfl)); have n1_ := Aside0.mk (hb); have n2_ := Aside0.mk (hi); clear HK HB HI0; have HK := n0_; have HB := n1_; have HI0 := n2_; clear n0_ n1_ n2_; (try clear hb); (try clear hb2); (try clear hk); (try clear hi)) | ((with_reducible refine zdt (N := 17) rfl ?_); refine Kd.R_make (Kd.int .u8) _ 5 rfl (N := 17) rfl 23 _ _ rfl ji11 (by first | rfl | exact congrArg (Value.int .i64) hji11) (by first | rfl | exact congrArg (Value.int .i64) hji11) Try.underlying23 (.int .u8 0) 1 info5 rfl (by decide) (by omega) 0 (ok := fun _ => True) (okp := fun _ => True) rfl (fun _ hk => hk) zbw (zar (by first | (with_reducible assumption) | assumption)) (zff (Nat.mul_le_mul_right _ (zar (by first | (with_reducible assumption) | assumption) : ji11.toNat ≤ 281474976710656)) (by omega)) (zbq _ _) (zbi _) ?_; intro v1265 w16 ho17 hb hg_ hnew_; clear hg_ hnew_; (first | rw [← Ny1264.out] at ho17 | (simp only [Int.reduceToNat] at ho17; rw [← Ny1264.out] at ho17)); have n0_ := Aside0.mk (zbj ho17 (keep_size (w := w) (g := g) (row := none) (by repeat (first | (with_reducible first | exact HK.out | apply zbx | apply zcd | apply zdk | apply zce) | exact HK.out)))); have n1_ := Aside0.mk (IsS85.below (by repeat (first | (with_reducible first | exact HI0.out | apply IsS85.alloc | apply IsS85.drewN | apply IsS85.drew | apply IsS85.set_1 | apply IsS85.set_2) | exact HI0.out)) hb); have n2_ := Aside0.mk (zdu (by repeat (first | (with_reducible first | exact HK.out | apply zbx | apply zcd | apply zdk | apply zce) | exact HK.out)) (KeepBut.of_below hb g none) (.inl rfl)); have n3_ := Aside0.mk (zbf (by repeat (first | (with_reducible first | exact HB.out | apply zai | apply zad | apply zah | refine zby ?_ (IsS85.ge HI0.out)) | exact HB.out)) hb); clear HI0 HK HB; have HO1266 := n0_; have HI0 := n1_; have HK := n2_; have HB := n3_; clear n0_ n1_ n2_ n3_; clear hb ho17))
     go_ret
     exact ⟨_, by first | rfl | (simp [zbk, zbl] <;> rfl) | (simp only [← hji11]; first | rfl | (simp [zbk, zbl] <;> rfl)) | (simp [*, zbk, zbl] <;> rfl), by (with_reducible repeat (first | apply zab | apply zac | apply zae)); exact HO1266.out, by repeat (first | (with_reducible first | exact HI0.out | apply IsS85.alloc | apply IsS85.drewN | apply IsS85.drew | apply IsS85.set_1 | apply IsS85.set_2) | exact HI0.out), by repeat (first | (with_reducible first | exact HB.out | apply zai | apply zad | apply zah | refine zby ?_ (IsS85.ge HI0.out)) | exact HB.out), by repeat (first | (with_reducible first | exact HK.out | apply zbx | apply zcd | apply zdk | apply zce) | exact HK.out)⟩
    ·rw [if_neg c13] at H
     exact absurd H (by simp)
   ·rw [if_neg c12] at H
    exact absurd H (by simp)
  ·rw [if_neg c9] at H
   have c9b0 : (t1250 == 1) = false := zeb.mpr c9
   have c9b1 : (t1250 != 1) = true := bne_iff_ne.mpr c9
   replace H := zaj.mp H
   obtain ⟨⟨t1267, t1270, t1271⟩, A180, H⟩ := H
   try dsimp only at H
   have A18 := Aside0.mk A180
   clear A180
   simp only [zdb, zee] at H
   obtain ⟨rfl, rfl, rfl⟩ := H
   go_enter Try.func95, Try.ntmps95
   go_wp2_with (first | ((with_reducible refine zbc (f := 83) rfl ?_); refine goesL_ (some 4) rfl rfl Try.func83 (by kernel_rfl) rfl #[.pointer (some ⟨g, 0, none⟩), .int .i64 20] rfl (by (try simp only [zap, zau, zav]); first | done | rfl) ?_; (with_reducible refine (spec_l1Below.calls g s0_0 s0_1 s0_2 20 t1250 t1251 t1252 w0 _ ?side1 ?side2 A2.out).mono ?_); (case side1 => repeat (first | (with_reducible first | exact HI0.out | apply IsS85.alloc | apply IsS85.drewN | apply IsS85.drew | apply IsS85.set_1 | apply IsS85.set_2) | exact HI0.out)); (case side2 => repeat (first | (with_reducible first | exact HB.out | apply zai | apply zad | apply zah | refine zby ?_ (IsS85.ge HI0.out)) | exact HB.out)); rintro e w19 ⟨rfl, hi, hb, hk⟩; refine ⟨_, rfl, ?_⟩; have n0_ := Aside0.mk (zdu (by repeat (first | (with_reducible first | exact HK.out | apply zbx | apply zcd | apply zdk | apply zce) | exact HK.out)) hk (.inl rfl)); have n1_ := Aside0.mk (hb); have n2_ := Aside0.mk (hi); clear HK HB HI0; have HK := n0_; have HB := n1_; have HI0 := n2_; clear n0_ n1_ n2_; (try clear hb); (try clear hb2); (try clear hk); (try clear hi)) | ((with_reducible refine zbc (f := 96) rfl ?_); refine goesL_ (some 19) rfl rfl Try.func96 (by kernel_rfl) rfl #[.pointer (some ⟨g, 0, none⟩), .int .i64 40] rfl (by (try simp only [zap, zau, zav]); first | done | rfl) ?_; (with_reducible refine (spec_l1DrawBytes.calls k g s0_0 t1251 t1252 40 t1267 t1270 t1271 w0 _ ?side1 ?side2 A18.out).mono ?_); (case side1 => repeat (first | (with_reducible first | exact HI0.out | apply IsS85.alloc | apply IsS85.drewN | apply IsS85.drew | apply IsS85.set_1 | apply IsS85.set_2) | exact HI0.out)); (case side2 => repeat (first | (with_reducible first | exact HB.out | apply zai | apply zad | apply zah | refine zby ?_ (IsS85.ge HI0.out)) | exact HB.out)); rintro e w20 ⟨v1268, rfl, ho0, hi, hb, hk⟩; refine ⟨_, rfl, ?_⟩; have n0_ := Aside0.mk (zbj ho0 (keep_size (w := w) (g := g) (row := none) (by repeat (first | (with_reducible first | exact HK.out | apply zbx | apply zcd | apply zdk | apply zce) | exact HK.out)))); have n1_ := Aside0.mk (zdu (by repeat (first | (with_reducible first | exact HK.out | apply zbx | apply zcd | apply zdk | apply zce) | exact HK.out)) hk (.inl rfl)); have n2_ := Aside0.mk (hb); have n3_ := Aside0.mk (hi); clear HK HB HI0; have HO1269 := n0_; have HK := n1_; have HB := n2_; have HI0 := n3_; clear n0_ n1_ n2_ n3_; clear hb hk hi ho0))
   go_ret
   exact ⟨_, by first | rfl | (simp [zbk, zbl] <;> rfl) | (simp [*, zbk, zbl] <;> rfl), by (with_reducible repeat (first | apply zab | apply zac | apply zae)); exact HO1269.out, by repeat (first | (with_reducible first | exact HI0.out | apply IsS85.alloc | apply IsS85.drewN | apply IsS85.drew | apply IsS85.set_1 | apply IsS85.set_2) | exact HI0.out), by repeat (first | (with_reducible first | exact HB.out | apply zai | apply zad | apply zah | refine zby ?_ (IsS85.ge HI0.out)) | exact HB.out), by repeat (first | (with_reducible first | exact HK.out | apply zbx | apply zcd | apply zdk | apply zce) | exact HK.out)⟩
end Go.Proofs.Ytienlgcjohpphaa.P
