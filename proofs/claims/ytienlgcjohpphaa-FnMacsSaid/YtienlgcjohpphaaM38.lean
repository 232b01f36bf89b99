import Derived.Test.YtienlgcjohpphaaM37
namespace Go.Proofs.Ytienlgcjohpphaa.P
open Go.RowKit Go.Proofs.YtienlgcjohpphaaW.PrintWords Go.Proofs.YtienlgcjohpphaaW.PrintLast Go.Proofs.YtienlgcjohpphaaW.PrintMore
attribute [local go_sem] zdd zde zdy zdz zcb zcc zdf zdg   -- for this text's walks alone
set_option linter.unusedVariables false
set_option linter.unusedSimpArgs false

def spec_DrawExtract.f (k : Nat) (l0 : List Int) : Option (List Int × List Int) := (spec_DrawMac.f k l0).bind fun bt1295 => (some (bt1295.1, bt1295.2))
theorem spec_DrawExtract.mono : ∀ a0 k, LeO (spec_DrawExtract.f k a0) (spec_DrawExtract.f (k + 1) a0) := by
 intro a0 k
 unfold spec_DrawExtract.f
 repeat' first
   | (with_reducible exact spec_DrawMac.mono _ _)
   | (with_reducible exact zcf _)
   | (with_reducible exact zcj _)
   | (with_reducible refine zdp ?_ ?_)
   | (with_reducible refine zcg ?_ (fun _ => ?_))
set_option maxHeartbeats 8000000 in
set_option maxRecDepth 100000 in
theorem spec_DrawExtract.calls (k : Nat) (A0 : Option Addr) (c0 : Nat) (l0 : List Int) (r1 : List Int) (r2 : List Int) (w : World) (hr0 : Kd.C (Kd.int .u8) w A0 l0.length l0) (hc0 : l0.length ≤ c0) (h : spec_DrawExtract.f k l0 = some (r1, r2)) :
  Calls Try.prog 52 #[.slice A0 l0.length c0] w fun e w' => ∃ v0_ v1_ : Value, e = .returned (.tuple #[v0_, v1_]) ∧ Kd.R (Kd.int .u8) 5 w' w.heap.size (fun k_ => some k_ ≠ (v1_ : Value).ownBlock) v0_ r1 ∧ Kd.R (Kd.int .u8) 5 w' w.heap.size (fun k_ => some k_ ≠ (v0_ : Value).ownBlock) v1_ r2 ∧ Below w.heap.size w w' := by
 have HR0 := Aside0.mk hr0
 have HC0 := Aside0.mk hc0
 clear hr0 hc0
 have HB := Aside0.mk (zbq w.heap.size w)
 have H : ((spec_DrawMac.f k l0).bind fun bt1295 => (some (bt1295.1, bt1295.2))) = some (r1, r2) := h
 clear h
 replace H := zaj.mp H
 obtain ⟨⟨t1295, t1296⟩, A20, H⟩ := H
 try dsimp only at H
 have A2 := Aside0.mk A20
 clear A20
 simp only [zdb, zee] at H
 obtain ⟨rfl, rfl⟩ := H
 go_enter Try.func52, Try.ntmps52
 go_wp2_with (first | ((with_reducible refine zbc (f := 51) rfl ?_); refine goesL_ (some 8) rfl rfl Try.func51 (by kernel_rfl) rfl #[.slice A0 l0.length c0] rfl (by (try simp only [zap, zau, zav]); first | done | rfl) ?_; (with_reducible refine (spec_DrawMac.calls k _ _ l0 t1295 t1296 _ ?side1 ?side2 A2.out).mono ?_); (case side1 => repeat (first | exact HR0.out | (with_reducible first | apply zba | apply zbb | apply zbg))); (case side2 => exact HC0.out); rintro e w3 ⟨v1297, v1299, rfl, ho0, ho1, hb⟩; refine ⟨_, rfl, ?_⟩; have xb_ := below_ofs (by repeat (first | (with_reducible first | exact HB.out | apply zai | apply zad | apply zah) | exact HB.out)) hb; have n0_ := Aside0.mk (zbj ho0 (zax xb_)); have n1_ := Aside0.mk (zbj ho1 (zax xb_)); have n2_ := Aside0.mk (zbf xb_ hb); clear HB; have HO1298 := n0_; have HO1300 := n1_; have HB := n2_; clear n0_ n1_ n2_; clear xb_ hb ho0; (try clear ho1)))
 go_ret2
 exact ⟨_, _, by first | rfl | (simp [zbk, zbl] <;> rfl) | (simp [*, zbk, zbl] <;> rfl), by (with_reducible repeat (first | apply zab | apply zac | apply zae)); exact HO1298.out, by (with_reducible repeat (first | apply zab | apply zac | apply zae)); exact HO1300.out, by repeat (first | (with_reducible first | exact HB.out | apply zai | apply zad | apply zah) | exact HB.out)⟩
def spec_l1PickInt.f (s0_0 : List Int) (s0_1 : Int) (s0_2 : Int) (l1 : List Int) : Option (Int × Int × Int) := (spec_l1Below.f s0_0 s0_1 s0_2 (l1.length : Int)).bind fun bt587 => (if 0 ≤ bt587.1 then (if bt587.1 < (l1.length : Int) then (some (rd l1 bt587.1, bt587.2.1, bt587.2.2)) else (none)) else (none))
set_option maxHeartbeats 8000000 in
set_option maxRecDepth 100000 in
theorem spec_l1PickInt.calls (g : Nat) (s0_0 : List Int) (s0_1 : Int) (s0_2 : Int) (A1 : Option Addr) (c1 : Nat) (l1 : List Int) (r1 : Int) (r2 : Int) (r3 : Int) (w0 w : World) (hI : IsS85 w0 w g s0_0 s0_1 s0_2) (hB : Below w0.heap.size w0 w) (hr1 : Kd.C (Kd.int .i64) w A1 l1.length l1) (hc1 : l1.length ≤ c1) (hf1 : ∀ ad, A1 = some ad → 0 < l1.length → ad.block ≠ g) (h : spec_l1PickInt.f s0_0 s0_1 s0_2 l1 = some (r1, r2, r3)) :
  Calls Try.prog 107 #[.pointer (some ⟨g, 0, none⟩), .slice A1 l1.length c1] w fun e w' => e = .returned (.int .i64 r1) ∧ IsS85 w0 w' g s0_0 r2 r3 ∧ Below w0.heap.size w0 w' ∧ KeepBut w w' g none := by
 have HR1 := Aside0.mk hr1
 have HC1 := Aside0.mk hc1
 clear hr1 hc1
 have HI0 := Aside0.mk hI
 have HK := Aside0.mk (KeepBut.refl w g none)
 have HL := Aside0.mk hB.size
 clear hI
 have HW0 := Aside0.mk hB.size
 have HB := Aside0.mk hB
 clear hB
 have H : ((spec_l1Below.f s0_0 s0_1 s0_2 (l1.length : Int)).bind fun bt587 => (if 0 ≤ bt587.1 then (if bt587.1 < (l1.length : Int) then (some (rd l1 bt587.1, bt587.2.1, bt587.2.2)) else (none)) else (none))) = some (r1, r2, r3) := h
 clear h
 replace H := zaj.mp H
 obtain ⟨⟨t587, t588, t589⟩, A30, H⟩ := H
 try dsimp only at H
 have A3 := Aside0.mk A30
 clear A30
 by_cases c4 : 0 ≤ t587
 ·rw [if_pos c4] at H
  have c4b0 : decide (0 ≤ t587) = true := zaq c4
  clear c4
  by_cases c5 : t587 < (l1.length : Int)
  ·rw [if_pos c5] at H
   have c5b0 : decide (t587 < (l1.length : Int)) = true := zaq c5
   clear c5
   simp only [zdb, zee] at H
   obtain ⟨rfl, rfl, rfl⟩ := H
   go_enter Try.func107, Try.ntmps107
   go_wp2_with (first | ((with_reducible refine zbc (f := 83) rfl ?_); refine goesL_ (some 9) rfl rfl Try.func83 (by kernel_rfl) rfl #[.pointer (some ⟨g, 0, none⟩), .int .i64 (l1.length : Int)] rfl (by (try simp only [zap, zau, zav]); first | done | rfl) ?_; (with_reducible refine (spec_l1Below.calls g s0_0 s0_1 s0_2 (l1.length : Int) t587 t588 t589 w0 _ ?side1 ?side2 A3.out).mono ?_); (case side1 => repeat (first | (with_reducible first | exact HI0.out | apply IsS85.alloc | apply IsS85.drewN | apply IsS85.drew | apply IsS85.set_1 | apply IsS85.set_2) | exact HI0.out)); (case side2 => repeat (first | (with_reducible first | exact HB.out | apply zai | apply zad | apply zah | refine zby ?_ (IsS85.ge HI0.out)) | exact HB.out)); rintro e w6 ⟨rfl, hi, hb, hk⟩; refine ⟨_, rfl, ?_⟩; have n0_ := Aside0.mk (zdu (by repeat (first | (with_reducible first | exact HK.out | apply zbx | apply zcd | apply zdk | apply zce) | exact HK.out)) hk (.inl rfl)); have n1_ := Aside0.mk (hb); have n2_ := Aside0.mk (hi); clear HK HB HI0; have HK := n0_; have HB := n1_; have HI0 := n2_; clear n0_ n1_ n2_; (try clear hb); (try clear hb2); (try clear hk); (try clear hi); have p590 : 0 ≤ (t587 : Int) := zar (by first | (with_reducible assumption) | assumption); have q590 : t587 < (l1.length : Int) := zar (by first | (with_reducible assumption) | assumption); obtain ⟨ad590, e590, hx590_0⟩ := zca HR1.out t587 p590 q590; cases e590; replace hx590_0 := keep_cell HK.out hx590_0 (by first | (rw [add_block]; exact hf1 _ rfl (by omega)) | exact hf1 _ rfl (by omega) | exact hf1 ad590 rfl (by omega)); replace p590 := zbn p590; replace q590 := zbn q590))
   go_ret
   exact ⟨by first | rfl | (simp [zbk, zbl] <;> rfl) | (simp [*, zbk, zbl] <;> rfl), by repeat (first | (with_reducible first | exact HI0.out | apply IsS85.alloc | apply IsS85.drewN | apply IsS85.drew | apply IsS85.set_1 | apply IsS85.set_2) | exact HI0.out), by repeat (first | (with_reducible first | exact HB.out | apply zai | apply zad | apply zah | refine zby ?_ (IsS85.ge HI0.out)) | exact HB.out), by repeat (first | (with_reducible first | exact HK.out | apply zbx | apply zcd | apply zdk | apply zce) | exact HK.out)⟩
  ·rw [if_neg c5] at H
   exact absurd H (by simp)
 ·rw [if_neg c4] at H
  exact absurd H (by simp)
def spec_l4DrawMany.f (s0_0 : List Int) (s0_1 : Int) (s0_2 : Int) : Option (Int × Int × Int) := (spec_l1PickInt.f s0_0 s0_1 s0_2 (([1, 32, 33, 44, 70, 0, (-1), 8160, 8161] : List Int))).bind fun bt1304 => (some (bt1304.1, bt1304.2.1, bt1304.2.2))
set_option maxHeartbeats 8000000 in
set_option maxRecDepth 100000 in
theorem spec_l4DrawMany.calls (g : Nat) (s0_0 : List Int) (s0_1 : Int) (s0_2 : Int) (r1 : Int) (r2 : Int) (r3 : Int) (w0 w : World) (hI : IsS85 w0 w g s0_0 s0_1 s0_2) (hB : Below w0.heap.size w0 w) (h : spec_l4DrawMany.f s0_0 s0_1 s0_2 = some (r1, r2, r3)) :
  Calls Try.prog 97 #[.pointer (some ⟨g, 0, none⟩)] w fun e w' => e = .returned (.int .i64 r1) ∧ IsS85 w0 w' g s0_0 r2 r3 ∧ Below w0.heap.size w0 w' ∧ KeepBut w w' g none := by
 have HI0 := Aside0.mk hI
 have HK := Aside0.mk (KeepBut.refl w g none)
 have HL := Aside0.mk hB.size
 clear hI
 have HW0 := Aside0.mk hB.size
 have HB := Aside0.mk hB
 clear hB
 have H : ((spec_l1PickInt.f s0_0 s0_1 s0_2 (([1, 32, 33, 44, 70, 0, (-1), 8160, 8161] : List Int))).bind fun bt1304 => (some (bt1304.1, bt1304.2.1, bt1304.2.2))) = some (r1, r2, r3) := h
 clear h
 obtain ⟨y1301, hy1301⟩ : ∃ y_ : List Int, y_ = (([1, 32, 33, 44, 70, 0, (-1), 8160, 8161] : List Int)) := ⟨_, rfl⟩
 replace H : ((spec_l1PickInt.f s0_0 s0_1 s0_2 y1301).bind fun bt1304 => (some (bt1304.1, bt1304.2.1, bt1304.2.2))) = some (r1, r2, r3) := by first | (rw [hy1301]; with_reducible first | exact H | exact bind_ofs H) | (with_reducible first | exact H | exact bind_ofs H) | (rw [hy1301]; exact H) | exact H
 have Ny1301 := Aside0.mk hy1301
 clear hy1301
 replace H := zaj.mp H
 obtain ⟨⟨t1304, t1305, t1306⟩, A20, H⟩ := H
 try dsimp only at H
 have A2 := Aside0.mk A20
 clear A20
 simp only [zdb, zee] at H
 obtain ⟨rfl, rfl, rfl⟩ := H
 go_enter Try.func97, Try.ntmps97
 go_wp2_with (first | ((with_reducible refine zdt (N := 4) rfl ?_); refine zen (Kd.int .i64) _ 3 ?hg (N := 4) ?hd (xs := ([1, 32, 33, 44, 70, 0, (-1), 8160, 8161] : List Int)) (inner := [.int .i64 1, .int .i64 32, .int .i64 33, .int .i64 44, .int .i64 70, .int .i64 0, .int .i64 (-1), .int .i64 8160, .int .i64 8161]) (ok := fun _ => True) (okp := fun _ => True) ?hr ?hp (fun _ hk => hk) zbw (zbq _ _) (zbi _) (by simp) ?_; (case hd => rfl); (case hg => rfl); (case hr => first | (go_simp; done) | (go_simp; rfl)); (case hp => exact (zbh (show Kd.M (Kd.int .i64) _ _ _ 1 [.int .i64 1] from rfl) (zbh (show Kd.M (Kd.int .i64) _ _ _ 32 [.int .i64 32] from rfl) (zbh (show Kd.M (Kd.int .i64) _ _ _ 33 [.int .i64 33] from rfl) (zbh (show Kd.M (Kd.int .i64) _ _ _ 44 [.int .i64 44] from rfl) (zbh (show Kd.M (Kd.int .i64) _ _ _ 70 [.int .i64 70] from rfl) (zbh (show Kd.M (Kd.int .i64) _ _ _ 0 [.int .i64 0] from rfl) (zbh (show Kd.M (Kd.int .i64) _ _ _ (-1) [.int .i64 (-1)] from rfl) (zbh (show Kd.M (Kd.int .i64) _ _ _ 8160 [.int .i64 8160] from rfl) (zbh (show Kd.M (Kd.int .i64) _ _ _ 8161 [.int .i64 8161] from rfl) (zdq _ _))))))))))); intro v1302 w3 ho4 hb hg_ hnew_; clear hg_ hnew_; (first | rw [← Ny1301.out] at ho4 | (simp only [Int.reduceToNat] at ho4; rw [← Ny1301.out] at ho4)); have n0_ := Aside0.mk (zbj ho4 (keep_size (w := w) (g := g) (row := none) (by repeat (first | (with_reducible first | exact HK.out | apply zbx | apply zcd | apply zdk | apply zce) | exact HK.out)))); have n1_ := Aside0.mk (IsS85.below (by repeat (first | (with_reducible first | exact HI0.out | apply IsS85.alloc | apply IsS85.drewN | apply IsS85.drew | apply IsS85.set_1 | apply IsS85.set_2) | exact HI0.out)) hb); have n2_ := Aside0.mk (zdu (by repeat (first | (with_reducible first | exact HK.out | apply zbx | apply zcd | apply zdk | apply zce) | exact HK.out)) (KeepBut.of_below hb g none) (.inl rfl)); have n3_ := Aside0.mk (zbf (by repeat (first | (with_reducible first | exact HB.out | apply zai | apply zad | apply zah | refine zby ?_ (IsS85.ge HI0.out)) | exact HB.out)) hb); clear HI0 HK HB; have HO1303 := n0_; have HI0 := n1_; have HK := n2_; have HB := n3_; clear n0_ n1_ n2_ n3_; clear hb ho4; obtain ⟨Ao5, co5, eo5⟩ := zbm HO1303.out; subst eo5) | ((with_reducible refine zbc (f := 107) rfl ?_); refine goesL_ (some 5) rfl rfl Try.func107 (by kernel_rfl) rfl #[.pointer (some ⟨g, 0, none⟩), .slice Ao5 y1301.length co5] rfl (by (try simp only [zap, zau, zav]); first | done | rfl) ?_; (with_reducible refine (spec_l1PickInt.calls g s0_0 s0_1 s0_2 _ _ y1301 t1304 t1305 t1306 w0 _ ?side1 ?side2 ?side3 ?side4 ?side5 A2.out).mono ?_); (case side1 => repeat (first | (with_reducible first | exact HI0.out | apply IsS85.alloc | apply IsS85.drewN | apply IsS85.drew | apply IsS85.set_1 | apply IsS85.set_2) | exact HI0.out)); (case side2 => repeat (first | (with_reducible first | exact HB.out | apply zai | apply zad | apply zah | refine zby ?_ (IsS85.ge HI0.out)) | exact HB.out)); (case side3 => repeat (first | exact (zao HO1303.out).2.2 | (with_reducible first | apply zba | apply zbb | apply zbg))); (case side4 => exact (zao HO1303.out).2.1); (case side5 => exact far_slice (IsS85.own_ne HI0.out HO1303.out (by decide))); rintro e w6 ⟨rfl, hi, hb, hk⟩; refine ⟨_, rfl, ?_⟩; have n0_ := Aside0.mk (zbe (Kd.R_keep (IsS85.apart (show IsS85 w0 _ g s0_0 s0_1 s0_2 from by repeat (first | (with_reducible first | exact HI0.out | apply IsS85.alloc | apply IsS85.drewN | apply IsS85.drew | apply IsS85.set_1 | apply IsS85.set_2) | exact HI0.out)) (by (with_reducible repeat (first | apply zab | apply zac | apply zae)); exact HO1303.out) (by decide)) hk (fun _ h => h.2)) (fun _ h => h.1)); have n1_ := Aside0.mk (zdu (by repeat (first | (with_reducible first | exact HK.out | apply zbx | apply zcd | apply zdk | apply zce) | exact HK.out)) hk (.inl rfl)); have n2_ := Aside0.mk (hb); have n3_ := Aside0.mk (hi); clear HO1303 HK HB HI0; have HO1303 := n0_; have HK := n1_; have HB := n2_; have HI0 := n3_; clear n0_ n1_ n2_ n3_; (try clear hb); (try clear hb2); (try clear hk); (try clear hi)))
 go_ret
 exact ⟨by first | rfl | (simp [zbk, zbl] <;> rfl) | (simp [*, zbk, zbl] <;> rfl), by repeat (first | (with_reducible first | exact HI0.out | apply IsS85.alloc | apply IsS85.drewN | apply IsS85.drew | apply IsS85.set_1 | apply IsS85.set_2) | exact HI0.out), by repeat (first | (with_reducible first | exact HB.out | apply zai | apply zad | apply zah | refine zby ?_ (IsS85.ge HI0.out)) | exact HB.out), by repeat (first | (with_reducible first | exact HK.out | apply zbx | apply zcd | apply zdk | apply zce) | exact HK.out)⟩
end Go.Proofs.Ytienlgcjohpphaa.P
