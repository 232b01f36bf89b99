import Derived.Test.Ytlalkldjpniakaadt10
namespace Go.Proofs.Ytlalkldjpniakaa.P
open Go.RowKit Go.Proofs.YtlalkldjpniakaaW.PrintWords Go.Proofs.YtlalkldjpniakaaW.PrintLast Go.Proofs.YtlalkldjpniakaaW.PrintMore
attribute [local go_sem] zdh zdi zee zef zcx zcy zdj zdk   -- for this text's walks alone
set_option linter.unusedVariables false
set_option linter.unusedSimpArgs false

def laws_markItem.f (k : Nat) (a0_0 : ByteArray) (a0_1 : Int) (a0_2 : Int) (l0_3 : List Int) (a1 : Int) : Option (Int × List Int) := (laws_markByteS.f k l0_3 a1).bind fun bt441 => (some (bt441.1, bt441.2))
theorem laws_markItem.mono : ∀ a0 a1 a2 a3 a4 k, LeO (laws_markItem.f k a0 a1 a2 a3 a4) (laws_markItem.f (k + 1) a0 a1 a2 a3 a4) := by
 intro a0 a1 a2 a3 a4 k
 unfold laws_markItem.f
 repeat' first
   | (with_reducible exact laws_markByteS.mono _ _ _)
   | (with_reducible exact zco _)
   | (with_reducible exact zdb _)
   | (with_reducible refine zdm ?_ ?_)
   | (with_reducible refine zcp ?_ (fun _ => ?_))
set_option maxHeartbeats 8000000 in
set_option maxRecDepth 100000 in
theorem laws_markItem.calls (k : Nat) (a0_0 : ByteArray) (a0_1 : Int) (a0_2 : Int) (P0_3_ : Nat → Prop) (u9000_ : Value) (l0_3 : List Int) (a1 : Int) (r1 : Int) (r2 : List Int) (w0 w : World) (hB : Below w0.heap.size w0 w) (ho0_3 : Kd.R (Kd.int .u8) 5 w w0.heap.size P0_3_ u9000_ l0_3) (h : laws_markItem.f k a0_0 a0_1 a0_2 l0_3 a1 = some (r1, r2)) :
  Calls Try.prog 46 #[.agg #[.string a0_0, .int .i64 a0_1, .int .i64 a0_2, u9000_], .int .i64 a1] w fun e w' => e = .returned (.int .i64 r1) ∧ Kd.R (Kd.int .u8) 5 w' w0.heap.size (fun k_ => (P0_3_ k_ ∨ w.heap.size ≤ k_)) u9000_ r2 ∧ Below w0.heap.size w0 w' ∧ Kept w w' (fun k_ => P0_3_ k_) := by
 have hu34 := Try.underlying34
 have HO0_3 := Aside0.mk (show Kd.R (Kd.int .u8) 5 w w0.heap.size (fun k_ => (P0_3_ k_ ∨ w.heap.size ≤ k_)) u9000_ l0_3 from zbq ho0_3 (fun k_ hk => (.inl hk)))
 have HK := Aside0.mk (Kept.refl w (fun k_ => P0_3_ k_))
 have HW0 := Aside0.mk hB.size
 have HB := Aside0.mk hB
 clear hB
 have H : ((laws_markByteS.f k l0_3 a1).bind fun bt441 => (some (bt441.1, bt441.2))) = some (r1, r2) := h
 clear h
 replace H := zai.mp H
 obtain ⟨⟨t441, t442⟩, A30, H⟩ := H
 try dsimp only at H
 have A3 := Aside0.mk A30
 clear A30
 simp only [zdd, zdf] at H
 obtain ⟨rfl, rfl⟩ := H
 obtain ⟨Ao4, co4, eo4⟩ := zcm HO0_3.out
 subst eo4
 go_enter Try.func46, Try.ntmps46
 go_wp2_with (first | ((with_reducible refine zcc (N := 2) rfl ?_); refine zcq ?hg (N := 2) ?hd (cs := #[.string a0_0, .int .i64 a0_1, .int .i64 a0_2, .slice Ao4 l0_3.length co4]) (t := 34) ?hr ?_; (case hd => rfl); (case hg => rfl); (case hr => first | (go_simp; done) | (go_simp; rfl)); intro gb440 hg w5 hbox hb; have xb_ := below_ofs (by repeat (first | (with_reducible first | exact HB.out | apply zad | apply zab | apply zac) | exact HB.out)) hb; have n0_ := Aside0.mk (zcv (by (with_reducible repeat (first | apply zck | apply zcl | apply zcz)); exact HO0_3.out) hb); have n1_ := Aside0.mk (Kept.below (S := (fun k_ => P0_3_ k_)) (by repeat (first | (with_reducible first | exact HK.out | apply Kept.alloc | apply Kept.drewN | apply Kept.drew) | exact HK.out)) hb); have n2_ := Aside0.mk (zaj xb_ hb); have n3_ := Aside0.mk (hbox); have n4_ := Aside0.mk ((by rw [hg]; exact (by first | exact HK.out.1 | exact (show Kept w _ (fun k_ => P0_3_ k_) from by repeat (first | (with_reducible first | exact HK.out | apply Kept.alloc | apply Kept.drewN | apply Kept.drew) | exact HK.out)).1) : w.heap.size ≤ gb440)); have n5_ := Aside0.mk ((by rw [hg]; exact (zam xb_) : w0.heap.size ≤ gb440)); clear HO0_3 HK HB; have HO0_3 := n0_; have HK := n1_; have HB := n2_; have BK440 := n3_; have GW440 := n4_; have GE440 := n5_; clear n0_ n1_ n2_ n3_ n4_ n5_; clear xb_ hb hbox hg; have hcz6_0 : w5.cell? ⟨gb440, 0, none⟩ = some (.string a0_0) := (zaf BK440.out 0).trans rfl; have hcz6_1 : w5.cell? ⟨gb440, 1, none⟩ = some (.int .i64 a0_1) := (zaf BK440.out 1).trans rfl; have hcz6_2 : w5.cell? ⟨gb440, 2, none⟩ = some (.int .i64 a0_2) := (zaf BK440.out 2).trans rfl; have hcz6_3 : w5.cell? ⟨gb440, 3, none⟩ = some (.slice Ao4 l0_3.length co4) := (zaf BK440.out 3).trans rfl; have hfz6_0 := zah BK440.out 0; have hfz6_1 := zah BK440.out 1; have hfz6_2 := zah BK440.out 2; have hfz6_3 := zah BK440.out 3) | ((with_reducible refine zbj (f := 52) rfl ?_); refine goesL_ (some 8) rfl rfl Try.func52 (by kernel_rfl) rfl #[.slice Ao4 l0_3.length co4, .int .i64 a1] rfl (by (try simp only [zaq, zbb, zbe]); first | done | rfl) ?_; (with_reducible refine (laws_markByteS.calls k (fun k_ => some k_ = (.slice Ao4 l0_3.length co4 : Value).ownBlock) (.slice Ao4 l0_3.length co4) l0_3 a1 t441 t442 w0 _ ?side1 ?side2 A3.out).mono ?_); (case side1 => repeat (first | (with_reducible first | exact HB.out | apply zad | apply zab | apply zac | refine zal ?_ GE440.out) | exact HB.out)); (case side2 => exact zea rfl HO0_3.out); rintro e w7 ⟨rfl, hy0, hb, hkp⟩; refine ⟨_, rfl, ?_⟩; have n0_ := Aside0.mk (Kd.R_reok rfl hy0 (fun k_ e_ => HO0_3.out.1 k_ e_)); have n1_ := Aside0.mk (blk_kept (by (with_reducible repeat (first | refine zar ?_ _ | refine zav ?_ | refine zas ?_ _)); exact BK440.out) hkp (fun hs_ => (fun e_ => (Kd.R_ne HO0_3.out BK440.out (by decide)) e_) hs_)); have n2_ := Aside0.mk (Kept.then_ (S := (fun k_ => P0_3_ k_)) (by repeat (first | (with_reducible first | exact HK.out | apply Kept.alloc | apply Kept.drewN | apply Kept.drew | refine Kept.setCell ?_ (.inr GW440.out) _) | exact HK.out)) hkp (fun k_ hs_ => (fun e_ => (HO0_3.out.1 k_ e_.symm)) hs_)); have n3_ := Aside0.mk (hb); clear HO0_3 BK440 HK HB; have HO0_3 := n0_; have BK440 := n1_; have HK := n2_; have HB := n3_; clear n0_ n1_ n2_ n3_; (try clear hb); (try clear hkp); (try clear hy0)))
 go_ret
 exact ⟨by first | rfl | (simp [zbc, zbd] <;> rfl) | (simp [*, zbc, zbd] <;> rfl), by (with_reducible repeat (first | apply zck | apply zcl | apply zcz)); exact HO0_3.out, by repeat (first | (with_reducible first | exact HB.out | apply zad | apply zab | apply zac | refine zal ?_ GE440.out) | exact HB.out), by repeat (first | (with_reducible first | exact HK.out | apply Kept.alloc | apply Kept.drewN | apply Kept.drew | refine Kept.setCell ?_ (.inr GW440.out) _) | exact HK.out)⟩
def laws_heldItem.f (k : Nat) (a0_0 : ByteArray) (a0_1 : Int) (a0_2 : Int) (l0_3 : List Int) (a1 : Int) : Option (Int) := (laws_heldByteS.f k l0_3 a1).bind fun t444 => (if t444 < 0 then (some (-1)) else (some t444))
theorem laws_heldItem.mono : ∀ a0 a1 a2 a3 a4 k, LeO (laws_heldItem.f k a0 a1 a2 a3 a4) (laws_heldItem.f (k + 1) a0 a1 a2 a3 a4) := by
 intro a0 a1 a2 a3 a4 k
 unfold laws_heldItem.f
 repeat' first
   | (with_reducible exact laws_heldByteS.mono _ _ _)
   | (with_reducible exact zco _)
   | (with_reducible exact zdb _)
   | (with_reducible refine zdm ?_ ?_)
   | (with_reducible refine zcp ?_ (fun _ => ?_))
set_option maxHeartbeats 8000000 in
set_option maxRecDepth 100000 in
theorem laws_heldItem.calls (k : Nat) (a0_0 : ByteArray) (a0_1 : Int) (a0_2 : Int) (A0_3 : Option Addr) (c0_3 : Nat) (l0_3 : List Int) (a1 : Int) (r : Int) (w : World) (hr0_3 : Kd.C (Kd.int .u8) w A0_3 l0_3.length l0_3) (hc0_3 : l0_3.length ≤ c0_3) (h : laws_heldItem.f k a0_0 a0_1 a0_2 l0_3 a1 = some r) :
  Calls Try.prog 47 #[.agg #[.string a0_0, .int .i64 a0_1, .int .i64 a0_2, .slice A0_3 l0_3.length c0_3], .int .i64 a1] w fun e w' => e = .returned (.int .i64 r) ∧ Below w.heap.size w w' := by
 have hu34 := Try.underlying34
 have HR0_3 := Aside0.mk hr0_3
 have HC0_3 := Aside0.mk hc0_3
 clear hr0_3 hc0_3
 have HB := Aside0.mk (zbu w.heap.size w)
 have H : ((laws_heldByteS.f k l0_3 a1).bind fun t444 => (if t444 < 0 then (some (-1)) else (some t444))) = some r := h
 clear h
 replace H := zai.mp H
 obtain ⟨t444, A30, H⟩ := H
 try dsimp only at H
 have A3 := Aside0.mk A30
 clear A30
 by_cases c4 : t444 < 0
 ·rw [if_pos c4] at H
  have c4b0 : decide (t444 < 0) = true := zat c4
  clear c4
  obtain rfl := Option.some.inj H
  go_enter Try.func47, Try.ntmps47
  go_wp2_with (first | ((with_reducible refine zcc (N := 2) rfl ?_); refine zcq ?hg (N := 2) ?hd (cs := #[.string a0_0, .int .i64 a0_1, .int .i64 a0_2, .slice A0_3 l0_3.length c0_3]) (t := 34) ?hr ?_; (case hd => rfl); (case hg => rfl); (case hr => first | (go_simp; done) | (go_simp; rfl)); intro gb443 hg w5 hbox hb; have xb_ := below_ofs (by repeat (first | (with_reducible first | exact HB.out | apply zad | apply zab | apply zac) | exact HB.out)) hb; have n0_ := Aside0.mk (zaj xb_ hb); have n1_ := Aside0.mk (hbox); have n2_ := Aside0.mk ((by rw [hg]; exact (zam xb_) : w.heap.size ≤ gb443)); have n3_ := Aside0.mk ((by rw [hg]; exact (zam xb_) : w.heap.size ≤ gb443)); clear HB; have HB := n0_; have BK443 := n1_; have GW443 := n2_; have GE443 := n3_; clear n0_ n1_ n2_ n3_; clear xb_ hb hbox hg; have hcz6_0 : w5.cell? ⟨gb443, 0, none⟩ = some (.string a0_0) := (zaf BK443.out 0).trans rfl; have hcz6_1 : w5.cell? ⟨gb443, 1, none⟩ = some (.int .i64 a0_1) := (zaf BK443.out 1).trans rfl; have hcz6_2 : w5.cell? ⟨gb443, 2, none⟩ = some (.int .i64 a0_2) := (zaf BK443.out 2).trans rfl; have hcz6_3 : w5.cell? ⟨gb443, 3, none⟩ = some (.slice A0_3 l0_3.length c0_3) := (zaf BK443.out 3).trans rfl; have hfz6_0 := zah BK443.out 0; have hfz6_1 := zah BK443.out 1; have hfz6_2 := zah BK443.out 2; have hfz6_3 := zah BK443.out 3) | ((with_reducible refine zbj (f := 53) rfl ?_); refine goesL_ (some 8) rfl rfl Try.func53 (by kernel_rfl) rfl #[.slice A0_3 l0_3.length c0_3, .int .i64 a1] rfl (by (try simp only [zaq, zbb, zbe]); first | done | rfl) ?_; (with_reducible refine (laws_heldByteS.calls k _ _ l0_3 a1 t444 _ ?side1 ?side2 A3.out).mono ?_); (case side1 => repeat (first | exact (zbg HR0_3.out HB.out) | (with_reducible first | apply zbs | apply zbv | apply zcf))); (case side2 => exact HC0_3.out); rintro e w' ⟨rfl, ⟨nd, rfl⟩⟩; refine ⟨_, rfl, ?_⟩))
  go_ret
  exact ⟨by first | rfl | (simp [zbc, zbd] <;> rfl) | (simp [*, zbc, zbd] <;> rfl), by repeat (first | (with_reducible first | exact HB.out | apply zad | apply zab | apply zac | refine zal ?_ GE443.out) | exact HB.out)⟩
 ·rw [if_neg c4] at H
  have c4b0 : decide (t444 < 0) = false := zbh c4
  clear c4
  obtain rfl := Option.some.inj H
  go_enter Try.func47, Try.ntmps47
  go_wp2_with (first | ((with_reducible refine zcc (N := 2) rfl ?_); refine zcq ?hg (N := 2) ?hd (cs := #[.string a0_0, .int .i64 a0_1, .int .i64 a0_2, .slice A0_3 l0_3.length c0_3]) (t := 34) ?hr ?_; (case hd => rfl); (case hg => rfl); (case hr => first | (go_simp; done) | (go_simp; rfl)); intro gb443 hg w7 hbox hb; have xb_ := below_ofs (by repeat (first | (with_reducible first | exact HB.out | apply zad | apply zab | apply zac) | exact HB.out)) hb; have n0_ := Aside0.mk (zaj xb_ hb); have n1_ := Aside0.mk (hbox); have n2_ := Aside0.mk ((by rw [hg]; exact (zam xb_) : w.heap.size ≤ gb443)); have n3_ := Aside0.mk ((by rw [hg]; exact (zam xb_) : w.heap.size ≤ gb443)); clear HB; have HB := n0_; have BK443 := n1_; have GW443 := n2_; have GE443 := n3_; clear n0_ n1_ n2_ n3_; clear xb_ hb hbox hg; have hcz8_0 : w7.cell? ⟨gb443, 0, none⟩ = some (.string a0_0) := (zaf BK443.out 0).trans rfl; have hcz8_1 : w7.cell? ⟨gb443, 1, none⟩ = some (.int .i64 a0_1) := (zaf BK443.out 1).trans rfl; have hcz8_2 : w7.cell? ⟨gb443, 2, none⟩ = some (.int .i64 a0_2) := (zaf BK443.out 2).trans rfl; have hcz8_3 : w7.cell? ⟨gb443, 3, none⟩ = some (.slice A0_3 l0_3.length c0_3) := (zaf BK443.out 3).trans rfl; have hfz8_0 := zah BK443.out 0; have hfz8_1 := zah BK443.out 1; have hfz8_2 := zah BK443.out 2; have hfz8_3 := zah BK443.out 3) | ((with_reducible refine zbj (f := 53) rfl ?_); refine goesL_ (some 8) rfl rfl Try.func53 (by kernel_rfl) rfl #[.slice A0_3 l0_3.length c0_3, .int .i64 a1] rfl (by (try simp only [zaq, zbb, zbe]); first | done | rfl) ?_; (with_reducible refine (laws_heldByteS.calls k _ _ l0_3 a1 t444 _ ?side1 ?side2 A3.out).mono ?_); (case side1 => repeat (first | exact (zbg HR0_3.out HB.out) | (with_reducible first | apply zbs | apply zbv | apply zcf))); (case side2 => exact HC0_3.out); rintro e w' ⟨rfl, ⟨nd, rfl⟩⟩; refine ⟨_, rfl, ?_⟩))
  go_ret
  exact ⟨by first | rfl | (simp [zbc, zbd] <;> rfl) | (simp [*, zbc, zbd] <;> rfl), by repeat (first | (with_reducible first | exact HB.out | apply zad | apply zab | apply zac | refine zal ?_ GE443.out) | exact HB.out)⟩
end Go.Proofs.Ytlalkldjpniakaa.P
