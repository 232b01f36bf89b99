import Derived.Test.Ytlalkldjpniakaai22
namespace Go.Proofs.Ytlalkldjpniakaa.P
open Go.RowKit Go.Proofs.YtlalkldjpniakaaW.PrintWords Go.Proofs.YtlalkldjpniakaaW.PrintLast Go.Proofs.YtlalkldjpniakaaW.PrintMore
attribute [local go_sem] zdg zdh zdw zdx zcy zcz zdi zdj   -- for this text's walks alone
set_option linter.unusedVariables false
set_option linter.unusedSimpArgs false

def laws_FnExactItemOk.f (k : Nat) (a0_0 : ByteArray) (a0_1 : Int) (a0_2 : Int) (l0_3 : List Int) : Option (Bool) := (laws_szItem.f a0_0 a0_1 a0_2 l0_3 1048576).bind fun t195 => (if t195 < 0 then (some true) else ((laws_toItem.f k a0_0 a0_1 a0_2 l0_3).bind fun bt196 => ((spec_ItemOk.f k bt196.1 bt196.2.1 bt196.2.2.1 bt196.2.2.2).bind fun t202 => ((laws_toItem.f k a0_0 a0_1 a0_2 l0_3).bind fun bt203 => ((impl_ItemOk.f k bt203.1 bt203.2.1 bt203.2.2.1 bt203.2.2.2).bind fun t210 => (if (t210 != t202) = true then (some false) else ((laws_toItem.f k a0_0 a0_1 a0_2 l0_3).bind fun bt211 => ((laws_eqItem.f k bt203.1 bt203.2.1 bt203.2.2.1 bt203.2.2.2 bt211.1 bt211.2.1 bt211.2.2.1 bt211.2.2.2).bind fun t217 => (if t217 = true then (some true) else (some false))))))))))
theorem laws_FnExactItemOk.mono : ∀ a0 a1 a2 a3 k, LeO (laws_FnExactItemOk.f k a0 a1 a2 a3) (laws_FnExactItemOk.f (k + 1) a0 a1 a2 a3) := by
 intro a0 a1 a2 a3 k
 unfold laws_FnExactItemOk.f
 repeat' first
   | (with_reducible exact impl_ItemOk.mono _ _ _ _ _)
   | (with_reducible exact laws_eqItem.mono _ _ _ _ _ _ _ _ _)
   | (with_reducible exact laws_toItem.mono _ _ _ _ _)
   | (with_reducible exact spec_ItemOk.mono _ _ _ _ _)
   | (with_reducible exact zdo _)
   | (with_reducible exact zdp _)
   | (with_reducible refine zeb ?_ ?_)
   | (with_reducible refine zdq ?_ (fun _ => ?_))
set_option maxHeartbeats 8000000 in
set_option maxRecDepth 100000 in
theorem laws_FnExactItemOk.calls (k : Nat) (a0_0 : ByteArray) (a0_1 : Int) (a0_2 : Int) (A0_3 : Option Addr) (c0_3 : Nat) (l0_3 : List Int) (r : Bool) (w : World) (hr0_3 : Kd.C (Kd.int .u8) w A0_3 l0_3.length l0_3) (hc0_3 : l0_3.length ≤ c0_3) (h : laws_FnExactItemOk.f k a0_0 a0_1 a0_2 l0_3 = some r) :
  Calls Try.prog 4 #[.agg #[.string a0_0, .int .i64 a0_1, .int .i64 a0_2, .slice A0_3 l0_3.length c0_3]] w fun e w' => e = .returned (.bool r) ∧ Below w.heap.size w w' := by
 have hu31 := Try.underlying31
 have hu34 := Try.underlying34
 have HR0_3 := Aside0.mk hr0_3
 have HC0_3 := Aside0.mk hc0_3
 clear hr0_3 hc0_3
 have HB := Aside0.mk (zcb w.heap.size w)
 have H : ((laws_szItem.f a0_0 a0_1 a0_2 l0_3 1048576).bind fun t195 => (if t195 < 0 then (some true) else ((laws_toItem.f k a0_0 a0_1 a0_2 l0_3).bind fun bt196 => ((spec_ItemOk.f k bt196.1 bt196.2.1 bt196.2.2.1 bt196.2.2.2).bind fun t202 => ((laws_toItem.f k a0_0 a0_1 a0_2 l0_3).bind fun bt203 => ((impl_ItemOk.f k bt203.1 bt203.2.1 bt203.2.2.1 bt203.2.2.2).bind fun t210 => (if (t210 != t202) = true then (some false) else ((laws_toItem.f k a0_0 a0_1 a0_2 l0_3).bind fun bt211 => ((laws_eqItem.f k bt203.1 bt203.2.1 bt203.2.2.1 bt203.2.2.2 bt211.1 bt211.2.1 bt211.2.2.1 bt211.2.2.2).bind fun t217 => (if t217 = true then (some true) else (some false))))))))))) = some r := h
 clear h
 replace H := zas.mp H
 obtain ⟨t195, A20, H⟩ := H
 try dsimp only at H
 have A2 := Aside0.mk A20
 clear A20
 by_cases c3 : t195 < 0
 ·rw [if_pos c3] at H
  have c3b0 : decide (t195 < 0) = true := zbq c3
  clear c3
  obtain rfl := Option.some.inj H
  go_enter Try.func4, Try.ntmps4
  go_wp2_with (first | ((with_reducible refine zbj (N := 1) rfl ?_); refine zbk ?hg (N := 1) ?hd (cs := #[.string a0_0, .int .i64 a0_1, .int .i64 a0_2, .slice A0_3 l0_3.length c0_3]) (t := 31) ?hr ?_; (case hd => rfl); (case hg => rfl); (case hr => first | (go_simp; done) | (go_simp; rfl)); intro gb194 hg w4 hbox hb; have xb_ := below_ofs (by repeat (first | (with_reducible first | exact HB.out | apply zae | apply zaa | apply zad) | exact HB.out)) hb; have n0_ := Aside0.mk (zak xb_ hb); have n1_ := Aside0.mk (hbox); have n2_ := Aside0.mk ((by rw [hg]; exact (zai xb_) : w.heap.size ≤ gb194)); have n3_ := Aside0.mk ((by rw [hg]; exact (zai xb_) : w.heap.size ≤ gb194)); clear HB; have HB := n0_; have BK194 := n1_; have GW194 := n2_; have GE194 := n3_; clear n0_ n1_ n2_ n3_; clear xb_ hb hbox hg; have hcz5_0 : w4.cell? ⟨gb194, 0, none⟩ = some (.string a0_0) := (zac BK194.out 0).trans rfl; have hcz5_1 : w4.cell? ⟨gb194, 1, none⟩ = some (.int .i64 a0_1) := (zac BK194.out 1).trans rfl; have hcz5_2 : w4.cell? ⟨gb194, 2, none⟩ = some (.int .i64 a0_2) := (zac BK194.out 2).trans rfl; have hcz5_3 : w4.cell? ⟨gb194, 3, none⟩ = some (.slice A0_3 l0_3.length c0_3) := (zac BK194.out 3).trans rfl; have hfz5_0 := zab BK194.out 0; have hfz5_1 := zab BK194.out 1; have hfz5_2 := zab BK194.out 2; have hfz5_3 := zab BK194.out 3) | ((with_reducible refine zbf (f := 23) rfl ?_); refine goesL_ (some 9) rfl rfl Try.func23 (by kernel_rfl) rfl #[.agg #[.string a0_0, .int .i64 a0_1, .int .i64 a0_2, .slice A0_3 l0_3.length c0_3], .int .i64 1048576] rfl (by (try simp only [zal, zav, zba]); first | done | rfl) ?_; (with_reducible refine (laws_szItem.calls a0_0 a0_1 a0_2 _ _ l0_3 1048576 t195 _ ?side1 ?side2 A2.out).mono ?_); (case side1 => repeat (first | exact (zbx HR0_3.out HB.out) | (with_reducible first | apply zbo | apply zbp | apply zbv))); (case side2 => exact HC0_3.out); rintro e w6 ⟨rfl, hb⟩; refine ⟨_, rfl, ?_⟩; have n0_ := Aside0.mk (zbb (g := gb194) (o := .cells #[.string a0_0, .int .i64 a0_1, .int .i64 a0_2, .slice A0_3 l0_3.length c0_3] 31 (0, 0)) (by (with_reducible repeat (first | refine zag ?_ _ | refine zaj ?_ | refine zah ?_ _)); exact BK194.out) hb); have n1_ := Aside0.mk (zak (by repeat (first | (with_reducible first | exact HB.out | apply zae | apply zaa | apply zad | refine zaf ?_ GE194.out) | exact HB.out)) hb); clear BK194 HB; have BK194 := n0_; have HB := n1_; clear n0_ n1_; (try clear hb); (try clear hb2); (try clear hk); (try clear hi)))
  go_ret
  exact ⟨by first | rfl | (simp [zap, zaq] <;> rfl) | (simp [*, zap, zaq] <;> rfl), by repeat (first | (with_reducible first | exact HB.out | apply zae | apply zaa | apply zad | refine zaf ?_ GE194.out) | exact HB.out)⟩
 ·rw [if_neg c3] at H
  have c3b0 : decide (t195 < 0) = false := zcd c3
  clear c3
  replace H := zas.mp H
  obtain ⟨⟨t196, t197, t198, t199⟩, A70, H⟩ := H
  try dsimp only at H
  have A7 := Aside0.mk A70
  clear A70
  replace H := zas.mp H
  obtain ⟨t202, A80, H⟩ := H
  try dsimp only at H
  have A8 := Aside0.mk A80
  clear A80
  replace H := zas.mp H
  obtain ⟨⟨t203, t204, t205, t206⟩, A90, H⟩ := H
  try dsimp only at H
  have A9 := Aside0.mk A90
  clear A90
  replace H := zas.mp H
  obtain ⟨t210, A100, H⟩ := H
  try dsimp only at H
  have A10 := Aside0.mk A100
  clear A100
  by_cases c11 : (t210 != t202) = true
  ·rw [if_pos c11] at H
   have c11b0 : (t210 != t202) = true := c11
   (try (have c11b1 : decide (t210 = t202) = false := by simpa using c11))
   (try (have c11b2 : (t210 == t202) = false := by simpa using c11))
   (try (have c11b3 : ¬ (t210 = t202) := by simpa using c11))
   clear c11
   obtain rfl := Option.some.inj H
   go_enter Try.func4, Try.ntmps4
   go_wp2_with (first | ((with_reducible refine zbj (N := 1) rfl ?_); refine zbk ?hg (N := 1) ?hd (cs := #[.string a0_0, .int .i64 a0_1, .int .i64 a0_2, .slice A0_3 l0_3.length c0_3]) (t := 31) ?hr ?_; (case hd => rfl); (case hg => rfl); (case hr => first | (go_simp; done) | (go_simp; rfl)); intro gb194 hg w12 hbox hb; have xb_ := below_ofs (by repeat (first | (with_reducible first | exact HB.out | apply zae | apply zaa | apply zad) | exact HB.out)) hb; have n0_ := Aside0.mk (zak xb_ hb); have n1_ := Aside0.mk (hbox); have n2_ := Aside0.mk ((by rw [hg]; exact (zai xb_) : w.heap.size ≤ gb194)); have n3_ := Aside0.mk ((by rw [hg]; exact (zai xb_) : w.heap.size ≤ gb194)); clear HB; have HB := n0_; have BK194 := n1_; have GW194 := n2_; have GE194 := n3_; clear n0_ n1_ n2_ n3_; clear xb_ hb hbox hg; have hcz13_0 : w12.cell? ⟨gb194, 0, none⟩ = some (.string a0_0) := (zac BK194.out 0).trans rfl; have hcz13_1 : w12.cell? ⟨gb194, 1, none⟩ = some (.int .i64 a0_1) := (zac BK194.out 1).trans rfl; have hcz13_2 : w12.cell? ⟨gb194, 2, none⟩ = some (.int .i64 a0_2) := (zac BK194.out 2).trans rfl; have hcz13_3 : w12.cell? ⟨gb194, 3, none⟩ = some (.slice A0_3 l0_3.length c0_3) := (zac BK194.out 3).trans rfl; have hfz13_0 := zab BK194.out 0; have hfz13_1 := zab BK194.out 1; have hfz13_2 := zab BK194.out 2; have hfz13_3 := zab BK194.out 3) | ((with_reducible refine zbf (f := 23) rfl ?_); refine goesL_ (some 9) rfl rfl Try.func23 (by kernel_rfl) rfl #[.agg #[.string a0_0, .int .i64 a0_1, .int .i64 a0_2, .slice A0_3 l0_3.length c0_3], .int .i64 1048576] rfl (by (try simp only [zal, zav, zba]); first | done | rfl) ?_; (with_reducible refine (laws_szItem.calls a0_0 a0_1 a0_2 _ _ l0_3 1048576 t195 _ ?side1 ?side2 A2.out).mono ?_); (case side1 => repeat (first | exact (zbx HR0_3.out HB.out) | (with_reducible first | apply zbo | apply zbp | apply zbv))); (case side2 => exact HC0_3.out); rintro e w14 ⟨rfl, hb⟩; refine ⟨_, rfl, ?_⟩; have n0_ := Aside0.mk (zbb (g := gb194) (o := .cells #[.string a0_0, .int .i64 a0_1, .int .i64 a0_2, .slice A0_3 l0_3.length c0_3] 31 (0, 0)) (by (with_reducible repeat (first | refine zag ?_ _ | refine zaj ?_ | refine zah ?_ _)); exact BK194.out) hb); have n1_ := Aside0.mk (zak (by repeat (first | (with_reducible first | exact HB.out | apply zae | apply zaa | apply zad | refine zaf ?_ GE194.out) | exact HB.out)) hb); clear BK194 HB; have BK194 := n0_; have HB := n1_; clear n0_ n1_; (try clear hb); (try clear hb2); (try clear hk); (try clear hi); have hcz15_0 : w14.cell? ⟨gb194, 0, none⟩ = some (.string a0_0) := (zac BK194.out 0).trans rfl; have hcz15_1 : w14.cell? ⟨gb194, 1, none⟩ = some (.int .i64 a0_1) := (zac BK194.out 1).trans rfl; have hcz15_2 : w14.cell? ⟨gb194, 2, none⟩ = some (.int .i64 a0_2) := (zac BK194.out 2).trans rfl; have hcz15_3 : w14.cell? ⟨gb194, 3, none⟩ = some (.slice A0_3 l0_3.length c0_3) := (zac BK194.out 3).trans rfl; have hfz15_0 := zab BK194.out 0; have hfz15_1 := zab BK194.out 1; have hfz15_2 := zab BK194.out 2; have hfz15_3 := zab BK194.out 3) | ((with_reducible refine zbf (f := 25) rfl ?_); refine goesL_ (some 13) rfl rfl Try.func25 (by kernel_rfl) rfl #[.agg #[.string a0_0, .int .i64 a0_1, .int .i64 a0_2, .slice A0_3 l0_3.length c0_3]] rfl (by (try simp only [zal, zav, zba]); first | done | rfl) ?_; (with_reducible refine (laws_toItem.calls k a0_0 a0_1 a0_2 _ _ l0_3 t196 t197 t198 t199 _ ?side1 ?side2 A7.out).mono ?_); (case side1 => repeat (first | exact (zbx HR0_3.out HB.out) | (with_reducible first | apply zbo | apply zbp | apply zbv))); (case side2 => exact HC0_3.out); rintro e w16 ⟨v200, rfl, ho0, hb⟩; refine ⟨_, rfl, ?_⟩; have n0_ := Aside0.mk (zby ho0 (zai (by repeat (first | (with_reducible first | exact HB.out | apply zae | apply zaa | apply zad | refine zaf ?_ GE194.out) | exact HB.out)))); have n1_ := Aside0.mk (zbb (g := gb194) (o := .cells #[.string a0_0, .int .i64 a0_1, .int .i64 a0_2, .slice A0_3 l0_3.length c0_3] 31 (0, 0)) (by (with_reducible repeat (first | refine zag ?_ _ | refine zaj ?_ | refine zah ?_ _)); exact BK194.out) hb); have n2_ := Aside0.mk (zak (by repeat (first | (with_reducible first | exact HB.out | apply zae | apply zaa | apply zad | refine zaf ?_ GE194.out) | exact HB.out)) hb); clear BK194 HB; have HO201 := n0_; have BK194 := n1_; have HB := n2_; clear n0_ n1_ n2_; clear hb ho0; obtain ⟨Ao17, co17, eo17⟩ := zcx HO201.out; subst eo17) | ((with_reducible refine zbf (f := 24) rfl ?_); refine goesL_ (some 14) rfl rfl Try.func24 (by kernel_rfl) rfl #[.agg #[.string t196, .int .i64 t197, .int .i64 t198, .slice Ao17 t199.length co17]] rfl (by (try simp only [zal, zav, zba]); first | done | rfl) ?_; (with_reducible refine (spec_ItemOk.calls k t196 t197 t198 _ _ t199 t202 _ ?side1 ?side2 A8.out).mono ?_); (case side1 => repeat (first | exact (zbt HO201.out).2.2 | (with_reducible first | apply zbo | apply zbp | apply zbv))); (case side2 => exact (zbt HO201.out).2.1); rintro e w18 ⟨rfl, hb⟩; refine ⟨_, rfl, ?_⟩; have n0_ := Aside0.mk (zbw (by (with_reducible repeat (first | apply zat | apply zau | apply zax)); exact HO201.out) hb); have n1_ := Aside0.mk (zbb (g := gb194) (o := .cells #[.string a0_0, .int .i64 a0_1, .int .i64 a0_2, .slice A0_3 l0_3.length c0_3] 31 (0, 0)) (by (with_reducible repeat (first | refine zag ?_ _ | refine zaj ?_ | refine zah ?_ _)); exact BK194.out) hb); have n2_ := Aside0.mk (zak (by repeat (first | (with_reducible first | exact HB.out | apply zae | apply zaa | apply zad | refine zaf ?_ GE194.out) | exact HB.out)) hb); clear HO201 BK194 HB; have HO201 := n0_; have BK194 := n1_; have HB := n2_; clear n0_ n1_ n2_; (try clear hb); (try clear hb2); (try clear hk); (try clear hi); have hcz19_0 : w18.cell? ⟨gb194, 0, none⟩ = some (.string a0_0) := (zac BK194.out 0).trans rfl; have hcz19_1 : w18.cell? ⟨gb194, 1, none⟩ = some (.int .i64 a0_1) := (zac BK194.out 1).trans rfl; have hcz19_2 : w18.cell? ⟨gb194, 2, none⟩ = some (.int .i64 a0_2) := (zac BK194.out 2).trans rfl; have hcz19_3 : w18.cell? ⟨gb194, 3, none⟩ = some (.slice A0_3 l0_3.length c0_3) := (zac BK194.out 3).trans rfl; have hfz19_0 := zab BK194.out 0; have hfz19_1 := zab BK194.out 1; have hfz19_2 := zab BK194.out 2; have hfz19_3 := zab BK194.out 3) | ((with_reducible refine zbf (f := 25) rfl ?_); refine goesL_ (some 16) rfl rfl Try.func25 (by kernel_rfl) rfl #[.agg #[.string a0_0, .int .i64 a0_1, .int .i64 a0_2, .slice A0_3 l0_3.length c0_3]] rfl (by (try simp only [zal, zav, zba]); first | done | rfl) ?_; (with_reducible refine (laws_toItem.calls k a0_0 a0_1 a0_2 _ _ l0_3 t203 t204 t205 t206 _ ?side1 ?side2 A9.out).mono ?_); (case side1 => repeat (first | exact (zbx HR0_3.out HB.out) | (with_reducible first | apply zbo | apply zbp | apply zbv))); (case side2 => exact HC0_3.out); rintro e w20 ⟨v207, rfl, ho0, hb⟩; refine ⟨_, rfl, ?_⟩; have qHO201 := Kd.R_ofs (by (with_reducible repeat (first | apply zat | apply zau | apply zax)); exact HO201.out) hb; have n0_ := Aside0.mk (zcq qHO201 (zdl ho0) hb); have n1_ := Aside0.mk (zby (zdm ho0 (zed qHO201)) (zai (by repeat (first | (with_reducible first | exact HB.out | apply zae | apply zaa | apply zad | refine zaf ?_ GE194.out) | exact HB.out)))); have n2_ := Aside0.mk (zbb (g := gb194) (o := .cells #[.string a0_0, .int .i64 a0_1, .int .i64 a0_2, .slice A0_3 l0_3.length c0_3] 31 (0, 0)) (by (with_reducible repeat (first | refine zag ?_ _ | refine zaj ?_ | refine zah ?_ _)); exact BK194.out) hb); have n3_ := Aside0.mk (zak (by repeat (first | (with_reducible first | exact HB.out | apply zae | apply zaa | apply zad | refine zaf ?_ GE194.out) | exact HB.out)) hb); clear qHO201 HO201; clear BK194 HB; have HO201 := n0_; have HO208 := n1_; have BK194 := n2_; have HB := n3_; clear n0_ n1_ n2_ n3_; clear hb ho0) | ((with_reducible refine zbj (N := 5) rfl ?_); refine zbk ?hg (N := 5) ?hd (cs := #[.string (⟨#[]⟩ : ByteArray), .int .i64 0, .int .i64 0, .slice none 0 0]) (t := 34) ?hr ?_; (case hd => rfl); (case hg => rfl); (case hr => first | (go_simp; done) | (go_simp; rfl)); intro gb209 hg w21 hbox hb; have n0_ := Aside0.mk (zbw (by (with_reducible repeat (first | apply zat | apply zau | apply zax)); exact HO201.out) hb); have n1_ := Aside0.mk (zbw (by (with_reducible repeat (first | apply zat | apply zau | apply zax)); exact HO208.out) hb); have n2_ := Aside0.mk (zbb (g := gb194) (o := .cells #[.string a0_0, .int .i64 a0_1, .int .i64 a0_2, .slice A0_3 l0_3.length c0_3] 31 (0, 0)) (by (with_reducible repeat (first | refine zag ?_ _ | refine zaj ?_ | refine zah ?_ _)); exact BK194.out) hb); have n3_ := Aside0.mk (zak (by repeat (first | (with_reducible first | exact HB.out | apply zae | apply zaa | apply zad | refine zaf ?_ GE194.out) | exact HB.out)) hb); have n4_ := Aside0.mk (hbox); have n5_ := Aside0.mk ((by rw [hg]; exact (zai (by repeat (first | (with_reducible first | exact HB.out | apply zae | apply zaa | apply zad | refine zaf ?_ GE194.out) | exact HB.out))) : w.heap.size ≤ gb209)); have n6_ := Aside0.mk ((by rw [hg]; exact (zai (by repeat (first | (with_reducible first | exact HB.out | apply zae | apply zaa | apply zad | refine zaf ?_ GE194.out) | exact HB.out))) : w.heap.size ≤ gb209)); have n7_ := Aside0.mk ((by rw [hg]; exact zch (blk_lt (g := gb194) (o := .cells #[.string a0_0, .int .i64 a0_1, .int .i64 a0_2, .slice A0_3 l0_3.length c0_3] 31 (0, 0)) (by (with_reducible repeat (first | refine zag ?_ _ | refine zaj ?_ | refine zah ?_ _)); exact BK194.out)) : gb194 ≠ gb209)); have n8_ := Aside0.mk ((by rw [hg]; exact zci (blk_lt (g := gb194) (o := .cells #[.string a0_0, .int .i64 a0_1, .int .i64 a0_2, .slice A0_3 l0_3.length c0_3] 31 (0, 0)) (by (with_reducible repeat (first | refine zag ?_ _ | refine zaj ?_ | refine zah ?_ _)); exact BK194.out)) : gb209 ≠ gb194)); clear HO201 HO208 BK194 HB; have HO201 := n0_; have HO208 := n1_; have BK194 := n2_; have HB := n3_; have BK209 := n4_; have GW209 := n5_; have GE209 := n6_; have NB194_209 := n7_; have NB209_194 := n8_; clear n0_ n1_ n2_ n3_ n4_ n5_ n6_ n7_ n8_; clear hb hbox hg; have hnb22 := NB209_194.out; have hnc22 := NB194_209.out; have hcz23_0 : w21.cell? ⟨gb209, 0, none⟩ = some (.string (⟨#[]⟩ : ByteArray)) := (zac BK209.out 0).trans rfl; have hcz23_1 : w21.cell? ⟨gb209, 1, none⟩ = some (.int .i64 0) := (zac BK209.out 1).trans rfl; have hcz23_2 : w21.cell? ⟨gb209, 2, none⟩ = some (.int .i64 0) := (zac BK209.out 2).trans rfl; have hcz23_3 : w21.cell? ⟨gb209, 3, none⟩ = some (.slice none 0 0) := (zac BK209.out 3).trans rfl; have hfz23_0 := zab BK209.out 0; have hfz23_1 := zab BK209.out 1; have hfz23_2 := zab BK209.out 2; have hfz23_3 := zab BK209.out 3; obtain ⟨Ao24, co24, eo24⟩ := zcx HO208.out; subst eo24) | ((with_reducible refine zbf (f := 26) rfl ?_); refine goesL_ (some 18) rfl rfl Try.func26 (by kernel_rfl) rfl #[.agg #[.string t203, .int .i64 t204, .int .i64 t205, .slice Ao24 t206.length co24]] rfl (by (try simp only [zal, zav, zba]); first | done | rfl) ?_; (with_reducible refine (impl_ItemOk.calls k t203 t204 t205 _ _ t206 t210 _ ?side1 ?side2 A10.out).mono ?_); (case side1 => refine (zbt (e := 5) (base := w.heap.size) (ok := fun k_ => (True ∧ some k_ ≠ (.slice Ao17 t199.length co17 : Value).ownBlock)) (n := t206.length) (c := co24) ?_).2.2; exact (by (with_reducible repeat (first | apply zat | apply zau | apply zax)); exact (zdc (zbi (p := ⟨gb209, 3, none⟩) (zbi (p := ⟨gb209, 2, none⟩) (zbi (p := ⟨gb209, 1, none⟩) (zbi (p := ⟨gb209, 0, none⟩) (zdb HO208.out BK209.out (by decide)) (fun _ hk => hk.2) (.string t203)) (fun _ hk => hk.2) (.int .i64 t204)) (fun _ hk => hk.2) (.int .i64 t205)) (fun _ hk => hk.2) (.slice Ao24 t206.length co24)) (fun _ h_ => h_.1)))); (case side2 => exact (zbt HO208.out).2.1); rintro e w25 ⟨rfl, hb⟩; refine ⟨_, rfl, ?_⟩; have n0_ := Aside0.mk (zbw (by (with_reducible repeat (first | apply zat | apply zau | apply zax)); exact (zdc (zbi (p := ⟨gb209, 3, none⟩) (zbi (p := ⟨gb209, 2, none⟩) (zbi (p := ⟨gb209, 1, none⟩) (zbi (p := ⟨gb209, 0, none⟩) (zdb HO201.out BK209.out (by decide)) (fun _ hk => hk.2) (.string t203)) (fun _ hk => hk.2) (.int .i64 t204)) (fun _ hk => hk.2) (.int .i64 t205)) (fun _ hk => hk.2) (.slice Ao24 t206.length co24)) (fun _ h_ => h_.1))) hb); have n1_ := Aside0.mk (zbw (by (with_reducible repeat (first | apply zat | apply zau | apply zax)); exact (zdc (zbi (p := ⟨gb209, 3, none⟩) (zbi (p := ⟨gb209, 2, none⟩) (zbi (p := ⟨gb209, 1, none⟩) (zbi (p := ⟨gb209, 0, none⟩) (zdb HO208.out BK209.out (by decide)) (fun _ hk => hk.2) (.string t203)) (fun _ hk => hk.2) (.int .i64 t204)) (fun _ hk => hk.2) (.int .i64 t205)) (fun _ hk => hk.2) (.slice Ao24 t206.length co24)) (fun _ h_ => h_.1))) hb); have n2_ := Aside0.mk (zbb (g := gb194) (o := .cells #[.string a0_0, .int .i64 a0_1, .int .i64 a0_2, .slice A0_3 l0_3.length c0_3] 31 (0, 0)) (by (with_reducible repeat (first | refine zag ?_ _ | refine zaj ?_ | refine zah ?_ _)); refine zda ?_ NB194_209.out _; (with_reducible repeat (first | refine zag ?_ _ | refine zaj ?_ | refine zah ?_ _)); refine zda ?_ NB194_209.out _; (with_reducible repeat (first | refine zag ?_ _ | refine zaj ?_ | refine zah ?_ _)); refine zda ?_ NB194_209.out _; (with_reducible repeat (first | refine zag ?_ _ | refine zaj ?_ | refine zah ?_ _)); refine zda ?_ NB194_209.out _; (with_reducible repeat (first | refine zag ?_ _ | refine zaj ?_ | refine zah ?_ _)); exact BK194.out) hb); have n3_ := Aside0.mk (zbb (g := gb209) (o := .cells #[.string t203, .int .i64 t204, .int .i64 t205, .slice Ao24 t206.length co24] 34 (0, 0)) (by (with_reducible repeat (first | refine zag ?_ _ | refine zaj ?_ | refine zah ?_ _)); refine zcm (cs := #[.string t203, .int .i64 t204, .int .i64 t205, .slice none 0 0]) ?_ 3 _ rfl; (with_reducible repeat (first | refine zag ?_ _ | refine zaj ?_ | refine zah ?_ _)); refine zcm (cs := #[.string t203, .int .i64 t204, .int .i64 0, .slice none 0 0]) ?_ 2 _ rfl; (with_reducible repeat (first | refine zag ?_ _ | refine zaj ?_ | refine zah ?_ _)); refine zcm (cs := #[.string t203, .int .i64 0, .int .i64 0, .slice none 0 0]) ?_ 1 _ rfl; (with_reducible repeat (first | refine zag ?_ _ | refine zaj ?_ | refine zah ?_ _)); refine zcm (cs := #[.string (⟨#[]⟩ : ByteArray), .int .i64 0, .int .i64 0, .slice none 0 0]) ?_ 0 _ rfl; (with_reducible repeat (first | refine zag ?_ _ | refine zaj ?_ | refine zah ?_ _)); exact BK209.out) hb); have n4_ := Aside0.mk (zak (by repeat (first | (with_reducible first | exact HB.out | apply zae | apply zaa | apply zad | refine zaf ?_ GE194.out | refine zaf ?_ GE209.out) | exact HB.out)) hb); clear HO201 HO208 BK194 BK209 HB; have HO201 := n0_; have HO208 := n1_; have BK194 := n2_; have BK209 := n3_; have HB := n4_; clear n0_ n1_ n2_ n3_ n4_; (try clear hb); (try clear hb2); (try clear hk); (try clear hi)))
   go_ret
   exact ⟨by first | rfl | (simp [zap, zaq] <;> rfl) | (simp [*, zap, zaq] <;> rfl), by repeat (first | (with_reducible first | exact HB.out | apply zae | apply zaa | apply zad | refine zaf ?_ GE194.out | refine zaf ?_ GE209.out) | exact HB.out)⟩
  ·rw [if_neg c11] at H
   have c11b0 : (t210 != t202) = false := by simpa using c11
   (try (have c11b1 : decide (t210 = t202) = true := by simpa using c11))
   (try (have c11b2 : (t210 == t202) = true := by simpa using c11))
   clear c11
   replace H := zas.mp H
   obtain ⟨⟨t211, t212, t213, t214⟩, A260, H⟩ := H
   try dsimp only at H
   have A26 := Aside0.mk A260
   clear A260
   replace H := zas.mp H
   obtain ⟨t217, A270, H⟩ := H
   try dsimp only at H
   have A27 := Aside0.mk A270
   clear A270
   by_cases c28 : t217 = true
   ·subst c28
    have H1 : (some true) = some r := by rw [if_pos rfl] at H; exact H
    clear H
    have H := H1
    clear H1
    obtain rfl := Option.some.inj H
    go_enter Try.func4, Try.ntmps4
    try go_wp2_with (first | ((with_reducible refine zbj (N := 1) rfl ?_); refine zbk ?hg (N := 1) ?hd (cs := #[.string a0_0, .int .i64 a0_1, .int .i64 a0_2, .slice A0_3 l0_3.length c0_3]) (t := 31) ?hr ?_; (case hd => rfl); (case hg => rfl); (case hr => first | (go_simp; done) | (go_simp; rfl)); intro gb194 hg w29 hbox hb; have n0_ := Aside0.mk (zak (by repeat (first | (with_reducible first | exact HB.out | apply zae | apply zaa | apply zad) | exact HB.out)) hb); have n1_ := Aside0.mk (hbox); have n2_ := Aside0.mk ((by rw [hg]; exact (zai (by repeat (first | (with_reducible first | exact HB.out | apply zae | apply zaa | apply zad) | exact HB.out))) : w.heap.size ≤ gb194)); have n3_ := Aside0.mk ((by rw [hg]; exact (zai (by repeat (first | (with_reducible first | exact HB.out | apply zae | apply zaa | apply zad) | exact HB.out))) : w.heap.size ≤ gb194)); clear HB; have HB := n0_; have BK194 := n1_; have GW194 := n2_; have GE194 := n3_; clear n0_ n1_ n2_ n3_; clear hb hbox hg; have hcz30_0 : w29.cell? ⟨gb194, 0, none⟩ = some (.string a0_0) := (zac BK194.out 0).trans rfl; have hcz30_1 : w29.cell? ⟨gb194, 1, none⟩ = some (.int .i64 a0_1) := (zac BK194.out 1).trans rfl; have hcz30_2 : w29.cell? ⟨gb194, 2, none⟩ = some (.int .i64 a0_2) := (zac BK194.out 2).trans rfl; have hcz30_3 : w29.cell? ⟨gb194, 3, none⟩ = some (.slice A0_3 l0_3.length c0_3) := (zac BK194.out 3).trans rfl; have hfz30_0 := zab BK194.out 0; have hfz30_1 := zab BK194.out 1; have hfz30_2 := zab BK194.out 2; have hfz30_3 := zab BK194.out 3) | ((with_reducible refine zbf (f := 23) rfl ?_); refine goesL_ (some 9) rfl rfl Try.func23 (by kernel_rfl) rfl #[.agg #[.string a0_0, .int .i64 a0_1, .int .i64 a0_2, .slice A0_3 l0_3.length c0_3], .int .i64 1048576] rfl (by (try simp only [zal, zav, zba]); first | done | rfl | (simp only [zay, zaz]; rfl) | (simp only [zay, zaz]; rw [zbu (zce.mpr (zcn (by assumption)))])) ?_; (with_reducible refine (laws_szItem.calls a0_0 a0_1 a0_2 _ _ l0_3 1048576 t195 _ ?side1 ?side2 A2.out).mono ?_); (case side1 => repeat (first | exact (zbx HR0_3.out HB.out) | (with_reducible refine zbo ?_ _) | (with_reducible refine zbp ?_ _) | (with_reducible refine zbv ?_))); (case side2 => exact HC0_3.out); rintro e w31 ⟨rfl, hb⟩; refine ⟨_, rfl, ?_⟩; have n0_ := Aside0.mk (zbb (g := gb194) (o := .cells #[.string a0_0, .int .i64 a0_1, .int .i64 a0_2, .slice A0_3 l0_3.length c0_3] 31 (0, 0)) (by (with_reducible repeat (first | refine zag ?_ _ | refine zaj ?_ | refine zah ?_ _)); exact BK194.out) hb); have n1_ := Aside0.mk (zak (by repeat (first | (with_reducible first | exact HB.out | apply zae | apply zaa | apply zad | refine zaf ?_ GE194.out) | exact HB.out)) hb); clear BK194; clear HB; have BK194 := n0_; have HB := n1_; clear n0_ n1_; (try clear hb); (try clear hb2); (try clear hk); (try clear hi); have hcz32_0 : w31.cell? ⟨gb194, 0, none⟩ = some (.string a0_0) := (zac BK194.out 0).trans rfl; have hcz32_1 : w31.cell? ⟨gb194, 1, none⟩ = some (.int .i64 a0_1) := (zac BK194.out 1).trans rfl; have hcz32_2 : w31.cell? ⟨gb194, 2, none⟩ = some (.int .i64 a0_2) := (zac BK194.out 2).trans rfl; have hcz32_3 : w31.cell? ⟨gb194, 3, none⟩ = some (.slice A0_3 l0_3.length c0_3) := (zac BK194.out 3).trans rfl; have hfz32_0 := zab BK194.out 0; have hfz32_1 := zab BK194.out 1; have hfz32_2 := zab BK194.out 2; have hfz32_3 := zab BK194.out 3) | ((with_reducible refine zbf (f := 25) rfl ?_); refine goesL_ (some 13) rfl rfl Try.func25 (by kernel_rfl) rfl #[.agg #[.string a0_0, .int .i64 a0_1, .int .i64 a0_2, .slice A0_3 l0_3.length c0_3]] rfl (by (try simp only [zal, zav, zba]); first | done | rfl | (simp only [zay, zaz]; rfl) | (simp only [zay, zaz]; rw [zbu (zce.mpr (zcn (by assumption)))])) ?_; (with_reducible refine (laws_toItem.calls k a0_0 a0_1 a0_2 _ _ l0_3 t196 t197 t198 t199 _ ?side1 ?side2 A7.out).mono ?_); (case side1 => repeat (first | exact (zbx HR0_3.out HB.out) | (with_reducible refine zbo ?_ _) | (with_reducible refine zbp ?_ _) | (with_reducible refine zbv ?_))); (case side2 => exact HC0_3.out); rintro e w33 ⟨v200, rfl, ho0, hb⟩; refine ⟨_, rfl, ?_⟩; have n0_ := Aside0.mk (zby ho0 (zai (by repeat (first | (with_reducible first | exact HB.out | apply zae | apply zaa | apply zad | refine zaf ?_ GE194.out) | exact HB.out)))); have n1_ := Aside0.mk (zbb (g := gb194) (o := .cells #[.string a0_0, .int .i64 a0_1, .int .i64 a0_2, .slice A0_3 l0_3.length c0_3] 31 (0, 0)) (by (with_reducible repeat (first | refine zag ?_ _ | refine zaj ?_ | refine zah ?_ _)); exact BK194.out) hb); have n2_ := Aside0.mk (zak (by repeat (first | (with_reducible first | exact HB.out | apply zae | apply zaa | apply zad | refine zaf ?_ GE194.out) | exact HB.out)) hb); clear BK194; clear HB; have HO201 := n0_; have BK194 := n1_; have HB := n2_; clear n0_ n1_ n2_; (try clear hb); (try clear hb2); (try clear hk); (try clear hi); (try clear ho0); obtain ⟨Ao34, co34, eo34⟩ := zcx HO201.out; subst eo34) | ((with_reducible refine zbf (f := 24) rfl ?_); refine goesL_ (some 14) rfl rfl Try.func24 (by kernel_rfl) rfl #[.agg #[.string t196, .int .i64 t197, .int .i64 t198, .slice Ao34 t199.length co34]] rfl (by (try simp only [zal, zav, zba]); first | done | rfl | (simp only [zay, zaz]; rfl) | (simp only [zay, zaz]; rw [zbu (zce.mpr (zcn (by assumption)))])) ?_; (with_reducible refine (spec_ItemOk.calls k t196 t197 t198 _ _ t199 t202 _ ?side1 ?side2 A8.out).mono ?_); (case side1 => repeat (first | exact (zbt HO201.out).2.2 | (with_reducible refine zbo ?_ _) | (with_reducible refine zbp ?_ _) | (with_reducible refine zbv ?_))); (case side2 => exact (zbt HO201.out).2.1); rintro e w35 ⟨rfl, hb⟩; refine ⟨_, rfl, ?_⟩; have n0_ := Aside0.mk (zbw (by (with_reducible repeat (first | apply zat | apply zau | apply zax)); exact HO201.out) hb); have n1_ := Aside0.mk (zbb (g := gb194) (o := .cells #[.string a0_0, .int .i64 a0_1, .int .i64 a0_2, .slice A0_3 l0_3.length c0_3] 31 (0, 0)) (by (with_reducible repeat (first | refine zag ?_ _ | refine zaj ?_ | refine zah ?_ _)); exact BK194.out) hb); have n2_ := Aside0.mk (zak (by repeat (first | (with_reducible first | exact HB.out | apply zae | apply zaa | apply zad | refine zaf ?_ GE194.out) | exact HB.out)) hb); clear HO201; clear BK194; clear HB; have HO201 := n0_; have BK194 := n1_; have HB := n2_; clear n0_ n1_ n2_; (try clear hb); (try clear hb2); (try clear hk); (try clear hi); have hcz36_0 : w35.cell? ⟨gb194, 0, none⟩ = some (.string a0_0) := (zac BK194.out 0).trans rfl; have hcz36_1 : w35.cell? ⟨gb194, 1, none⟩ = some (.int .i64 a0_1) := (zac BK194.out 1).trans rfl; have hcz36_2 : w35.cell? ⟨gb194, 2, none⟩ = some (.int .i64 a0_2) := (zac BK194.out 2).trans rfl; have hcz36_3 : w35.cell? ⟨gb194, 3, none⟩ = some (.slice A0_3 l0_3.length c0_3) := (zac BK194.out 3).trans rfl; have hfz36_0 := zab BK194.out 0; have hfz36_1 := zab BK194.out 1; have hfz36_2 := zab BK194.out 2; have hfz36_3 := zab BK194.out 3) | ((with_reducible refine zbf (f := 25) rfl ?_); refine goesL_ (some 16) rfl rfl Try.func25 (by kernel_rfl) rfl #[.agg #[.string a0_0, .int .i64 a0_1, .int .i64 a0_2, .slice A0_3 l0_3.length c0_3]] rfl (by (try simp only [zal, zav, zba]); first | done | rfl | (simp only [zay, zaz]; rfl) | (simp only [zay, zaz]; rw [zbu (zce.mpr (zcn (by assumption)))])) ?_; (with_reducible refine (laws_toItem.calls k a0_0 a0_1 a0_2 _ _ l0_3 t203 t204 t205 t206 _ ?side1 ?side2 A9.out).mono ?_); (case side1 => repeat (first | exact (zbx HR0_3.out HB.out) | (with_reducible refine zbo ?_ _) | (with_reducible refine zbp ?_ _) | (with_reducible refine zbv ?_))); (case side2 => exact HC0_3.out); rintro e w37 ⟨v207, rfl, ho0, hb⟩; refine ⟨_, rfl, ?_⟩; have n0_ := Aside0.mk (zcq (by (with_reducible repeat (first | apply zat | apply zau | apply zax)); exact HO201.out) (zdl ho0) hb); have n1_ := Aside0.mk (zby (zdm ho0 (zed (by (with_reducible repeat (first | apply zat | apply zau | apply zax)); exact HO201.out))) (zai (by repeat (first | (with_reducible first | exact HB.out | apply zae | apply zaa | apply zad | refine zaf ?_ GE194.out) | exact HB.out)))); have n2_ := Aside0.mk (zbb (g := gb194) (o := .cells #[.string a0_0, .int .i64 a0_1, .int .i64 a0_2, .slice A0_3 l0_3.length c0_3] 31 (0, 0)) (by (with_reducible repeat (first | refine zag ?_ _ | refine zaj ?_ | refine zah ?_ _)); exact BK194.out) hb); have n3_ := Aside0.mk (zak (by repeat (first | (with_reducible first | exact HB.out | apply zae | apply zaa | apply zad | refine zaf ?_ GE194.out) | exact HB.out)) hb); clear HO201; clear BK194; clear HB; have HO201 := n0_; have HO208 := n1_; have BK194 := n2_; have HB := n3_; clear n0_ n1_ n2_ n3_; (try clear hb); (try clear hb2); (try clear hk); (try clear hi); (try clear ho0)) | ((with_reducible refine zbj (N := 5) rfl ?_); refine zbk ?hg (N := 5) ?hd (cs := #[.string (⟨#[]⟩ : ByteArray), .int .i64 0, .int .i64 0, .slice none 0 0]) (t := 34) ?hr ?_; (case hd => rfl); (case hg => rfl); (case hr => first | (go_simp; done) | (go_simp; rfl)); intro gb209 hg w38 hbox hb; have n0_ := Aside0.mk (zbw (by (with_reducible repeat (first | apply zat | apply zau | apply zax)); exact HO201.out) hb); have n1_ := Aside0.mk (zbw (by (with_reducible repeat (first | apply zat | apply zau | apply zax)); exact HO208.out) hb); have n2_ := Aside0.mk (zbb (g := gb194) (o := .cells #[.string a0_0, .int .i64 a0_1, .int .i64 a0_2, .slice A0_3 l0_3.length c0_3] 31 (0, 0)) (by (with_reducible repeat (first | refine zag ?_ _ | refine zaj ?_ | refine zah ?_ _)); exact BK194.out) hb); have n3_ := Aside0.mk (zak (by repeat (first | (with_reducible first | exact HB.out | apply zae | apply zaa | apply zad | refine zaf ?_ GE194.out) | exact HB.out)) hb); have n4_ := Aside0.mk (hbox); have n5_ := Aside0.mk ((by rw [hg]; exact (zai (by repeat (first | (with_reducible first | exact HB.out | apply zae | apply zaa | apply zad | refine zaf ?_ GE194.out) | exact HB.out))) : w.heap.size ≤ gb209)); have n6_ := Aside0.mk ((by rw [hg]; exact (zai (by repeat (first | (with_reducible first | exact HB.out | apply zae | apply zaa | apply zad | refine zaf ?_ GE194.out) | exact HB.out))) : w.heap.size ≤ gb209)); have n7_ := Aside0.mk ((by rw [hg]; exact zch (blk_lt (g := gb194) (o := .cells #[.string a0_0, .int .i64 a0_1, .int .i64 a0_2, .slice A0_3 l0_3.length c0_3] 31 (0, 0)) (by (with_reducible repeat (first | refine zag ?_ _ | refine zaj ?_ | refine zah ?_ _)); exact BK194.out)) : gb194 ≠ gb209)); have n8_ := Aside0.mk ((by rw [hg]; exact zci (blk_lt (g := gb194) (o := .cells #[.string a0_0, .int .i64 a0_1, .int .i64 a0_2, .slice A0_3 l0_3.length c0_3] 31 (0, 0)) (by (with_reducible repeat (first | refine zag ?_ _ | refine zaj ?_ | refine zah ?_ _)); exact BK194.out)) : gb209 ≠ gb194)); clear HO201; clear HO208; clear BK194; clear HB; have HO201 := n0_; have HO208 := n1_; have BK194 := n2_; have HB := n3_; have BK209 := n4_; have GW209 := n5_; have GE209 := n6_; have NB194_209 := n7_; have NB209_194 := n8_; clear n0_ n1_ n2_ n3_ n4_ n5_ n6_ n7_ n8_; clear hb hbox hg; have hnb39 := NB209_194.out; have hnc39 := NB194_209.out; have hcz40_0 : w38.cell? ⟨gb209, 0, none⟩ = some (.string (⟨#[]⟩ : ByteArray)) := (zac BK209.out 0).trans rfl; have hcz40_1 : w38.cell? ⟨gb209, 1, none⟩ = some (.int .i64 0) := (zac BK209.out 1).trans rfl; have hcz40_2 : w38.cell? ⟨gb209, 2, none⟩ = some (.int .i64 0) := (zac BK209.out 2).trans rfl; have hcz40_3 : w38.cell? ⟨gb209, 3, none⟩ = some (.slice none 0 0) := (zac BK209.out 3).trans rfl; have hfz40_0 := zab BK209.out 0; have hfz40_1 := zab BK209.out 1; have hfz40_2 := zab BK209.out 2; have hfz40_3 := zab BK209.out 3; obtain ⟨Ao41, co41, eo41⟩ := zcx HO208.out; subst eo41) | ((with_reducible refine zbf (f := 26) rfl ?_); refine goesL_ (some 18) rfl rfl Try.func26 (by kernel_rfl) rfl #[.agg #[.string t203, .int .i64 t204, .int .i64 t205, .slice Ao41 t206.length co41]] rfl (by (try simp only [zal, zav, zba]); first | done | rfl | (simp only [zay, zaz]; rfl) | (simp only [zay, zaz]; rw [zbu (zce.mpr (zcn (by assumption)))])) ?_; (with_reducible refine (impl_ItemOk.calls k t203 t204 t205 _ _ t206 t210 _ ?side1 ?side2 A10.out).mono ?_); (case side1 => refine (zbt (e := 5) (base := w.heap.size) (ok := fun k_ => (True ∧ some k_ ≠ (.slice Ao34 t199.length co34 : Value).ownBlock)) (n := t206.length) (c := co41) ?_).2.2; exact (by (with_reducible repeat (first | apply zat | apply zau | apply zax)); exact (zdc (zbi (p := ⟨gb209, 3, none⟩) (zbi (p := ⟨gb209, 2, none⟩) (zbi (p := ⟨gb209, 1, none⟩) (zbi (p := ⟨gb209, 0, none⟩) (zdb HO208.out BK209.out (by decide)) (fun _ hk => hk.2) (.string t203)) (fun _ hk => hk.2) (.int .i64 t204)) (fun _ hk => hk.2) (.int .i64 t205)) (fun _ hk => hk.2) (.slice Ao41 t206.length co41)) (fun _ h_ => h_.1)))); (case side2 => exact (zbt HO208.out).2.1); rintro e w42 ⟨rfl, hb⟩; refine ⟨_, rfl, ?_⟩; have n0_ := Aside0.mk (zbw (by (with_reducible repeat (first | apply zat | apply zau | apply zax)); exact (zdc (zbi (p := ⟨gb209, 3, none⟩) (zbi (p := ⟨gb209, 2, none⟩) (zbi (p := ⟨gb209, 1, none⟩) (zbi (p := ⟨gb209, 0, none⟩) (zdb HO201.out BK209.out (by decide)) (fun _ hk => hk.2) (.string t203)) (fun _ hk => hk.2) (.int .i64 t204)) (fun _ hk => hk.2) (.int .i64 t205)) (fun _ hk => hk.2) (.slice Ao41 t206.length co41)) (fun _ h_ => h_.1))) hb); have n1_ := Aside0.mk (zbw (by (with_reducible repeat (first | apply zat | apply zau | apply zax)); exact (zdc (zbi (p := ⟨gb209, 3, none⟩) (zbi (p := ⟨gb209, 2, none⟩) (zbi (p := ⟨gb209, 1, none⟩) (zbi (p := ⟨gb209, 0, none⟩) (zdb HO208.out BK209.out (by decide)) (fun _ hk => hk.2) (.string t203)) (fun _ hk => hk.2) (.int .i64 t204)) (fun _ hk => hk.2) (.int .i64 t205)) (fun _ hk => hk.2) (.slice Ao41 t206.length co41)) (fun _ h_ => h_.1))) hb); have n2_ := Aside0.mk (zbb (g := gb194) (o := .cells #[.string a0_0, .int .i64 a0_1, .int .i64 a0_2, .slice A0_3 l0_3.length c0_3] 31 (0, 0)) (by (with_reducible repeat (first | refine zag ?_ _ | refine zaj ?_ | refine zah ?_ _)); refine zda ?_ NB194_209.out _; (with_reducible repeat (first | refine zag ?_ _ | refine zaj ?_ | refine zah ?_ _)); refine zda ?_ NB194_209.out _; (with_reducible repeat (first | refine zag ?_ _ | refine zaj ?_ | refine zah ?_ _)); refine zda ?_ NB194_209.out _; (with_reducible repeat (first | refine zag ?_ _ | refine zaj ?_ | refine zah ?_ _)); refine zda ?_ NB194_209.out _; (with_reducible repeat (first | refine zag ?_ _ | refine zaj ?_ | refine zah ?_ _)); exact BK194.out) hb); have n3_ := Aside0.mk (zbb (g := gb209) (o := .cells #[.string t203, .int .i64 t204, .int .i64 t205, .slice Ao41 t206.length co41] 34 (0, 0)) (by (with_reducible repeat (first | refine zag ?_ _ | refine zaj ?_ | refine zah ?_ _)); refine zcm (cs := #[.string t203, .int .i64 t204, .int .i64 t205, .slice none 0 0]) ?_ 3 _ rfl; (with_reducible repeat (first | refine zag ?_ _ | refine zaj ?_ | refine zah ?_ _)); refine zcm (cs := #[.string t203, .int .i64 t204, .int .i64 0, .slice none 0 0]) ?_ 2 _ rfl; (with_reducible repeat (first | refine zag ?_ _ | refine zaj ?_ | refine zah ?_ _)); refine zcm (cs := #[.string t203, .int .i64 0, .int .i64 0, .slice none 0 0]) ?_ 1 _ rfl; (with_reducible repeat (first | refine zag ?_ _ | refine zaj ?_ | refine zah ?_ _)); refine zcm (cs := #[.string (⟨#[]⟩ : ByteArray), .int .i64 0, .int .i64 0, .slice none 0 0]) ?_ 0 _ rfl; (with_reducible repeat (first | refine zag ?_ _ | refine zaj ?_ | refine zah ?_ _)); exact BK209.out) hb); have n4_ := Aside0.mk (zak (by repeat (first | (with_reducible first | exact HB.out | apply zae | apply zaa | apply zad | refine zaf ?_ GE194.out | refine zaf ?_ GE209.out) | exact HB.out)) hb); clear HO201; clear HO208; clear BK194; clear BK209; clear HB; have HO201 := n0_; have HO208 := n1_; have BK194 := n2_; have BK209 := n3_; have HB := n4_; clear n0_ n1_ n2_ n3_ n4_; (try clear hb); (try clear hb2); (try clear hk); (try clear hi)))
    have n0_ := Aside0.mk (zax HO201.out)
    have n1_ := Aside0.mk (zax HO208.out)
    have n2_ := Aside0.mk (zaj BK194.out)
    have n3_ := Aside0.mk (zaj BK209.out)
    have n4_ := Aside0.mk (zad HB.out)
    clear HO201
    clear HO208
    clear BK194
    clear BK209
    clear HB
    have HO201 := n0_
    have HO208 := n1_
    have BK194 := n2_
    have BK209 := n3_
    have HB := n4_
    clear n0_ n1_ n2_ n3_ n4_
    refine start_ (n := 5) (S := fun w' => w'.cell? ⟨gb209, 0, none⟩ = some (.string t203) ∧ w'.cell? ⟨gb209, 1, none⟩ = some (.int .i64 t204) ∧ w'.cell? ⟨gb209, 2, none⟩ = some (.int .i64 t205) ∧ w'.cell? ⟨gb209, 3, none⟩ = some (.slice Ao41 t206.length co41) ∧ w'.cell? ⟨gb194, 0, none⟩ = some (.string a0_0) ∧ w'.cell? ⟨gb194, 1, none⟩ = some (.int .i64 a0_1) ∧ w'.cell? ⟨gb194, 2, none⟩ = some (.int .i64 a0_2) ∧ w'.cell? ⟨gb194, 3, none⟩ = some (.slice A0_3 l0_3.length c0_3)) (ds := []) #[false, false, false, false, false] (by kernel_rfl) rfl rfl ⟨(zac BK209.out 0).trans rfl, (zac BK209.out 1).trans rfl, (zac BK209.out 2).trans rfl, (zac BK209.out 3).trans rfl, (zac BK194.out 0).trans rfl, (zac BK194.out 1).trans rfl, (zac BK194.out 2).trans rfl, (zac BK194.out 3).trans rfl⟩ (fun hHeld => ?_)
    generalize w42.drew = w43 at HO201 HO208 BK194 BK209 HB hHeld ⊢
    refine take_ (i := 0) (N := some 22) (v := ?_) (a' := ?_) #[true, false, false, false, false] rfl rfl (by kernel_rfl) (fun _ _ _ h => h) (Or.inl ⟨by rfl, ?_⟩) hHeld ?_ ?_
    rotate_left
    ·rintro w' ⟨s0, s1, s2, s3, s4, s5, s6, s7⟩
     go_simp
     with_reducible rfl
    rotate_left
    ·simp only [Act.put, zao, zbc, zbd, i64_w, i32_w]
     rfl
    refine take_ (i := 1) (N := some 23) (v := ?_) (a' := ?_) #[true, true, false, false, false] rfl rfl (by kernel_rfl) (fun _ _ _ h => h) (Or.inl ⟨by rfl, ?_⟩) hHeld ?_ ?_
    rotate_left
    ·rintro w' ⟨s0, s1, s2, s3, s4, s5, s6, s7⟩
     go_simp
     with_reducible rfl
    rotate_left
    ·simp only [Act.put, zao, zbc, zbd, i64_w, i32_w]
     rfl
    refine one_ (i := 2) (N := some 24) #[true, true, true, false, false] rfl rfl (by kernel_rfl) (by decide) (fun K hK => ?_)
    refine goes_ Try.func25 (by kernel_rfl) rfl #[.agg #[.string a0_0, .int .i64 a0_1, .int .i64 a0_2, .slice A0_3 l0_3.length c0_3]] (by rfl) rfl rfl (by (try simp only [zal, zav, zba]); first | done | rfl | (simp only [zay, zaz]; rfl) | (simp only [zay, zaz]; rw [zbu (zce.mpr (zcn (by assumption)))])) ?_
    with_reducible refine (laws_toItem.calls k a0_0 a0_1 a0_2 _ _ l0_3 t211 t212 t213 t214 _ ?side1 ?side2 A26.out).mono ?_
    (case side1 => repeat (first | exact (zbx HR0_3.out HB.out) | (with_reducible refine zbo ?_ _) | (with_reducible refine zbp ?_ _) | (with_reducible refine zbv ?_)))
    (case side2 => exact HC0_3.out)
    rintro e w44 ⟨v215, rfl, ho0, hb⟩
    refine ⟨_, rfl, ?_⟩
    have n0_ := Aside0.mk (zcq (by (with_reducible repeat (first | apply zat | apply zau | apply zax)); exact HO201.out) (zdl ho0) hb)
    have n1_ := Aside0.mk (zcq (by (with_reducible repeat (first | apply zat | apply zau | apply zax)); exact HO208.out) (zdl ho0) hb)
    have n2_ := Aside0.mk (zby (zdm (zdm ho0 (zed (by (with_reducible repeat (first | apply zat | apply zau | apply zax)); exact HO201.out))) (zed (by (with_reducible repeat (first | apply zat | apply zau | apply zax)); exact HO208.out))) (zai (by repeat (first | (with_reducible first | exact HB.out | apply zae | apply zaa | apply zad | refine zaf ?_ GE194.out | refine zaf ?_ GE209.out) | exact HB.out))))
    have n3_ := Aside0.mk (zbb (g := gb194) (o := .cells #[.string a0_0, .int .i64 a0_1, .int .i64 a0_2, .slice A0_3 l0_3.length c0_3] 31 (0, 0)) (by (with_reducible repeat (first | refine zag ?_ _ | refine zaj ?_ | refine zah ?_ _)); exact BK194.out) hb)
    have n4_ := Aside0.mk (zbb (g := gb209) (o := .cells #[.string t203, .int .i64 t204, .int .i64 t205, .slice Ao41 t206.length co41] 34 (0, 0)) (by (with_reducible repeat (first | refine zag ?_ _ | refine zaj ?_ | refine zah ?_ _)); exact BK209.out) hb)
    have n5_ := Aside0.mk (zak (by repeat (first | (with_reducible first | exact HB.out | apply zae | apply zaa | apply zad | refine zaf ?_ GE194.out | refine zaf ?_ GE209.out) | exact HB.out)) hb)
    clear HO201
    clear HO208
    clear BK194
    clear BK209
    clear HB
    have HO201 := n0_
    have HO208 := n1_
    have HO216 := n2_
    have BK194 := n3_
    have BK209 := n4_
    have HB := n5_
    clear n0_ n1_ n2_ n3_ n4_ n5_
    (try clear hb)
    (try clear hb2)
    (try clear hk)
    (try clear hi)
    (try clear ho0)
    obtain ⟨Ao45, co45, eo45⟩ := zcx HO216.out
    (first | subst eo45 | (injection eo45 with f1_ f2_ f3_; have f4_ := f1_.symm; have f5_ := f3_.symm; clear f1_ f2_ f3_; subst f4_; subst f5_))
    refine hK.out _ _ ⟨(zac BK209.out 0).trans rfl, (zac BK209.out 1).trans rfl, (zac BK209.out 2).trans rfl, (zac BK209.out 3).trans rfl, (zac BK194.out 0).trans rfl, (zac BK194.out 1).trans rfl, (zac BK194.out 2).trans rfl, (zac BK194.out 3).trans rfl⟩ (fun hHeld => ?_)
    clear hK K
    refine norm_ (a' := ?_) ?_ ?_
    rotate_left
    ·show Act.put _ (some 24) _ = _
     simp only [Act.put, zao, zbc, zbd, i64_w, i32_w]
     rfl
    refine one_ (i := 3) (N := some 25) #[true, true, true, true, false] rfl rfl (by kernel_rfl) (by decide) (fun K hK => ?_)
    refine goes_ Try.func27 (by kernel_rfl) rfl #[.agg #[.string t203, .int .i64 t204, .int .i64 t205, .slice Ao41 t206.length co41], .agg #[.string t211, .int .i64 t212, .int .i64 t213, .slice Ao45 t214.length co45]] (by rfl) rfl rfl (by (try simp only [zal, zav, zba]); first | done | rfl | (simp only [zay, zaz]; rfl) | (simp only [zay, zaz]; rw [zbu (zce.mpr (zcn (by assumption)))])) ?_
    with_reducible refine (laws_eqItem.calls k t203 t204 t205 _ _ t206 t211 t212 t213 _ _ t214 true _ ?side1 ?side2 ?side3 ?side4 A27.out).mono ?_
    (case side1 => repeat (first | exact (zbt HO208.out).2.2 | (with_reducible refine zbo ?_ _) | (with_reducible refine zbp ?_ _) | (with_reducible refine zbv ?_)))
    (case side2 => exact (zbt HO208.out).2.1)
    (case side3 => repeat (first | exact (zbt HO216.out).2.2 | (with_reducible refine zbo ?_ _) | (with_reducible refine zbp ?_ _) | (with_reducible refine zbv ?_)))
    (case side4 => exact (zbt HO216.out).2.1)
    rintro e w46 ⟨rfl, hb⟩
    refine ⟨_, rfl, ?_⟩
    have n0_ := Aside0.mk (zbw (by (with_reducible repeat (first | apply zat | apply zau | apply zax)); exact HO201.out) hb)
    have n1_ := Aside0.mk (zbw (by (with_reducible repeat (first | apply zat | apply zau | apply zax)); exact HO208.out) hb)
    have n2_ := Aside0.mk (zbw (by (with_reducible repeat (first | apply zat | apply zau | apply zax)); exact HO216.out) hb)
    have n3_ := Aside0.mk (zbb (g := gb194) (o := .cells #[.string a0_0, .int .i64 a0_1, .int .i64 a0_2, .slice A0_3 l0_3.length c0_3] 31 (0, 0)) (by (with_reducible repeat (first | refine zag ?_ _ | refine zaj ?_ | refine zah ?_ _)); exact BK194.out) hb)
    have n4_ := Aside0.mk (zbb (g := gb209) (o := .cells #[.string t203, .int .i64 t204, .int .i64 t205, .slice Ao41 t206.length co41] 34 (0, 0)) (by (with_reducible repeat (first | refine zag ?_ _ | refine zaj ?_ | refine zah ?_ _)); exact BK209.out) hb)
    have n5_ := Aside0.mk (zak (by repeat (first | (with_reducible first | exact HB.out | apply zae | apply zaa | apply zad | refine zaf ?_ GE194.out | refine zaf ?_ GE209.out) | exact HB.out)) hb)
    clear HO201
    clear HO208
    clear HO216
    clear BK194
    clear BK209
    clear HB
    have HO201 := n0_
    have HO208 := n1_
    have HO216 := n2_
    have BK194 := n3_
    have BK209 := n4_
    have HB := n5_
    clear n0_ n1_ n2_ n3_ n4_ n5_
    (try clear hb)
    (try clear hb2)
    (try clear hk)
    (try clear hi)
    refine hK.out _ _ ⟨(zac BK209.out 0).trans rfl, (zac BK209.out 1).trans rfl, (zac BK209.out 2).trans rfl, (zac BK209.out 3).trans rfl, (zac BK194.out 0).trans rfl, (zac BK194.out 1).trans rfl, (zac BK194.out 2).trans rfl, (zac BK194.out 3).trans rfl⟩ (fun hHeld => ?_)
    clear hK K
    refine norm_ (a' := ?_) ?_ ?_
    rotate_left
    ·show Act.put _ (some 25) _ = _
     simp only [Act.put, zao, zbc, zbd, i64_w, i32_w]
     rfl
    refine pure_ (i := 4) (N := some 26) (v := ?_) (a' := ?_) #[true, true, true, true, true] rfl rfl (by kernel_rfl) (fun _ _ _ h => h) (Or.inl ⟨by rfl, ?_⟩) ?_ ?_
    rotate_left
    ·intro w'
     go_simp
     with_reducible rfl
    rotate_left
    ·simp only [Act.put, zao, zbc, zbd, i64_w, i32_w]
     rfl
    refine done_ (by kernel_rfl) ?_
    try go_wp2
    go_ret
    exact ⟨by first | rfl | (simp [zap, zaq] <;> rfl) | (simp [*, zap, zaq] <;> rfl), by repeat (first | (with_reducible first | exact HB.out | apply zae | apply zaa | apply zad | refine zaf ?_ GE194.out | refine zaf ?_ GE209.out) | exact HB.out)⟩
   ·replace c28 := zcf.mpr c28
    subst c28
    have H1 : (some false) = some r := by rw [if_neg (show ¬ (false = true) by decide)] at H; exact H
    clear H
    have H := H1
    clear H1
    obtain rfl := Option.some.inj H
    go_enter Try.func4, Try.ntmps4
    try go_wp2_with (first | ((with_reducible refine zbj (N := 1) rfl ?_); refine zbk ?hg (N := 1) ?hd (cs := #[.string a0_0, .int .i64 a0_1, .int .i64 a0_2, .slice A0_3 l0_3.length c0_3]) (t := 31) ?hr ?_; (case hd => rfl); (case hg => rfl); (case hr => first | (go_simp; done) | (go_simp; rfl)); intro gb194 hg w47 hbox hb; have n0_ := Aside0.mk (zak (by repeat (first | (with_reducible first | exact HB.out | apply zae | apply zaa | apply zad) | exact HB.out)) hb); have n1_ := Aside0.mk (hbox); have n2_ := Aside0.mk ((by rw [hg]; exact (zai (by repeat (first | (with_reducible first | exact HB.out | apply zae | apply zaa | apply zad) | exact HB.out))) : w.heap.size ≤ gb194)); have n3_ := Aside0.mk ((by rw [hg]; exact (zai (by repeat (first | (with_reducible first | exact HB.out | apply zae | apply zaa | apply zad) | exact HB.out))) : w.heap.size ≤ gb194)); clear HB; have HB := n0_; have BK194 := n1_; have GW194 := n2_; have GE194 := n3_; clear n0_ n1_ n2_ n3_; clear hb hbox hg; have hcz48_0 : w47.cell? ⟨gb194, 0, none⟩ = some (.string a0_0) := (zac BK194.out 0).trans rfl; have hcz48_1 : w47.cell? ⟨gb194, 1, none⟩ = some (.int .i64 a0_1) := (zac BK194.out 1).trans rfl; have hcz48_2 : w47.cell? ⟨gb194, 2, none⟩ = some (.int .i64 a0_2) := (zac BK194.out 2).trans rfl; have hcz48_3 : w47.cell? ⟨gb194, 3, none⟩ = some (.slice A0_3 l0_3.length c0_3) := (zac BK194.out 3).trans rfl; have hfz48_0 := zab BK194.out 0; have hfz48_1 := zab BK194.out 1; have hfz48_2 := zab BK194.out 2; have hfz48_3 := zab BK194.out 3) | ((with_reducible refine zbf (f := 23) rfl ?_); refine goesL_ (some 9) rfl rfl Try.func23 (by kernel_rfl) rfl #[.agg #[.string a0_0, .int .i64 a0_1, .int .i64 a0_2, .slice A0_3 l0_3.length c0_3], .int .i64 1048576] rfl (by (try simp only [zal, zav, zba]); first | done | rfl | (simp only [zay, zaz]; rfl) | (simp only [zay, zaz]; rw [zbu (zce.mpr (zcn (by assumption)))])) ?_; (with_reducible refine (laws_szItem.calls a0_0 a0_1 a0_2 _ _ l0_3 1048576 t195 _ ?side1 ?side2 A2.out).mono ?_); (case side1 => repeat (first | exact (zbx HR0_3.out HB.out) | (with_reducible refine zbo ?_ _) | (with_reducible refine zbp ?_ _) | (with_reducible refine zbv ?_))); (case side2 => exact HC0_3.out); rintro e w49 ⟨rfl, hb⟩; refine ⟨_, rfl, ?_⟩; have n0_ := Aside0.mk (zbb (g := gb194) (o := .cells #[.string a0_0, .int .i64 a0_1, .int .i64 a0_2, .slice A0_3 l0_3.length c0_3] 31 (0, 0)) (by (with_reducible repeat (first | refine zag ?_ _ | refine zaj ?_ | refine zah ?_ _)); exact BK194.out) hb); have n1_ := Aside0.mk (zak (by repeat (first | (with_reducible first | exact HB.out | apply zae | apply zaa | apply zad | refine zaf ?_ GE194.out) | exact HB.out)) hb); clear BK194; clear HB; have BK194 := n0_; have HB := n1_; clear n0_ n1_; (try clear hb); (try clear hb2); (try clear hk); (try clear hi); have hcz50_0 : w49.cell? ⟨gb194, 0, none⟩ = some (.string a0_0) := (zac BK194.out 0).trans rfl; have hcz50_1 : w49.cell? ⟨gb194, 1, none⟩ = some (.int .i64 a0_1) := (zac BK194.out 1).trans rfl; have hcz50_2 : w49.cell? ⟨gb194, 2, none⟩ = some (.int .i64 a0_2) := (zac BK194.out 2).trans rfl; have hcz50_3 : w49.cell? ⟨gb194, 3, none⟩ = some (.slice A0_3 l0_3.length c0_3) := (zac BK194.out 3).trans rfl; have hfz50_0 := zab BK194.out 0; have hfz50_1 := zab BK194.out 1; have hfz50_2 := zab BK194.out 2; have hfz50_3 := zab BK194.out 3) | ((with_reducible refine zbf (f := 25) rfl ?_); refine goesL_ (some 13) rfl rfl Try.func25 (by kernel_rfl) rfl #[.agg #[.string a0_0, .int .i64 a0_1, .int .i64 a0_2, .slice A0_3 l0_3.length c0_3]] rfl (by (try simp only [zal, zav, zba]); first | done | rfl | (simp only [zay, zaz]; rfl) | (simp only [zay, zaz]; rw [zbu (zce.mpr (zcn (by assumption)))])) ?_; (with_reducible refine (laws_toItem.calls k a0_0 a0_1 a0_2 _ _ l0_3 t196 t197 t198 t199 _ ?side1 ?side2 A7.out).mono ?_); (case side1 => repeat (first | exact (zbx HR0_3.out HB.out) | (with_reducible refine zbo ?_ _) | (with_reducible refine zbp ?_ _) | (with_reducible refine zbv ?_))); (case side2 => exact HC0_3.out); rintro e w51 ⟨v200, rfl, ho0, hb⟩; refine ⟨_, rfl, ?_⟩; have n0_ := Aside0.mk (zby ho0 (zai (by repeat (first | (with_reducible first | exact HB.out | apply zae | apply zaa | apply zad | refine zaf ?_ GE194.out) | exact HB.out)))); have n1_ := Aside0.mk (zbb (g := gb194) (o := .cells #[.string a0_0, .int .i64 a0_1, .int .i64 a0_2, .slice A0_3 l0_3.length c0_3] 31 (0, 0)) (by (with_reducible repeat (first | refine zag ?_ _ | refine zaj ?_ | refine zah ?_ _)); exact BK194.out) hb); have n2_ := Aside0.mk (zak (by repeat (first | (with_reducible first | exact HB.out | apply zae | apply zaa | apply zad | refine zaf ?_ GE194.out) | exact HB.out)) hb); clear BK194; clear HB; have HO201 := n0_; have BK194 := n1_; have HB := n2_; clear n0_ n1_ n2_; (try clear hb); (try clear hb2); (try clear hk); (try clear hi); (try clear ho0); obtain ⟨Ao52, co52, eo52⟩ := zcx HO201.out; subst eo52) | ((with_reducible refine zbf (f := 24) rfl ?_); refine goesL_ (some 14) rfl rfl Try.func24 (by kernel_rfl) rfl #[.agg #[.string t196, .int .i64 t197, .int .i64 t198, .slice Ao52 t199.length co52]] rfl (by (try simp only [zal, zav, zba]); first | done | rfl | (simp only [zay, zaz]; rfl) | (simp only [zay, zaz]; rw [zbu (zce.mpr (zcn (by assumption)))])) ?_; (with_reducible refine (spec_ItemOk.calls k t196 t197 t198 _ _ t199 t202 _ ?side1 ?side2 A8.out).mono ?_); (case side1 => repeat (first | exact (zbt HO201.out).2.2 | (with_reducible refine zbo ?_ _) | (with_reducible refine zbp ?_ _) | (with_reducible refine zbv ?_))); (case side2 => exact (zbt HO201.out).2.1); rintro e w53 ⟨rfl, hb⟩; refine ⟨_, rfl, ?_⟩; have n0_ := Aside0.mk (zbw (by (with_reducible repeat (first | apply zat | apply zau | apply zax)); exact HO201.out) hb); have n1_ := Aside0.mk (zbb (g := gb194) (o := .cells #[.string a0_0, .int .i64 a0_1, .int .i64 a0_2, .slice A0_3 l0_3.length c0_3] 31 (0, 0)) (by (with_reducible repeat (first | refine zag ?_ _ | refine zaj ?_ | refine zah ?_ _)); exact BK194.out) hb); have n2_ := Aside0.mk (zak (by repeat (first | (with_reducible first | exact HB.out | apply zae | apply zaa | apply zad | refine zaf ?_ GE194.out) | exact HB.out)) hb); clear HO201; clear BK194; clear HB; have HO201 := n0_; have BK194 := n1_; have HB := n2_; clear n0_ n1_ n2_; (try clear hb); (try clear hb2); (try clear hk); (try clear hi); have hcz54_0 : w53.cell? ⟨gb194, 0, none⟩ = some (.string a0_0) := (zac BK194.out 0).trans rfl; have hcz54_1 : w53.cell? ⟨gb194, 1, none⟩ = some (.int .i64 a0_1) := (zac BK194.out 1).trans rfl; have hcz54_2 : w53.cell? ⟨gb194, 2, none⟩ = some (.int .i64 a0_2) := (zac BK194.out 2).trans rfl; have hcz54_3 : w53.cell? ⟨gb194, 3, none⟩ = some (.slice A0_3 l0_3.length c0_3) := (zac BK194.out 3).trans rfl; have hfz54_0 := zab BK194.out 0; have hfz54_1 := zab BK194.out 1; have hfz54_2 := zab BK194.out 2; have hfz54_3 := zab BK194.out 3) | ((with_reducible refine zbf (f := 25) rfl ?_); refine goesL_ (some 16) rfl rfl Try.func25 (by kernel_rfl) rfl #[.agg #[.string a0_0, .int .i64 a0_1, .int .i64 a0_2, .slice A0_3 l0_3.length c0_3]] rfl (by (try simp only [zal, zav, zba]); first | done | rfl | (simp only [zay, zaz]; rfl) | (simp only [zay, zaz]; rw [zbu (zce.mpr (zcn (by assumption)))])) ?_; (with_reducible refine (laws_toItem.calls k a0_0 a0_1 a0_2 _ _ l0_3 t203 t204 t205 t206 _ ?side1 ?side2 A9.out).mono ?_); (case side1 => repeat (first | exact (zbx HR0_3.out HB.out) | (with_reducible refine zbo ?_ _) | (with_reducible refine zbp ?_ _) | (with_reducible refine zbv ?_))); (case side2 => exact HC0_3.out); rintro e w55 ⟨v207, rfl, ho0, hb⟩; refine ⟨_, rfl, ?_⟩; have n0_ := Aside0.mk (zcq (by (with_reducible repeat (first | apply zat | apply zau | apply zax)); exact HO201.out) (zdl ho0) hb); have n1_ := Aside0.mk (zby (zdm ho0 (zed (by (with_reducible repeat (first | apply zat | apply zau | apply zax)); exact HO201.out))) (zai (by repeat (first | (with_reducible first | exact HB.out | apply zae | apply zaa | apply zad | refine zaf ?_ GE194.out) | exact HB.out)))); have n2_ := Aside0.mk (zbb (g := gb194) (o := .cells #[.string a0_0, .int .i64 a0_1, .int .i64 a0_2, .slice A0_3 l0_3.length c0_3] 31 (0, 0)) (by (with_reducible repeat (first | refine zag ?_ _ | refine zaj ?_ | refine zah ?_ _)); exact BK194.out) hb); have n3_ := Aside0.mk (zak (by repeat (first | (with_reducible first | exact HB.out | apply zae | apply zaa | apply zad | refine zaf ?_ GE194.out) | exact HB.out)) hb); clear HO201; clear BK194; clear HB; have HO201 := n0_; have HO208 := n1_; have BK194 := n2_; have HB := n3_; clear n0_ n1_ n2_ n3_; (try clear hb); (try clear hb2); (try clear hk); (try clear hi); (try clear ho0)) | ((with_reducible refine zbj (N := 5) rfl ?_); refine zbk ?hg (N := 5) ?hd (cs := #[.string (⟨#[]⟩ : ByteArray), .int .i64 0, .int .i64 0, .slice none 0 0]) (t := 34) ?hr ?_; (case hd => rfl); (case hg => rfl); (case hr => first | (go_simp; done) | (go_simp; rfl)); intro gb209 hg w56 hbox hb; have n0_ := Aside0.mk (zbw (by (with_reducible repeat (first | apply zat | apply zau | apply zax)); exact HO201.out) hb); have n1_ := Aside0.mk (zbw (by (with_reducible repeat (first | apply zat | apply zau | apply zax)); exact HO208.out) hb); have n2_ := Aside0.mk (zbb (g := gb194) (o := .cells #[.string a0_0, .int .i64 a0_1, .int .i64 a0_2, .slice A0_3 l0_3.length c0_3] 31 (0, 0)) (by (with_reducible repeat (first | refine zag ?_ _ | refine zaj ?_ | refine zah ?_ _)); exact BK194.out) hb); have n3_ := Aside0.mk (zak (by repeat (first | (with_reducible first | exact HB.out | apply zae | apply zaa | apply zad | refine zaf ?_ GE194.out) | exact HB.out)) hb); have n4_ := Aside0.mk (hbox); have n5_ := Aside0.mk ((by rw [hg]; exact (zai (by repeat (first | (with_reducible first | exact HB.out | apply zae | apply zaa | apply zad | refine zaf ?_ GE194.out) | exact HB.out))) : w.heap.size ≤ gb209)); have n6_ := Aside0.mk ((by rw [hg]; exact (zai (by repeat (first | (with_reducible first | exact HB.out | apply zae | apply zaa | apply zad | refine zaf ?_ GE194.out) | exact HB.out))) : w.heap.size ≤ gb209)); have n7_ := Aside0.mk ((by rw [hg]; exact zch (blk_lt (g := gb194) (o := .cells #[.string a0_0, .int .i64 a0_1, .int .i64 a0_2, .slice A0_3 l0_3.length c0_3] 31 (0, 0)) (by (with_reducible repeat (first | refine zag ?_ _ | refine zaj ?_ | refine zah ?_ _)); exact BK194.out)) : gb194 ≠ gb209)); have n8_ := Aside0.mk ((by rw [hg]; exact zci (blk_lt (g := gb194) (o := .cells #[.string a0_0, .int .i64 a0_1, .int .i64 a0_2, .slice A0_3 l0_3.length c0_3] 31 (0, 0)) (by (with_reducible repeat (first | refine zag ?_ _ | refine zaj ?_ | refine zah ?_ _)); exact BK194.out)) : gb209 ≠ gb194)); clear HO201; clear HO208; clear BK194; clear HB; have HO201 := n0_; have HO208 := n1_; have BK194 := n2_; have HB := n3_; have BK209 := n4_; have GW209 := n5_; have GE209 := n6_; have NB194_209 := n7_; have NB209_194 := n8_; clear n0_ n1_ n2_ n3_ n4_ n5_ n6_ n7_ n8_; clear hb hbox hg; have hnb57 := NB209_194.out; have hnc57 := NB194_209.out; have hcz58_0 : w56.cell? ⟨gb209, 0, none⟩ = some (.string (⟨#[]⟩ : ByteArray)) := (zac BK209.out 0).trans rfl; have hcz58_1 : w56.cell? ⟨gb209, 1, none⟩ = some (.int .i64 0) := (zac BK209.out 1).trans rfl; have hcz58_2 : w56.cell? ⟨gb209, 2, none⟩ = some (.int .i64 0) := (zac BK209.out 2).trans rfl; have hcz58_3 : w56.cell? ⟨gb209, 3, none⟩ = some (.slice none 0 0) := (zac BK209.out 3).trans rfl; have hfz58_0 := zab BK209.out 0; have hfz58_1 := zab BK209.out 1; have hfz58_2 := zab BK209.out 2; have hfz58_3 := zab BK209.out 3; obtain ⟨Ao59, co59, eo59⟩ := zcx HO208.out; subst eo59) | ((with_reducible refine zbf (f := 26) rfl ?_); refine goesL_ (some 18) rfl rfl Try.func26 (by kernel_rfl) rfl #[.agg #[.string t203, .int .i64 t204, .int .i64 t205, .slice Ao59 t206.length co59]] rfl (by (try simp only [zal, zav, zba]); first | done | rfl | (simp only [zay, zaz]; rfl) | (simp only [zay, zaz]; rw [zbu (zce.mpr (zcn (by assumption)))])) ?_; (with_reducible refine (impl_ItemOk.calls k t203 t204 t205 _ _ t206 t210 _ ?side1 ?side2 A10.out).mono ?_); (case side1 => refine (zbt (e := 5) (base := w.heap.size) (ok := fun k_ => (True ∧ some k_ ≠ (.slice Ao52 t199.length co52 : Value).ownBlock)) (n := t206.length) (c := co59) ?_).2.2; exact (by (with_reducible repeat (first | apply zat | apply zau | apply zax)); exact (zdc (zbi (p := ⟨gb209, 3, none⟩) (zbi (p := ⟨gb209, 2, none⟩) (zbi (p := ⟨gb209, 1, none⟩) (zbi (p := ⟨gb209, 0, none⟩) (zdb HO208.out BK209.out (by decide)) (fun _ hk => hk.2) (.string t203)) (fun _ hk => hk.2) (.int .i64 t204)) (fun _ hk => hk.2) (.int .i64 t205)) (fun _ hk => hk.2) (.slice Ao59 t206.length co59)) (fun _ h_ => h_.1)))); (case side2 => exact (zbt HO208.out).2.1); rintro e w60 ⟨rfl, hb⟩; refine ⟨_, rfl, ?_⟩; have n0_ := Aside0.mk (zbw (by (with_reducible repeat (first | apply zat | apply zau | apply zax)); exact (zdc (zbi (p := ⟨gb209, 3, none⟩) (zbi (p := ⟨gb209, 2, none⟩) (zbi (p := ⟨gb209, 1, none⟩) (zbi (p := ⟨gb209, 0, none⟩) (zdb HO201.out BK209.out (by decide)) (fun _ hk => hk.2) (.string t203)) (fun _ hk => hk.2) (.int .i64 t204)) (fun _ hk => hk.2) (.int .i64 t205)) (fun _ hk => hk.2) (.slice Ao59 t206.length co59)) (fun _ h_ => h_.1))) hb); have n1_ := Aside0.mk (zbw (by (with_reducible repeat (first | apply zat | apply zau | apply zax)); exact (zdc (zbi (p := ⟨gb209, 3, none⟩) (zbi (p := ⟨gb209, 2, none⟩) (zbi (p := ⟨gb209, 1, none⟩) (zbi (p := ⟨gb209, 0, none⟩) (zdb HO208.out BK209.out (by decide)) (fun _ hk => hk.2) (.string t203)) (fun _ hk => hk.2) (.int .i64 t204)) (fun _ hk => hk.2) (.int .i64 t205)) (fun _ hk => hk.2) (.slice Ao59 t206.length co59)) (fun _ h_ => h_.1))) hb); have n2_ := Aside0.mk (zbb (g := gb194) (o := .cells #[.string a0_0, .int .i64 a0_1, .int .i64 a0_2, .slice A0_3 l0_3.length c0_3] 31 (0, 0)) (by (with_reducible repeat (first | refine zag ?_ _ | refine zaj ?_ | refine zah ?_ _)); refine zda ?_ NB194_209.out _; (with_reducible repeat (first | refine zag ?_ _ | refine zaj ?_ | refine zah ?_ _)); refine zda ?_ NB194_209.out _; (with_reducible repeat (first | refine zag ?_ _ | refine zaj ?_ | refine zah ?_ _)); refine zda ?_ NB194_209.out _; (with_reducible repeat (first | refine zag ?_ _ | refine zaj ?_ | refine zah ?_ _)); refine zda ?_ NB194_209.out _; (with_reducible repeat (first | refine zag ?_ _ | refine zaj ?_ | refine zah ?_ _)); exact BK194.out) hb); have n3_ := Aside0.mk (zbb (g := gb209) (o := .cells #[.string t203, .int .i64 t204, .int .i64 t205, .slice Ao59 t206.length co59] 34 (0, 0)) (by (with_reducible repeat (first | refine zag ?_ _ | refine zaj ?_ | refine zah ?_ _)); refine zcm (cs := #[.string t203, .int .i64 t204, .int .i64 t205, .slice none 0 0]) ?_ 3 _ rfl; (with_reducible repeat (first | refine zag ?_ _ | refine zaj ?_ | refine zah ?_ _)); refine zcm (cs := #[.string t203, .int .i64 t204, .int .i64 0, .slice none 0 0]) ?_ 2 _ rfl; (with_reducible repeat (first | refine zag ?_ _ | refine zaj ?_ | refine zah ?_ _)); refine zcm (cs := #[.string t203, .int .i64 0, .int .i64 0, .slice none 0 0]) ?_ 1 _ rfl; (with_reducible repeat (first | refine zag ?_ _ | refine zaj ?_ | refine zah ?_ _)); refine zcm (cs := #[.string (⟨#[]⟩ : ByteArray), .int .i64 0, .int .i64 0, .slice none 0 0]) ?_ 0 _ rfl; (with_reducible repeat (first | refine zag ?_ _ | refine zaj ?_ | refine zah ?_ _)); exact BK209.out) hb); have n4_ := Aside0.mk (zak (by repeat (first | (with_reducible first | exact HB.out | apply zae | apply zaa | apply zad | refine zaf ?_ GE194.out | refine zaf ?_ GE209.out) | exact HB.out)) hb); clear HO201; clear HO208; clear BK194; clear BK209; clear HB; have HO201 := n0_; have HO208 := n1_; have BK194 := n2_; have BK209 := n3_; have HB := n4_; clear n0_ n1_ n2_ n3_ n4_; (try clear hb); (try clear hb2); (try clear hk); (try clear hi)))
    have n0_ := Aside0.mk (zax HO201.out)
    have n1_ := Aside0.mk (zax HO208.out)
    have n2_ := Aside0.mk (zaj BK194.out)
    have n3_ := Aside0.mk (zaj BK209.out)
    have n4_ := Aside0.mk (zad HB.out)
    clear HO201
    clear HO208
    clear BK194
    clear BK209
    clear HB
    have HO201 := n0_
    have HO208 := n1_
    have BK194 := n2_
    have BK209 := n3_
    have HB := n4_
    clear n0_ n1_ n2_ n3_ n4_
    refine start_ (n := 5) (S := fun w' => w'.cell? ⟨gb209, 0, none⟩ = some (.string t203) ∧ w'.cell? ⟨gb209, 1, none⟩ = some (.int .i64 t204) ∧ w'.cell? ⟨gb209, 2, none⟩ = some (.int .i64 t205) ∧ w'.cell? ⟨gb209, 3, none⟩ = some (.slice Ao59 t206.length co59) ∧ w'.cell? ⟨gb194, 0, none⟩ = some (.string a0_0) ∧ w'.cell? ⟨gb194, 1, none⟩ = some (.int .i64 a0_1) ∧ w'.cell? ⟨gb194, 2, none⟩ = some (.int .i64 a0_2) ∧ w'.cell? ⟨gb194, 3, none⟩ = some (.slice A0_3 l0_3.length c0_3)) (ds := []) #[false, false, false, false, false] (by kernel_rfl) rfl rfl ⟨(zac BK209.out 0).trans rfl, (zac BK209.out 1).trans rfl, (zac BK209.out 2).trans rfl, (zac BK209.out 3).trans rfl, (zac BK194.out 0).trans rfl, (zac BK194.out 1).trans rfl, (zac BK194.out 2).trans rfl, (zac BK194.out 3).trans rfl⟩ (fun hHeld => ?_)
    generalize w60.drew = w61 at HO201 HO208 BK194 BK209 HB hHeld ⊢
    refine take_ (i := 0) (N := some 22) (v := ?_) (a' := ?_) #[true, false, false, false, false] rfl rfl (by kernel_rfl) (fun _ _ _ h => h) (Or.inl ⟨by rfl, ?_⟩) hHeld ?_ ?_
    rotate_left
    ·rintro w' ⟨s0, s1, s2, s3, s4, s5, s6, s7⟩
     go_simp
     with_reducible rfl
    rotate_left
    ·simp only [Act.put, zao, zbc, zbd, i64_w, i32_w]
     rfl
    refine take_ (i := 1) (N := some 23) (v := ?_) (a' := ?_) #[true, true, false, false, false] rfl rfl (by kernel_rfl) (fun _ _ _ h => h) (Or.inl ⟨by rfl, ?_⟩) hHeld ?_ ?_
    rotate_left
    ·rintro w' ⟨s0, s1, s2, s3, s4, s5, s6, s7⟩
     go_simp
     with_reducible rfl
    rotate_left
    ·simp only [Act.put, zao, zbc, zbd, i64_w, i32_w]
     rfl
    refine one_ (i := 2) (N := some 24) #[true, true, true, false, false] rfl rfl (by kernel_rfl) (by decide) (fun K hK => ?_)
    refine goes_ Try.func25 (by kernel_rfl) rfl #[.agg #[.string a0_0, .int .i64 a0_1, .int .i64 a0_2, .slice A0_3 l0_3.length c0_3]] (by rfl) rfl rfl (by (try simp only [zal, zav, zba]); first | done | rfl | (simp only [zay, zaz]; rfl) | (simp only [zay, zaz]; rw [zbu (zce.mpr (zcn (by assumption)))])) ?_
    with_reducible refine (laws_toItem.calls k a0_0 a0_1 a0_2 _ _ l0_3 t211 t212 t213 t214 _ ?side1 ?side2 A26.out).mono ?_
    (case side1 => repeat (first | exact (zbx HR0_3.out HB.out) | (with_reducible refine zbo ?_ _) | (with_reducible refine zbp ?_ _) | (with_reducible refine zbv ?_)))
    (case side2 => exact HC0_3.out)
    rintro e w62 ⟨v215, rfl, ho0, hb⟩
    refine ⟨_, rfl, ?_⟩
    have n0_ := Aside0.mk (zcq (by (with_reducible repeat (first | apply zat | apply zau | apply zax)); exact HO201.out) (zdl ho0) hb)
    have n1_ := Aside0.mk (zcq (by (with_reducible repeat (first | apply zat | apply zau | apply zax)); exact HO208.out) (zdl ho0) hb)
    have n2_ := Aside0.mk (zby (zdm (zdm ho0 (zed (by (with_reducible repeat (first | apply zat | apply zau | apply zax)); exact HO201.out))) (zed (by (with_reducible repeat (first | apply zat | apply zau | apply zax)); exact HO208.out))) (zai (by repeat (first | (with_reducible first | exact HB.out | apply zae | apply zaa | apply zad | refine zaf ?_ GE194.out | refine zaf ?_ GE209.out) | exact HB.out))))
    have n3_ := Aside0.mk (zbb (g := gb194) (o := .cells #[.string a0_0, .int .i64 a0_1, .int .i64 a0_2, .slice A0_3 l0_3.length c0_3] 31 (0, 0)) (by (with_reducible repeat (first | refine zag ?_ _ | refine zaj ?_ | refine zah ?_ _)); exact BK194.out) hb)
    have n4_ := Aside0.mk (zbb (g := gb209) (o := .cells #[.string t203, .int .i64 t204, .int .i64 t205, .slice Ao59 t206.length co59] 34 (0, 0)) (by (with_reducible repeat (first | refine zag ?_ _ | refine zaj ?_ | refine zah ?_ _)); exact BK209.out) hb)
    have n5_ := Aside0.mk (zak (by repeat (first | (with_reducible first | exact HB.out | apply zae | apply zaa | apply zad | refine zaf ?_ GE194.out | refine zaf ?_ GE209.out) | exact HB.out)) hb)
    clear HO201
    clear HO208
    clear BK194
    clear BK209
    clear HB
    have HO201 := n0_
    have HO208 := n1_
    have HO216 := n2_
    have BK194 := n3_
    have BK209 := n4_
    have HB := n5_
    clear n0_ n1_ n2_ n3_ n4_ n5_
    (try clear hb)
    (try clear hb2)
    (try clear hk)
    (try clear hi)
    (try clear ho0)
    obtain ⟨Ao63, co63, eo63⟩ := zcx HO216.out
    (first | subst eo63 | (injection eo63 with f1_ f2_ f3_; have f4_ := f1_.symm; have f5_ := f3_.symm; clear f1_ f2_ f3_; subst f4_; subst f5_))
    refine hK.out _ _ ⟨(zac BK209.out 0).trans rfl, (zac BK209.out 1).trans rfl, (zac BK209.out 2).trans rfl, (zac BK209.out 3).trans rfl, (zac BK194.out 0).trans rfl, (zac BK194.out 1).trans rfl, (zac BK194.out 2).trans rfl, (zac BK194.out 3).trans rfl⟩ (fun hHeld => ?_)
    clear hK K
    refine norm_ (a' := ?_) ?_ ?_
    rotate_left
    ·show Act.put _ (some 24) _ = _
     simp only [Act.put, zao, zbc, zbd, i64_w, i32_w]
     rfl
    refine one_ (i := 3) (N := some 25) #[true, true, true, true, false] rfl rfl (by kernel_rfl) (by decide) (fun K hK => ?_)
    refine goes_ Try.func27 (by kernel_rfl) rfl #[.agg #[.string t203, .int .i64 t204, .int .i64 t205, .slice Ao59 t206.length co59], .agg #[.string t211, .int .i64 t212, .int .i64 t213, .slice Ao63 t214.length co63]] (by rfl) rfl rfl (by (try simp only [zal, zav, zba]); first | done | rfl | (simp only [zay, zaz]; rfl) | (simp only [zay, zaz]; rw [zbu (zce.mpr (zcn (by assumption)))])) ?_
    with_reducible refine (laws_eqItem.calls k t203 t204 t205 _ _ t206 t211 t212 t213 _ _ t214 false _ ?side1 ?side2 ?side3 ?side4 A27.out).mono ?_
    (case side1 => repeat (first | exact (zbt HO208.out).2.2 | (with_reducible refine zbo ?_ _) | (with_reducible refine zbp ?_ _) | (with_reducible refine zbv ?_)))
    (case side2 => exact (zbt HO208.out).2.1)
    (case side3 => repeat (first | exact (zbt HO216.out).2.2 | (with_reducible refine zbo ?_ _) | (with_reducible refine zbp ?_ _) | (with_reducible refine zbv ?_)))
    (case side4 => exact (zbt HO216.out).2.1)
    rintro e w64 ⟨rfl, hb⟩
    refine ⟨_, rfl, ?_⟩
    have n0_ := Aside0.mk (zbw (by (with_reducible repeat (first | apply zat | apply zau | apply zax)); exact HO201.out) hb)
    have n1_ := Aside0.mk (zbw (by (with_reducible repeat (first | apply zat | apply zau | apply zax)); exact HO208.out) hb)
    have n2_ := Aside0.mk (zbw (by (with_reducible repeat (first | apply zat | apply zau | apply zax)); exact HO216.out) hb)
    have n3_ := Aside0.mk (zbb (g := gb194) (o := .cells #[.string a0_0, .int .i64 a0_1, .int .i64 a0_2, .slice A0_3 l0_3.length c0_3] 31 (0, 0)) (by (with_reducible repeat (first | refine zag ?_ _ | refine zaj ?_ | refine zah ?_ _)); exact BK194.out) hb)
    have n4_ := Aside0.mk (zbb (g := gb209) (o := .cells #[.string t203, .int .i64 t204, .int .i64 t205, .slice Ao59 t206.length co59] 34 (0, 0)) (by (with_reducible repeat (first | refine zag ?_ _ | refine zaj ?_ | refine zah ?_ _)); exact BK209.out) hb)
    have n5_ := Aside0.mk (zak (by repeat (first | (with_reducible first | exact HB.out | apply zae | apply zaa | apply zad | refine zaf ?_ GE194.out | refine zaf ?_ GE209.out) | exact HB.out)) hb)
    clear HO201
    clear HO208
    clear HO216
    clear BK194
    clear BK209
    clear HB
    have HO201 := n0_
    have HO208 := n1_
    have HO216 := n2_
    have BK194 := n3_
    have BK209 := n4_
    have HB := n5_
    clear n0_ n1_ n2_ n3_ n4_ n5_
    (try clear hb)
    (try clear hb2)
    (try clear hk)
    (try clear hi)
    refine hK.out _ _ ⟨(zac BK209.out 0).trans rfl, (zac BK209.out 1).trans rfl, (zac BK209.out 2).trans rfl, (zac BK209.out 3).trans rfl, (zac BK194.out 0).trans rfl, (zac BK194.out 1).trans rfl, (zac BK194.out 2).trans rfl, (zac BK194.out 3).trans rfl⟩ (fun hHeld => ?_)
    clear hK K
    refine norm_ (a' := ?_) ?_ ?_
    rotate_left
    ·show Act.put _ (some 25) _ = _
     simp only [Act.put, zao, zbc, zbd, i64_w, i32_w]
     rfl
    refine pure_ (i := 4) (N := some 26) (v := ?_) (a' := ?_) #[true, true, true, true, true] rfl rfl (by kernel_rfl) (fun _ _ _ h => h) (Or.inl ⟨by rfl, ?_⟩) ?_ ?_
    rotate_left
    ·intro w'
     go_simp
     with_reducible rfl
    rotate_left
    ·simp only [Act.put, zao, zbc, zbd, i64_w, i32_w]
     rfl
    refine done_ (by kernel_rfl) ?_
    try go_wp2
    go_ret
    exact ⟨by first | rfl | (simp [zap, zaq] <;> rfl) | (simp [*, zap, zaq] <;> rfl), by repeat (first | (with_reducible first | exact HB.out | apply zae | apply zaa | apply zad | refine zaf ?_ GE194.out | refine zaf ?_ GE209.out) | exact HB.out)⟩
end Go.Proofs.Ytlalkldjpniakaa.P
-- Written by a program of this session (wip/drive.py) over the kit's print.
namespace Go.Proofs.Ytlalkldjpniakaa.P
open Go.RowKit Go.Proofs.YtlalkldjpniakaaW.PrintWords
def good31 (x : S31) : Prop := x.f0.size ≤ maxLen ∧ (Lit.int .i64 x.f1).wf = true ∧ (Lit.int .i64 x.f2).wf = true ∧ (x.f3.length ≤ maxLen ∧ ∀ y_ ∈ x.f3, (Lit.int .u8 y_).wf = true)
/-- The one pure statement of laws_FnExactItemOk. -/
def laws_FnExactItemOk.Pure : Prop := ∀ (a0_0 : ByteArray) (a0_1 : Int) (a0_2 : Int) (l0_3 : List Int), a0_0.size ≤ maxLen → (Lit.int .i64 a0_1).wf = true → (Lit.int .i64 a0_2).wf = true → (l0_3.length ≤ maxLen ∧ ∀ y_ ∈ l0_3, (Lit.int .u8 y_).wf = true) → ∃ k, laws_FnExactItemOk.f k a0_0 a0_1 a0_2 l0_3 = some true
end Go.Proofs.Ytlalkldjpniakaa.P
/- FnExactItemOk: of every item both answers are one, and nothing of it is changed. -/
namespace Go.Proofs.Ytlalkldjpniakaa.Pure
open Go.RowKit Go.Proofs.Ytlalkldjpniakaa.P Go.Proofs.Ytlalkldjpniakaa.B Go.Proofs.YtlalkldjpniakaaW.PrintWords Go.Proofs.YtlalkldjpniakaaW.PrintLast Go.Proofs.YtlalkldjpniakaaW.PrintMore
theorem FnExactItemOk : laws_FnExactItemOk.Pure := by
  intro s n m l hs _ _ hl
  refine ⟨2999999, ?_⟩
  unfold laws_FnExactItemOk.f
  rcases szItem1 s n m l hs hl.1 with h | ⟨r, h, hr, h1, h2⟩
  · rw [h, Option.bind_some, if_pos (by omega)]
  · obtain ⟨b, hb⟩ := itemOk s n m l (by omega)
    rw [h, Option.bind_some, if_neg hr]
    simp only [toItem1 s n m l h2 2999999 (by omega), (hb 2999999 (by omega)).1, (hb 2999999 (by omega)).2, eqItem1 s n m l h2 2999999 (by omega), Option.bind_some, bne_self_eq_false, if_true]
    rfl
end Go.Proofs.Ytlalkldjpniakaa.Pure
