import Derived.Test.Ytlalkldjpniakaalo44
namespace Go.Proofs.Ytlalkldjpniakaa.P
open Go.RowKit Go.Proofs.YtlalkldjpniakaaW.PrintWords Go.Proofs.YtlalkldjpniakaaW.PrintLast Go.Proofs.YtlalkldjpniakaaW.PrintMore
attribute [local go_sem] zdk zdl zeh zei zcz zda zdm zdn   -- for this text's walks alone
set_option linter.unusedVariables false
set_option linter.unusedSimpArgs false

def laws_szLine.f (a0_0 : Int) (a0_1 : ByteArray) (a0_2 : Int) (a0_3 : Int) (l0_4 : List Int) (a1 : Int) : Option (Int) := if (wrap64 (a1 - (a0_1.size : Int))) < 0 then (some (-1)) else ((laws_szByteS.f l0_4 (wrap64 (a1 - (a0_1.size : Int)))).bind fun t268 => (if t268 < 0 then (some (-1)) else (some t268)))
set_option maxHeartbeats 8000000 in
set_option maxRecDepth 100000 in
theorem laws_szLine.calls (a0_0 : Int) (a0_1 : ByteArray) (a0_2 : Int) (a0_3 : Int) (A0_4 : Option Addr) (c0_4 : Nat) (l0_4 : List Int) (a1 : Int) (r : Int) (w : World) (hr0_4 : Kd.C (Kd.int .u8) w A0_4 l0_4.length l0_4) (hc0_4 : l0_4.length ≤ c0_4) (h : laws_szLine.f a0_0 a0_1 a0_2 a0_3 l0_4 a1 = some r) :
  Calls Try.prog 33 #[.agg #[.int .i64 a0_0, .string a0_1, .int .i64 a0_2, .int .i64 a0_3, .slice A0_4 l0_4.length c0_4], .int .i64 a1] w fun e w' => e = .returned (.int .i64 r) ∧ Below w.heap.size w w' := by
 have hu45 := Try.underlying45
 have HR0_4 := Aside0.mk hr0_4
 have HC0_4 := Aside0.mk hc0_4
 clear hr0_4 hc0_4
 have HB := Aside0.mk (zbz w.heap.size w)
 have H : (if (wrap64 (a1 - (a0_1.size : Int))) < 0 then (some (-1)) else ((laws_szByteS.f l0_4 (wrap64 (a1 - (a0_1.size : Int)))).bind fun t268 => (if t268 < 0 then (some (-1)) else (some t268)))) = some r := h
 clear h
 by_cases c3 : (wrap64 (a1 - (a0_1.size : Int))) < 0
 ·rw [if_pos c3] at H
  have c3b0 : decide ((wrap64 (a1 - (a0_1.size : Int))) < 0) = true := zay c3
  clear c3
  obtain rfl := Option.some.inj H
  go_enter Try.func33, Try.ntmps33
  go_wp2_with (first | ((with_reducible refine zbu (N := 2) rfl ?_); refine zcb ?hg (N := 2) ?hd (cs := #[.int .i64 a0_0, .string a0_1, .int .i64 a0_2, .int .i64 a0_3, .slice A0_4 l0_4.length c0_4]) (t := 45) ?hr ?_; (case hd => rfl); (case hg => rfl); (case hr => first | (go_simp; done) | (go_simp; rfl)); intro gb267 hg w4 hbox hb; have xb_ := below_ofs (by repeat (first | (with_reducible first | exact HB.out | apply zad | apply zaa | apply zac) | exact HB.out)) hb; have n0_ := Aside0.mk (zat xb_ hb); have n1_ := Aside0.mk (hbox); have n2_ := Aside0.mk ((by rw [hg]; exact (zan xb_) : w.heap.size ≤ gb267)); have n3_ := Aside0.mk ((by rw [hg]; exact (zan xb_) : w.heap.size ≤ gb267)); clear HB; have HB := n0_; have BK267 := n1_; have GW267 := n2_; have GE267 := n3_; clear n0_ n1_ n2_ n3_; clear xb_ hb hbox hg; have hcz5_0 : w4.cell? ⟨gb267, 0, none⟩ = some (.int .i64 a0_0) := (zaf BK267.out 0).trans rfl; have hcz5_1 : w4.cell? ⟨gb267, 1, none⟩ = some (.string a0_1) := (zaf BK267.out 1).trans rfl; have hcz5_2 : w4.cell? ⟨gb267, 2, none⟩ = some (.int .i64 a0_2) := (zaf BK267.out 2).trans rfl; have hcz5_3 : w4.cell? ⟨gb267, 3, none⟩ = some (.int .i64 a0_3) := (zaf BK267.out 3).trans rfl; have hcz5_4 : w4.cell? ⟨gb267, 4, none⟩ = some (.slice A0_4 l0_4.length c0_4) := (zaf BK267.out 4).trans rfl; have hfz5_0 := zab BK267.out 0; have hfz5_1 := zab BK267.out 1; have hfz5_2 := zab BK267.out 2; have hfz5_3 := zab BK267.out 3; have hfz5_4 := zab BK267.out 4))
  go_ret
  exact ⟨by first | rfl | (simp [zaz, zba] <;> rfl) | (simp [*, zaz, zba] <;> rfl), by repeat (first | (with_reducible first | exact HB.out | apply zad | apply zaa | apply zac | refine zal ?_ GE267.out) | exact HB.out)⟩
 ·rw [if_neg c3] at H
  have c3b0 : decide ((wrap64 (a1 - (a0_1.size : Int))) < 0) = false := zbv c3
  clear c3
  replace H := zaq.mp H
  obtain ⟨t268, A60, H⟩ := H
  try dsimp only at H
  have A6 := Aside0.mk A60
  clear A60
  by_cases c7 : t268 < 0
  ·rw [if_pos c7] at H
   have c7b0 : decide (t268 < 0) = true := zay c7
   clear c7
   obtain rfl := Option.some.inj H
   go_enter Try.func33, Try.ntmps33
   go_wp2_with (first | ((with_reducible refine zbu (N := 2) rfl ?_); refine zcb ?hg (N := 2) ?hd (cs := #[.int .i64 a0_0, .string a0_1, .int .i64 a0_2, .int .i64 a0_3, .slice A0_4 l0_4.length c0_4]) (t := 45) ?hr ?_; (case hd => rfl); (case hg => rfl); (case hr => first | (go_simp; done) | (go_simp; rfl)); intro gb267 hg w8 hbox hb; have xb_ := below_ofs (by repeat (first | (with_reducible first | exact HB.out | apply zad | apply zaa | apply zac) | exact HB.out)) hb; have n0_ := Aside0.mk (zat xb_ hb); have n1_ := Aside0.mk (hbox); have n2_ := Aside0.mk ((by rw [hg]; exact (zan xb_) : w.heap.size ≤ gb267)); have n3_ := Aside0.mk ((by rw [hg]; exact (zan xb_) : w.heap.size ≤ gb267)); clear HB; have HB := n0_; have BK267 := n1_; have GW267 := n2_; have GE267 := n3_; clear n0_ n1_ n2_ n3_; clear xb_ hb hbox hg; have hcz9_0 : w8.cell? ⟨gb267, 0, none⟩ = some (.int .i64 a0_0) := (zaf BK267.out 0).trans rfl; have hcz9_1 : w8.cell? ⟨gb267, 1, none⟩ = some (.string a0_1) := (zaf BK267.out 1).trans rfl; have hcz9_2 : w8.cell? ⟨gb267, 2, none⟩ = some (.int .i64 a0_2) := (zaf BK267.out 2).trans rfl; have hcz9_3 : w8.cell? ⟨gb267, 3, none⟩ = some (.int .i64 a0_3) := (zaf BK267.out 3).trans rfl; have hcz9_4 : w8.cell? ⟨gb267, 4, none⟩ = some (.slice A0_4 l0_4.length c0_4) := (zaf BK267.out 4).trans rfl; have hfz9_0 := zab BK267.out 0; have hfz9_1 := zab BK267.out 1; have hfz9_2 := zab BK267.out 2; have hfz9_3 := zab BK267.out 3; have hfz9_4 := zab BK267.out 4) | ((with_reducible refine zbl (f := 87) rfl ?_); refine goesL_ (some 15) rfl rfl Try.func87 (by kernel_rfl) rfl #[.slice A0_4 l0_4.length c0_4, .int .i64 (wrap64 (a1 - (a0_1.size : Int)))] rfl (by (try simp only [zav, zbd, zbh]); first | done | rfl) ?_; (with_reducible refine (laws_szByteS.calls _ _ l0_4 (wrap64 (a1 - (a0_1.size : Int))) t268 _ ?side1 ?side2 A6.out).mono ?_); (case side1 => repeat (first | exact (zbk HR0_4.out HB.out) | (with_reducible first | apply zcl | apply zcm | apply zcu))); (case side2 => exact HC0_4.out); rintro e w' ⟨rfl, ⟨nd, rfl⟩⟩; refine ⟨_, rfl, ?_⟩))
   go_ret
   exact ⟨by first | rfl | (simp [zaz, zba] <;> rfl) | (simp [*, zaz, zba] <;> rfl), by repeat (first | (with_reducible first | exact HB.out | apply zad | apply zaa | apply zac | refine zal ?_ GE267.out) | exact HB.out)⟩
  ·rw [if_neg c7] at H
   have c7b0 : decide (t268 < 0) = false := zbv c7
   clear c7
   obtain rfl := Option.some.inj H
   go_enter Try.func33, Try.ntmps33
   go_wp2_with (first | ((with_reducible refine zbu (N := 2) rfl ?_); refine zcb ?hg (N := 2) ?hd (cs := #[.int .i64 a0_0, .string a0_1, .int .i64 a0_2, .int .i64 a0_3, .slice A0_4 l0_4.length c0_4]) (t := 45) ?hr ?_; (case hd => rfl); (case hg => rfl); (case hr => first | (go_simp; done) | (go_simp; rfl)); intro gb267 hg w10 hbox hb; have xb_ := below_ofs (by repeat (first | (with_reducible first | exact HB.out | apply zad | apply zaa | apply zac) | exact HB.out)) hb; have n0_ := Aside0.mk (zat xb_ hb); have n1_ := Aside0.mk (hbox); have n2_ := Aside0.mk ((by rw [hg]; exact (zan xb_) : w.heap.size ≤ gb267)); have n3_ := Aside0.mk ((by rw [hg]; exact (zan xb_) : w.heap.size ≤ gb267)); clear HB; have HB := n0_; have BK267 := n1_; have GW267 := n2_; have GE267 := n3_; clear n0_ n1_ n2_ n3_; clear xb_ hb hbox hg; have hcz11_0 : w10.cell? ⟨gb267, 0, none⟩ = some (.int .i64 a0_0) := (zaf BK267.out 0).trans rfl; have hcz11_1 : w10.cell? ⟨gb267, 1, none⟩ = some (.string a0_1) := (zaf BK267.out 1).trans rfl; have hcz11_2 : w10.cell? ⟨gb267, 2, none⟩ = some (.int .i64 a0_2) := (zaf BK267.out 2).trans rfl; have hcz11_3 : w10.cell? ⟨gb267, 3, none⟩ = some (.int .i64 a0_3) := (zaf BK267.out 3).trans rfl; have hcz11_4 : w10.cell? ⟨gb267, 4, none⟩ = some (.slice A0_4 l0_4.length c0_4) := (zaf BK267.out 4).trans rfl; have hfz11_0 := zab BK267.out 0; have hfz11_1 := zab BK267.out 1; have hfz11_2 := zab BK267.out 2; have hfz11_3 := zab BK267.out 3; have hfz11_4 := zab BK267.out 4) | ((with_reducible refine zbl (f := 87) rfl ?_); refine goesL_ (some 15) rfl rfl Try.func87 (by kernel_rfl) rfl #[.slice A0_4 l0_4.length c0_4, .int .i64 (wrap64 (a1 - (a0_1.size : Int)))] rfl (by (try simp only [zav, zbd, zbh]); first | done | rfl) ?_; (with_reducible refine (laws_szByteS.calls _ _ l0_4 (wrap64 (a1 - (a0_1.size : Int))) t268 _ ?side1 ?side2 A6.out).mono ?_); (case side1 => repeat (first | exact (zbk HR0_4.out HB.out) | (with_reducible first | apply zcl | apply zcm | apply zcu))); (case side2 => exact HC0_4.out); rintro e w' ⟨rfl, ⟨nd, rfl⟩⟩; refine ⟨_, rfl, ?_⟩))
   go_ret
   exact ⟨by first | rfl | (simp [zaz, zba] <;> rfl) | (simp [*, zaz, zba] <;> rfl), by repeat (first | (with_reducible first | exact HB.out | apply zad | apply zaa | apply zac | refine zal ?_ GE267.out) | exact HB.out)⟩
end Go.Proofs.Ytlalkldjpniakaa.P
