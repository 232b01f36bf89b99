import Derived.Test.Ytlalkldjpniakaai5
namespace Go.Proofs.Ytlalkldjpniakaa.P
open Go.RowKit Go.Proofs.YtlalkldjpniakaaW.PrintWords Go.Proofs.YtlalkldjpniakaaW.PrintLast Go.Proofs.YtlalkldjpniakaaW.PrintMore
attribute [local go_sem] zdg zdh zdw zdx zcy zcz zdi zdj   -- for this text's walks alone
set_option linter.unusedVariables false
set_option linter.unusedSimpArgs false

def laws_szLine.f (a0_0 : Int) (a0_1 : ByteArray) (a0_2 : Int) (a0_3 : Int) (l0_4 : List Int) (a1 : Int) : Option (Int) := if (wrap64 (a1 - (a0_1.size : Int))) < 0 then (some (-1)) else ((laws_szByteS.f l0_4 (wrap64 (a1 - (a0_1.size : Int)))).bind fun t260 => (if t260 < 0 then (some (-1)) else (some t260)))
set_option maxHeartbeats 8000000 in
set_option maxRecDepth 100000 in
theorem laws_szLine.calls (a0_0 : Int) (a0_1 : ByteArray) (a0_2 : Int) (a0_3 : Int) (A0_4 : Option Addr) (c0_4 : Nat) (l0_4 : List Int) (a1 : Int) (r : Int) (w : World) (hr0_4 : Kd.C (Kd.int .u8) w A0_4 l0_4.length l0_4) (hc0_4 : l0_4.length ≤ c0_4) (h : laws_szLine.f a0_0 a0_1 a0_2 a0_3 l0_4 a1 = some r) :
  Calls Try.prog 33 #[.agg #[.int .i64 a0_0, .string a0_1, .int .i64 a0_2, .int .i64 a0_3, .slice A0_4 l0_4.length c0_4], .int .i64 a1] w fun e w' => e = .returned (.int .i64 r) ∧ Below w.heap.size w w' := by
 have hu45 := Try.underlying45
 have HR0_4 := Aside0.mk hr0_4
 have HC0_4 := Aside0.mk hc0_4
 clear hr0_4 hc0_4
 have HB := Aside0.mk (zcb w.heap.size w)
 have H : (if (wrap64 (a1 - (a0_1.size : Int))) < 0 then (some (-1)) else ((laws_szByteS.f l0_4 (wrap64 (a1 - (a0_1.size : Int)))).bind fun t260 => (if t260 < 0 then (some (-1)) else (some t260)))) = some r := h
 clear h
 by_cases c3 : (wrap64 (a1 - (a0_1.size : Int))) < 0
 ·rw [if_pos c3] at H
  have c3b0 : decide ((wrap64 (a1 - (a0_1.size : Int))) < 0) = true := zbq c3
  clear c3
  obtain rfl := Option.some.inj H
  go_enter Try.func33, Try.ntmps33
  go_wp2_with (first | ((with_reducible refine zbj (N := 2) rfl ?_); refine zbk ?hg (N := 2) ?hd (cs := #[.int .i64 a0_0, .string a0_1, .int .i64 a0_2, .int .i64 a0_3, .slice A0_4 l0_4.length c0_4]) (t := 45) ?hr ?_; (case hd => rfl); (case hg => rfl); (case hr => first | (go_simp; done) | (go_simp; rfl)); intro gb259 hg w4 hbox hb; have xb_ := below_ofs (by repeat (first | (with_reducible first | exact HB.out | apply zae | apply zaa | apply zad) | exact HB.out)) hb; have n0_ := Aside0.mk (zak xb_ hb); have n1_ := Aside0.mk (hbox); have n2_ := Aside0.mk ((by rw [hg]; exact (zai xb_) : w.heap.size ≤ gb259)); have n3_ := Aside0.mk ((by rw [hg]; exact (zai xb_) : w.heap.size ≤ gb259)); clear HB; have HB := n0_; have BK259 := n1_; have GW259 := n2_; have GE259 := n3_; clear n0_ n1_ n2_ n3_; clear xb_ hb hbox hg; have hcz5_0 : w4.cell? ⟨gb259, 0, none⟩ = some (.int .i64 a0_0) := (zac BK259.out 0).trans rfl; have hcz5_1 : w4.cell? ⟨gb259, 1, none⟩ = some (.string a0_1) := (zac BK259.out 1).trans rfl; have hcz5_2 : w4.cell? ⟨gb259, 2, none⟩ = some (.int .i64 a0_2) := (zac BK259.out 2).trans rfl; have hcz5_3 : w4.cell? ⟨gb259, 3, none⟩ = some (.int .i64 a0_3) := (zac BK259.out 3).trans rfl; have hcz5_4 : w4.cell? ⟨gb259, 4, none⟩ = some (.slice A0_4 l0_4.length c0_4) := (zac BK259.out 4).trans rfl; have hfz5_0 := zab BK259.out 0; have hfz5_1 := zab BK259.out 1; have hfz5_2 := zab BK259.out 2; have hfz5_3 := zab BK259.out 3; have hfz5_4 := zab BK259.out 4))
  go_ret
  exact ⟨by first | rfl | (simp [zap, zaq] <;> rfl) | (simp [*, zap, zaq] <;> rfl), by repeat (first | (with_reducible first | exact HB.out | apply zae | apply zaa | apply zad | refine zaf ?_ GE259.out) | exact HB.out)⟩
 ·rw [if_neg c3] at H
  have c3b0 : decide ((wrap64 (a1 - (a0_1.size : Int))) < 0) = false := zcd c3
  clear c3
  replace H := zas.mp H
  obtain ⟨t260, A60, H⟩ := H
  try dsimp only at H
  have A6 := Aside0.mk A60
  clear A60
  by_cases c7 : t260 < 0
  ·rw [if_pos c7] at H
   have c7b0 : decide (t260 < 0) = true := zbq c7
   clear c7
   obtain rfl := Option.some.inj H
   go_enter Try.func33, Try.ntmps33
   go_wp2_with (first | ((with_reducible refine zbj (N := 2) rfl ?_); refine zbk ?hg (N := 2) ?hd (cs := #[.int .i64 a0_0, .string a0_1, .int .i64 a0_2, .int .i64 a0_3, .slice A0_4 l0_4.length c0_4]) (t := 45) ?hr ?_; (case hd => rfl); (case hg => rfl); (case hr => first | (go_simp; done) | (go_simp; rfl)); intro gb259 hg w8 hbox hb; have xb_ := below_ofs (by repeat (first | (with_reducible first | exact HB.out | apply zae | apply zaa | apply zad) | exact HB.out)) hb; have n0_ := Aside0.mk (zak xb_ hb); have n1_ := Aside0.mk (hbox); have n2_ := Aside0.mk ((by rw [hg]; exact (zai xb_) : w.heap.size ≤ gb259)); have n3_ := Aside0.mk ((by rw [hg]; exact (zai xb_) : w.heap.size ≤ gb259)); clear HB; have HB := n0_; have BK259 := n1_; have GW259 := n2_; have GE259 := n3_; clear n0_ n1_ n2_ n3_; clear xb_ hb hbox hg; have hcz9_0 : w8.cell? ⟨gb259, 0, none⟩ = some (.int .i64 a0_0) := (zac BK259.out 0).trans rfl; have hcz9_1 : w8.cell? ⟨gb259, 1, none⟩ = some (.string a0_1) := (zac BK259.out 1).trans rfl; have hcz9_2 : w8.cell? ⟨gb259, 2, none⟩ = some (.int .i64 a0_2) := (zac BK259.out 2).trans rfl; have hcz9_3 : w8.cell? ⟨gb259, 3, none⟩ = some (.int .i64 a0_3) := (zac BK259.out 3).trans rfl; have hcz9_4 : w8.cell? ⟨gb259, 4, none⟩ = some (.slice A0_4 l0_4.length c0_4) := (zac BK259.out 4).trans rfl; have hfz9_0 := zab BK259.out 0; have hfz9_1 := zab BK259.out 1; have hfz9_2 := zab BK259.out 2; have hfz9_3 := zab BK259.out 3; have hfz9_4 := zab BK259.out 4) | ((with_reducible refine zbf (f := 87) rfl ?_); refine goesL_ (some 15) rfl rfl Try.func87 (by kernel_rfl) rfl #[.slice A0_4 l0_4.length c0_4, .int .i64 (wrap64 (a1 - (a0_1.size : Int)))] rfl (by (try simp only [zal, zav, zba]); first | done | rfl) ?_; (with_reducible refine (laws_szByteS.calls _ _ l0_4 (wrap64 (a1 - (a0_1.size : Int))) t260 _ ?side1 ?side2 A6.out).mono ?_); (case side1 => repeat (first | exact (zbx HR0_4.out HB.out) | (with_reducible first | apply zbo | apply zbp | apply zbv))); (case side2 => exact HC0_4.out); rintro e w' ⟨rfl, ⟨nd, rfl⟩⟩; refine ⟨_, rfl, ?_⟩))
   go_ret
   exact ⟨by first | rfl | (simp [zap, zaq] <;> rfl) | (simp [*, zap, zaq] <;> rfl), by repeat (first | (with_reducible first | exact HB.out | apply zae | apply zaa | apply zad | refine zaf ?_ GE259.out) | exact HB.out)⟩
  ·rw [if_neg c7] at H
   have c7b0 : decide (t260 < 0) = false := zcd c7
   clear c7
   obtain rfl := Option.some.inj H
   go_enter Try.func33, Try.ntmps33
   go_wp2_with (first | ((with_reducible refine zbj (N := 2) rfl ?_); refine zbk ?hg (N := 2) ?hd (cs := #[.int .i64 a0_0, .string a0_1, .int .i64 a0_2, .int .i64 a0_3, .slice A0_4 l0_4.length c0_4]) (t := 45) ?hr ?_; (case hd => rfl); (case hg => rfl); (case hr => first | (go_simp; done) | (go_simp; rfl)); intro gb259 hg w10 hbox hb; have xb_ := below_ofs (by repeat (first | (with_reducible first | exact HB.out | apply zae | apply zaa | apply zad) | exact HB.out)) hb; have n0_ := Aside0.mk (zak xb_ hb); have n1_ := Aside0.mk (hbox); have n2_ := Aside0.mk ((by rw [hg]; exact (zai xb_) : w.heap.size ≤ gb259)); have n3_ := Aside0.mk ((by rw [hg]; exact (zai xb_) : w.heap.size ≤ gb259)); clear HB; have HB := n0_; have BK259 := n1_; have GW259 := n2_; have GE259 := n3_; clear n0_ n1_ n2_ n3_; clear xb_ hb hbox hg; have hcz11_0 : w10.cell? ⟨gb259, 0, none⟩ = some (.int .i64 a0_0) := (zac BK259.out 0).trans rfl; have hcz11_1 : w10.cell? ⟨gb259, 1, none⟩ = some (.string a0_1) := (zac BK259.out 1).trans rfl; have hcz11_2 : w10.cell? ⟨gb259, 2, none⟩ = some (.int .i64 a0_2) := (zac BK259.out 2).trans rfl; have hcz11_3 : w10.cell? ⟨gb259, 3, none⟩ = some (.int .i64 a0_3) := (zac BK259.out 3).trans rfl; have hcz11_4 : w10.cell? ⟨gb259, 4, none⟩ = some (.slice A0_4 l0_4.length c0_4) := (zac BK259.out 4).trans rfl; have hfz11_0 := zab BK259.out 0; have hfz11_1 := zab BK259.out 1; have hfz11_2 := zab BK259.out 2; have hfz11_3 := zab BK259.out 3; have hfz11_4 := zab BK259.out 4) | ((with_reducible refine zbf (f := 87) rfl ?_); refine goesL_ (some 15) rfl rfl Try.func87 (by kernel_rfl) rfl #[.slice A0_4 l0_4.length c0_4, .int .i64 (wrap64 (a1 - (a0_1.size : Int)))] rfl (by (try simp only [zal, zav, zba]); first | done | rfl) ?_; (with_reducible refine (laws_szByteS.calls _ _ l0_4 (wrap64 (a1 - (a0_1.size : Int))) t260 _ ?side1 ?side2 A6.out).mono ?_); (case side1 => repeat (first | exact (zbx HR0_4.out HB.out) | (with_reducible first | apply zbo | apply zbp | apply zbv))); (case side2 => exact HC0_4.out); rintro e w' ⟨rfl, ⟨nd, rfl⟩⟩; refine ⟨_, rfl, ?_⟩))
   go_ret
   exact ⟨by first | rfl | (simp [zap, zaq] <;> rfl) | (simp [*, zap, zaq] <;> rfl), by repeat (first | (with_reducible first | exact HB.out | apply zae | apply zaa | apply zad | refine zaf ?_ GE259.out) | exact HB.out)⟩
end Go.Proofs.Ytlalkldjpniakaa.P
