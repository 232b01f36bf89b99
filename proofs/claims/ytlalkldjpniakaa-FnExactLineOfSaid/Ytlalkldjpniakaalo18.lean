import Derived.Test.Ytlalkldjpniakaalo16
import Derived.Test.Ytlalkldjpniakaalo17
namespace Go.Proofs.Ytlalkldjpniakaa.P
open Go.RowKit Go.Proofs.YtlalkldjpniakaaW.PrintWords Go.Proofs.YtlalkldjpniakaaW.PrintLast Go.Proofs.YtlalkldjpniakaaW.PrintMore
attribute [local go_sem] zdk zdl zeh zei zcz zda zdm zdn   -- for this text's walks alone
set_option linter.unusedVariables false
set_option linter.unusedSimpArgs false

def spec_LineOk.f (k : Nat) (a0_0 : Int) (a0_1 : ByteArray) (a0_2 : Int) (a0_3 : Int) (l0_4 : List Int) : Option (Bool) := if a0_0 = 1 then ((spec_l14Item.f a0_0 a0_1 a0_2 a0_3 l0_4).bind fun bt278 => ((spec_ItemOk.f k bt278.1 bt278.2.1 bt278.2.2.1 bt278.2.2.2).bind fun t284 => (some t284))) else (if a0_0 = 2 then ((spec_l13Route.f k a0_1).bind fun t285 => (if t285 = true then (if a0_2 = 0 then (if a0_3 = 0 then (some ((l0_4.length : Int) == 0)) else (some false)) else (some false)) else (some false))) else (if a0_0 = 3 then (if a0_1.toList = ([] : List UInt8) then (if a0_2 = 0 then ((spec_l1In.f a0_3 0 100000).bind fun t286 => (if t286 = true then (some ((l0_4.length : Int) == 0)) else (some false))) else (some false)) else (some false)) else (some false)))
theorem spec_LineOk.mono : ∀ a0 a1 a2 a3 a4 k, LeO (spec_LineOk.f k a0 a1 a2 a3 a4) (spec_LineOk.f (k + 1) a0 a1 a2 a3 a4) := by
 intro a0 a1 a2 a3 a4 k
 unfold spec_LineOk.f
 repeat' first
   | (with_reducible exact spec_ItemOk.mono _ _ _ _ _)
   | (with_reducible exact spec_l13Route.mono _ _)
   | (with_reducible exact zdd _)
   | (with_reducible exact zde _)
   | (with_reducible refine zdx ?_ ?_)
   | (with_reducible refine zdf ?_ (fun _ => ?_))
set_option maxHeartbeats 8000000 in
set_option maxRecDepth 100000 in
theorem spec_LineOk.calls (k : Nat) (a0_0 : Int) (a0_1 : ByteArray) (a0_2 : Int) (a0_3 : Int) (A0_4 : Option Addr) (c0_4 : Nat) (l0_4 : List Int) (r : Bool) (w : World) (hr0_4 : Kd.C (Kd.int .u8) w A0_4 l0_4.length l0_4) (hc0_4 : l0_4.length ≤ c0_4) (h : spec_LineOk.f k a0_0 a0_1 a0_2 a0_3 l0_4 = some r) :
  Calls Try.prog 34 #[.agg #[.int .i64 a0_0, .string a0_1, .int .i64 a0_2, .int .i64 a0_3, .slice A0_4 l0_4.length c0_4]] w fun e w' => e = .returned (.bool r) ∧ Below w.heap.size w w' := by
 have hu48 := Try.underlying48
 have HR0_4 := Aside0.mk hr0_4
 have HC0_4 := Aside0.mk hc0_4
 clear hr0_4 hc0_4
 have HB := Aside0.mk (zbz w.heap.size w)
 have H : (if a0_0 = 1 then ((spec_l14Item.f a0_0 a0_1 a0_2 a0_3 l0_4).bind fun bt278 => ((spec_ItemOk.f k bt278.1 bt278.2.1 bt278.2.2.1 bt278.2.2.2).bind fun t284 => (some t284))) else (if a0_0 = 2 then ((spec_l13Route.f k a0_1).bind fun t285 => (if t285 = true then (if a0_2 = 0 then (if a0_3 = 0 then (some ((l0_4.length : Int) == 0)) else (some false)) else (some false)) else (some false))) else (if a0_0 = 3 then (if a0_1.toList = ([] : List UInt8) then (if a0_2 = 0 then ((spec_l1In.f a0_3 0 100000).bind fun t286 => (if t286 = true then (some ((l0_4.length : Int) == 0)) else (some false))) else (some false)) else (some false)) else (some false)))) = some r := h
 clear h
 by_cases c2 : a0_0 = 1
 ·rw [if_pos c2] at H
  have c2b0 : (a0_0 == 1) = true := zdp.mpr c2
  have c2b1 : (a0_0 != 1) = false := zby.mpr c2
  clear c2
  replace H := zaq.mp H
  obtain ⟨⟨t278, t279, t280, t281⟩, A30, H⟩ := H
  try dsimp only at H
  have A3 := Aside0.mk A30
  clear A30
  replace H := zaq.mp H
  obtain ⟨t284, A40, H⟩ := H
  try dsimp only at H
  have A4 := Aside0.mk A40
  clear A40
  obtain rfl := Option.some.inj H
  go_enter Try.func34, Try.ntmps34
  go_wp2_with (first | ((with_reducible refine zbu (N := 1) rfl ?_); (try (refine zec (by rfl) ?_; dsimp only)); refine zcb ?hg (N := 1) ?hd (cs := #[.int .i64 a0_0, .string a0_1, .int .i64 a0_2, .int .i64 a0_3, .slice A0_4 l0_4.length c0_4]) (t := 48) ?hr ?_; (case hd => rfl); (case hg => rfl); (case hr => first | (go_simp; done) | (go_simp; rfl)); intro gb277 hg w5 hbox hb; have xb_ := below_ofs (by repeat (first | (with_reducible first | exact HB.out | apply zad | apply zaa | apply zac) | exact HB.out)) hb; have n0_ := Aside0.mk (zat xb_ hb); have n1_ := Aside0.mk (hbox); have n2_ := Aside0.mk ((by rw [hg]; exact (zan xb_) : w.heap.size ≤ gb277)); have n3_ := Aside0.mk ((by rw [hg]; exact (zan xb_) : w.heap.size ≤ gb277)); clear HB; have HB := n0_; have BK277 := n1_; have GW277 := n2_; have GE277 := n3_; clear n0_ n1_ n2_ n3_; clear xb_ hb hbox hg; have hcz6_0 : w5.cell? ⟨gb277, 0, none⟩ = some (.int .i64 a0_0) := (zaf BK277.out 0).trans rfl; have hcz6_1 : w5.cell? ⟨gb277, 1, none⟩ = some (.string a0_1) := (zaf BK277.out 1).trans rfl; have hcz6_2 : w5.cell? ⟨gb277, 2, none⟩ = some (.int .i64 a0_2) := (zaf BK277.out 2).trans rfl; have hcz6_3 : w5.cell? ⟨gb277, 3, none⟩ = some (.int .i64 a0_3) := (zaf BK277.out 3).trans rfl; have hcz6_4 : w5.cell? ⟨gb277, 4, none⟩ = some (.slice A0_4 l0_4.length c0_4) := (zaf BK277.out 4).trans rfl; have hfz6_0 := zab BK277.out 0; have hfz6_1 := zab BK277.out 1; have hfz6_2 := zab BK277.out 2; have hfz6_3 := zab BK277.out 3; have hfz6_4 := zab BK277.out 4) | ((with_reducible refine zbl (f := 92) rfl ?_); refine goesL_ (some 8) rfl rfl Try.func92 (by kernel_rfl) rfl #[.agg #[.int .i64 a0_0, .string a0_1, .int .i64 a0_2, .int .i64 a0_3, .slice A0_4 l0_4.length c0_4]] rfl (by (try simp only [zav, zbd, zbh]); first | done | rfl) ?_; (with_reducible refine (spec_l14Item.calls a0_0 a0_1 a0_2 a0_3 _ _ l0_4 t278 t279 t280 t281 _ ?side1 ?side2 A3.out).mono ?_); (case side1 => repeat (first | exact (zbk HR0_4.out HB.out) | (with_reducible first | apply zcl | apply zcm | apply zcu))); (case side2 => exact HC0_4.out); rintro e w7 ⟨v282, rfl, ho0, hb⟩; refine ⟨_, rfl, ?_⟩; have n0_ := Aside0.mk (zca ho0 (zan (by repeat (first | (with_reducible first | exact HB.out | apply zad | apply zaa | apply zac | refine zal ?_ GE277.out) | exact HB.out)))); have n1_ := Aside0.mk (zbq (g := gb277) (o := .cells #[.int .i64 a0_0, .string a0_1, .int .i64 a0_2, .int .i64 a0_3, .slice A0_4 l0_4.length c0_4] 48 (0, 0)) (by (with_reducible repeat (first | refine zar ?_ _ | refine zaw ?_ | refine zas ?_ _)); exact BK277.out) hb); have n2_ := Aside0.mk (zat (by repeat (first | (with_reducible first | exact HB.out | apply zad | apply zaa | apply zac | refine zal ?_ GE277.out) | exact HB.out)) hb); clear BK277 HB; have HO283 := n0_; have BK277 := n1_; have HB := n2_; clear n0_ n1_ n2_; clear hb ho0; obtain ⟨Ao8, co8, eo8⟩ := zcy HO283.out; subst eo8) | ((with_reducible refine zbl (f := 24) rfl ?_); refine goesL_ (some 9) rfl rfl Try.func24 (by kernel_rfl) rfl #[.agg #[.string t278, .int .i64 t279, .int .i64 t280, .slice Ao8 t281.length co8]] rfl (by (try simp only [zav, zbd, zbh]); first | done | rfl) ?_; (with_reducible refine (spec_ItemOk.calls k t278 t279 t280 _ _ t281 t284 _ ?side1 ?side2 A4.out).mono ?_); (case side1 => repeat (first | exact (zbt HO283.out).2.2 | (with_reducible first | apply zcl | apply zcm | apply zcu))); (case side2 => exact (zbt HO283.out).2.1); rintro e w9 ⟨rfl, hb⟩; refine ⟨_, rfl, ?_⟩; have n0_ := Aside0.mk (zcx (by (with_reducible repeat (first | apply zai | apply zaj | apply zam)); exact HO283.out) hb); have n1_ := Aside0.mk (zbq (g := gb277) (o := .cells #[.int .i64 a0_0, .string a0_1, .int .i64 a0_2, .int .i64 a0_3, .slice A0_4 l0_4.length c0_4] 48 (0, 0)) (by (with_reducible repeat (first | refine zar ?_ _ | refine zaw ?_ | refine zas ?_ _)); exact BK277.out) hb); have n2_ := Aside0.mk (zat (by repeat (first | (with_reducible first | exact HB.out | apply zad | apply zaa | apply zac | refine zal ?_ GE277.out) | exact HB.out)) hb); clear HO283 BK277 HB; have HO283 := n0_; have BK277 := n1_; have HB := n2_; clear n0_ n1_ n2_; (try clear hb); (try clear hb2); (try clear hk); (try clear hi)))
  go_ret
  exact ⟨by first | rfl | (simp [zaz, zba] <;> rfl) | (simp [*, zaz, zba] <;> rfl), by repeat (first | (with_reducible first | exact HB.out | apply zad | apply zaa | apply zac | refine zal ?_ GE277.out) | exact HB.out)⟩
 ·rw [if_neg c2] at H
  have c2b0 : (a0_0 == 1) = false := zbx.mpr c2
  have c2b1 : (a0_0 != 1) = true := zeb.mpr c2
  by_cases c10 : a0_0 = 2
  ·rw [if_pos c10] at H
   have c10b0 : (a0_0 == 2) = true := zdp.mpr c10
   have c10b1 : (a0_0 != 2) = false := zby.mpr c10
   clear c10
   replace H := zaq.mp H
   obtain ⟨t285, A110, H⟩ := H
   try dsimp only at H
   have A11 := Aside0.mk A110
   clear A110
   by_cases c12 : t285 = true
   ·subst c12
    have H1 : (if a0_2 = 0 then (if a0_3 = 0 then (some ((l0_4.length : Int) == 0)) else (some false)) else (some false)) = some r := by rw [if_pos rfl] at H; exact H
    clear H
    have H := H1
    clear H1
    by_cases c13 : a0_2 = 0
    ·rw [if_pos c13] at H
     have c13b0 : (a0_2 == 0) = true := zdp.mpr c13
     have c13b1 : (a0_2 != 0) = false := zby.mpr c13
     clear c13
     by_cases c14 : a0_3 = 0
     ·rw [if_pos c14] at H
      have c14b0 : (a0_3 == 0) = true := zdp.mpr c14
      have c14b1 : (a0_3 != 0) = false := zby.mpr c14
      clear c14
      obtain rfl := Option.some.inj H
      go_enter Try.func34, Try.ntmps34
      go_wp2_with (first | ((with_reducible refine zbu (N := 1) rfl ?_); (try (refine zec (by rfl) ?_; dsimp only)); refine zcb ?hg (N := 1) ?hd (cs := #[.int .i64 a0_0, .string a0_1, .int .i64 a0_2, .int .i64 a0_3, .slice A0_4 l0_4.length c0_4]) (t := 48) ?hr ?_; (case hd => rfl); (case hg => rfl); (case hr => first | (go_simp; done) | (go_simp; rfl)); intro gb277 hg w15 hbox hb; have xb_ := below_ofs (by repeat (first | (with_reducible first | exact HB.out | apply zad | apply zaa | apply zac) | exact HB.out)) hb; have n0_ := Aside0.mk (zat xb_ hb); have n1_ := Aside0.mk (hbox); have n2_ := Aside0.mk ((by rw [hg]; exact (zan xb_) : w.heap.size ≤ gb277)); have n3_ := Aside0.mk ((by rw [hg]; exact (zan xb_) : w.heap.size ≤ gb277)); clear HB; have HB := n0_; have BK277 := n1_; have GW277 := n2_; have GE277 := n3_; clear n0_ n1_ n2_ n3_; clear xb_ hb hbox hg; have hcz16_0 : w15.cell? ⟨gb277, 0, none⟩ = some (.int .i64 a0_0) := (zaf BK277.out 0).trans rfl; have hcz16_1 : w15.cell? ⟨gb277, 1, none⟩ = some (.string a0_1) := (zaf BK277.out 1).trans rfl; have hcz16_2 : w15.cell? ⟨gb277, 2, none⟩ = some (.int .i64 a0_2) := (zaf BK277.out 2).trans rfl; have hcz16_3 : w15.cell? ⟨gb277, 3, none⟩ = some (.int .i64 a0_3) := (zaf BK277.out 3).trans rfl; have hcz16_4 : w15.cell? ⟨gb277, 4, none⟩ = some (.slice A0_4 l0_4.length c0_4) := (zaf BK277.out 4).trans rfl; have hfz16_0 := zab BK277.out 0; have hfz16_1 := zab BK277.out 1; have hfz16_2 := zab BK277.out 2; have hfz16_3 := zab BK277.out 3; have hfz16_4 := zab BK277.out 4) | ((with_reducible refine zbl (f := 88) rfl ?_); refine goesL_ (some 14) rfl rfl Try.func88 (by kernel_rfl) rfl #[.string a0_1] rfl (by (try simp only [zav, zbd, zbh]); first | done | rfl) ?_; (with_reducible refine (spec_l13Route.calls k a0_1 true _ A11.out).mono ?_); rintro e w17 ⟨rfl, hb⟩; refine ⟨_, rfl, ?_⟩; have n0_ := Aside0.mk (zbq (g := gb277) (o := .cells #[.int .i64 a0_0, .string a0_1, .int .i64 a0_2, .int .i64 a0_3, .slice A0_4 l0_4.length c0_4] 48 (0, 0)) (by (with_reducible repeat (first | refine zar ?_ _ | refine zaw ?_ | refine zas ?_ _)); exact BK277.out) hb); have n1_ := Aside0.mk (zat (by repeat (first | (with_reducible first | exact HB.out | apply zad | apply zaa | apply zac | refine zal ?_ GE277.out) | exact HB.out)) hb); clear BK277 HB; have BK277 := n0_; have HB := n1_; clear n0_ n1_; (try clear hb); (try clear hb2); (try clear hk); (try clear hi); have hcz18_0 : w17.cell? ⟨gb277, 0, none⟩ = some (.int .i64 a0_0) := (zaf BK277.out 0).trans rfl; have hcz18_1 : w17.cell? ⟨gb277, 1, none⟩ = some (.string a0_1) := (zaf BK277.out 1).trans rfl; have hcz18_2 : w17.cell? ⟨gb277, 2, none⟩ = some (.int .i64 a0_2) := (zaf BK277.out 2).trans rfl; have hcz18_3 : w17.cell? ⟨gb277, 3, none⟩ = some (.int .i64 a0_3) := (zaf BK277.out 3).trans rfl; have hcz18_4 : w17.cell? ⟨gb277, 4, none⟩ = some (.slice A0_4 l0_4.length c0_4) := (zaf BK277.out 4).trans rfl; have hfz18_0 := zab BK277.out 0; have hfz18_1 := zab BK277.out 1; have hfz18_2 := zab BK277.out 2; have hfz18_3 := zab BK277.out 3; have hfz18_4 := zab BK277.out 4))
      go_ret
      exact ⟨by first | rfl | (simp [zaz, zba] <;> rfl) | (simp [*, zaz, zba] <;> rfl), by repeat (first | (with_reducible first | exact HB.out | apply zad | apply zaa | apply zac | refine zal ?_ GE277.out) | exact HB.out)⟩
     ·rw [if_neg c14] at H
      have c14b0 : (a0_3 == 0) = false := zbx.mpr c14
      have c14b1 : (a0_3 != 0) = true := zeb.mpr c14
      obtain rfl := Option.some.inj H
      go_enter Try.func34, Try.ntmps34
      go_wp2_with (first | ((with_reducible refine zbu (N := 1) rfl ?_); (try (refine zec (by rfl) ?_; dsimp only)); refine zcb ?hg (N := 1) ?hd (cs := #[.int .i64 a0_0, .string a0_1, .int .i64 a0_2, .int .i64 a0_3, .slice A0_4 l0_4.length c0_4]) (t := 48) ?hr ?_; (case hd => rfl); (case hg => rfl); (case hr => first | (go_simp; done) | (go_simp; rfl)); intro gb277 hg w19 hbox hb; have xb_ := below_ofs (by repeat (first | (with_reducible first | exact HB.out | apply zad | apply zaa | apply zac) | exact HB.out)) hb; have n0_ := Aside0.mk (zat xb_ hb); have n1_ := Aside0.mk (hbox); have n2_ := Aside0.mk ((by rw [hg]; exact (zan xb_) : w.heap.size ≤ gb277)); have n3_ := Aside0.mk ((by rw [hg]; exact (zan xb_) : w.heap.size ≤ gb277)); clear HB; have HB := n0_; have BK277 := n1_; have GW277 := n2_; have GE277 := n3_; clear n0_ n1_ n2_ n3_; clear xb_ hb hbox hg; have hcz20_0 : w19.cell? ⟨gb277, 0, none⟩ = some (.int .i64 a0_0) := (zaf BK277.out 0).trans rfl; have hcz20_1 : w19.cell? ⟨gb277, 1, none⟩ = some (.string a0_1) := (zaf BK277.out 1).trans rfl; have hcz20_2 : w19.cell? ⟨gb277, 2, none⟩ = some (.int .i64 a0_2) := (zaf BK277.out 2).trans rfl; have hcz20_3 : w19.cell? ⟨gb277, 3, none⟩ = some (.int .i64 a0_3) := (zaf BK277.out 3).trans rfl; have hcz20_4 : w19.cell? ⟨gb277, 4, none⟩ = some (.slice A0_4 l0_4.length c0_4) := (zaf BK277.out 4).trans rfl; have hfz20_0 := zab BK277.out 0; have hfz20_1 := zab BK277.out 1; have hfz20_2 := zab BK277.out 2; have hfz20_3 := zab BK277.out 3; have hfz20_4 := zab BK277.out 4) | ((with_reducible refine zbl (f := 88) rfl ?_); refine goesL_ (some 14) rfl rfl Try.func88 (by kernel_rfl) rfl #[.string a0_1] rfl (by (try simp only [zav, zbd, zbh]); first | done | rfl) ?_; (with_reducible refine (spec_l13Route.calls k a0_1 true _ A11.out).mono ?_); rintro e w21 ⟨rfl, hb⟩; refine ⟨_, rfl, ?_⟩; have n0_ := Aside0.mk (zbq (g := gb277) (o := .cells #[.int .i64 a0_0, .string a0_1, .int .i64 a0_2, .int .i64 a0_3, .slice A0_4 l0_4.length c0_4] 48 (0, 0)) (by (with_reducible repeat (first | refine zar ?_ _ | refine zaw ?_ | refine zas ?_ _)); exact BK277.out) hb); have n1_ := Aside0.mk (zat (by repeat (first | (with_reducible first | exact HB.out | apply zad | apply zaa | apply zac | refine zal ?_ GE277.out) | exact HB.out)) hb); clear BK277 HB; have BK277 := n0_; have HB := n1_; clear n0_ n1_; (try clear hb); (try clear hb2); (try clear hk); (try clear hi); have hcz22_0 : w21.cell? ⟨gb277, 0, none⟩ = some (.int .i64 a0_0) := (zaf BK277.out 0).trans rfl; have hcz22_1 : w21.cell? ⟨gb277, 1, none⟩ = some (.string a0_1) := (zaf BK277.out 1).trans rfl; have hcz22_2 : w21.cell? ⟨gb277, 2, none⟩ = some (.int .i64 a0_2) := (zaf BK277.out 2).trans rfl; have hcz22_3 : w21.cell? ⟨gb277, 3, none⟩ = some (.int .i64 a0_3) := (zaf BK277.out 3).trans rfl; have hcz22_4 : w21.cell? ⟨gb277, 4, none⟩ = some (.slice A0_4 l0_4.length c0_4) := (zaf BK277.out 4).trans rfl; have hfz22_0 := zab BK277.out 0; have hfz22_1 := zab BK277.out 1; have hfz22_2 := zab BK277.out 2; have hfz22_3 := zab BK277.out 3; have hfz22_4 := zab BK277.out 4))
      go_ret
      exact ⟨by first | rfl | (simp [zaz, zba] <;> rfl) | (simp [*, zaz, zba] <;> rfl), by repeat (first | (with_reducible first | exact HB.out | apply zad | apply zaa | apply zac | refine zal ?_ GE277.out) | exact HB.out)⟩
    ·rw [if_neg c13] at H
     have c13b0 : (a0_2 == 0) = false := zbx.mpr c13
     have c13b1 : (a0_2 != 0) = true := zeb.mpr c13
     obtain rfl := Option.some.inj H
     go_enter Try.func34, Try.ntmps34
     go_wp2_with (first | ((with_reducible refine zbu (N := 1) rfl ?_); (try (refine zec (by rfl) ?_; dsimp only)); refine zcb ?hg (N := 1) ?hd (cs := #[.int .i64 a0_0, .string a0_1, .int .i64 a0_2, .int .i64 a0_3, .slice A0_4 l0_4.length c0_4]) (t := 48) ?hr ?_; (case hd => rfl); (case hg => rfl); (case hr => first | (go_simp; done) | (go_simp; rfl)); intro gb277 hg w23 hbox hb; have xb_ := below_ofs (by repeat (first | (with_reducible first | exact HB.out | apply zad | apply zaa | apply zac) | exact HB.out)) hb; have n0_ := Aside0.mk (zat xb_ hb); have n1_ := Aside0.mk (hbox); have n2_ := Aside0.mk ((by rw [hg]; exact (zan xb_) : w.heap.size ≤ gb277)); have n3_ := Aside0.mk ((by rw [hg]; exact (zan xb_) : w.heap.size ≤ gb277)); clear HB; have HB := n0_; have BK277 := n1_; have GW277 := n2_; have GE277 := n3_; clear n0_ n1_ n2_ n3_; clear xb_ hb hbox hg; have hcz24_0 : w23.cell? ⟨gb277, 0, none⟩ = some (.int .i64 a0_0) := (zaf BK277.out 0).trans rfl; have hcz24_1 : w23.cell? ⟨gb277, 1, none⟩ = some (.string a0_1) := (zaf BK277.out 1).trans rfl; have hcz24_2 : w23.cell? ⟨gb277, 2, none⟩ = some (.int .i64 a0_2) := (zaf BK277.out 2).trans rfl; have hcz24_3 : w23.cell? ⟨gb277, 3, none⟩ = some (.int .i64 a0_3) := (zaf BK277.out 3).trans rfl; have hcz24_4 : w23.cell? ⟨gb277, 4, none⟩ = some (.slice A0_4 l0_4.length c0_4) := (zaf BK277.out 4).trans rfl; have hfz24_0 := zab BK277.out 0; have hfz24_1 := zab BK277.out 1; have hfz24_2 := zab BK277.out 2; have hfz24_3 := zab BK277.out 3; have hfz24_4 := zab BK277.out 4) | ((with_reducible refine zbl (f := 88) rfl ?_); refine goesL_ (some 14) rfl rfl Try.func88 (by kernel_rfl) rfl #[.string a0_1] rfl (by (try simp only [zav, zbd, zbh]); first | done | rfl) ?_; (with_reducible refine (spec_l13Route.calls k a0_1 true _ A11.out).mono ?_); rintro e w25 ⟨rfl, hb⟩; refine ⟨_, rfl, ?_⟩; have n0_ := Aside0.mk (zbq (g := gb277) (o := .cells #[.int .i64 a0_0, .string a0_1, .int .i64 a0_2, .int .i64 a0_3, .slice A0_4 l0_4.length c0_4] 48 (0, 0)) (by (with_reducible repeat (first | refine zar ?_ _ | refine zaw ?_ | refine zas ?_ _)); exact BK277.out) hb); have n1_ := Aside0.mk (zat (by repeat (first | (with_reducible first | exact HB.out | apply zad | apply zaa | apply zac | refine zal ?_ GE277.out) | exact HB.out)) hb); clear BK277 HB; have BK277 := n0_; have HB := n1_; clear n0_ n1_; (try clear hb); (try clear hb2); (try clear hk); (try clear hi); have hcz26_0 : w25.cell? ⟨gb277, 0, none⟩ = some (.int .i64 a0_0) := (zaf BK277.out 0).trans rfl; have hcz26_1 : w25.cell? ⟨gb277, 1, none⟩ = some (.string a0_1) := (zaf BK277.out 1).trans rfl; have hcz26_2 : w25.cell? ⟨gb277, 2, none⟩ = some (.int .i64 a0_2) := (zaf BK277.out 2).trans rfl; have hcz26_3 : w25.cell? ⟨gb277, 3, none⟩ = some (.int .i64 a0_3) := (zaf BK277.out 3).trans rfl; have hcz26_4 : w25.cell? ⟨gb277, 4, none⟩ = some (.slice A0_4 l0_4.length c0_4) := (zaf BK277.out 4).trans rfl; have hfz26_0 := zab BK277.out 0; have hfz26_1 := zab BK277.out 1; have hfz26_2 := zab BK277.out 2; have hfz26_3 := zab BK277.out 3; have hfz26_4 := zab BK277.out 4))
     go_ret
     exact ⟨by first | rfl | (simp [zaz, zba] <;> rfl) | (simp [*, zaz, zba] <;> rfl), by repeat (first | (with_reducible first | exact HB.out | apply zad | apply zaa | apply zac | refine zal ?_ GE277.out) | exact HB.out)⟩
   ·replace c12 := zcn.mpr c12
    subst c12
    have H1 : (some false) = some r := by rw [if_neg (show ¬ (false = true) by decide)] at H; exact H
    clear H
    have H := H1
    clear H1
    obtain rfl := Option.some.inj H
    go_enter Try.func34, Try.ntmps34
    go_wp2_with (first | ((with_reducible refine zbu (N := 1) rfl ?_); (try (refine zec (by rfl) ?_; dsimp only)); refine zcb ?hg (N := 1) ?hd (cs := #[.int .i64 a0_0, .string a0_1, .int .i64 a0_2, .int .i64 a0_3, .slice A0_4 l0_4.length c0_4]) (t := 48) ?hr ?_; (case hd => rfl); (case hg => rfl); (case hr => first | (go_simp; done) | (go_simp; rfl)); intro gb277 hg w27 hbox hb; have xb_ := below_ofs (by repeat (first | (with_reducible first | exact HB.out | apply zad | apply zaa | apply zac) | exact HB.out)) hb; have n0_ := Aside0.mk (zat xb_ hb); have n1_ := Aside0.mk (hbox); have n2_ := Aside0.mk ((by rw [hg]; exact (zan xb_) : w.heap.size ≤ gb277)); have n3_ := Aside0.mk ((by rw [hg]; exact (zan xb_) : w.heap.size ≤ gb277)); clear HB; have HB := n0_; have BK277 := n1_; have GW277 := n2_; have GE277 := n3_; clear n0_ n1_ n2_ n3_; clear xb_ hb hbox hg; have hcz28_0 : w27.cell? ⟨gb277, 0, none⟩ = some (.int .i64 a0_0) := (zaf BK277.out 0).trans rfl; have hcz28_1 : w27.cell? ⟨gb277, 1, none⟩ = some (.string a0_1) := (zaf BK277.out 1).trans rfl; have hcz28_2 : w27.cell? ⟨gb277, 2, none⟩ = some (.int .i64 a0_2) := (zaf BK277.out 2).trans rfl; have hcz28_3 : w27.cell? ⟨gb277, 3, none⟩ = some (.int .i64 a0_3) := (zaf BK277.out 3).trans rfl; have hcz28_4 : w27.cell? ⟨gb277, 4, none⟩ = some (.slice A0_4 l0_4.length c0_4) := (zaf BK277.out 4).trans rfl; have hfz28_0 := zab BK277.out 0; have hfz28_1 := zab BK277.out 1; have hfz28_2 := zab BK277.out 2; have hfz28_3 := zab BK277.out 3; have hfz28_4 := zab BK277.out 4) | ((with_reducible refine zbl (f := 88) rfl ?_); refine goesL_ (some 14) rfl rfl Try.func88 (by kernel_rfl) rfl #[.string a0_1] rfl (by (try simp only [zav, zbd, zbh]); first | done | rfl) ?_; (with_reducible refine (spec_l13Route.calls k a0_1 false _ A11.out).mono ?_); rintro e w29 ⟨rfl, hb⟩; refine ⟨_, rfl, ?_⟩; have n0_ := Aside0.mk (zbq (g := gb277) (o := .cells #[.int .i64 a0_0, .string a0_1, .int .i64 a0_2, .int .i64 a0_3, .slice A0_4 l0_4.length c0_4] 48 (0, 0)) (by (with_reducible repeat (first | refine zar ?_ _ | refine zaw ?_ | refine zas ?_ _)); exact BK277.out) hb); have n1_ := Aside0.mk (zat (by repeat (first | (with_reducible first | exact HB.out | apply zad | apply zaa | apply zac | refine zal ?_ GE277.out) | exact HB.out)) hb); clear BK277 HB; have BK277 := n0_; have HB := n1_; clear n0_ n1_; (try clear hb); (try clear hb2); (try clear hk); (try clear hi)))
    go_ret
    exact ⟨by first | rfl | (simp [zaz, zba] <;> rfl) | (simp [*, zaz, zba] <;> rfl), by repeat (first | (with_reducible first | exact HB.out | apply zad | apply zaa | apply zac | refine zal ?_ GE277.out) | exact HB.out)⟩
  ·rw [if_neg c10] at H
   have c10b0 : (a0_0 == 2) = false := zbx.mpr c10
   have c10b1 : (a0_0 != 2) = true := zeb.mpr c10
   by_cases c30 : a0_0 = 3
   ·rw [if_pos c30] at H
    have c30b0 : (a0_0 == 3) = true := zdp.mpr c30
    have c30b1 : (a0_0 != 3) = false := zby.mpr c30
    clear c30
    by_cases c31 : a0_1.toList = ([] : List UInt8)
    ·rw [if_pos c31] at H
     have c31b0 : (a0_1.toList == ([] : List UInt8)) = true := zdp.mpr c31
     have c31b1 : (a0_1.toList != ([] : List UInt8)) = false := zby.mpr c31
     clear c31
     by_cases c32 : a0_2 = 0
     ·rw [if_pos c32] at H
      have c32b0 : (a0_2 == 0) = true := zdp.mpr c32
      have c32b1 : (a0_2 != 0) = false := zby.mpr c32
      clear c32
      replace H := zaq.mp H
      obtain ⟨t286, A330, H⟩ := H
      try dsimp only at H
      have A33 := Aside0.mk A330
      clear A330
      by_cases c34 : t286 = true
      ·subst c34
       have H1 : (some ((l0_4.length : Int) == 0)) = some r := by rw [if_pos rfl] at H; exact H
       clear H
       have H := H1
       clear H1
       obtain rfl := Option.some.inj H
       go_enter Try.func34, Try.ntmps34
       go_wp2_with (first | ((with_reducible refine zbu (N := 1) rfl ?_); (try (refine zec (by rfl) ?_; dsimp only)); refine zcb ?hg (N := 1) ?hd (cs := #[.int .i64 a0_0, .string a0_1, .int .i64 a0_2, .int .i64 a0_3, .slice A0_4 l0_4.length c0_4]) (t := 48) ?hr ?_; (case hd => rfl); (case hg => rfl); (case hr => first | (go_simp; done) | (go_simp; rfl)); intro gb277 hg w35 hbox hb; have xb_ := below_ofs (by repeat (first | (with_reducible first | exact HB.out | apply zad | apply zaa | apply zac) | exact HB.out)) hb; have n0_ := Aside0.mk (zat xb_ hb); have n1_ := Aside0.mk (hbox); have n2_ := Aside0.mk ((by rw [hg]; exact (zan xb_) : w.heap.size ≤ gb277)); have n3_ := Aside0.mk ((by rw [hg]; exact (zan xb_) : w.heap.size ≤ gb277)); clear HB; have HB := n0_; have BK277 := n1_; have GW277 := n2_; have GE277 := n3_; clear n0_ n1_ n2_ n3_; clear xb_ hb hbox hg; have hcz36_0 : w35.cell? ⟨gb277, 0, none⟩ = some (.int .i64 a0_0) := (zaf BK277.out 0).trans rfl; have hcz36_1 : w35.cell? ⟨gb277, 1, none⟩ = some (.string a0_1) := (zaf BK277.out 1).trans rfl; have hcz36_2 : w35.cell? ⟨gb277, 2, none⟩ = some (.int .i64 a0_2) := (zaf BK277.out 2).trans rfl; have hcz36_3 : w35.cell? ⟨gb277, 3, none⟩ = some (.int .i64 a0_3) := (zaf BK277.out 3).trans rfl; have hcz36_4 : w35.cell? ⟨gb277, 4, none⟩ = some (.slice A0_4 l0_4.length c0_4) := (zaf BK277.out 4).trans rfl; have hfz36_0 := zab BK277.out 0; have hfz36_1 := zab BK277.out 1; have hfz36_2 := zab BK277.out 2; have hfz36_3 := zab BK277.out 3; have hfz36_4 := zab BK277.out 4) | (go_at_call 89; (with_reducible refine (spec_l1In.calls a0_3 0 100000 true _ A33.out).mono ?_); rintro e w' ⟨rfl, ⟨nd, rfl⟩⟩))
       go_ret
       exact ⟨by first | rfl | (simp [zaz, zba] <;> rfl) | (simp [*, zaz, zba] <;> rfl), by repeat (first | (with_reducible first | exact HB.out | apply zad | apply zaa | apply zac | refine zal ?_ GE277.out) | exact HB.out)⟩
      ·replace c34 := zcn.mpr c34
       subst c34
       have H1 : (some false) = some r := by rw [if_neg (show ¬ (false = true) by decide)] at H; exact H
       clear H
       have H := H1
       clear H1
       obtain rfl := Option.some.inj H
       go_enter Try.func34, Try.ntmps34
       go_wp2_with (first | ((with_reducible refine zbu (N := 1) rfl ?_); (try (refine zec (by rfl) ?_; dsimp only)); refine zcb ?hg (N := 1) ?hd (cs := #[.int .i64 a0_0, .string a0_1, .int .i64 a0_2, .int .i64 a0_3, .slice A0_4 l0_4.length c0_4]) (t := 48) ?hr ?_; (case hd => rfl); (case hg => rfl); (case hr => first | (go_simp; done) | (go_simp; rfl)); intro gb277 hg w37 hbox hb; have xb_ := below_ofs (by repeat (first | (with_reducible first | exact HB.out | apply zad | apply zaa | apply zac) | exact HB.out)) hb; have n0_ := Aside0.mk (zat xb_ hb); have n1_ := Aside0.mk (hbox); have n2_ := Aside0.mk ((by rw [hg]; exact (zan xb_) : w.heap.size ≤ gb277)); have n3_ := Aside0.mk ((by rw [hg]; exact (zan xb_) : w.heap.size ≤ gb277)); clear HB; have HB := n0_; have BK277 := n1_; have GW277 := n2_; have GE277 := n3_; clear n0_ n1_ n2_ n3_; clear xb_ hb hbox hg; have hcz38_0 : w37.cell? ⟨gb277, 0, none⟩ = some (.int .i64 a0_0) := (zaf BK277.out 0).trans rfl; have hcz38_1 : w37.cell? ⟨gb277, 1, none⟩ = some (.string a0_1) := (zaf BK277.out 1).trans rfl; have hcz38_2 : w37.cell? ⟨gb277, 2, none⟩ = some (.int .i64 a0_2) := (zaf BK277.out 2).trans rfl; have hcz38_3 : w37.cell? ⟨gb277, 3, none⟩ = some (.int .i64 a0_3) := (zaf BK277.out 3).trans rfl; have hcz38_4 : w37.cell? ⟨gb277, 4, none⟩ = some (.slice A0_4 l0_4.length c0_4) := (zaf BK277.out 4).trans rfl; have hfz38_0 := zab BK277.out 0; have hfz38_1 := zab BK277.out 1; have hfz38_2 := zab BK277.out 2; have hfz38_3 := zab BK277.out 3; have hfz38_4 := zab BK277.out 4) | (go_at_call 89; (with_reducible refine (spec_l1In.calls a0_3 0 100000 false _ A33.out).mono ?_); rintro e w' ⟨rfl, ⟨nd, rfl⟩⟩))
       go_ret
       exact ⟨by first | rfl | (simp [zaz, zba] <;> rfl) | (simp [*, zaz, zba] <;> rfl), by repeat (first | (with_reducible first | exact HB.out | apply zad | apply zaa | apply zac | refine zal ?_ GE277.out) | exact HB.out)⟩
     ·rw [if_neg c32] at H
      have c32b0 : (a0_2 == 0) = false := zbx.mpr c32
      have c32b1 : (a0_2 != 0) = true := zeb.mpr c32
      obtain rfl := Option.some.inj H
      go_enter Try.func34, Try.ntmps34
      go_wp2_with (first | ((with_reducible refine zbu (N := 1) rfl ?_); (try (refine zec (by rfl) ?_; dsimp only)); refine zcb ?hg (N := 1) ?hd (cs := #[.int .i64 a0_0, .string a0_1, .int .i64 a0_2, .int .i64 a0_3, .slice A0_4 l0_4.length c0_4]) (t := 48) ?hr ?_; (case hd => rfl); (case hg => rfl); (case hr => first | (go_simp; done) | (go_simp; rfl)); intro gb277 hg w39 hbox hb; have xb_ := below_ofs (by repeat (first | (with_reducible first | exact HB.out | apply zad | apply zaa | apply zac) | exact HB.out)) hb; have n0_ := Aside0.mk (zat xb_ hb); have n1_ := Aside0.mk (hbox); have n2_ := Aside0.mk ((by rw [hg]; exact (zan xb_) : w.heap.size ≤ gb277)); have n3_ := Aside0.mk ((by rw [hg]; exact (zan xb_) : w.heap.size ≤ gb277)); clear HB; have HB := n0_; have BK277 := n1_; have GW277 := n2_; have GE277 := n3_; clear n0_ n1_ n2_ n3_; clear xb_ hb hbox hg; have hcz40_0 : w39.cell? ⟨gb277, 0, none⟩ = some (.int .i64 a0_0) := (zaf BK277.out 0).trans rfl; have hcz40_1 : w39.cell? ⟨gb277, 1, none⟩ = some (.string a0_1) := (zaf BK277.out 1).trans rfl; have hcz40_2 : w39.cell? ⟨gb277, 2, none⟩ = some (.int .i64 a0_2) := (zaf BK277.out 2).trans rfl; have hcz40_3 : w39.cell? ⟨gb277, 3, none⟩ = some (.int .i64 a0_3) := (zaf BK277.out 3).trans rfl; have hcz40_4 : w39.cell? ⟨gb277, 4, none⟩ = some (.slice A0_4 l0_4.length c0_4) := (zaf BK277.out 4).trans rfl; have hfz40_0 := zab BK277.out 0; have hfz40_1 := zab BK277.out 1; have hfz40_2 := zab BK277.out 2; have hfz40_3 := zab BK277.out 3; have hfz40_4 := zab BK277.out 4))
      go_ret
      exact ⟨by first | rfl | (simp [zaz, zba] <;> rfl) | (simp [*, zaz, zba] <;> rfl), by repeat (first | (with_reducible first | exact HB.out | apply zad | apply zaa | apply zac | refine zal ?_ GE277.out) | exact HB.out)⟩
    ·rw [if_neg c31] at H
     have c31b0 : (a0_1.toList == ([] : List UInt8)) = false := zbx.mpr c31
     have c31b1 : (a0_1.toList != ([] : List UInt8)) = true := zeb.mpr c31
     obtain rfl := Option.some.inj H
     go_enter Try.func34, Try.ntmps34
     go_wp2_with (first | ((with_reducible refine zbu (N := 1) rfl ?_); (try (refine zec (by rfl) ?_; dsimp only)); refine zcb ?hg (N := 1) ?hd (cs := #[.int .i64 a0_0, .string a0_1, .int .i64 a0_2, .int .i64 a0_3, .slice A0_4 l0_4.length c0_4]) (t := 48) ?hr ?_; (case hd => rfl); (case hg => rfl); (case hr => first | (go_simp; done) | (go_simp; rfl)); intro gb277 hg w41 hbox hb; have xb_ := below_ofs (by repeat (first | (with_reducible first | exact HB.out | apply zad | apply zaa | apply zac) | exact HB.out)) hb; have n0_ := Aside0.mk (zat xb_ hb); have n1_ := Aside0.mk (hbox); have n2_ := Aside0.mk ((by rw [hg]; exact (zan xb_) : w.heap.size ≤ gb277)); have n3_ := Aside0.mk ((by rw [hg]; exact (zan xb_) : w.heap.size ≤ gb277)); clear HB; have HB := n0_; have BK277 := n1_; have GW277 := n2_; have GE277 := n3_; clear n0_ n1_ n2_ n3_; clear xb_ hb hbox hg; have hcz42_0 : w41.cell? ⟨gb277, 0, none⟩ = some (.int .i64 a0_0) := (zaf BK277.out 0).trans rfl; have hcz42_1 : w41.cell? ⟨gb277, 1, none⟩ = some (.string a0_1) := (zaf BK277.out 1).trans rfl; have hcz42_2 : w41.cell? ⟨gb277, 2, none⟩ = some (.int .i64 a0_2) := (zaf BK277.out 2).trans rfl; have hcz42_3 : w41.cell? ⟨gb277, 3, none⟩ = some (.int .i64 a0_3) := (zaf BK277.out 3).trans rfl; have hcz42_4 : w41.cell? ⟨gb277, 4, none⟩ = some (.slice A0_4 l0_4.length c0_4) := (zaf BK277.out 4).trans rfl; have hfz42_0 := zab BK277.out 0; have hfz42_1 := zab BK277.out 1; have hfz42_2 := zab BK277.out 2; have hfz42_3 := zab BK277.out 3; have hfz42_4 := zab BK277.out 4))
     go_ret
     exact ⟨by first | rfl | (simp [zaz, zba] <;> rfl) | (simp [*, zaz, zba] <;> rfl), by repeat (first | (with_reducible first | exact HB.out | apply zad | apply zaa | apply zac | refine zal ?_ GE277.out) | exact HB.out)⟩
   ·rw [if_neg c30] at H
    have c30b0 : (a0_0 == 3) = false := zbx.mpr c30
    have c30b1 : (a0_0 != 3) = true := zeb.mpr c30
    obtain rfl := Option.some.inj H
    go_enter Try.func34, Try.ntmps34
    go_wp2_with (first | ((with_reducible refine zbu (N := 1) rfl ?_); (try (refine zec (by rfl) ?_; dsimp only)); refine zcb ?hg (N := 1) ?hd (cs := #[.int .i64 a0_0, .string a0_1, .int .i64 a0_2, .int .i64 a0_3, .slice A0_4 l0_4.length c0_4]) (t := 48) ?hr ?_; (case hd => rfl); (case hg => rfl); (case hr => first | (go_simp; done) | (go_simp; rfl)); intro gb277 hg w43 hbox hb; have xb_ := below_ofs (by repeat (first | (with_reducible first | exact HB.out | apply zad | apply zaa | apply zac) | exact HB.out)) hb; have n0_ := Aside0.mk (zat xb_ hb); have n1_ := Aside0.mk (hbox); have n2_ := Aside0.mk ((by rw [hg]; exact (zan xb_) : w.heap.size ≤ gb277)); have n3_ := Aside0.mk ((by rw [hg]; exact (zan xb_) : w.heap.size ≤ gb277)); clear HB; have HB := n0_; have BK277 := n1_; have GW277 := n2_; have GE277 := n3_; clear n0_ n1_ n2_ n3_; clear xb_ hb hbox hg; have hcz44_0 : w43.cell? ⟨gb277, 0, none⟩ = some (.int .i64 a0_0) := (zaf BK277.out 0).trans rfl; have hcz44_1 : w43.cell? ⟨gb277, 1, none⟩ = some (.string a0_1) := (zaf BK277.out 1).trans rfl; have hcz44_2 : w43.cell? ⟨gb277, 2, none⟩ = some (.int .i64 a0_2) := (zaf BK277.out 2).trans rfl; have hcz44_3 : w43.cell? ⟨gb277, 3, none⟩ = some (.int .i64 a0_3) := (zaf BK277.out 3).trans rfl; have hcz44_4 : w43.cell? ⟨gb277, 4, none⟩ = some (.slice A0_4 l0_4.length c0_4) := (zaf BK277.out 4).trans rfl; have hfz44_0 := zab BK277.out 0; have hfz44_1 := zab BK277.out 1; have hfz44_2 := zab BK277.out 2; have hfz44_3 := zab BK277.out 3; have hfz44_4 := zab BK277.out 4))
    go_ret
    exact ⟨by first | rfl | (simp [zaz, zba] <;> rfl) | (simp [*, zaz, zba] <;> rfl), by repeat (first | (with_reducible first | exact HB.out | apply zad | apply zaa | apply zac | refine zal ?_ GE277.out) | exact HB.out)⟩
end Go.Proofs.Ytlalkldjpniakaa.P
