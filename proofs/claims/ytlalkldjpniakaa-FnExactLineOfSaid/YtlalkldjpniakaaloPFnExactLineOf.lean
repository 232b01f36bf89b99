import Derived.Test.Ytlalkldjpniakaalo11
import Derived.Test.Ytlalkldjpniakaalo43
import Derived.Test.Ytlalkldjpniakaalo49
namespace Go.Proofs.Ytlalkldjpniakaa.P
open Go.RowKit Go.Proofs.YtlalkldjpniakaaW.PrintWords Go.Proofs.YtlalkldjpniakaaW.PrintLast Go.Proofs.YtlalkldjpniakaaW.PrintMore
attribute [local go_sem] zdk zdl zeh zei zcz zda zdm zdn   -- for this text's walks alone
set_option linter.unusedVariables false
set_option linter.unusedSimpArgs false

mutual
def laws_FnExactLineOf.j0 : Nat → List Int → Int → Int → Bool → List Int → Int → Bool → Bool → Int → ByteArray → Int → Int → List Int → Int → ByteArray → Int → Int → List Int → Option (Bool)
 | 0, _, _, _, _, _, _, _, _, _, _, _, _, _, _, _, _, _, _ => none
 | k + 1, x0, x1, x6, x7, x8, x10, x11, x51, x703000, x703001, x703002, x703003, x703004, x716000, x716001, x716002, x716003, x716004 => if x51 = true then (none) else ((laws_toByteS.f k x0).bind fun t717 => ((laws_eqByteS.f k x8 t717).bind fun t720 => (if t720 = true then ((laws_markByteS.f k x8 1).bind fun bt721 => (if bt721.1 < 0 then (none) else ((laws_eqLine.f k x716000 x716001 x716002 x716003 x716004 x703000 x703001 x703002 x703003 x703004).bind fun t723 => (if t723 = true then (if x10 = x6 then (laws_FnExactLineOf.j1 k x0 x1 x6 x7 (x11 != x7) x703000 x703001 x703002 x703003 x703004 x716000 x716001 x716002 x716003 x716004) else (none)) else (none))))) else (none))))
def laws_FnExactLineOf.j1 : Nat → List Int → Int → Int → Bool → Bool → Int → ByteArray → Int → Int → List Int → Int → ByteArray → Int → Int → List Int → Option (Bool)
 | 0, _, _, _, _, _, _, _, _, _, _, _, _, _, _, _ => none
 | k + 1, x0, x1, x6, x7, x77, x703000, x703001, x703002, x703003, x703004, x716000, x716001, x716002, x716003, x716004 => if x77 = true then (none) else ((laws_markLine.f k x716000 x716001 x716002 x716003 x716004 1).bind fun bt724 => ((laws_heldLine.f k x716000 x716001 x716002 x716003 bt724.2 1).bind fun t726 => (if t726 < 0 then (none) else (if t726 = bt724.1 then ((laws_toByteS.f k x0).bind fun t727 => ((impl_LineOf.f k t727 x1).bind fun bt730 => ((laws_eqLine.f k bt730.1 bt730.2.1 bt730.2.2.1 bt730.2.2.2.1 bt730.2.2.2.2.1 x703000 x703001 x703002 x703003 x703004).bind fun t740 => (if t740 = true then (if bt730.2.2.2.2.2.1 = x6 then (laws_FnExactLineOf.j2 k bt724.1 (bt730.2.2.2.2.2.2 != x7) x716000 x716001 x716002 x716003 bt724.2) else (none)) else (none))))) else (none)))))
def laws_FnExactLineOf.j2 : Nat → Int → Bool → Int → ByteArray → Int → Int → List Int → Option (Bool)
 | 0, _, _, _, _, _, _, _ => none
 | k + 1, x13, x110, x716000, x716001, x716002, x716003, x716004 => if x110 = true then (none) else ((laws_heldLine.f k x716000 x716001 x716002 x716003 x716004 1).bind fun t741 => (if t741 < 0 then (none) else (if t741 = x13 then (some true) else (none))))
end
def laws_FnExactLineOf.f (k : Nat) (l0 : List Int) (a1 : Int) : Option (Bool) := if (l0.length : Int) > 1048576 then (some true) else ((laws_toByteS.f k l0).bind fun t690 => ((spec_LineOf.f k t690 a1).bind fun bt693 => ((laws_toByteS.f k l0).bind fun t703 => ((impl_LineOf.f k t703 a1).bind fun bt706 => ((laws_eqLine.f k bt706.1 bt706.2.1 bt706.2.2.1 bt706.2.2.2.1 bt706.2.2.2.2.1 bt693.1 bt693.2.1 bt693.2.2.1 bt693.2.2.2.1 bt693.2.2.2.2.1).bind fun t716 => (if t716 = true then (if bt706.2.2.2.2.2.1 = bt693.2.2.2.2.2.1 then (laws_FnExactLineOf.j0 k l0 a1 bt693.2.2.2.2.2.1 bt693.2.2.2.2.2.2 t703 bt706.2.2.2.2.2.1 bt706.2.2.2.2.2.2 (bt706.2.2.2.2.2.2 != bt693.2.2.2.2.2.2) bt693.1 bt693.2.1 bt693.2.2.1 bt693.2.2.2.1 bt693.2.2.2.2.1 bt706.1 bt706.2.1 bt706.2.2.1 bt706.2.2.2.1 bt706.2.2.2.2.1) else (none)) else (none)))))))
theorem laws_FnExactLineOf.mono_l : ∀ k, (∀ y0 y1 y2 y3 y4 y5 y6 y7 y8 y9 y10 y11 y12 y13 y14 y15 y16 y17, LeO (laws_FnExactLineOf.j0 k y0 y1 y2 y3 y4 y5 y6 y7 y8 y9 y10 y11 y12 y13 y14 y15 y16 y17) (laws_FnExactLineOf.j0 (k + 1) y0 y1 y2 y3 y4 y5 y6 y7 y8 y9 y10 y11 y12 y13 y14 y15 y16 y17)) ∧ (∀ y0 y1 y2 y3 y4 y5 y6 y7 y8 y9 y10 y11 y12 y13 y14, LeO (laws_FnExactLineOf.j1 k y0 y1 y2 y3 y4 y5 y6 y7 y8 y9 y10 y11 y12 y13 y14) (laws_FnExactLineOf.j1 (k + 1) y0 y1 y2 y3 y4 y5 y6 y7 y8 y9 y10 y11 y12 y13 y14)) ∧ (∀ y0 y1 y2 y3 y4 y5 y6, LeO (laws_FnExactLineOf.j2 k y0 y1 y2 y3 y4 y5 y6) (laws_FnExactLineOf.j2 (k + 1) y0 y1 y2 y3 y4 y5 y6))
 | 0 => ⟨fun _ _ _ _ _ _ _ _ _ _ _ _ _ _ _ _ _ _ r h => by simp [laws_FnExactLineOf.j0] at h, fun _ _ _ _ _ _ _ _ _ _ _ _ _ _ _ r h => by simp [laws_FnExactLineOf.j1] at h, fun _ _ _ _ _ _ _ r h => by simp [laws_FnExactLineOf.j2] at h⟩
 | k + 1 => by
  obtain ⟨ih0, ih1, ih2⟩ := laws_FnExactLineOf.mono_l k
  refine ⟨?_, ?_, ?_⟩
  ·intro y0 y1 y2 y3 y4 y5 y6 y7 y8 y9 y10 y11 y12 y13 y14 y15 y16 y17
   unfold laws_FnExactLineOf.j0
   repeat' first
   | (with_reducible exact ih0 _ _ _ _ _ _ _ _ _ _ _ _ _ _ _ _ _ _)
   | (with_reducible exact ih1 _ _ _ _ _ _ _ _ _ _ _ _ _ _ _)
   | (with_reducible exact ih2 _ _ _ _ _ _ _)
   | (with_reducible exact impl_LineOf.mono _ _ _)
   | (with_reducible exact laws_eqByteS.mono _ _ _)
   | (with_reducible exact laws_eqLine.mono _ _ _ _ _ _ _ _ _ _ _)
   | (with_reducible exact laws_heldLine.mono _ _ _ _ _ _ _)
   | (with_reducible exact laws_markByteS.mono _ _ _)
   | (with_reducible exact laws_markLine.mono _ _ _ _ _ _ _)
   | (with_reducible exact laws_toByteS.mono _ _)
   | (with_reducible exact spec_LineOf.mono _ _ _)
   | (with_reducible exact zdd _)
   | (with_reducible exact zde _)
   | (with_reducible refine zdx ?_ ?_)
   | (with_reducible refine zdf ?_ (fun _ => ?_))
   | exact ih0 _ _ _ _ _ _ _ _ _ _ _ _ _ _ _ _ _ _
   | exact ih1 _ _ _ _ _ _ _ _ _ _ _ _ _ _ _
   | exact ih2 _ _ _ _ _ _ _
  ·intro y0 y1 y2 y3 y4 y5 y6 y7 y8 y9 y10 y11 y12 y13 y14
   unfold laws_FnExactLineOf.j1
   repeat' first
   | (with_reducible exact ih0 _ _ _ _ _ _ _ _ _ _ _ _ _ _ _ _ _ _)
   | (with_reducible exact ih1 _ _ _ _ _ _ _ _ _ _ _ _ _ _ _)
   | (with_reducible exact ih2 _ _ _ _ _ _ _)
   | (with_reducible exact impl_LineOf.mono _ _ _)
   | (with_reducible exact laws_eqByteS.mono _ _ _)
   | (with_reducible exact laws_eqLine.mono _ _ _ _ _ _ _ _ _ _ _)
   | (with_reducible exact laws_heldLine.mono _ _ _ _ _ _ _)
   | (with_reducible exact laws_markByteS.mono _ _ _)
   | (with_reducible exact laws_markLine.mono _ _ _ _ _ _ _)
   | (with_reducible exact laws_toByteS.mono _ _)
   | (with_reducible exact spec_LineOf.mono _ _ _)
   | (with_reducible exact zdd _)
   | (with_reducible exact zde _)
   | (with_reducible refine zdx ?_ ?_)
   | (with_reducible refine zdf ?_ (fun _ => ?_))
   | exact ih0 _ _ _ _ _ _ _ _ _ _ _ _ _ _ _ _ _ _
   | exact ih1 _ _ _ _ _ _ _ _ _ _ _ _ _ _ _
   | exact ih2 _ _ _ _ _ _ _
  ·intro y0 y1 y2 y3 y4 y5 y6
   unfold laws_FnExactLineOf.j2
   repeat' first
   | (with_reducible exact ih0 _ _ _ _ _ _ _ _ _ _ _ _ _ _ _ _ _ _)
   | (with_reducible exact ih1 _ _ _ _ _ _ _ _ _ _ _ _ _ _ _)
   | (with_reducible exact ih2 _ _ _ _ _ _ _)
   | (with_reducible exact impl_LineOf.mono _ _ _)
   | (with_reducible exact laws_eqByteS.mono _ _ _)
   | (with_reducible exact laws_eqLine.mono _ _ _ _ _ _ _ _ _ _ _)
   | (with_reducible exact laws_heldLine.mono _ _ _ _ _ _ _)
   | (with_reducible exact laws_markByteS.mono _ _ _)
   | (with_reducible exact laws_markLine.mono _ _ _ _ _ _ _)
   | (with_reducible exact laws_toByteS.mono _ _)
   | (with_reducible exact spec_LineOf.mono _ _ _)
   | (with_reducible exact zdd _)
   | (with_reducible exact zde _)
   | (with_reducible refine zdx ?_ ?_)
   | (with_reducible refine zdf ?_ (fun _ => ?_))
   | exact ih0 _ _ _ _ _ _ _ _ _ _ _ _ _ _ _ _ _ _
   | exact ih1 _ _ _ _ _ _ _ _ _ _ _ _ _ _ _
   | exact ih2 _ _ _ _ _ _ _
theorem laws_FnExactLineOf.mono : ∀ a0 a1 k, LeO (laws_FnExactLineOf.f k a0 a1) (laws_FnExactLineOf.f (k + 1) a0 a1) := by
 intro a0 a1 k
 obtain ⟨ih0, ih1, ih2⟩ := laws_FnExactLineOf.mono_l k
 unfold laws_FnExactLineOf.f
 repeat' first
   | (with_reducible exact ih0 _ _ _ _ _ _ _ _ _ _ _ _ _ _ _ _ _ _)
   | (with_reducible exact ih1 _ _ _ _ _ _ _ _ _ _ _ _ _ _ _)
   | (with_reducible exact ih2 _ _ _ _ _ _ _)
   | (with_reducible exact impl_LineOf.mono _ _ _)
   | (with_reducible exact laws_eqByteS.mono _ _ _)
   | (with_reducible exact laws_eqLine.mono _ _ _ _ _ _ _ _ _ _ _)
   | (with_reducible exact laws_heldLine.mono _ _ _ _ _ _ _)
   | (with_reducible exact laws_markByteS.mono _ _ _)
   | (with_reducible exact laws_markLine.mono _ _ _ _ _ _ _)
   | (with_reducible exact laws_toByteS.mono _ _)
   | (with_reducible exact spec_LineOf.mono _ _ _)
   | (with_reducible exact zdd _)
   | (with_reducible exact zde _)
   | (with_reducible refine zdx ?_ ?_)
   | (with_reducible refine zdf ?_ (fun _ => ?_))
   | exact ih0 _ _ _ _ _ _ _ _ _ _ _ _ _ _ _ _ _ _
   | exact ih1 _ _ _ _ _ _ _ _ _ _ _ _ _ _ _
   | exact ih2 _ _ _ _ _ _ _
set_option maxHeartbeats 8000000 in
set_option maxRecDepth 100000 in
theorem laws_FnExactLineOf.calls (k : Nat) (A0 : Option Addr) (c0 : Nat) (l0 : List Int) (a1 : Int) (r : Bool) (w : World) (hr0 : Kd.C (Kd.int .u8) w A0 l0.length l0) (hc0 : l0.length ≤ c0) (h : laws_FnExactLineOf.f k l0 a1 = some r) :
  Calls Try.prog 11 #[.slice A0 l0.length c0, .int .i64 a1] w fun e w' => e = .returned (.bool r) ∧ Below w.heap.size w w' := by
 have hu48 := Try.underlying48
 have HR0 := Aside0.mk hr0
 have HC0 := Aside0.mk hc0
 clear hr0 hc0
 have HB := Aside0.mk (zbz w.heap.size w)
 have H : (if (l0.length : Int) > 1048576 then (some true) else ((laws_toByteS.f k l0).bind fun t690 => ((spec_LineOf.f k t690 a1).bind fun bt693 => ((laws_toByteS.f k l0).bind fun t703 => ((impl_LineOf.f k t703 a1).bind fun bt706 => ((laws_eqLine.f k bt706.1 bt706.2.1 bt706.2.2.1 bt706.2.2.2.1 bt706.2.2.2.2.1 bt693.1 bt693.2.1 bt693.2.2.1 bt693.2.2.2.1 bt693.2.2.2.2.1).bind fun t716 => (if t716 = true then (if bt706.2.2.2.2.2.1 = bt693.2.2.2.2.2.1 then (laws_FnExactLineOf.j0 k l0 a1 bt693.2.2.2.2.2.1 bt693.2.2.2.2.2.2 t703 bt706.2.2.2.2.2.1 bt706.2.2.2.2.2.2 (bt706.2.2.2.2.2.2 != bt693.2.2.2.2.2.2) bt693.1 bt693.2.1 bt693.2.2.1 bt693.2.2.2.1 bt693.2.2.2.2.1 bt706.1 bt706.2.1 bt706.2.2.1 bt706.2.2.2.1 bt706.2.2.2.2.1) else (none)) else (none)))))))) = some r := h
 clear h
 by_cases c3 : (l0.length : Int) > 1048576
 ·rw [if_pos c3] at H
  have c3b0 : decide (1048576 < (l0.length : Int)) = true := zay c3
  have c3b1 : decide (1048576 < l0.length) = true := zay (by omega)
  clear c3
  obtain rfl := Option.some.inj H
  go_enter Try.func11, Try.ntmps11
  go_wp2
  go_ret
  exact ⟨by first | rfl | (simp [zaz, zba] <;> rfl) | (simp [*, zaz, zba] <;> rfl), by repeat (first | (with_reducible first | exact HB.out | apply zad | apply zaa | apply zac) | exact HB.out)⟩
 ·rw [if_neg c3] at H
  have c3b0 : decide (1048576 < (l0.length : Int)) = false := zbv c3
  have c3b1 : decide (1048576 < l0.length) = false := zbv (by omega)
  clear c3
  replace H := zaq.mp H
  obtain ⟨t690, A40, H⟩ := H
  try dsimp only at H
  have A4 := Aside0.mk A40
  clear A40
  replace H := zaq.mp H
  obtain ⟨⟨t693, t694, t695, t696, t697, t700, t701⟩, A50, H⟩ := H
  try dsimp only at H
  have A5 := Aside0.mk A50
  clear A50
  replace H := zaq.mp H
  obtain ⟨t703, A60, H⟩ := H
  try dsimp only at H
  have A6 := Aside0.mk A60
  clear A60
  replace H := zaq.mp H
  obtain ⟨⟨t706, t707, t708, t709, t710, t713, t714⟩, A70, H⟩ := H
  try dsimp only at H
  have A7 := Aside0.mk A70
  clear A70
  have HC8 := Aside0.mk H
  clear H
  go_enter Try.func11, Try.ntmps11
  go_upto_region 6 with (first | ((with_reducible refine zbl (f := 55) rfl ?_); refine goesL_ (some 23) rfl rfl Try.func55 (by kernel_rfl) rfl #[.slice A0 l0.length c0] rfl (by (try simp only [zav, zbd, zbh]); first | done | rfl) ?_; (with_reducible refine (laws_toByteS.calls k _ _ l0 t690 _ ?side1 ?side2 A4.out).mono ?_); (case side1 => repeat (first | exact HR0.out | (with_reducible first | apply zcl | apply zcm | apply zcu))); (case side2 => exact HC0.out); rintro e w9 ⟨v691, rfl, ho0, hb⟩; refine ⟨_, rfl, ?_⟩; have xb_ := below_ofs (by repeat (first | (with_reducible first | exact HB.out | apply zad | apply zaa | apply zac) | exact HB.out)) hb; have n0_ := Aside0.mk (zca ho0 (zan xb_)); have n1_ := Aside0.mk (zat xb_ hb); clear HB; have HO692 := n0_; have HB := n1_; clear n0_ n1_; clear xb_ hb ho0; obtain ⟨Ao10, co10, eo10⟩ := zcy HO692.out; subst eo10) | ((with_reducible refine zbl (f := 54) rfl ?_); refine goesL_ (some 25) rfl rfl Try.func54 (by kernel_rfl) rfl #[.slice Ao10 t690.length co10, .int .i64 a1] rfl (by (try simp only [zav, zbd, zbh]); first | done | rfl) ?_; (with_reducible refine (spec_LineOf.calls k _ _ t690 a1 t693 t694 t695 t696 t697 t700 t701 _ ?side1 ?side2 A5.out).mono ?_); (case side1 => repeat (first | exact (zbt HO692.out).2.2 | (with_reducible first | apply zcl | apply zcm | apply zcu))); (case side2 => exact (zbt HO692.out).2.1); rintro e w11 ⟨v698, rfl, ho0, hb⟩; refine ⟨_, rfl, ?_⟩; have xb_ := below_ofs (by repeat (first | (with_reducible first | exact HB.out | apply zad | apply zaa | apply zac) | exact HB.out)) hb; have qHO692 := Kd.R_ofs (by (with_reducible repeat (first | apply zai | apply zaj | apply zam)); exact HO692.out) hb; have n0_ := Aside0.mk (zbm qHO692 (zbw ho0) hb); have n1_ := Aside0.mk (zca (zcs ho0 (zco qHO692)) (zan xb_)); have n2_ := Aside0.mk (zat xb_ hb); clear qHO692 HO692; clear HB; have HO692 := n0_; have HO699 := n1_; have HB := n2_; clear n0_ n1_ n2_; clear xb_ hb ho0) | ((with_reducible refine zbu (N := 5) rfl ?_); refine zcb ?hg (N := 5) ?hd (cs := #[.int .i64 0, .string (⟨#[]⟩ : ByteArray), .int .i64 0, .int .i64 0, .slice none 0 0]) (t := 48) ?hr ?_; (case hd => rfl); (case hg => rfl); (case hr => first | (go_simp; done) | (go_simp; rfl)); intro gb702 hg w12 hbox hb; have xb_ := below_ofs (by repeat (first | (with_reducible first | exact HB.out | apply zad | apply zaa | apply zac) | exact HB.out)) hb; have n0_ := Aside0.mk (zcx (by (with_reducible repeat (first | apply zai | apply zaj | apply zam)); exact HO692.out) hb); have n1_ := Aside0.mk (zcx (by (with_reducible repeat (first | apply zai | apply zaj | apply zam)); exact HO699.out) hb); have n2_ := Aside0.mk (zat xb_ hb); have n3_ := Aside0.mk (hbox); have n4_ := Aside0.mk ((by rw [hg]; exact (zan xb_) : w.heap.size ≤ gb702)); have n5_ := Aside0.mk ((by rw [hg]; exact (zan xb_) : w.heap.size ≤ gb702)); clear HO692 HO699 HB; have HO692 := n0_; have HO699 := n1_; have HB := n2_; have BK702 := n3_; have GW702 := n4_; have GE702 := n5_; clear n0_ n1_ n2_ n3_ n4_ n5_; clear xb_ hb hbox hg; have hcz13_0 : w12.cell? ⟨gb702, 0, none⟩ = some (.int .i64 0) := (zaf BK702.out 0).trans rfl; have hcz13_1 : w12.cell? ⟨gb702, 1, none⟩ = some (.string (⟨#[]⟩ : ByteArray)) := (zaf BK702.out 1).trans rfl; have hcz13_2 : w12.cell? ⟨gb702, 2, none⟩ = some (.int .i64 0) := (zaf BK702.out 2).trans rfl; have hcz13_3 : w12.cell? ⟨gb702, 3, none⟩ = some (.int .i64 0) := (zaf BK702.out 3).trans rfl; have hcz13_4 : w12.cell? ⟨gb702, 4, none⟩ = some (.slice none 0 0) := (zaf BK702.out 4).trans rfl; have hfz13_0 := zab BK702.out 0; have hfz13_1 := zab BK702.out 1; have hfz13_2 := zab BK702.out 2; have hfz13_3 := zab BK702.out 3; have hfz13_4 := zab BK702.out 4; obtain ⟨Ao14, co14, eo14⟩ := zcy HO699.out; subst eo14) | ((with_reducible refine zbl (f := 55) rfl ?_); refine goesL_ (some 30) rfl rfl Try.func55 (by kernel_rfl) rfl #[.slice A0 l0.length c0] rfl (by (try simp only [zav, zbd, zbh]); first | done | rfl) ?_; (with_reducible refine (laws_toByteS.calls k _ _ l0 t703 _ ?side1 ?side2 A6.out).mono ?_); (case side1 => exact zbk HR0.out (by repeat (first | (with_reducible first | exact HB.out | apply zad | apply zaa | apply zac | refine zal ?_ GE702.out) | exact HB.out))); (case side2 => exact HC0.out); rintro e w15 ⟨v704, rfl, ho0, hb⟩; refine ⟨_, rfl, ?_⟩; have n0_ := Aside0.mk (zbm (by (with_reducible repeat (first | apply zai | apply zaj | apply zam)); exact (zbg (zcd (p := ⟨gb702, 4, none⟩) (zcd (p := ⟨gb702, 3, none⟩) (zcd (p := ⟨gb702, 2, none⟩) (zcd (p := ⟨gb702, 1, none⟩) (zcd (p := ⟨gb702, 0, none⟩) (zdt HO692.out BK702.out (by decide)) (fun _ hk => hk.2) (.int .i64 t693)) (fun _ hk => hk.2) (.string t694)) (fun _ hk => hk.2) (.int .i64 t695)) (fun _ hk => hk.2) (.int .i64 t696)) (fun _ hk => hk.2) (.slice Ao14 t697.length co14)) (fun _ h_ => h_.1))) (zbw ho0) hb); have n1_ := Aside0.mk (zbm (by (with_reducible repeat (first | apply zai | apply zaj | apply zam)); exact (zbg (zcd (p := ⟨gb702, 4, none⟩) (zcd (p := ⟨gb702, 3, none⟩) (zcd (p := ⟨gb702, 2, none⟩) (zcd (p := ⟨gb702, 1, none⟩) (zcd (p := ⟨gb702, 0, none⟩) (zdt HO699.out BK702.out (by decide)) (fun _ hk => hk.2) (.int .i64 t693)) (fun _ hk => hk.2) (.string t694)) (fun _ hk => hk.2) (.int .i64 t695)) (fun _ hk => hk.2) (.int .i64 t696)) (fun _ hk => hk.2) (.slice Ao14 t697.length co14)) (fun _ h_ => h_.1))) (zbw ho0) hb); have n2_ := Aside0.mk (zca (zcs (zcs ho0 (zco (by (with_reducible repeat (first | apply zai | apply zaj | apply zam)); exact (zbg (zcd (p := ⟨gb702, 4, none⟩) (zcd (p := ⟨gb702, 3, none⟩) (zcd (p := ⟨gb702, 2, none⟩) (zcd (p := ⟨gb702, 1, none⟩) (zcd (p := ⟨gb702, 0, none⟩) (zdt HO692.out BK702.out (by decide)) (fun _ hk => hk.2) (.int .i64 t693)) (fun _ hk => hk.2) (.string t694)) (fun _ hk => hk.2) (.int .i64 t695)) (fun _ hk => hk.2) (.int .i64 t696)) (fun _ hk => hk.2) (.slice Ao14 t697.length co14)) (fun _ h_ => h_.1))))) (zco (by (with_reducible repeat (first | apply zai | apply zaj | apply zam)); exact (zbg (zcd (p := ⟨gb702, 4, none⟩) (zcd (p := ⟨gb702, 3, none⟩) (zcd (p := ⟨gb702, 2, none⟩) (zcd (p := ⟨gb702, 1, none⟩) (zcd (p := ⟨gb702, 0, none⟩) (zdt HO699.out BK702.out (by decide)) (fun _ hk => hk.2) (.int .i64 t693)) (fun _ hk => hk.2) (.string t694)) (fun _ hk => hk.2) (.int .i64 t695)) (fun _ hk => hk.2) (.int .i64 t696)) (fun _ hk => hk.2) (.slice Ao14 t697.length co14)) (fun _ h_ => h_.1))))) (zan (by repeat (first | (with_reducible first | exact HB.out | apply zad | apply zaa | apply zac | refine zal ?_ GE702.out) | exact HB.out)))); have n3_ := Aside0.mk (zbq (g := gb702) (o := .cells #[.int .i64 t693, .string t694, .int .i64 t695, .int .i64 t696, .slice Ao14 t697.length co14] 48 (0, 0)) (by (with_reducible repeat (first | refine zar ?_ _ | refine zaw ?_ | refine zas ?_ _)); refine zew (cs := #[.int .i64 t693, .string t694, .int .i64 t695, .int .i64 t696, .slice none 0 0]) ?_ 4 _ rfl; (with_reducible repeat (first | refine zar ?_ _ | refine zaw ?_ | refine zas ?_ _)); refine zew (cs := #[.int .i64 t693, .string t694, .int .i64 t695, .int .i64 0, .slice none 0 0]) ?_ 3 _ rfl; (with_reducible repeat (first | refine zar ?_ _ | refine zaw ?_ | refine zas ?_ _)); refine zew (cs := #[.int .i64 t693, .string t694, .int .i64 0, .int .i64 0, .slice none 0 0]) ?_ 2 _ rfl; (with_reducible repeat (first | refine zar ?_ _ | refine zaw ?_ | refine zas ?_ _)); refine zew (cs := #[.int .i64 t693, .string (⟨#[]⟩ : ByteArray), .int .i64 0, .int .i64 0, .slice none 0 0]) ?_ 1 _ rfl; (with_reducible repeat (first | refine zar ?_ _ | refine zaw ?_ | refine zas ?_ _)); refine zew (cs := #[.int .i64 0, .string (⟨#[]⟩ : ByteArray), .int .i64 0, .int .i64 0, .slice none 0 0]) ?_ 0 _ rfl; (with_reducible repeat (first | refine zar ?_ _ | refine zaw ?_ | refine zas ?_ _)); exact BK702.out) hb); have n4_ := Aside0.mk (zat (by repeat (first | (with_reducible first | exact HB.out | apply zad | apply zaa | apply zac | refine zal ?_ GE702.out) | exact HB.out)) hb); clear HO692 HO699 BK702 HB; have HO692 := n0_; have HO699 := n1_; have HO705 := n2_; have BK702 := n3_; have HB := n4_; clear n0_ n1_ n2_ n3_ n4_; clear hb ho0; obtain ⟨Ao16, co16, eo16⟩ := zcy HO705.out; subst eo16) | ((with_reducible refine zbl (f := 56) rfl ?_); refine goesL_ (some 34) rfl rfl Try.func56 (by kernel_rfl) rfl #[.slice Ao16 t703.length co16, .int .i64 a1] rfl (by (try simp only [zav, zbd, zbh]); first | done | rfl) ?_; (with_reducible refine (impl_LineOf.calls k _ _ t703 a1 t706 t707 t708 t709 t710 t713 t714 _ ?side1 ?side2 A7.out).mono ?_); (case side1 => repeat (first | exact (zbt HO705.out).2.2 | (with_reducible first | apply zcl | apply zcm | apply zcu))); (case side2 => exact (zbt HO705.out).2.1); rintro e w17 ⟨v711, rfl, ho0, hb⟩; refine ⟨_, rfl, ?_⟩; have qHO692 := Kd.R_ofs (by (with_reducible repeat (first | apply zai | apply zaj | apply zam)); exact HO692.out) hb; have n0_ := Aside0.mk (zbm qHO692 (zbw ho0) hb); have qHO699 := Kd.R_ofs (by (with_reducible repeat (first | apply zai | apply zaj | apply zam)); exact HO699.out) hb; have n1_ := Aside0.mk (zbm qHO699 (zbw ho0) hb); have qHO705 := Kd.R_ofs (by (with_reducible repeat (first | apply zai | apply zaj | apply zam)); exact HO705.out) hb; have n2_ := Aside0.mk (zbm qHO705 (zbw ho0) hb); have n3_ := Aside0.mk (zca (zcs (zcs (zcs ho0 (zco qHO692)) (zco qHO699)) (zco qHO705)) (zan (by repeat (first | (with_reducible first | exact HB.out | apply zad | apply zaa | apply zac | refine zal ?_ GE702.out) | exact HB.out)))); have n4_ := Aside0.mk (zbq (g := gb702) (o := .cells #[.int .i64 t693, .string t694, .int .i64 t695, .int .i64 t696, .slice Ao14 t697.length co14] 48 (0, 0)) (by (with_reducible repeat (first | refine zar ?_ _ | refine zaw ?_ | refine zas ?_ _)); exact BK702.out) hb); have n5_ := Aside0.mk (zat (by repeat (first | (with_reducible first | exact HB.out | apply zad | apply zaa | apply zac | refine zal ?_ GE702.out) | exact HB.out)) hb); clear qHO692 HO692; clear qHO699 HO699; clear qHO705 HO705; clear BK702 HB; have HO692 := n0_; have HO699 := n1_; have HO705 := n2_; have HO712 := n3_; have BK702 := n4_; have HB := n5_; clear n0_ n1_ n2_ n3_ n4_ n5_; clear hb ho0) | ((with_reducible refine zbu (N := 9) rfl ?_); refine zcb ?hg (N := 9) ?hd (cs := #[.int .i64 0, .string (⟨#[]⟩ : ByteArray), .int .i64 0, .int .i64 0, .slice none 0 0]) (t := 48) ?hr ?_; (case hd => rfl); (case hg => rfl); (case hr => first | (go_simp; done) | (go_simp; rfl)); intro gb715 hg w18 hbox hb; have n0_ := Aside0.mk (zcx (by (with_reducible repeat (first | apply zai | apply zaj | apply zam)); exact HO692.out) hb); have n1_ := Aside0.mk (zcx (by (with_reducible repeat (first | apply zai | apply zaj | apply zam)); exact HO699.out) hb); have n2_ := Aside0.mk (zcx (by (with_reducible repeat (first | apply zai | apply zaj | apply zam)); exact HO705.out) hb); have n3_ := Aside0.mk (zcx (by (with_reducible repeat (first | apply zai | apply zaj | apply zam)); exact HO712.out) hb); have n4_ := Aside0.mk (zbq (g := gb702) (o := .cells #[.int .i64 t693, .string t694, .int .i64 t695, .int .i64 t696, .slice Ao14 t697.length co14] 48 (0, 0)) (by (with_reducible repeat (first | refine zar ?_ _ | refine zaw ?_ | refine zas ?_ _)); exact BK702.out) hb); have n5_ := Aside0.mk (zat (by repeat (first | (with_reducible first | exact HB.out | apply zad | apply zaa | apply zac | refine zal ?_ GE702.out) | exact HB.out)) hb); have n6_ := Aside0.mk (hbox); have n7_ := Aside0.mk ((by rw [hg]; exact (zan (by repeat (first | (with_reducible first | exact HB.out | apply zad | apply zaa | apply zac | refine zal ?_ GE702.out) | exact HB.out))) : w.heap.size ≤ gb715)); have n8_ := Aside0.mk ((by rw [hg]; exact (zan (by repeat (first | (with_reducible first | exact HB.out | apply zad | apply zaa | apply zac | refine zal ?_ GE702.out) | exact HB.out))) : w.heap.size ≤ gb715)); have n9_ := Aside0.mk ((by rw [hg]; exact zdz (blk_lt (g := gb702) (o := .cells #[.int .i64 t693, .string t694, .int .i64 t695, .int .i64 t696, .slice Ao14 t697.length co14] 48 (0, 0)) (by (with_reducible repeat (first | refine zar ?_ _ | refine zaw ?_ | refine zas ?_ _)); exact BK702.out)) : gb702 ≠ gb715)); have n10_ := Aside0.mk ((by rw [hg]; exact zea (blk_lt (g := gb702) (o := .cells #[.int .i64 t693, .string t694, .int .i64 t695, .int .i64 t696, .slice Ao14 t697.length co14] 48 (0, 0)) (by (with_reducible repeat (first | refine zar ?_ _ | refine zaw ?_ | refine zas ?_ _)); exact BK702.out)) : gb715 ≠ gb702)); clear HO692 HO699 HO705 HO712 BK702 HB; have HO692 := n0_; have HO699 := n1_; have HO705 := n2_; have HO712 := n3_; have BK702 := n4_; have HB := n5_; have BK715 := n6_; have GW715 := n7_; have GE715 := n8_; have NB702_715 := n9_; have NB715_702 := n10_; clear n0_ n1_ n2_ n3_ n4_ n5_ n6_ n7_ n8_ n9_ n10_; clear hb hbox hg; have hnb19 := NB715_702.out; have hnc19 := NB702_715.out; have hcz20_0 : w18.cell? ⟨gb715, 0, none⟩ = some (.int .i64 0) := (zaf BK715.out 0).trans rfl; have hcz20_1 : w18.cell? ⟨gb715, 1, none⟩ = some (.string (⟨#[]⟩ : ByteArray)) := (zaf BK715.out 1).trans rfl; have hcz20_2 : w18.cell? ⟨gb715, 2, none⟩ = some (.int .i64 0) := (zaf BK715.out 2).trans rfl; have hcz20_3 : w18.cell? ⟨gb715, 3, none⟩ = some (.int .i64 0) := (zaf BK715.out 3).trans rfl; have hcz20_4 : w18.cell? ⟨gb715, 4, none⟩ = some (.slice none 0 0) := (zaf BK715.out 4).trans rfl; have hfz20_0 := zab BK715.out 0; have hfz20_1 := zab BK715.out 1; have hfz20_2 := zab BK715.out 2; have hfz20_3 := zab BK715.out 3; have hfz20_4 := zab BK715.out 4; obtain ⟨Ao21, co21, eo21⟩ := zcy HO712.out; subst eo21))
  (try simp only [Act.put, zae, zag, zah])
  go_cut [51] (fun v51 wc => ∃ (kq : Nat) (x51_7 : Bool), v51 = .bool x51_7 ∧ Aside0 (laws_FnExactLineOf.j0 kq l0 a1 t700 t701 t703 t713 t714 x51_7 t693 t694 t695 t696 t697 t706 t707 t708 t709 t710 = some r) ∧ Aside0 (kq ≤ k) ∧ Aside0 (Kd.R (Kd.int .u8) 5 wc w.heap.size (fun k_ => some k_ ≠ ((.slice Ao14 t697.length co14) : Value).ownBlock ∧ some k_ ≠ ((.slice Ao21 t710.length co21) : Value).ownBlock) (.slice Ao16 t703.length co16) t703) ∧ Aside0 (Kd.R (Kd.int .u8) 5 wc w.heap.size (fun k_ => some k_ ≠ ((.slice Ao16 t703.length co16) : Value).ownBlock ∧ some k_ ≠ ((.slice Ao21 t710.length co21) : Value).ownBlock) (.slice Ao14 t697.length co14) t697) ∧ Aside0 (Kd.R (Kd.int .u8) 5 wc w.heap.size (fun k_ => some k_ ≠ ((.slice Ao16 t703.length co16) : Value).ownBlock ∧ some k_ ≠ ((.slice Ao14 t697.length co14) : Value).ownBlock) (.slice Ao21 t710.length co21) t710) ∧ Aside0 (wc.heap[gb702]? = some (.cells #[.int .i64 t693, .string t694, .int .i64 t695, .int .i64 t696, (.slice Ao14 t697.length co14)] 48 (0, 0))) ∧ Aside0 (wc.heap[gb715]? = some (.cells #[.int .i64 t706, .string t707, .int .i64 t708, .int .i64 t709, (.slice Ao21 t710.length co21)] 48 (0, 0))) ∧ Aside0 (Below w.heap.size w wc))
  case first =>
   have H := HC8.out
   clear HC8
   replace H := zaq.mp H
   obtain ⟨t716, A220, H⟩ := H
   try dsimp only at H
   have A22 := Aside0.mk A220
   clear A220
   by_cases c23 : t716 = true
   ·subst c23
    have H1 : (if t713 = t700 then (laws_FnExactLineOf.j0 k l0 a1 t700 t701 t703 t713 t714 (t714 != t701) t693 t694 t695 t696 t697 t706 t707 t708 t709 t710) else (none)) = some r := by rw [if_pos rfl] at H; exact H
    clear H
    have H := H1
    clear H1
    by_cases c24 : t713 = t700
    ·rw [if_pos c24] at H
     have c24b0 : (t713 == t700) = true := zdp.mpr c24
     have c24b1 : (t713 != t700) = false := zby.mpr c24
     clear c24
     (first | rw [c24b0] | (simp only [i64_w, i32_w]; rw [c24b0]) | skip)
     have H' := Aside0.mk H
     clear H
     have hnb25 := NB715_702.out
     have hnc25 := NB702_715.out
     have hcz26_0 : w18.cell? ⟨gb715, 0, none⟩ = some (.int .i64 0) := (zaf BK715.out 0).trans rfl
     have hcz26_1 : w18.cell? ⟨gb715, 1, none⟩ = some (.string (⟨#[]⟩ : ByteArray)) := (zaf BK715.out 1).trans rfl
     have hcz26_2 : w18.cell? ⟨gb715, 2, none⟩ = some (.int .i64 0) := (zaf BK715.out 2).trans rfl
     have hcz26_3 : w18.cell? ⟨gb715, 3, none⟩ = some (.int .i64 0) := (zaf BK715.out 3).trans rfl
     have hcz26_4 : w18.cell? ⟨gb715, 4, none⟩ = some (.slice none 0 0) := (zaf BK715.out 4).trans rfl
     have hfz26_0 := zab BK715.out 0
     have hfz26_1 := zab BK715.out 1
     have hfz26_2 := zab BK715.out 2
     have hfz26_3 := zab BK715.out 3
     have hfz26_4 := zab BK715.out 4
     have hcz27_0 : w18.cell? ⟨gb702, 0, none⟩ = some (.int .i64 t693) := (zaf BK702.out 0).trans rfl
     have hcz27_1 : w18.cell? ⟨gb702, 1, none⟩ = some (.string t694) := (zaf BK702.out 1).trans rfl
     have hcz27_2 : w18.cell? ⟨gb702, 2, none⟩ = some (.int .i64 t695) := (zaf BK702.out 2).trans rfl
     have hcz27_3 : w18.cell? ⟨gb702, 3, none⟩ = some (.int .i64 t696) := (zaf BK702.out 3).trans rfl
     have hcz27_4 : w18.cell? ⟨gb702, 4, none⟩ = some (.slice Ao14 t697.length co14) := (zaf BK702.out 4).trans rfl
     have hfz27_0 := zab BK702.out 0
     have hfz27_1 := zab BK702.out 1
     have hfz27_2 := zab BK702.out 2
     have hfz27_3 := zab BK702.out 3
     have hfz27_4 := zab BK702.out 4
     go_wp2_with (first | ((with_reducible refine zbl (f := 37) rfl ?_); refine goesL_ (some 40) rfl rfl Try.func37 (by kernel_rfl) rfl #[.agg #[.int .i64 t706, .string t707, .int .i64 t708, .int .i64 t709, .slice Ao21 t710.length co21], .agg #[.int .i64 t693, .string t694, .int .i64 t695, .int .i64 t696, .slice Ao14 t697.length co14]] rfl (by (try simp only [zav, zbd, zbh]); first | done | rfl) ?_; (with_reducible refine (laws_eqLine.calls k t706 t707 t708 t709 _ _ t710 t693 t694 t695 t696 _ _ t697 true _ ?side1 ?side2 ?side3 ?side4 A22.out).mono ?_); (case side1 => refine (zbt (e := 5) (base := w.heap.size) (ok := fun k_ => (((True ∧ some k_ ≠ (.slice Ao10 t690.length co10 : Value).ownBlock) ∧ some k_ ≠ (.slice Ao14 t697.length co14 : Value).ownBlock) ∧ some k_ ≠ (.slice Ao16 t703.length co16 : Value).ownBlock)) (n := t710.length) (c := co21) ?_).2.2; exact (by (with_reducible repeat (first | apply zai | apply zaj | apply zam)); exact (zbg (zcd (p := ⟨gb715, 4, none⟩) (zcd (p := ⟨gb715, 3, none⟩) (zcd (p := ⟨gb715, 2, none⟩) (zcd (p := ⟨gb715, 1, none⟩) (zcd (p := ⟨gb715, 0, none⟩) (zdt HO712.out BK715.out (by decide)) (fun _ hk => hk.2) (.int .i64 t706)) (fun _ hk => hk.2) (.string t707)) (fun _ hk => hk.2) (.int .i64 t708)) (fun _ hk => hk.2) (.int .i64 t709)) (fun _ hk => hk.2) (.slice Ao21 t710.length co21)) (fun _ h_ => h_.1)))); (case side2 => exact (zbt HO712.out).2.1); (case side3 => refine (zbt (e := 5) (base := w.heap.size) (ok := fun k_ => (((True ∧ some k_ ≠ (.slice Ao10 t690.length co10 : Value).ownBlock) ∧ some k_ ≠ (.slice Ao16 t703.length co16 : Value).ownBlock) ∧ some k_ ≠ (.slice Ao21 t710.length co21 : Value).ownBlock)) (n := t697.length) (c := co14) ?_).2.2; exact (by (with_reducible repeat (first | apply zai | apply zaj | apply zam)); exact (zbg (zcd (p := ⟨gb715, 4, none⟩) (zcd (p := ⟨gb715, 3, none⟩) (zcd (p := ⟨gb715, 2, none⟩) (zcd (p := ⟨gb715, 1, none⟩) (zcd (p := ⟨gb715, 0, none⟩) (zdt HO699.out BK715.out (by decide)) (fun _ hk => hk.2) (.int .i64 t706)) (fun _ hk => hk.2) (.string t707)) (fun _ hk => hk.2) (.int .i64 t708)) (fun _ hk => hk.2) (.int .i64 t709)) (fun _ hk => hk.2) (.slice Ao21 t710.length co21)) (fun _ h_ => h_.1)))); (case side4 => exact (zbt HO699.out).2.1); rintro e w28 ⟨rfl, hb⟩; refine ⟨_, rfl, ?_⟩; have n0_ := Aside0.mk (zcx (by (with_reducible repeat (first | apply zai | apply zaj | apply zam)); exact (zbg (zcd (p := ⟨gb715, 4, none⟩) (zcd (p := ⟨gb715, 3, none⟩) (zcd (p := ⟨gb715, 2, none⟩) (zcd (p := ⟨gb715, 1, none⟩) (zcd (p := ⟨gb715, 0, none⟩) (zdt HO692.out BK715.out (by decide)) (fun _ hk => hk.2) (.int .i64 t706)) (fun _ hk => hk.2) (.string t707)) (fun _ hk => hk.2) (.int .i64 t708)) (fun _ hk => hk.2) (.int .i64 t709)) (fun _ hk => hk.2) (.slice Ao21 t710.length co21)) (fun _ h_ => h_.1))) hb); have n1_ := Aside0.mk (zcx (by (with_reducible repeat (first | apply zai | apply zaj | apply zam)); exact (zbg (zcd (p := ⟨gb715, 4, none⟩) (zcd (p := ⟨gb715, 3, none⟩) (zcd (p := ⟨gb715, 2, none⟩) (zcd (p := ⟨gb715, 1, none⟩) (zcd (p := ⟨gb715, 0, none⟩) (zdt HO699.out BK715.out (by decide)) (fun _ hk => hk.2) (.int .i64 t706)) (fun _ hk => hk.2) (.string t707)) (fun _ hk => hk.2) (.int .i64 t708)) (fun _ hk => hk.2) (.int .i64 t709)) (fun _ hk => hk.2) (.slice Ao21 t710.length co21)) (fun _ h_ => h_.1))) hb); have n2_ := Aside0.mk (zcx (by (with_reducible repeat (first | apply zai | apply zaj | apply zam)); exact (zbg (zcd (p := ⟨gb715, 4, none⟩) (zcd (p := ⟨gb715, 3, none⟩) (zcd (p := ⟨gb715, 2, none⟩) (zcd (p := ⟨gb715, 1, none⟩) (zcd (p := ⟨gb715, 0, none⟩) (zdt HO705.out BK715.out (by decide)) (fun _ hk => hk.2) (.int .i64 t706)) (fun _ hk => hk.2) (.string t707)) (fun _ hk => hk.2) (.int .i64 t708)) (fun _ hk => hk.2) (.int .i64 t709)) (fun _ hk => hk.2) (.slice Ao21 t710.length co21)) (fun _ h_ => h_.1))) hb); have n3_ := Aside0.mk (zcx (by (with_reducible repeat (first | apply zai | apply zaj | apply zam)); exact (zbg (zcd (p := ⟨gb715, 4, none⟩) (zcd (p := ⟨gb715, 3, none⟩) (zcd (p := ⟨gb715, 2, none⟩) (zcd (p := ⟨gb715, 1, none⟩) (zcd (p := ⟨gb715, 0, none⟩) (zdt HO712.out BK715.out (by decide)) (fun _ hk => hk.2) (.int .i64 t706)) (fun _ hk => hk.2) (.string t707)) (fun _ hk => hk.2) (.int .i64 t708)) (fun _ hk => hk.2) (.int .i64 t709)) (fun _ hk => hk.2) (.slice Ao21 t710.length co21)) (fun _ h_ => h_.1))) hb); have n4_ := Aside0.mk (zbq (g := gb702) (o := .cells #[.int .i64 t693, .string t694, .int .i64 t695, .int .i64 t696, .slice Ao14 t697.length co14] 48 (0, 0)) (by (with_reducible repeat (first | refine zar ?_ _ | refine zaw ?_ | refine zas ?_ _)); refine zfn ?_ NB702_715.out _; (with_reducible repeat (first | refine zar ?_ _ | refine zaw ?_ | refine zas ?_ _)); refine zfn ?_ NB702_715.out _; (with_reducible repeat (first | refine zar ?_ _ | refine zaw ?_ | refine zas ?_ _)); refine zfn ?_ NB702_715.out _; (with_reducible repeat (first | refine zar ?_ _ | refine zaw ?_ | refine zas ?_ _)); refine zfn ?_ NB702_715.out _; (with_reducible repeat (first | refine zar ?_ _ | refine zaw ?_ | refine zas ?_ _)); refine zfn ?_ NB702_715.out _; (with_reducible repeat (first | refine zar ?_ _ | refine zaw ?_ | refine zas ?_ _)); exact BK702.out) hb); have n5_ := Aside0.mk (zbq (g := gb715) (o := .cells #[.int .i64 t706, .string t707, .int .i64 t708, .int .i64 t709, .slice Ao21 t710.length co21] 48 (0, 0)) (by (with_reducible repeat (first | refine zar ?_ _ | refine zaw ?_ | refine zas ?_ _)); refine zew (cs := #[.int .i64 t706, .string t707, .int .i64 t708, .int .i64 t709, .slice none 0 0]) ?_ 4 _ rfl; (with_reducible repeat (first | refine zar ?_ _ | refine zaw ?_ | refine zas ?_ _)); refine zew (cs := #[.int .i64 t706, .string t707, .int .i64 t708, .int .i64 0, .slice none 0 0]) ?_ 3 _ rfl; (with_reducible repeat (first | refine zar ?_ _ | refine zaw ?_ | refine zas ?_ _)); refine zew (cs := #[.int .i64 t706, .string t707, .int .i64 0, .int .i64 0, .slice none 0 0]) ?_ 2 _ rfl; (with_reducible repeat (first | refine zar ?_ _ | refine zaw ?_ | refine zas ?_ _)); refine zew (cs := #[.int .i64 t706, .string (⟨#[]⟩ : ByteArray), .int .i64 0, .int .i64 0, .slice none 0 0]) ?_ 1 _ rfl; (with_reducible repeat (first | refine zar ?_ _ | refine zaw ?_ | refine zas ?_ _)); refine zew (cs := #[.int .i64 0, .string (⟨#[]⟩ : ByteArray), .int .i64 0, .int .i64 0, .slice none 0 0]) ?_ 0 _ rfl; (with_reducible repeat (first | refine zar ?_ _ | refine zaw ?_ | refine zas ?_ _)); exact BK715.out) hb); have n6_ := Aside0.mk (zat (by repeat (first | (with_reducible first | exact HB.out | apply zad | apply zaa | apply zac | refine zal ?_ GE702.out | refine zal ?_ GE715.out) | exact HB.out)) hb); clear HO692 HO699 HO705 HO712 BK702 BK715 HB; have HO692 := n0_; have HO699 := n1_; have HO705 := n2_; have HO712 := n3_; have BK702 := n4_; have BK715 := n5_; have HB := n6_; clear n0_ n1_ n2_ n3_ n4_ n5_ n6_; (try clear hb); (try clear hb2); (try clear hk); (try clear hi)))
     go_meet
     case rel => exact ⟨_, ((t714 != t701)), (by first | rfl | (simp; done) | (simp [*]; done)), H', ⟨by first | omega | exact zak _⟩, ⟨by (with_reducible repeat (first | apply zai | apply zaj | apply zam)); exact zbg HO705.out (fun _ hk => ⟨hk.1.2, hk.2⟩)⟩, ⟨by (with_reducible repeat (first | apply zai | apply zaj | apply zam)); exact zbg HO699.out (fun _ hk => ⟨hk.1.2, hk.2⟩)⟩, ⟨by (with_reducible repeat (first | apply zai | apply zaj | apply zam)); exact zbg HO712.out (fun _ hk => ⟨hk.2, hk.1.2⟩)⟩, ⟨by (with_reducible repeat (first | refine zar ?_ _ | refine zaw ?_ | refine zas ?_ _)); exact BK702.out⟩, ⟨by (with_reducible repeat (first | refine zar ?_ _ | refine zaw ?_ | refine zas ?_ _)); exact BK715.out⟩, ⟨by repeat (first | (with_reducible first | exact HB.out | apply zad | apply zaa | apply zac | refine zal ?_ GE702.out | refine zal ?_ GE715.out) | exact HB.out)⟩⟩
    ·rw [if_neg c24] at H
     exact absurd H (by simp)
   ·replace c23 := zcn.mpr c23
    subst c23
    have H1 : (none) = some r := by rw [if_neg (show ¬ (false = true) by decide)] at H; exact H
    clear H
    have H := H1
    clear H1
    exact absurd H (by simp)
  case rest =>
   clear HC8
   try clear c1
   try clear c2
   try clear p2
   try clear c3
   try clear c3b0
   try clear c3b1
   try clear c5
   try clear c11
   try clear c19
   try clear c23
   try clear c24
   try clear c24b0
   try clear c24b1
   try clear c25
   try clear hcz13_0
   try clear hcz13_1
   try clear hcz13_2
   try clear hcz13_3
   try clear hcz13_4
   try clear hcz20_0
   try clear hcz20_1
   try clear hcz20_2
   try clear hcz20_3
   try clear hcz20_4
   try clear hcz26_0
   try clear hcz26_1
   try clear hcz26_2
   try clear hcz26_3
   try clear hcz26_4
   try clear hcz27_0
   try clear hcz27_1
   try clear hcz27_2
   try clear hcz27_3
   try clear hcz27_4
   try clear hfz13_0
   try clear hfz13_1
   try clear hfz13_2
   try clear hfz13_3
   try clear hfz13_4
   try clear hfz20_0
   try clear hfz20_1
   try clear hfz20_2
   try clear hfz20_3
   try clear hfz20_4
   try clear hfz26_0
   try clear hfz26_1
   try clear hfz26_2
   try clear hfz26_3
   try clear hfz26_4
   try clear hfz27_0
   try clear hfz27_1
   try clear hfz27_2
   try clear hfz27_3
   try clear hfz27_4
   obtain ⟨kq, x51_7, rfl, HA, HJ7, HO_8, HO_703004, HO_716004, BK702, BK715, HB⟩ := hcut
   cases kq with
   | zero => exact absurd HA.out (by simp [laws_FnExactLineOf.j0])
   | succ kj7 =>
    have H := HA.out
    clear HA
    simp only [laws_FnExactLineOf.j0] at H
    by_cases c29 : x51_7 = true
    ·subst c29
     have H1 : (none) = some r := by rw [if_pos rfl] at H; exact H
     clear H
     have H := H1
     clear H1
     exact absurd H (by simp)
    ·replace c29 := zcn.mpr c29
     subst c29
     have H1 : ((laws_toByteS.f kj7 l0).bind fun t717 => ((laws_eqByteS.f kj7 t703 t717).bind fun t720 => (if t720 = true then ((laws_markByteS.f kj7 t703 1).bind fun bt721 => (if bt721.1 < 0 then (none) else ((laws_eqLine.f kj7 t706 t707 t708 t709 t710 t693 t694 t695 t696 t697).bind fun t723 => (if t723 = true then (if t713 = t700 then (laws_FnExactLineOf.j1 kj7 l0 a1 t700 t701 (t714 != t701) t693 t694 t695 t696 t697 t706 t707 t708 t709 t710) else (none)) else (none))))) else (none)))) = some r := by rw [if_neg (show ¬ (false = true) by decide)] at H; exact H
     clear H
     have H := H1
     clear H1
     replace H := zaq.mp H
     obtain ⟨t717, A300, H⟩ := H
     try dsimp only at H
     have A30 := Aside0.mk A300
     clear A300
     replace H := zaq.mp H
     obtain ⟨t720, A310, H⟩ := H
     try dsimp only at H
     have A31 := Aside0.mk A310
     clear A310
     by_cases c32 : t720 = true
     ·subst c32
      have H1 : ((laws_markByteS.f kj7 t703 1).bind fun bt721 => (if bt721.1 < 0 then (none) else ((laws_eqLine.f kj7 t706 t707 t708 t709 t710 t693 t694 t695 t696 t697).bind fun t723 => (if t723 = true then (if t713 = t700 then (laws_FnExactLineOf.j1 kj7 l0 a1 t700 t701 (t714 != t701) t693 t694 t695 t696 t697 t706 t707 t708 t709 t710) else (none)) else (none))))) = some r := by rw [if_pos rfl] at H; exact H
      clear H
      have H := H1
      clear H1
      replace H := zaq.mp H
      obtain ⟨⟨t721, t722⟩, A330, H⟩ := H
      try dsimp only at H
      have A33 := Aside0.mk A330
      clear A330
      have HC34 := Aside0.mk H
      clear H
      go_upto_region 12 with (first | ((with_reducible refine zbl (f := 55) rfl ?_); refine goesL_ (some 54) rfl rfl Try.func55 (by kernel_rfl) rfl #[.slice A0 l0.length c0] rfl (by (try simp only [zav, zbd, zbh]); first | done | rfl) ?_; (with_reducible refine (laws_toByteS.calls kj7 _ _ l0 t717 _ ?side1 ?side2 A30.out).mono ?_); (case side1 => repeat (first | exact (zbk HR0.out HB.out) | (with_reducible first | apply zcl | apply zcm | apply zcu))); (case side2 => exact HC0.out); rintro e w35 ⟨v718, rfl, ho0, hb⟩; refine ⟨_, rfl, ?_⟩; have qHO_8 := Kd.R_ofs (by (with_reducible repeat (first | apply zai | apply zaj | apply zam)); exact HO_8.out) hb; have n0_ := Aside0.mk (zbm qHO_8 (zbw ho0) hb); have qHO_703004 := Kd.R_ofs (by (with_reducible repeat (first | apply zai | apply zaj | apply zam)); exact HO_703004.out) hb; have n1_ := Aside0.mk (zbm qHO_703004 (zbw ho0) hb); have qHO_716004 := Kd.R_ofs (by (with_reducible repeat (first | apply zai | apply zaj | apply zam)); exact HO_716004.out) hb; have n2_ := Aside0.mk (zbm qHO_716004 (zbw ho0) hb); have n3_ := Aside0.mk (zca (zcs (zcs (zcs ho0 (zco qHO_8)) (zco qHO_703004)) (zco qHO_716004)) (zan (by repeat (first | (with_reducible first | exact HB.out | apply zad | apply zaa | apply zac | refine zal ?_ GE702.out | refine zal ?_ GE715.out) | exact HB.out)))); have n4_ := Aside0.mk (zbq (g := gb702) (o := .cells #[.int .i64 t693, .string t694, .int .i64 t695, .int .i64 t696, .slice Ao14 t697.length co14] 48 (0, 0)) (by (with_reducible repeat (first | refine zar ?_ _ | refine zaw ?_ | refine zas ?_ _)); exact BK702.out) hb); have n5_ := Aside0.mk (zbq (g := gb715) (o := .cells #[.int .i64 t706, .string t707, .int .i64 t708, .int .i64 t709, .slice Ao21 t710.length co21] 48 (0, 0)) (by (with_reducible repeat (first | refine zar ?_ _ | refine zaw ?_ | refine zas ?_ _)); exact BK715.out) hb); have n6_ := Aside0.mk (zat (by repeat (first | (with_reducible first | exact HB.out | apply zad | apply zaa | apply zac | refine zal ?_ GE702.out | refine zal ?_ GE715.out) | exact HB.out)) hb); clear qHO_703004 HO_8; clear qHO_716004 HO_703004; clear qHO_8 HO_716004; clear BK702 BK715 HB; have HO_8 := n0_; have HO_703004 := n1_; have HO_716004 := n2_; have HO719 := n3_; have BK702 := n4_; have BK715 := n5_; have HB := n6_; clear n0_ n1_ n2_ n3_ n4_ n5_ n6_; clear hb ho0; obtain ⟨Ao36, co36, eo36⟩ := zcy HO719.out; subst eo36) | ((with_reducible refine zbl (f := 50) rfl ?_); refine goesL_ (some 55) rfl rfl Try.func50 (by kernel_rfl) rfl #[.slice Ao16 t703.length co16, .slice Ao36 t717.length co36] rfl (by (try simp only [zav, zbd, zbh]); first | done | rfl) ?_; (with_reducible refine (laws_eqByteS.calls kj7 _ _ t703 _ _ t717 true _ ?side1 ?side2 ?side3 ?side4 A31.out).mono ?_); (case side1 => repeat (first | exact (zbt HO_8.out).2.2 | (with_reducible first | apply zcl | apply zcm | apply zcu))); (case side2 => exact (zbt HO_8.out).2.1); (case side3 => repeat (first | exact (zbt HO719.out).2.2 | (with_reducible first | apply zcl | apply zcm | apply zcu))); (case side4 => exact (zbt HO719.out).2.1); rintro e w' ⟨rfl, ⟨nd, rfl⟩⟩; refine ⟨_, rfl, ?_⟩) | ((with_reducible refine zbl (f := 52) rfl ?_); refine goesL_ (some 59) rfl rfl Try.func52 (by kernel_rfl) rfl #[.slice Ao16 t703.length co16, .int .i64 1] rfl (by (try simp only [zav, zbd, zbh]); first | done | rfl) ?_; (with_reducible refine (laws_markByteS.calls kj7 (fun k_ => some k_ = (.slice Ao16 t703.length co16 : Value).ownBlock) (.slice Ao16 t703.length co16) t703 1 t721 t722 w _ ?side1 ?side2 A33.out).mono ?_); (case side1 => repeat (first | (with_reducible first | exact HB.out | apply zad | apply zaa | apply zac | refine zal ?_ GE702.out | refine zal ?_ GE715.out) | exact HB.out)); (case side2 => exact Kd.R_tight rfl HO_8.out); rintro e w37 ⟨rfl, hy0, hb, hkp⟩; refine ⟨_, rfl, ?_⟩; have n0_ := Aside0.mk (Kd.R_reok rfl hy0 (fun k_ e_ => HO_8.out.1 k_ e_)); have n1_ := Aside0.mk (zbg (ok' := fun k_ => some k_ ≠ (.slice Ao16 t703.length co16 : Value).ownBlock ∧ some k_ ≠ (.slice Ao21 t710.length co21 : Value).ownBlock ∧ some k_ ≠ (.slice Ao36 t717.length co36 : Value).ownBlock) (Kd.R_keptB (HO_703004.out) hkp (fun k_ hk_ hs_ => (hk_.1.1) hs_)) (fun k_ hk_ => ⟨hk_.1.1.1, hk_.1.1.2, hk_.1.2⟩)); have n2_ := Aside0.mk (zbg (ok' := fun k_ => some k_ ≠ (.slice Ao16 t703.length co16 : Value).ownBlock ∧ some k_ ≠ (.slice Ao14 t697.length co14 : Value).ownBlock ∧ some k_ ≠ (.slice Ao36 t717.length co36 : Value).ownBlock) (Kd.R_keptB (HO_716004.out) hkp (fun k_ hk_ hs_ => (hk_.1.1) hs_)) (fun k_ hk_ => ⟨hk_.1.1.1, hk_.1.1.2, hk_.1.2⟩)); have n3_ := Aside0.mk (blk_kept (by (with_reducible repeat (first | refine zar ?_ _ | refine zaw ?_ | refine zas ?_ _)); exact BK702.out) hkp (fun hs_ => (fun e_ => (zfm HO_8.out BK702.out (by decide)) e_) hs_)); have n4_ := Aside0.mk (blk_kept (by (with_reducible repeat (first | refine zar ?_ _ | refine zaw ?_ | refine zas ?_ _)); exact BK715.out) hkp (fun hs_ => (fun e_ => (zfm HO_8.out BK715.out (by decide)) e_) hs_)); have n5_ := Aside0.mk (zbg (ok' := fun k_ => some k_ ≠ (.slice Ao16 t703.length co16 : Value).ownBlock ∧ some k_ ≠ (.slice Ao14 t697.length co14 : Value).ownBlock ∧ some k_ ≠ (.slice Ao21 t710.length co21 : Value).ownBlock) (Kd.R_keptB (HO719.out) hkp (fun k_ hk_ hs_ => (hk_.1.1.2) hs_)) (fun k_ hk_ => ⟨hk_.1.1.1.2, hk_.1.1.2, hk_.1.2⟩)); have n6_ := Aside0.mk (hb); clear HO_8 HO_703004 HO_716004 BK702 BK715 HO719 HB; have HO_8 := n0_; have HO_703004 := n1_; have HO_716004 := n2_; have BK702 := n3_; have BK715 := n4_; have HO719 := n5_; have HB := n6_; clear n0_ n1_ n2_ n3_ n4_ n5_ n6_; (try clear hb); (try clear hkp); (try clear hy0)))
      (try simp only [Act.put, zae, zag, zah])
      go_cut [77] (fun v77 wc => ∃ (kq : Nat) (x77_33 : Bool), v77 = .bool x77_33 ∧ Aside0 (laws_FnExactLineOf.j1 kq l0 a1 t700 t701 x77_33 t693 t694 t695 t696 t697 t706 t707 t708 t709 t710 = some r) ∧ Aside0 (kq ≤ kj7) ∧ Aside0 (Kd.R (Kd.int .u8) 5 wc w.heap.size (fun k_ => some k_ ≠ ((.slice Ao21 t710.length co21) : Value).ownBlock) (.slice Ao14 t697.length co14) t697) ∧ Aside0 (Kd.R (Kd.int .u8) 5 wc w.heap.size (fun k_ => some k_ ≠ ((.slice Ao14 t697.length co14) : Value).ownBlock) (.slice Ao21 t710.length co21) t710) ∧ Aside0 (wc.heap[gb702]? = some (.cells #[.int .i64 t693, .string t694, .int .i64 t695, .int .i64 t696, (.slice Ao14 t697.length co14)] 48 (0, 0))) ∧ Aside0 (wc.heap[gb715]? = some (.cells #[.int .i64 t706, .string t707, .int .i64 t708, .int .i64 t709, (.slice Ao21 t710.length co21)] 48 (0, 0))) ∧ Aside0 (Below w.heap.size w wc))
      case first =>
       have H := HC34.out
       clear HC34
       by_cases c38 : t721 < 0
       ·rw [if_pos c38] at H
        exact absurd H (by simp)
       ·rw [if_neg c38] at H
        have c38b0 : decide (t721 < 0) = false := zbv c38
        clear c38
        (first | rw [c38b0] | (simp only [i64_w, i32_w]; rw [c38b0]) | skip)
        replace H := zaq.mp H
        obtain ⟨t723, A390, H⟩ := H
        try dsimp only at H
        have A39 := Aside0.mk A390
        clear A390
        by_cases c40 : t723 = true
        ·subst c40
         have H1 : (if t713 = t700 then (laws_FnExactLineOf.j1 kj7 l0 a1 t700 t701 (t714 != t701) t693 t694 t695 t696 t697 t706 t707 t708 t709 t710) else (none)) = some r := by rw [if_pos rfl] at H; exact H
         clear H
         have H := H1
         clear H1
         by_cases c41 : t713 = t700
         ·rw [if_pos c41] at H
          have c41b0 : (t713 == t700) = true := zdp.mpr c41
          have c41b1 : (t713 != t700) = false := zby.mpr c41
          clear c41
          have H' := Aside0.mk H
          clear H
          have hnb42 := NB715_702.out
          have hnc42 := NB702_715.out
          have hcz43_0 : w37.cell? ⟨gb715, 0, none⟩ = some (.int .i64 t706) := (zaf BK715.out 0).trans rfl
          have hcz43_1 : w37.cell? ⟨gb715, 1, none⟩ = some (.string t707) := (zaf BK715.out 1).trans rfl
          have hcz43_2 : w37.cell? ⟨gb715, 2, none⟩ = some (.int .i64 t708) := (zaf BK715.out 2).trans rfl
          have hcz43_3 : w37.cell? ⟨gb715, 3, none⟩ = some (.int .i64 t709) := (zaf BK715.out 3).trans rfl
          have hcz43_4 : w37.cell? ⟨gb715, 4, none⟩ = some (.slice Ao21 t710.length co21) := (zaf BK715.out 4).trans rfl
          have hfz43_0 := zab BK715.out 0
          have hfz43_1 := zab BK715.out 1
          have hfz43_2 := zab BK715.out 2
          have hfz43_3 := zab BK715.out 3
          have hfz43_4 := zab BK715.out 4
          have hcz44_0 : w37.cell? ⟨gb702, 0, none⟩ = some (.int .i64 t693) := (zaf BK702.out 0).trans rfl
          have hcz44_1 : w37.cell? ⟨gb702, 1, none⟩ = some (.string t694) := (zaf BK702.out 1).trans rfl
          have hcz44_2 : w37.cell? ⟨gb702, 2, none⟩ = some (.int .i64 t695) := (zaf BK702.out 2).trans rfl
          have hcz44_3 : w37.cell? ⟨gb702, 3, none⟩ = some (.int .i64 t696) := (zaf BK702.out 3).trans rfl
          have hcz44_4 : w37.cell? ⟨gb702, 4, none⟩ = some (.slice Ao14 t697.length co14) := (zaf BK702.out 4).trans rfl
          have hfz44_0 := zab BK702.out 0
          have hfz44_1 := zab BK702.out 1
          have hfz44_2 := zab BK702.out 2
          have hfz44_3 := zab BK702.out 3
          have hfz44_4 := zab BK702.out 4
          go_wp2_with (first | (go_at_call 37; (with_reducible refine (laws_eqLine.calls kj7 t706 t707 t708 t709 _ _ t710 t693 t694 t695 t696 _ _ t697 true _ ?side1 ?side2 ?side3 ?side4 A39.out).mono ?_); (case side1 => repeat (first | exact (zbt HO_716004.out).2.2 | (with_reducible first | apply zcl | apply zcm | apply zcu))); (case side2 => exact (zbt HO_716004.out).2.1); (case side3 => repeat (first | exact (zbt HO_703004.out).2.2 | (with_reducible first | apply zcl | apply zcm | apply zcu))); (case side4 => exact (zbt HO_703004.out).2.1); rintro e w45 ⟨rfl, hb⟩; have n0_ := Aside0.mk (zcx (by (with_reducible repeat (first | apply zai | apply zaj | apply zam)); exact HO_8.out) hb); have n1_ := Aside0.mk (zcx (by (with_reducible repeat (first | apply zai | apply zaj | apply zam)); exact HO_703004.out) hb); have n2_ := Aside0.mk (zcx (by (with_reducible repeat (first | apply zai | apply zaj | apply zam)); exact HO_716004.out) hb); have n3_ := Aside0.mk (zcx (by (with_reducible repeat (first | apply zai | apply zaj | apply zam)); exact HO719.out) hb); have n4_ := Aside0.mk (zbq (g := gb702) (o := .cells #[.int .i64 t693, .string t694, .int .i64 t695, .int .i64 t696, .slice Ao14 t697.length co14] 48 (0, 0)) (by (with_reducible repeat (first | refine zar ?_ _ | refine zaw ?_ | refine zas ?_ _)); exact BK702.out) hb); have n5_ := Aside0.mk (zbq (g := gb715) (o := .cells #[.int .i64 t706, .string t707, .int .i64 t708, .int .i64 t709, .slice Ao21 t710.length co21] 48 (0, 0)) (by (with_reducible repeat (first | refine zar ?_ _ | refine zaw ?_ | refine zas ?_ _)); exact BK715.out) hb); have n6_ := Aside0.mk (zat (by repeat (first | (with_reducible first | exact HB.out | apply zad | apply zaa | apply zac | refine zal ?_ GE702.out | refine zal ?_ GE715.out) | exact HB.out)) hb); clear HO_8 HO_703004 HO_716004 HO719 BK702 BK715 HB; have HO_8 := n0_; have HO_703004 := n1_; have HO_716004 := n2_; have HO719 := n3_; have BK702 := n4_; have BK715 := n5_; have HB := n6_; clear n0_ n1_ n2_ n3_ n4_ n5_ n6_; (try clear hb); (try clear hb2); (try clear hk); (try clear hi)))
          go_meet
          case rel => exact ⟨_, ((t714 != t701)), (by first | rfl | (simp; done) | (simp [*]; done)), H', ⟨by have := HJ7.out; first | omega | exact zak _⟩, ⟨by (with_reducible repeat (first | apply zai | apply zaj | apply zam)); exact zbg HO_703004.out (fun _ hk => hk.2.1)⟩, ⟨by (with_reducible repeat (first | apply zai | apply zaj | apply zam)); exact zbg HO_716004.out (fun _ hk => hk.2.1)⟩, ⟨by (with_reducible repeat (first | refine zar ?_ _ | refine zaw ?_ | refine zas ?_ _)); exact BK702.out⟩, ⟨by (with_reducible repeat (first | refine zar ?_ _ | refine zaw ?_ | refine zas ?_ _)); exact BK715.out⟩, ⟨by repeat (first | (with_reducible first | exact HB.out | apply zad | apply zaa | apply zac | refine zal ?_ GE702.out | refine zal ?_ GE715.out) | exact HB.out)⟩⟩
         ·rw [if_neg c41] at H
          exact absurd H (by simp)
        ·replace c40 := zcn.mpr c40
         subst c40
         have H1 : (none) = some r := by rw [if_neg (show ¬ (false = true) by decide)] at H; exact H
         clear H
         have H := H1
         clear H1
         exact absurd H (by simp)
      case rest =>
       clear HC34
       try clear c1
       try clear c2
       try clear p2
       try clear c3
       try clear c3b0
       try clear c3b1
       try clear c4
       try clear c5
       try clear c11
       try clear c19
       try clear c23
       try clear c24
       try clear c24b0
       try clear c24b1
       try clear c25
       try clear c29
       try clear c32
       try clear c37
       try clear c38
       try clear c38b0
       try clear c40
       try clear c41
       try clear c41b0
       try clear c41b1
       try clear c42
       try clear hcz13_0
       try clear hcz13_1
       try clear hcz13_2
       try clear hcz13_3
       try clear hcz13_4
       try clear hcz20_0
       try clear hcz20_1
       try clear hcz20_2
       try clear hcz20_3
       try clear hcz20_4
       try clear hcz26_0
       try clear hcz26_1
       try clear hcz26_2
       try clear hcz26_3
       try clear hcz26_4
       try clear hcz27_0
       try clear hcz27_1
       try clear hcz27_2
       try clear hcz27_3
       try clear hcz27_4
       try clear hcz43_0
       try clear hcz43_1
       try clear hcz43_2
       try clear hcz43_3
       try clear hcz43_4
       try clear hcz44_0
       try clear hcz44_1
       try clear hcz44_2
       try clear hcz44_3
       try clear hcz44_4
       try clear hfz13_0
       try clear hfz13_1
       try clear hfz13_2
       try clear hfz13_3
       try clear hfz13_4
       try clear hfz20_0
       try clear hfz20_1
       try clear hfz20_2
       try clear hfz20_3
       try clear hfz20_4
       try clear hfz26_0
       try clear hfz26_1
       try clear hfz26_2
       try clear hfz26_3
       try clear hfz26_4
       try clear hfz27_0
       try clear hfz27_1
       try clear hfz27_2
       try clear hfz27_3
       try clear hfz27_4
       try clear hfz43_0
       try clear hfz43_1
       try clear hfz43_2
       try clear hfz43_3
       try clear hfz43_4
       try clear hfz44_0
       try clear hfz44_1
       try clear hfz44_2
       try clear hfz44_3
       try clear hfz44_4
       try clear p2
       obtain ⟨kq, x77_33, rfl, HA, HJ33, HO_703004, HO_716004, BK702, BK715, HB⟩ := hcut
       cases kq with
       | zero => exact absurd HA.out (by simp [laws_FnExactLineOf.j1])
       | succ kj33 =>
        have H := HA.out
        clear HA
        simp only [laws_FnExactLineOf.j1] at H
        by_cases c46 : x77_33 = true
        ·subst c46
         have H1 : (none) = some r := by rw [if_pos rfl] at H; exact H
         clear H
         have H := H1
         clear H1
         exact absurd H (by simp)
        ·replace c46 := zcn.mpr c46
         subst c46
         have H1 : ((laws_markLine.f kj33 t706 t707 t708 t709 t710 1).bind fun bt724 => ((laws_heldLine.f kj33 t706 t707 t708 t709 bt724.2 1).bind fun t726 => (if t726 < 0 then (none) else (if t726 = bt724.1 then ((laws_toByteS.f kj33 l0).bind fun t727 => ((impl_LineOf.f kj33 t727 a1).bind fun bt730 => ((laws_eqLine.f kj33 bt730.1 bt730.2.1 bt730.2.2.1 bt730.2.2.2.1 bt730.2.2.2.2.1 t693 t694 t695 t696 t697).bind fun t740 => (if t740 = true then (if bt730.2.2.2.2.2.1 = t700 then (laws_FnExactLineOf.j2 kj33 bt724.1 (bt730.2.2.2.2.2.2 != t701) t706 t707 t708 t709 bt724.2) else (none)) else (none))))) else (none))))) = some r := by rw [if_neg (show ¬ (false = true) by decide)] at H; exact H
         clear H
         have H := H1
         clear H1
         replace H := zaq.mp H
         obtain ⟨⟨t724, t725⟩, A470, H⟩ := H
         try dsimp only at H
         have A47 := Aside0.mk A470
         clear A470
         replace H := zaq.mp H
         obtain ⟨t726, A480, H⟩ := H
         try dsimp only at H
         have A48 := Aside0.mk A480
         clear A480
         by_cases c49 : t726 < 0
         ·rw [if_pos c49] at H
          exact absurd H (by simp)
         ·rw [if_neg c49] at H
          have c49b0 : decide (t726 < 0) = false := zbv c49
          clear c49
          by_cases c50 : t726 = t724
          ·rw [if_pos c50] at H
           have c50b0 : (t726 == t724) = true := zdp.mpr c50
           have c50b1 : (t726 != t724) = false := zby.mpr c50
           clear c50
           replace H := zaq.mp H
           obtain ⟨t727, A510, H⟩ := H
           try dsimp only at H
           have A51 := Aside0.mk A510
           clear A510
           replace H := zaq.mp H
           obtain ⟨⟨t730, t731, t732, t733, t734, t737, t738⟩, A520, H⟩ := H
           try dsimp only at H
           have A52 := Aside0.mk A520
           clear A520
           have HC53 := Aside0.mk H
           clear H
           have hnb54 := NB715_702.out
           have hnc54 := NB702_715.out
           have hcz55_0 : wc.cell? ⟨gb715, 0, none⟩ = some (.int .i64 t706) := (zaf BK715.out 0).trans rfl
           have hcz55_1 : wc.cell? ⟨gb715, 1, none⟩ = some (.string t707) := (zaf BK715.out 1).trans rfl
           have hcz55_2 : wc.cell? ⟨gb715, 2, none⟩ = some (.int .i64 t708) := (zaf BK715.out 2).trans rfl
           have hcz55_3 : wc.cell? ⟨gb715, 3, none⟩ = some (.int .i64 t709) := (zaf BK715.out 3).trans rfl
           have hcz55_4 : wc.cell? ⟨gb715, 4, none⟩ = some (.slice Ao21 t710.length co21) := (zaf BK715.out 4).trans rfl
           have hfz55_0 := zab BK715.out 0
           have hfz55_1 := zab BK715.out 1
           have hfz55_2 := zab BK715.out 2
           have hfz55_3 := zab BK715.out 3
           have hfz55_4 := zab BK715.out 4
           go_upto_region 23 with (first | ((with_reducible refine zbl (f := 51) rfl ?_); refine goesL_ (some 80) rfl rfl Try.func51 (by kernel_rfl) rfl #[.agg #[.int .i64 t706, .string t707, .int .i64 t708, .int .i64 t709, .slice Ao21 t710.length co21], .int .i64 1] rfl (by (try simp only [zav, zbd, zbh]); first | done | rfl) ?_; (with_reducible refine (laws_markLine.calls kj33 t706 t707 t708 t709 (fun k_ => some k_ = (.slice Ao21 t710.length co21 : Value).ownBlock) (.slice Ao21 t710.length co21) t710 1 t724 t725 w _ ?side1 ?side2 A47.out).mono ?_); (case side1 => repeat (first | (with_reducible first | exact HB.out | apply zad | apply zaa | apply zac | refine zal ?_ GE702.out | refine zal ?_ GE715.out) | exact HB.out)); (case side2 => exact Kd.R_tight rfl HO_716004.out); rintro e w56 ⟨rfl, hy0, hb, hkp⟩; refine ⟨_, rfl, ?_⟩; have n0_ := Aside0.mk (zbg (ok' := fun k_ => some k_ ≠ (.slice Ao21 t710.length co21 : Value).ownBlock) (Kd.R_keptB (HO_703004.out) hkp (fun k_ hk_ hs_ => (hk_) hs_)) (fun k_ hk_ => hk_.1)); have n1_ := Aside0.mk (Kd.R_reok rfl hy0 (fun k_ e_ => HO_716004.out.1 k_ e_)); have n2_ := Aside0.mk (blk_kept (by (with_reducible repeat (first | refine zar ?_ _ | refine zaw ?_ | refine zas ?_ _)); exact BK702.out) hkp (fun hs_ => (fun e_ => (zfm HO_716004.out BK702.out (by decide)) e_) hs_)); have n3_ := Aside0.mk (blk_kept (by (with_reducible repeat (first | refine zar ?_ _ | refine zaw ?_ | refine zas ?_ _)); exact BK715.out) hkp (fun hs_ => (fun e_ => (zfm HO_716004.out BK715.out (by decide)) e_) hs_)); have n4_ := Aside0.mk (hb); clear HO_703004 HO_716004 BK702 BK715 HB; have HO_703004 := n0_; have HO_716004 := n1_; have BK702 := n2_; have BK715 := n3_; have HB := n4_; clear n0_ n1_ n2_ n3_ n4_; (try clear hb); (try clear hkp); (try clear hy0); have hcz57_0 : w56.cell? ⟨gb715, 0, none⟩ = some (.int .i64 t706) := (zaf BK715.out 0).trans rfl; have hcz57_1 : w56.cell? ⟨gb715, 1, none⟩ = some (.string t707) := (zaf BK715.out 1).trans rfl; have hcz57_2 : w56.cell? ⟨gb715, 2, none⟩ = some (.int .i64 t708) := (zaf BK715.out 2).trans rfl; have hcz57_3 : w56.cell? ⟨gb715, 3, none⟩ = some (.int .i64 t709) := (zaf BK715.out 3).trans rfl; have hcz57_4 : w56.cell? ⟨gb715, 4, none⟩ = some (.slice Ao21 t710.length co21) := (zaf BK715.out 4).trans rfl; have hfz57_0 := zab BK715.out 0; have hfz57_1 := zab BK715.out 1; have hfz57_2 := zab BK715.out 2; have hfz57_3 := zab BK715.out 3; have hfz57_4 := zab BK715.out 4) | ((with_reducible refine zbl (f := 57) rfl ?_); refine goesL_ (some 83) rfl rfl Try.func57 (by kernel_rfl) rfl #[.agg #[.int .i64 t706, .string t707, .int .i64 t708, .int .i64 t709, .slice Ao21 t725.length co21], .int .i64 1] rfl (by (try simp only [zav, zbd, zbh]); first | done | (rw [show t725.length = t710.length from (zbt HO_716004.out).1.symm] <;> rfl) | rfl | (simp only [zfj, zgb]; rfl)) ?_; (with_reducible refine (laws_heldLine.calls kj33 t706 t707 t708 t709 _ _ t725 1 t726 _ ?side1 ?side2 A48.out).mono ?_); (case side1 => repeat (first | exact (zbt HO_716004.out).2.2 | (with_reducible first | apply zcl | apply zcm | apply zcu))); (case side2 => rw [show t725.length = t710.length from (zbt HO_716004.out).1.symm]; exact (zbt HO_716004.out).2.1); rintro e w58 ⟨rfl, hb⟩; refine ⟨_, rfl, ?_⟩; have n0_ := Aside0.mk (zcx (by (with_reducible repeat (first | apply zai | apply zaj | apply zam)); exact HO_703004.out) hb); have n1_ := Aside0.mk (zcx (by (with_reducible repeat (first | apply zai | apply zaj | apply zam)); exact HO_716004.out) hb); have n2_ := Aside0.mk (zbq (g := gb702) (o := .cells #[.int .i64 t693, .string t694, .int .i64 t695, .int .i64 t696, .slice Ao14 t697.length co14] 48 (0, 0)) (by (with_reducible repeat (first | refine zar ?_ _ | refine zaw ?_ | refine zas ?_ _)); exact BK702.out) hb); have n3_ := Aside0.mk (zbq (g := gb715) (o := .cells #[.int .i64 t706, .string t707, .int .i64 t708, .int .i64 t709, .slice Ao21 t710.length co21] 48 (0, 0)) (by (with_reducible repeat (first | refine zar ?_ _ | refine zaw ?_ | refine zas ?_ _)); exact BK715.out) hb); have n4_ := Aside0.mk (zat (by repeat (first | (with_reducible first | exact HB.out | apply zad | apply zaa | apply zac | refine zal ?_ GE702.out | refine zal ?_ GE715.out) | exact HB.out)) hb); clear HO_703004 HO_716004 BK702 BK715 HB; have HO_703004 := n0_; have HO_716004 := n1_; have BK702 := n2_; have BK715 := n3_; have HB := n4_; clear n0_ n1_ n2_ n3_ n4_; (try clear hb); (try clear hb2); (try clear hk); (try clear hi)) | ((with_reducible refine zbl (f := 55) rfl ?_); refine goesL_ (some 91) rfl rfl Try.func55 (by kernel_rfl) rfl #[.slice A0 l0.length c0] rfl (by (try simp only [zav, zbd, zbh]); first | done | rfl) ?_; (with_reducible refine (laws_toByteS.calls kj33 _ _ l0 t727 _ ?side1 ?side2 A51.out).mono ?_); (case side1 => repeat (first | exact (zbk HR0.out HB.out) | (with_reducible first | apply zcl | apply zcm | apply zcu))); (case side2 => exact HC0.out); rintro e w59 ⟨v728, rfl, ho0, hb⟩; refine ⟨_, rfl, ?_⟩; have qHO_703004 := Kd.R_ofs (by (with_reducible repeat (first | apply zai | apply zaj | apply zam)); exact HO_703004.out) hb; have n0_ := Aside0.mk (zbm qHO_703004 (zbw ho0) hb); have qHO_716004 := Kd.R_ofs (by (with_reducible repeat (first | apply zai | apply zaj | apply zam)); exact HO_716004.out) hb; have n1_ := Aside0.mk (zbm qHO_716004 (zbw ho0) hb); have n2_ := Aside0.mk (zca (zcs (zcs ho0 (zco qHO_703004)) (zco qHO_716004)) (zan (by repeat (first | (with_reducible first | exact HB.out | apply zad | apply zaa | apply zac | refine zal ?_ GE702.out | refine zal ?_ GE715.out) | exact HB.out)))); have n3_ := Aside0.mk (zbq (g := gb702) (o := .cells #[.int .i64 t693, .string t694, .int .i64 t695, .int .i64 t696, .slice Ao14 t697.length co14] 48 (0, 0)) (by (with_reducible repeat (first | refine zar ?_ _ | refine zaw ?_ | refine zas ?_ _)); exact BK702.out) hb); have n4_ := Aside0.mk (zbq (g := gb715) (o := .cells #[.int .i64 t706, .string t707, .int .i64 t708, .int .i64 t709, .slice Ao21 t710.length co21] 48 (0, 0)) (by (with_reducible repeat (first | refine zar ?_ _ | refine zaw ?_ | refine zas ?_ _)); exact BK715.out) hb); have n5_ := Aside0.mk (zat (by repeat (first | (with_reducible first | exact HB.out | apply zad | apply zaa | apply zac | refine zal ?_ GE702.out | refine zal ?_ GE715.out) | exact HB.out)) hb); clear qHO_703004 HO_703004; clear qHO_716004 HO_716004; clear BK702 BK715 HB; have HO_703004 := n0_; have HO_716004 := n1_; have HO729 := n2_; have BK702 := n3_; have BK715 := n4_; have HB := n5_; clear n0_ n1_ n2_ n3_ n4_ n5_; clear hb ho0; obtain ⟨Ao60, co60, eo60⟩ := zcy HO729.out; subst eo60) | ((with_reducible refine zbl (f := 56) rfl ?_); refine goesL_ (some 93) rfl rfl Try.func56 (by kernel_rfl) rfl #[.slice Ao60 t727.length co60, .int .i64 a1] rfl (by (try simp only [zav, zbd, zbh]); first | done | rfl) ?_; (with_reducible refine (impl_LineOf.calls kj33 _ _ t727 a1 t730 t731 t732 t733 t734 t737 t738 _ ?side1 ?side2 A52.out).mono ?_); (case side1 => repeat (first | exact (zbt HO729.out).2.2 | (with_reducible first | apply zcl | apply zcm | apply zcu))); (case side2 => exact (zbt HO729.out).2.1); rintro e w61 ⟨v735, rfl, ho0, hb⟩; refine ⟨_, rfl, ?_⟩; have qHO_703004 := Kd.R_ofs (by (with_reducible repeat (first | apply zai | apply zaj | apply zam)); exact HO_703004.out) hb; have n0_ := Aside0.mk (zbm qHO_703004 (zbw ho0) hb); have qHO_716004 := Kd.R_ofs (by (with_reducible repeat (first | apply zai | apply zaj | apply zam)); exact HO_716004.out) hb; have n1_ := Aside0.mk (zbm qHO_716004 (zbw ho0) hb); have qHO729 := Kd.R_ofs (by (with_reducible repeat (first | apply zai | apply zaj | apply zam)); exact HO729.out) hb; have n2_ := Aside0.mk (zbm qHO729 (zbw ho0) hb); have n3_ := Aside0.mk (zca (zcs (zcs (zcs ho0 (zco qHO_703004)) (zco qHO_716004)) (zco qHO729)) (zan (by repeat (first | (with_reducible first | exact HB.out | apply zad | apply zaa | apply zac | refine zal ?_ GE702.out | refine zal ?_ GE715.out) | exact HB.out)))); have n4_ := Aside0.mk (zbq (g := gb702) (o := .cells #[.int .i64 t693, .string t694, .int .i64 t695, .int .i64 t696, .slice Ao14 t697.length co14] 48 (0, 0)) (by (with_reducible repeat (first | refine zar ?_ _ | refine zaw ?_ | refine zas ?_ _)); exact BK702.out) hb); have n5_ := Aside0.mk (zbq (g := gb715) (o := .cells #[.int .i64 t706, .string t707, .int .i64 t708, .int .i64 t709, .slice Ao21 t710.length co21] 48 (0, 0)) (by (with_reducible repeat (first | refine zar ?_ _ | refine zaw ?_ | refine zas ?_ _)); exact BK715.out) hb); have n6_ := Aside0.mk (zat (by repeat (first | (with_reducible first | exact HB.out | apply zad | apply zaa | apply zac | refine zal ?_ GE702.out | refine zal ?_ GE715.out) | exact HB.out)) hb); clear qHO729 HO_703004; clear qHO_703004 HO_716004; clear qHO_716004 HO729; clear BK702 BK715 HB; have HO_703004 := n0_; have HO_716004 := n1_; have HO729 := n2_; have HO736 := n3_; have BK702 := n4_; have BK715 := n5_; have HB := n6_; clear n0_ n1_ n2_ n3_ n4_ n5_ n6_; clear hb ho0) | ((with_reducible refine zbu (N := 15) rfl ?_); refine zcb ?hg (N := 15) ?hd (cs := #[.int .i64 0, .string (⟨#[]⟩ : ByteArray), .int .i64 0, .int .i64 0, .slice none 0 0]) (t := 48) ?hr ?_; (case hd => rfl); (case hg => rfl); (case hr => first | (go_simp; done) | (go_simp; rfl)); intro gb739 hg w62 hbox hb; have n0_ := Aside0.mk (zcx (by (with_reducible repeat (first | apply zai | apply zaj | apply zam)); exact HO_703004.out) hb); have n1_ := Aside0.mk (zcx (by (with_reducible repeat (first | apply zai | apply zaj | apply zam)); exact HO_716004.out) hb); have n2_ := Aside0.mk (zcx (by (with_reducible repeat (first | apply zai | apply zaj | apply zam)); exact HO729.out) hb); have n3_ := Aside0.mk (zcx (by (with_reducible repeat (first | apply zai | apply zaj | apply zam)); exact HO736.out) hb); have n4_ := Aside0.mk (zbq (g := gb702) (o := .cells #[.int .i64 t693, .string t694, .int .i64 t695, .int .i64 t696, .slice Ao14 t697.length co14] 48 (0, 0)) (by (with_reducible repeat (first | refine zar ?_ _ | refine zaw ?_ | refine zas ?_ _)); exact BK702.out) hb); have n5_ := Aside0.mk (zbq (g := gb715) (o := .cells #[.int .i64 t706, .string t707, .int .i64 t708, .int .i64 t709, .slice Ao21 t710.length co21] 48 (0, 0)) (by (with_reducible repeat (first | refine zar ?_ _ | refine zaw ?_ | refine zas ?_ _)); exact BK715.out) hb); have n6_ := Aside0.mk (zat (by repeat (first | (with_reducible first | exact HB.out | apply zad | apply zaa | apply zac | refine zal ?_ GE702.out | refine zal ?_ GE715.out) | exact HB.out)) hb); have n7_ := Aside0.mk (hbox); have n8_ := Aside0.mk ((by rw [hg]; exact (zan (by repeat (first | (with_reducible first | exact HB.out | apply zad | apply zaa | apply zac | refine zal ?_ GE702.out | refine zal ?_ GE715.out) | exact HB.out))) : w.heap.size ≤ gb739)); have n9_ := Aside0.mk ((by rw [hg]; exact (zan (by repeat (first | (with_reducible first | exact HB.out | apply zad | apply zaa | apply zac | refine zal ?_ GE702.out | refine zal ?_ GE715.out) | exact HB.out))) : w.heap.size ≤ gb739)); have n10_ := Aside0.mk ((by rw [hg]; exact zdz (blk_lt (g := gb702) (o := .cells #[.int .i64 t693, .string t694, .int .i64 t695, .int .i64 t696, .slice Ao14 t697.length co14] 48 (0, 0)) (by (with_reducible repeat (first | refine zar ?_ _ | refine zaw ?_ | refine zas ?_ _)); exact BK702.out)) : gb702 ≠ gb739)); have n11_ := Aside0.mk ((by rw [hg]; exact zea (blk_lt (g := gb702) (o := .cells #[.int .i64 t693, .string t694, .int .i64 t695, .int .i64 t696, .slice Ao14 t697.length co14] 48 (0, 0)) (by (with_reducible repeat (first | refine zar ?_ _ | refine zaw ?_ | refine zas ?_ _)); exact BK702.out)) : gb739 ≠ gb702)); have n12_ := Aside0.mk ((by rw [hg]; exact zdz (blk_lt (g := gb715) (o := .cells #[.int .i64 t706, .string t707, .int .i64 t708, .int .i64 t709, .slice Ao21 t710.length co21] 48 (0, 0)) (by (with_reducible repeat (first | refine zar ?_ _ | refine zaw ?_ | refine zas ?_ _)); exact BK715.out)) : gb715 ≠ gb739)); have n13_ := Aside0.mk ((by rw [hg]; exact zea (blk_lt (g := gb715) (o := .cells #[.int .i64 t706, .string t707, .int .i64 t708, .int .i64 t709, .slice Ao21 t710.length co21] 48 (0, 0)) (by (with_reducible repeat (first | refine zar ?_ _ | refine zaw ?_ | refine zas ?_ _)); exact BK715.out)) : gb739 ≠ gb715)); clear HO_703004 HO_716004 HO729 HO736 BK702 BK715 HB; have HO_703004 := n0_; have HO_716004 := n1_; have HO729 := n2_; have HO736 := n3_; have BK702 := n4_; have BK715 := n5_; have HB := n6_; have BK739 := n7_; have GW739 := n8_; have GE739 := n9_; have NB702_739 := n10_; have NB739_702 := n11_; have NB715_739 := n12_; have NB739_715 := n13_; clear n0_ n1_ n2_ n3_ n4_ n5_ n6_ n7_ n8_ n9_ n10_ n11_ n12_ n13_; clear hb hbox hg; have hnb63 := NB739_702.out; have hnc63 := NB702_739.out; have hnb64 := NB739_715.out; have hnc64 := NB715_739.out; have hcz65_0 : w62.cell? ⟨gb739, 0, none⟩ = some (.int .i64 0) := (zaf BK739.out 0).trans rfl; have hcz65_1 : w62.cell? ⟨gb739, 1, none⟩ = some (.string (⟨#[]⟩ : ByteArray)) := (zaf BK739.out 1).trans rfl; have hcz65_2 : w62.cell? ⟨gb739, 2, none⟩ = some (.int .i64 0) := (zaf BK739.out 2).trans rfl; have hcz65_3 : w62.cell? ⟨gb739, 3, none⟩ = some (.int .i64 0) := (zaf BK739.out 3).trans rfl; have hcz65_4 : w62.cell? ⟨gb739, 4, none⟩ = some (.slice none 0 0) := (zaf BK739.out 4).trans rfl; have hfz65_0 := zab BK739.out 0; have hfz65_1 := zab BK739.out 1; have hfz65_2 := zab BK739.out 2; have hfz65_3 := zab BK739.out 3; have hfz65_4 := zab BK739.out 4; obtain ⟨Ao66, co66, eo66⟩ := zcy HO736.out; subst eo66))
           (try simp only [Act.put, zae, zag, zah])
           go_cut [110] (fun v110 wc => ∃ (kq : Nat) (x110_52 : Bool), v110 = .bool x110_52 ∧ Aside0 (laws_FnExactLineOf.j2 kq t724 x110_52 t706 t707 t708 t709 t725 = some r) ∧ Aside0 (kq ≤ kj33) ∧ Aside0 (Kd.R (Kd.int .u8) 5 wc w.heap.size (fun k_ => some k_ ≠ ((.slice Ao21 t710.length co21) : Value).ownBlock ∧ some k_ ≠ ((.slice Ao66 t734.length co66) : Value).ownBlock) (.slice Ao14 t697.length co14) t697) ∧ Aside0 (Kd.R (Kd.int .u8) 5 wc w.heap.size (fun k_ => some k_ ≠ ((.slice Ao14 t697.length co14) : Value).ownBlock ∧ some k_ ≠ ((.slice Ao66 t734.length co66) : Value).ownBlock) (.slice Ao21 t710.length co21) t725) ∧ Aside0 (Kd.R (Kd.int .u8) 5 wc w.heap.size (fun k_ => some k_ ≠ ((.slice Ao14 t697.length co14) : Value).ownBlock ∧ some k_ ≠ ((.slice Ao21 t710.length co21) : Value).ownBlock) (.slice Ao66 t734.length co66) t734) ∧ Aside0 (wc.heap[gb702]? = some (.cells #[.int .i64 t693, .string t694, .int .i64 t695, .int .i64 t696, (.slice Ao14 t697.length co14)] 48 (0, 0))) ∧ Aside0 (wc.heap[gb715]? = some (.cells #[.int .i64 t706, .string t707, .int .i64 t708, .int .i64 t709, (.slice Ao21 t710.length co21)] 48 (0, 0))) ∧ Aside0 (wc.heap[gb739]? = some (.cells #[.int .i64 t730, .string t731, .int .i64 t732, .int .i64 t733, (.slice Ao66 t734.length co66)] 48 (0, 0))) ∧ Aside0 (Below w.heap.size w wc))
           case first =>
            have H := HC53.out
            clear HC53
            replace H := zaq.mp H
            obtain ⟨t740, A670, H⟩ := H
            try dsimp only at H
            have A67 := Aside0.mk A670
            clear A670
            by_cases c68 : t740 = true
            ·subst c68
             have H1 : (if t737 = t700 then (laws_FnExactLineOf.j2 kj33 t724 (t738 != t701) t706 t707 t708 t709 t725) else (none)) = some r := by rw [if_pos rfl] at H; exact H
             clear H
             have H := H1
             clear H1
             by_cases c69 : t737 = t700
             ·rw [if_pos c69] at H
              have c69b0 : (t737 == t700) = true := zdp.mpr c69
              have c69b1 : (t737 != t700) = false := zby.mpr c69
              clear c69
              (first | rw [c69b0] | (simp only [i64_w, i32_w]; rw [c69b0]) | skip)
              have H' := Aside0.mk H
              clear H
              have hnb70 := NB739_702.out
              have hnc70 := NB702_739.out
              have hnb71 := NB739_715.out
              have hnc71 := NB715_739.out
              have hcz72_0 : w62.cell? ⟨gb739, 0, none⟩ = some (.int .i64 0) := (zaf BK739.out 0).trans rfl
              have hcz72_1 : w62.cell? ⟨gb739, 1, none⟩ = some (.string (⟨#[]⟩ : ByteArray)) := (zaf BK739.out 1).trans rfl
              have hcz72_2 : w62.cell? ⟨gb739, 2, none⟩ = some (.int .i64 0) := (zaf BK739.out 2).trans rfl
              have hcz72_3 : w62.cell? ⟨gb739, 3, none⟩ = some (.int .i64 0) := (zaf BK739.out 3).trans rfl
              have hcz72_4 : w62.cell? ⟨gb739, 4, none⟩ = some (.slice none 0 0) := (zaf BK739.out 4).trans rfl
              have hfz72_0 := zab BK739.out 0
              have hfz72_1 := zab BK739.out 1
              have hfz72_2 := zab BK739.out 2
              have hfz72_3 := zab BK739.out 3
              have hfz72_4 := zab BK739.out 4
              have hnb73 := NB702_715.out
              have hnc73 := NB715_702.out
              have hcz74_0 : w62.cell? ⟨gb702, 0, none⟩ = some (.int .i64 t693) := (zaf BK702.out 0).trans rfl
              have hcz74_1 : w62.cell? ⟨gb702, 1, none⟩ = some (.string t694) := (zaf BK702.out 1).trans rfl
              have hcz74_2 : w62.cell? ⟨gb702, 2, none⟩ = some (.int .i64 t695) := (zaf BK702.out 2).trans rfl
              have hcz74_3 : w62.cell? ⟨gb702, 3, none⟩ = some (.int .i64 t696) := (zaf BK702.out 3).trans rfl
              have hcz74_4 : w62.cell? ⟨gb702, 4, none⟩ = some (.slice Ao14 t697.length co14) := (zaf BK702.out 4).trans rfl
              have hfz74_0 := zab BK702.out 0
              have hfz74_1 := zab BK702.out 1
              have hfz74_2 := zab BK702.out 2
              have hfz74_3 := zab BK702.out 3
              have hfz74_4 := zab BK702.out 4
              go_wp2_with (first | ((with_reducible refine zbl (f := 37) rfl ?_); refine goesL_ (some 99) rfl rfl Try.func37 (by kernel_rfl) rfl #[.agg #[.int .i64 t730, .string t731, .int .i64 t732, .int .i64 t733, .slice Ao66 t734.length co66], .agg #[.int .i64 t693, .string t694, .int .i64 t695, .int .i64 t696, .slice Ao14 t697.length co14]] rfl (by (try simp only [zav, zbd, zbh]); first | done | rfl) ?_; (with_reducible refine (laws_eqLine.calls kj33 t730 t731 t732 t733 _ _ t734 t693 t694 t695 t696 _ _ t697 true _ ?side1 ?side2 ?side3 ?side4 A67.out).mono ?_); (case side1 => refine (zbt (e := 5) (base := w.heap.size) (ok := fun k_ => (((True ∧ some k_ ≠ (.slice Ao14 t697.length co14 : Value).ownBlock) ∧ some k_ ≠ (.slice Ao21 t710.length co21 : Value).ownBlock) ∧ some k_ ≠ (.slice Ao60 t727.length co60 : Value).ownBlock)) (n := t734.length) (c := co66) ?_).2.2; exact (by (with_reducible repeat (first | apply zai | apply zaj | apply zam)); exact (zbg (zcd (p := ⟨gb739, 4, none⟩) (zcd (p := ⟨gb739, 3, none⟩) (zcd (p := ⟨gb739, 2, none⟩) (zcd (p := ⟨gb739, 1, none⟩) (zcd (p := ⟨gb739, 0, none⟩) (zdt HO736.out BK739.out (by decide)) (fun _ hk => hk.2) (.int .i64 t730)) (fun _ hk => hk.2) (.string t731)) (fun _ hk => hk.2) (.int .i64 t732)) (fun _ hk => hk.2) (.int .i64 t733)) (fun _ hk => hk.2) (.slice Ao66 t734.length co66)) (fun _ h_ => h_.1)))); (case side2 => exact (zbt HO736.out).2.1); (case side3 => refine (zbt (e := 5) (base := w.heap.size) (ok := fun k_ => ((some k_ ≠ (.slice Ao21 t710.length co21 : Value).ownBlock ∧ some k_ ≠ (.slice Ao60 t727.length co60 : Value).ownBlock) ∧ some k_ ≠ (.slice Ao66 t734.length co66 : Value).ownBlock)) (n := t697.length) (c := co14) ?_).2.2; exact (by (with_reducible repeat (first | apply zai | apply zaj | apply zam)); exact (zbg (zcd (p := ⟨gb739, 4, none⟩) (zcd (p := ⟨gb739, 3, none⟩) (zcd (p := ⟨gb739, 2, none⟩) (zcd (p := ⟨gb739, 1, none⟩) (zcd (p := ⟨gb739, 0, none⟩) (zdt HO_703004.out BK739.out (by decide)) (fun _ hk => hk.2) (.int .i64 t730)) (fun _ hk => hk.2) (.string t731)) (fun _ hk => hk.2) (.int .i64 t732)) (fun _ hk => hk.2) (.int .i64 t733)) (fun _ hk => hk.2) (.slice Ao66 t734.length co66)) (fun _ h_ => h_.1)))); (case side4 => exact (zbt HO_703004.out).2.1); rintro e w75 ⟨rfl, hb⟩; refine ⟨_, rfl, ?_⟩; have n0_ := Aside0.mk (zcx (by (with_reducible repeat (first | apply zai | apply zaj | apply zam)); exact (zbg (zcd (p := ⟨gb739, 4, none⟩) (zcd (p := ⟨gb739, 3, none⟩) (zcd (p := ⟨gb739, 2, none⟩) (zcd (p := ⟨gb739, 1, none⟩) (zcd (p := ⟨gb739, 0, none⟩) (zdt HO_703004.out BK739.out (by decide)) (fun _ hk => hk.2) (.int .i64 t730)) (fun _ hk => hk.2) (.string t731)) (fun _ hk => hk.2) (.int .i64 t732)) (fun _ hk => hk.2) (.int .i64 t733)) (fun _ hk => hk.2) (.slice Ao66 t734.length co66)) (fun _ h_ => h_.1))) hb); have n1_ := Aside0.mk (zcx (by (with_reducible repeat (first | apply zai | apply zaj | apply zam)); exact (zbg (zcd (p := ⟨gb739, 4, none⟩) (zcd (p := ⟨gb739, 3, none⟩) (zcd (p := ⟨gb739, 2, none⟩) (zcd (p := ⟨gb739, 1, none⟩) (zcd (p := ⟨gb739, 0, none⟩) (zdt HO_716004.out BK739.out (by decide)) (fun _ hk => hk.2) (.int .i64 t730)) (fun _ hk => hk.2) (.string t731)) (fun _ hk => hk.2) (.int .i64 t732)) (fun _ hk => hk.2) (.int .i64 t733)) (fun _ hk => hk.2) (.slice Ao66 t734.length co66)) (fun _ h_ => h_.1))) hb); have n2_ := Aside0.mk (zcx (by (with_reducible repeat (first | apply zai | apply zaj | apply zam)); exact (zbg (zcd (p := ⟨gb739, 4, none⟩) (zcd (p := ⟨gb739, 3, none⟩) (zcd (p := ⟨gb739, 2, none⟩) (zcd (p := ⟨gb739, 1, none⟩) (zcd (p := ⟨gb739, 0, none⟩) (zdt HO729.out BK739.out (by decide)) (fun _ hk => hk.2) (.int .i64 t730)) (fun _ hk => hk.2) (.string t731)) (fun _ hk => hk.2) (.int .i64 t732)) (fun _ hk => hk.2) (.int .i64 t733)) (fun _ hk => hk.2) (.slice Ao66 t734.length co66)) (fun _ h_ => h_.1))) hb); have n3_ := Aside0.mk (zcx (by (with_reducible repeat (first | apply zai | apply zaj | apply zam)); exact (zbg (zcd (p := ⟨gb739, 4, none⟩) (zcd (p := ⟨gb739, 3, none⟩) (zcd (p := ⟨gb739, 2, none⟩) (zcd (p := ⟨gb739, 1, none⟩) (zcd (p := ⟨gb739, 0, none⟩) (zdt HO736.out BK739.out (by decide)) (fun _ hk => hk.2) (.int .i64 t730)) (fun _ hk => hk.2) (.string t731)) (fun _ hk => hk.2) (.int .i64 t732)) (fun _ hk => hk.2) (.int .i64 t733)) (fun _ hk => hk.2) (.slice Ao66 t734.length co66)) (fun _ h_ => h_.1))) hb); have n4_ := Aside0.mk (zbq (g := gb702) (o := .cells #[.int .i64 t693, .string t694, .int .i64 t695, .int .i64 t696, .slice Ao14 t697.length co14] 48 (0, 0)) (by (with_reducible repeat (first | refine zar ?_ _ | refine zaw ?_ | refine zas ?_ _)); refine zfn ?_ NB702_739.out _; (with_reducible repeat (first | refine zar ?_ _ | refine zaw ?_ | refine zas ?_ _)); refine zfn ?_ NB702_739.out _; (with_reducible repeat (first | refine zar ?_ _ | refine zaw ?_ | refine zas ?_ _)); refine zfn ?_ NB702_739.out _; (with_reducible repeat (first | refine zar ?_ _ | refine zaw ?_ | refine zas ?_ _)); refine zfn ?_ NB702_739.out _; (with_reducible repeat (first | refine zar ?_ _ | refine zaw ?_ | refine zas ?_ _)); refine zfn ?_ NB702_739.out _; (with_reducible repeat (first | refine zar ?_ _ | refine zaw ?_ | refine zas ?_ _)); exact BK702.out) hb); have n5_ := Aside0.mk (zbq (g := gb715) (o := .cells #[.int .i64 t706, .string t707, .int .i64 t708, .int .i64 t709, .slice Ao21 t710.length co21] 48 (0, 0)) (by (with_reducible repeat (first | refine zar ?_ _ | refine zaw ?_ | refine zas ?_ _)); refine zfn ?_ NB715_739.out _; (with_reducible repeat (first | refine zar ?_ _ | refine zaw ?_ | refine zas ?_ _)); refine zfn ?_ NB715_739.out _; (with_reducible repeat (first | refine zar ?_ _ | refine zaw ?_ | refine zas ?_ _)); refine zfn ?_ NB715_739.out _; (with_reducible repeat (first | refine zar ?_ _ | refine zaw ?_ | refine zas ?_ _)); refine zfn ?_ NB715_739.out _; (with_reducible repeat (first | refine zar ?_ _ | refine zaw ?_ | refine zas ?_ _)); refine zfn ?_ NB715_739.out _; (with_reducible repeat (first | refine zar ?_ _ | refine zaw ?_ | refine zas ?_ _)); exact BK715.out) hb); have n6_ := Aside0.mk (zbq (g := gb739) (o := .cells #[.int .i64 t730, .string t731, .int .i64 t732, .int .i64 t733, .slice Ao66 t734.length co66] 48 (0, 0)) (by (with_reducible repeat (first | refine zar ?_ _ | refine zaw ?_ | refine zas ?_ _)); refine zew (cs := #[.int .i64 t730, .string t731, .int .i64 t732, .int .i64 t733, .slice none 0 0]) ?_ 4 _ rfl; (with_reducible repeat (first | refine zar ?_ _ | refine zaw ?_ | refine zas ?_ _)); refine zew (cs := #[.int .i64 t730, .string t731, .int .i64 t732, .int .i64 0, .slice none 0 0]) ?_ 3 _ rfl; (with_reducible repeat (first | refine zar ?_ _ | refine zaw ?_ | refine zas ?_ _)); refine zew (cs := #[.int .i64 t730, .string t731, .int .i64 0, .int .i64 0, .slice none 0 0]) ?_ 2 _ rfl; (with_reducible repeat (first | refine zar ?_ _ | refine zaw ?_ | refine zas ?_ _)); refine zew (cs := #[.int .i64 t730, .string (⟨#[]⟩ : ByteArray), .int .i64 0, .int .i64 0, .slice none 0 0]) ?_ 1 _ rfl; (with_reducible repeat (first | refine zar ?_ _ | refine zaw ?_ | refine zas ?_ _)); refine zew (cs := #[.int .i64 0, .string (⟨#[]⟩ : ByteArray), .int .i64 0, .int .i64 0, .slice none 0 0]) ?_ 0 _ rfl; (with_reducible repeat (first | refine zar ?_ _ | refine zaw ?_ | refine zas ?_ _)); exact BK739.out) hb); have n7_ := Aside0.mk (zat (by repeat (first | (with_reducible first | exact HB.out | apply zad | apply zaa | apply zac | refine zal ?_ GE702.out | refine zal ?_ GE715.out | refine zal ?_ GE739.out) | exact HB.out)) hb); clear HO_703004 HO_716004 HO729 HO736 BK702 BK715 BK739 HB; have HO_703004 := n0_; have HO_716004 := n1_; have HO729 := n2_; have HO736 := n3_; have BK702 := n4_; have BK715 := n5_; have BK739 := n6_; have HB := n7_; clear n0_ n1_ n2_ n3_ n4_ n5_ n6_ n7_; (try clear hb); (try clear hb2); (try clear hk); (try clear hi)))
              go_meet
              case rel => exact ⟨_, ((t738 != t701)), (by first | rfl | (simp; done) | (simp [*]; done)), H', ⟨by have := HJ7.out; have := HJ33.out; first | omega | exact zak _⟩, ⟨by (with_reducible repeat (first | apply zai | apply zaj | apply zam)); exact zbg HO_703004.out (fun _ hk => ⟨hk.1.1, hk.2⟩)⟩, ⟨by (with_reducible repeat (first | apply zai | apply zaj | apply zam)); exact zbg HO_716004.out (fun _ hk => ⟨hk.1.1, hk.2⟩)⟩, ⟨by (with_reducible repeat (first | apply zai | apply zaj | apply zam)); exact zbg HO736.out (fun _ hk => ⟨hk.1.1.2, hk.1.2⟩)⟩, ⟨by (with_reducible repeat (first | refine zar ?_ _ | refine zaw ?_ | refine zas ?_ _)); exact BK702.out⟩, ⟨by (with_reducible repeat (first | refine zar ?_ _ | refine zaw ?_ | refine zas ?_ _)); exact BK715.out⟩, ⟨by (with_reducible repeat (first | refine zar ?_ _ | refine zaw ?_ | refine zas ?_ _)); exact BK739.out⟩, ⟨by repeat (first | (with_reducible first | exact HB.out | apply zad | apply zaa | apply zac | refine zal ?_ GE702.out | refine zal ?_ GE715.out | refine zal ?_ GE739.out) | exact HB.out)⟩⟩
             ·rw [if_neg c69] at H
              exact absurd H (by simp)
            ·replace c68 := zcn.mpr c68
             subst c68
             have H1 : (none) = some r := by rw [if_neg (show ¬ (false = true) by decide)] at H; exact H
             clear H
             have H := H1
             clear H1
             exact absurd H (by simp)
           case rest =>
            clear HC53
            try clear c1
            try clear c2
            try clear p2
            try clear c3
            try clear c3b0
            try clear c3b1
            try clear c4
            try clear c5
            try clear c6
            try clear c7
            try clear c11
            try clear c19
            try clear c23
            try clear c24
            try clear c24b0
            try clear c24b1
            try clear c25
            try clear c29
            try clear c32
            try clear c37
            try clear c38
            try clear c38b0
            try clear c40
            try clear c41
            try clear c41b0
            try clear c41b1
            try clear c42
            try clear c46
            try clear c49
            try clear c49b0
            try clear c50
            try clear c50b0
            try clear c50b1
            try clear c51
            try clear c52
            try clear c54
            try clear c55
            try clear c56
            try clear c57
            try clear c63
            try clear c64
            try clear c68
            try clear c69
            try clear c69b0
            try clear c69b1
            try clear c70
            try clear c71
            try clear c73
            try clear hcz13_0
            try clear hcz13_1
            try clear hcz13_2
            try clear hcz13_3
            try clear hcz13_4
            try clear hcz20_0
            try clear hcz20_1
            try clear hcz20_2
            try clear hcz20_3
            try clear hcz20_4
            try clear hcz26_0
            try clear hcz26_1
            try clear hcz26_2
            try clear hcz26_3
            try clear hcz26_4
            try clear hcz27_0
            try clear hcz27_1
            try clear hcz27_2
            try clear hcz27_3
            try clear hcz27_4
            try clear hcz43_0
            try clear hcz43_1
            try clear hcz43_2
            try clear hcz43_3
            try clear hcz43_4
            try clear hcz44_0
            try clear hcz44_1
            try clear hcz44_2
            try clear hcz44_3
            try clear hcz44_4
            try clear hcz55_0
            try clear hcz55_1
            try clear hcz55_2
            try clear hcz55_3
            try clear hcz55_4
            try clear hcz57_0
            try clear hcz57_1
            try clear hcz57_2
            try clear hcz57_3
            try clear hcz57_4
            try clear hcz65_0
            try clear hcz65_1
            try clear hcz65_2
            try clear hcz65_3
            try clear hcz65_4
            try clear hcz72_0
            try clear hcz72_1
            try clear hcz72_2
            try clear hcz72_3
            try clear hcz72_4
            try clear hcz74_0
            try clear hcz74_1
            try clear hcz74_2
            try clear hcz74_3
            try clear hcz74_4
            try clear hfz13_0
            try clear hfz13_1
            try clear hfz13_2
            try clear hfz13_3
            try clear hfz13_4
            try clear hfz20_0
            try clear hfz20_1
            try clear hfz20_2
            try clear hfz20_3
            try clear hfz20_4
            try clear hfz26_0
            try clear hfz26_1
            try clear hfz26_2
            try clear hfz26_3
            try clear hfz26_4
            try clear hfz27_0
            try clear hfz27_1
            try clear hfz27_2
            try clear hfz27_3
            try clear hfz27_4
            try clear hfz43_0
            try clear hfz43_1
            try clear hfz43_2
            try clear hfz43_3
            try clear hfz43_4
            try clear hfz44_0
            try clear hfz44_1
            try clear hfz44_2
            try clear hfz44_3
            try clear hfz44_4
            try clear hfz55_0
            try clear hfz55_1
            try clear hfz55_2
            try clear hfz55_3
            try clear hfz55_4
            try clear hfz57_0
            try clear hfz57_1
            try clear hfz57_2
            try clear hfz57_3
            try clear hfz57_4
            try clear hfz65_0
            try clear hfz65_1
            try clear hfz65_2
            try clear hfz65_3
            try clear hfz65_4
            try clear hfz72_0
            try clear hfz72_1
            try clear hfz72_2
            try clear hfz72_3
            try clear hfz72_4
            try clear hfz74_0
            try clear hfz74_1
            try clear hfz74_2
            try clear hfz74_3
            try clear hfz74_4
            try clear p2
            obtain ⟨kq, x110_52, rfl, HA, HJ52, HO_703004, HO_716004, HO_740004, BK702, BK715, BK739, HB⟩ := hcut
            have hl716004_52 := (zbt HO_716004.out).1
            rw [hl716004_52] at HO_716004
            (try simp only [hl716004_52])
            (try simp only [hl716004_52] at BK702)
            (try simp only [hl716004_52] at BK715)
            (try simp only [hl716004_52] at BK739)
            (try simp only [hl716004_52] at HO_703004)
            (try simp only [hl716004_52] at HO_740004)
            cases kq with
            | zero => exact absurd HA.out (by simp [laws_FnExactLineOf.j2])
            | succ kj52 =>
             have H := HA.out
             clear HA
             simp only [laws_FnExactLineOf.j2] at H
             by_cases c76 : x110_52 = true
             ·subst c76
              have H1 : (none) = some r := by rw [if_pos rfl] at H; exact H
              clear H
              have H := H1
              clear H1
              exact absurd H (by simp)
             ·replace c76 := zcn.mpr c76
              subst c76
              have H1 : ((laws_heldLine.f kj52 t706 t707 t708 t709 t725 1).bind fun t741 => (if t741 < 0 then (none) else (if t741 = t724 then (some true) else (none)))) = some r := by rw [if_neg (show ¬ (false = true) by decide)] at H; exact H
              clear H
              have H := H1
              clear H1
              replace H := zaq.mp H
              obtain ⟨t741, A770, H⟩ := H
              try dsimp only at H
              have A77 := Aside0.mk A770
              clear A770
              by_cases c78 : t741 < 0
              ·rw [if_pos c78] at H
               exact absurd H (by simp)
              ·rw [if_neg c78] at H
               have c78b0 : decide (t741 < 0) = false := zbv c78
               clear c78
               by_cases c79 : t741 = t724
               ·rw [if_pos c79] at H
                have c79b0 : (t741 == t724) = true := zdp.mpr c79
                have c79b1 : (t741 != t724) = false := zby.mpr c79
                clear c79
                obtain rfl := Option.some.inj H
                have hnb80 := NB715_702.out
                have hnc80 := NB702_715.out
                have hnb81 := NB715_739.out
                have hnc81 := NB739_715.out
                have hcz82_0 : wc.cell? ⟨gb715, 0, none⟩ = some (.int .i64 t706) := (zaf BK715.out 0).trans rfl
                have hcz82_1 : wc.cell? ⟨gb715, 1, none⟩ = some (.string t707) := (zaf BK715.out 1).trans rfl
                have hcz82_2 : wc.cell? ⟨gb715, 2, none⟩ = some (.int .i64 t708) := (zaf BK715.out 2).trans rfl
                have hcz82_3 : wc.cell? ⟨gb715, 3, none⟩ = some (.int .i64 t709) := (zaf BK715.out 3).trans rfl
                have hcz82_4 : wc.cell? ⟨gb715, 4, none⟩ = some (.slice Ao21 t725.length co21) := (zaf BK715.out 4).trans rfl
                have hfz82_0 := zab BK715.out 0
                have hfz82_1 := zab BK715.out 1
                have hfz82_2 := zab BK715.out 2
                have hfz82_3 := zab BK715.out 3
                have hfz82_4 := zab BK715.out 4
                go_wp2_with (first | ((with_reducible refine zbl (f := 57) rfl ?_); refine goesL_ (some 113) rfl rfl Try.func57 (by kernel_rfl) rfl #[.agg #[.int .i64 t706, .string t707, .int .i64 t708, .int .i64 t709, .slice Ao21 t725.length co21], .int .i64 1] rfl (by (try simp only [zav, zbd, zbh]); first | done | rfl) ?_; (with_reducible refine (laws_heldLine.calls kj52 t706 t707 t708 t709 _ _ t725 1 t741 _ ?side1 ?side2 A77.out).mono ?_); (case side1 => repeat (first | exact (zbt HO_716004.out).2.2 | (with_reducible first | apply zcl | apply zcm | apply zcu))); (case side2 => exact (zbt HO_716004.out).2.1); rintro e w83 ⟨rfl, hb⟩; refine ⟨_, rfl, ?_⟩; have n0_ := Aside0.mk (zcx (by (with_reducible repeat (first | apply zai | apply zaj | apply zam)); exact HO_703004.out) hb); have n1_ := Aside0.mk (zcx (by (with_reducible repeat (first | apply zai | apply zaj | apply zam)); exact HO_716004.out) hb); have n2_ := Aside0.mk (zcx (by (with_reducible repeat (first | apply zai | apply zaj | apply zam)); exact HO_740004.out) hb); have n3_ := Aside0.mk (zbq (g := gb702) (o := .cells #[.int .i64 t693, .string t694, .int .i64 t695, .int .i64 t696, .slice Ao14 t697.length co14] 48 (0, 0)) (by (with_reducible repeat (first | refine zar ?_ _ | refine zaw ?_ | refine zas ?_ _)); exact BK702.out) hb); have n4_ := Aside0.mk (zbq (g := gb715) (o := .cells #[.int .i64 t706, .string t707, .int .i64 t708, .int .i64 t709, .slice Ao21 t725.length co21] 48 (0, 0)) (by (with_reducible repeat (first | refine zar ?_ _ | refine zaw ?_ | refine zas ?_ _)); exact BK715.out) hb); have n5_ := Aside0.mk (zbq (g := gb739) (o := .cells #[.int .i64 t730, .string t731, .int .i64 t732, .int .i64 t733, .slice Ao66 t734.length co66] 48 (0, 0)) (by (with_reducible repeat (first | refine zar ?_ _ | refine zaw ?_ | refine zas ?_ _)); exact BK739.out) hb); have n6_ := Aside0.mk (zat (by repeat (first | (with_reducible first | exact HB.out | apply zad | apply zaa | apply zac | refine zal ?_ GE702.out | refine zal ?_ GE715.out | refine zal ?_ GE739.out) | exact HB.out)) hb); clear HO_703004 HO_716004 HO_740004 BK702 BK715 BK739 HB; have HO_703004 := n0_; have HO_716004 := n1_; have HO_740004 := n2_; have BK702 := n3_; have BK715 := n4_; have BK739 := n5_; have HB := n6_; clear n0_ n1_ n2_ n3_ n4_ n5_ n6_; (try clear hb); (try clear hb2); (try clear hk); (try clear hi)))
                go_ret
                exact ⟨by first | rfl | (simp [zaz, zba] <;> rfl) | (simp [*, zaz, zba] <;> rfl), by repeat (first | (with_reducible first | exact HB.out | apply zad | apply zaa | apply zac | refine zal ?_ GE702.out | refine zal ?_ GE715.out | refine zal ?_ GE739.out) | exact HB.out)⟩
               ·rw [if_neg c79] at H
                exact absurd H (by simp)
          ·rw [if_neg c50] at H
           exact absurd H (by simp)
     ·replace c32 := zcn.mpr c32
      subst c32
      have H1 : (none) = some r := by rw [if_neg (show ¬ (false = true) by decide)] at H; exact H
      clear H
      have H := H1
      clear H1
      exact absurd H (by simp)

def laws_FnExactLineOf.Pure : Prop := ∀ (l0 : List Int) (a1 : Int), l0.length ≤ maxLen → l0.length * 1 ≤ 140737488351232 → (∀ x ∈ l0, (Lit.int .u8 x).wf = true) → (Lit.int .i64 a1).wf = true → ∃ k, laws_FnExactLineOf.f k l0 a1 = some true
theorem laws_FnExactLineOf.walk (P : laws_FnExactLineOf.Pure) (a0 : Option Addr) (len0 cap0 : Nat) (z0 : List Int) (a1 : Int) (w : World) (w0 : (a0 = none ∧ len0 = 0 ∧ cap0 = 0 ∧ z0 = []) ∨ ∃ x, a0 = some x ∧ len0 ≤ cap0 ∧ cap0 ≤ maxLen ∧ z0.length = cap0 ∧ (∀ i, i < z0.length → w.cell? (x.add i) = some (.int .u8 (z0.getD i 0))) ∧ ∀ n ∈ z0, (Lit.int .u8 n).wf = true) (y0 : len0 * 1 ≤ 140737488351232) (w1 : (Lit.int .i64 a1).wf = true) :
  Calls Try.prog 11 #[.slice a0 len0 cap0, .int .i64 a1] w fun e w' => e = .returned (.bool true) ∧ Below w.heap.size w w' := by
 obtain ⟨l0, rfl, hr0, hm0, hw0, hc0⟩ := ReadsInt.ofRowC w0
 obtain ⟨k, h⟩ := P l0 a1 hm0 y0 hw0 w1
 refine (laws_FnExactLineOf.calls k _ _ l0 a1 true w (Kd.C_of_reads (d := (0 : Int)) (h1 := fun _ => rfl) hr0) hc0 h).mono ?_
 rintro e w' ⟨rfl, hd⟩
 exact ⟨rfl, hd⟩
end Go.Proofs.Ytlalkldjpniakaa.P
/- FnExactLineOf: of every list of bytes and every start both answers are one; the list is not changed, and no two calls share what is answered. -/
namespace Go.Proofs.Ytlalkldjpniakaa.Pure
open Go.RowKit Go.Proofs.Ytlalkldjpniakaa.P Go.Proofs.Ytlalkldjpniakaa.B Go.Proofs.YtlalkldjpniakaaW.PrintWords Go.Proofs.YtlalkldjpniakaaW.PrintLast Go.Proofs.YtlalkldjpniakaaW.PrintMore
theorem lineGood_size {l : List Int} {a : Int} {r : Int × ByteArray × Int × Int × List Int × Int × Bool} (h : LineGood l a r) : r.2.2.2.2.1.length ≤ 65535 := by
  rcases h with h | h
  · rw [h]; simp
  · exact h.2.2.2.2.2.1
theorem FnExactLineOf : laws_FnExactLineOf.Pure := by
  intro l a hl _ hw _
  have hw8 := wf8 hw
  refine Ev.rounds ?_
  unfold laws_FnExactLineOf.f
  by_cases h0 : (l.length : Int) > 1048576
  · exact evPos h0 (evConst _)
  obtain ⟨⟨r1, r2, r3, r4, r5, r6, r7⟩, hS, hI, hg⟩ := lineOf l a (by omega) hw8
  have h5 : r5.length ≤ 65535 := lineGood_size hg
  have ht : Ev (fun k => laws_toByteS.f k l) l := evOf l.length fun k hk => toByteS l (by omega) k hk
  have he : Ev (fun k => laws_eqLine.f k r1 r2 r3 r4 r5 r1 r2 r3 r4 r5) true := evOf 1048576 fun k hk => eqLine1 r1 r2 r3 r4 r5 (by omega) k hk
  have hm : Ev (fun k => laws_markLine.f k r1 r2 r3 r4 r5 1) (1 + (r5.length : Int), marks r5.length 1) := by
    unfold laws_markLine.f
    exact evBind (evOf r5.length fun k hk => markByteS r5 1 (by omega) (by omega) (by omega) k hk) (evConst _)
  have hh : Ev (fun k => laws_heldLine.f k r1 r2 r3 r4 (marks r5.length 1) 1) (1 + (r5.length : Int)) := by
    unfold laws_heldLine.f
    exact evBind (evOf r5.length fun k hk => heldByteS r5.length 1 (by omega) (by omega) (by omega) k hk) (evNeg (by omega) (evConst _))
  refine evNeg h0 (evBind ht (evBind hS (evBind ht (evBind hI (evBind he (evPos rfl (evPos rfl (evUp ?_))))))))
  have c1 : ¬ ((1 : Int) + (l.length : Int) < 0) := by omega
  have c2 : ¬ ((1 : Int) + (r5.length : Int) < 0) := by omega
  have hb : (r7 != r7) = false := by cases r7 <;> rfl
  simp only [laws_FnExactLineOf.j0, hb]
  refine evNeg (by decide) (evBind ht (evBind (a := true) (evOf l.length fun k hk => eqByteS_same l (by omega) k hk) (evPos rfl (evBind (a := (1 + (l.length : Int), marks l.length 1)) (evOf l.length fun k hk => markByteS l 1 (by omega) (by omega) (by omega) k hk) (evNeg c1 (evBind he (evPos rfl (evPos trivial (evUp ?_)))))))))
  simp only [laws_FnExactLineOf.j1]
  refine evNeg (by decide) (evBind hm (evBind hh (evNeg c2 (evPos rfl (evBind ht (evBind hI (evBind he (evPos rfl (evPos rfl (evUp ?_))))))))))
  simp only [laws_FnExactLineOf.j2, hb]
  exact evNeg (by decide) (evBind hh (evNeg c2 (evPos rfl (evConst _))))
end Go.Proofs.Ytlalkldjpniakaa.Pure
