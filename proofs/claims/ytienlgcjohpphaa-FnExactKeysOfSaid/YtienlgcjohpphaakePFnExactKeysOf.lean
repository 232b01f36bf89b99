import Derived.Test.Ytienlgcjohpphaake41
namespace Go.Proofs.Ytienlgcjohpphaa.P
open Go.RowKit Go.Proofs.YtienlgcjohpphaaW.PrintWords Go.Proofs.YtienlgcjohpphaaW.PrintLast Go.Proofs.YtienlgcjohpphaaW.PrintMore
attribute [local go_sem] zbz zca zcn zco zbt zbu zcb zcc   -- for this text's walks alone
set_option linter.unusedVariables false
set_option linter.unusedSimpArgs false
set_option maxHeartbeats 8000000
set_option maxRecDepth 100000

mutual
def laws_FnExactKeysOf.j0 : Nat → List Int → List Int → List Int → List Int → List Int → List Int → List Int → List Int → List Int → List Int → Bool → Option (Bool)
 | 0, _, _, _, _, _, _, _, _, _, _, _ => none
 | k + 1, x0, x1, x2, x7, x8, x9, x10, x11, x12, x13, x60 => if x60 = true then (none) else ((laws_toByteS.f k x0).bind fun t1198 => ((laws_eqByteS.f k x9 t1198).bind fun t1201 => (if t1201 = true then ((laws_toByteS.f k x1).bind fun t1202 => ((laws_eqByteS.f k x10 t1202).bind fun t1205 => (if t1205 = true then ((laws_toByteS.f k x2).bind fun t1206 => ((laws_eqByteS.f k x11 t1206).bind fun t1209 => (if t1209 = true then ((laws_markByteS.f k x9 1).bind fun bt1210 => ((laws_markByteS.f k x10 bt1210.1).bind fun bt1212 => ((laws_markByteS.f k x11 bt1212.1).bind fun bt1214 => (if bt1214.1 < 0 then (none) else ((laws_eqByteS.f k x12 x7).bind fun t1216 => (if t1216 = true then ((laws_eqByteS.f k x13 x8).bind fun t1217 => (laws_FnExactKeysOf.j1 k x0 x1 x2 x7 x8 x12 x13 (!t1217))) else (none))))))) else (none)))) else (none)))) else (none))))
def laws_FnExactKeysOf.j1 : Nat → List Int → List Int → List Int → List Int → List Int → List Int → List Int → Bool → Option (Bool)
 | 0, _, _, _, _, _, _, _, _ => none
 | k + 1, x0, x1, x2, x7, x8, x12, x13, x98 => if x98 = true then (none) else ((laws_markByteS.f k x12 1).bind fun bt1218 => ((laws_markByteS.f k x13 bt1218.1).bind fun bt1220 => ((laws_heldByteS.f k bt1218.2 1).bind fun t1222 => (if t1222 < 0 then (none) else ((laws_heldByteS.f k bt1220.2 t1222).bind fun t1223 => (if t1223 < 0 then (none) else (if t1223 = bt1220.1 then ((laws_toByteS.f k x0).bind fun t1224 => ((laws_toByteS.f k x1).bind fun t1227 => ((laws_toByteS.f k x2).bind fun t1230 => ((impl_KeysOf.f k t1224 t1227 t1230).bind fun bt1233 => ((laws_eqByteS.f k bt1233.1 x7).bind fun t1239 => (if t1239 = true then ((laws_eqByteS.f k bt1233.2 x8).bind fun t1240 => (laws_FnExactKeysOf.j2 k bt1218.2 bt1220.2 bt1220.1 (!t1240))) else (none))))))) else (none))))))))
def laws_FnExactKeysOf.j2 : Nat → List Int → List Int → Int → Bool → Option (Bool)
 | 0, _, _, _, _ => none
 | k + 1, x12, x13, x15, x137 => if x137 = true then (none) else ((laws_heldByteS.f k x12 1).bind fun t1241 => (if t1241 < 0 then (none) else ((laws_heldByteS.f k x13 t1241).bind fun t1242 => (if t1242 < 0 then (none) else (if t1242 = x15 then (some true) else (none))))))
end
def laws_FnExactKeysOf.f (k : Nat) (l0 : List Int) (l1 : List Int) (l2 : List Int) : Option (Bool) := if (l0.length : Int) > 1048576 then (some true) else (if (l1.length : Int) > 1048576 then (some true) else (if (l2.length : Int) > 1048576 then (some true) else ((laws_toByteS.f k l0).bind fun t1166 => ((laws_toByteS.f k l1).bind fun t1169 => ((laws_toByteS.f k l2).bind fun t1172 => ((spec_KeysOf.f k t1166 t1169 t1172).bind fun bt1175 => ((laws_toByteS.f k l0).bind fun t1181 => ((laws_toByteS.f k l1).bind fun t1184 => ((laws_toByteS.f k l2).bind fun t1187 => ((impl_KeysOf.f k t1181 t1184 t1187).bind fun bt1190 => ((laws_eqByteS.f k bt1190.1 bt1175.1).bind fun t1196 => (if t1196 = true then ((laws_eqByteS.f k bt1190.2 bt1175.2).bind fun t1197 => (laws_FnExactKeysOf.j0 k l0 l1 l2 bt1175.1 bt1175.2 t1181 t1184 t1187 bt1190.1 bt1190.2 (!t1197))) else (none)))))))))))))
theorem laws_FnExactKeysOf.mono_l : ∀ k, (∀ y0 y1 y2 y3 y4 y5 y6 y7 y8 y9 y10, LeO (laws_FnExactKeysOf.j0 k y0 y1 y2 y3 y4 y5 y6 y7 y8 y9 y10) (laws_FnExactKeysOf.j0 (k + 1) y0 y1 y2 y3 y4 y5 y6 y7 y8 y9 y10)) ∧ (∀ y0 y1 y2 y3 y4 y5 y6 y7, LeO (laws_FnExactKeysOf.j1 k y0 y1 y2 y3 y4 y5 y6 y7) (laws_FnExactKeysOf.j1 (k + 1) y0 y1 y2 y3 y4 y5 y6 y7)) ∧ (∀ y0 y1 y2 y3, LeO (laws_FnExactKeysOf.j2 k y0 y1 y2 y3) (laws_FnExactKeysOf.j2 (k + 1) y0 y1 y2 y3))
 | 0 => ⟨fun _ _ _ _ _ _ _ _ _ _ _ r h => by simp [laws_FnExactKeysOf.j0] at h, fun _ _ _ _ _ _ _ _ r h => by simp [laws_FnExactKeysOf.j1] at h, fun _ _ _ _ r h => by simp [laws_FnExactKeysOf.j2] at h⟩
 | k + 1 => by
  obtain ⟨ih0, ih1, ih2⟩ := laws_FnExactKeysOf.mono_l k
  refine ⟨?_, ?_, ?_⟩
  ·intro y0 y1 y2 y3 y4 y5 y6 y7 y8 y9 y10
   unfold laws_FnExactKeysOf.j0
   have m0 := @impl_KeysOf.mono
   have m1 := @laws_eqByteS.mono
   have m2 := @laws_heldByteS.mono
   have m3 := @laws_markByteS.mono
   have m4 := @laws_toByteS.mono
   have m5 := @spec_KeysOf.mono
   exact mt
  ·intro y0 y1 y2 y3 y4 y5 y6 y7
   unfold laws_FnExactKeysOf.j1
   have m0 := @impl_KeysOf.mono
   have m1 := @laws_eqByteS.mono
   have m2 := @laws_heldByteS.mono
   have m3 := @laws_markByteS.mono
   have m4 := @laws_toByteS.mono
   have m5 := @spec_KeysOf.mono
   exact mt
  ·intro y0 y1 y2 y3
   unfold laws_FnExactKeysOf.j2
   have m0 := @impl_KeysOf.mono
   have m1 := @laws_eqByteS.mono
   have m2 := @laws_heldByteS.mono
   have m3 := @laws_markByteS.mono
   have m4 := @laws_toByteS.mono
   have m5 := @spec_KeysOf.mono
   exact mt
theorem laws_FnExactKeysOf.mono : ∀ a0 a1 a2 k, LeO (laws_FnExactKeysOf.f k a0 a1 a2) (laws_FnExactKeysOf.f (k + 1) a0 a1 a2) := by
 intro a0 a1 a2 k
 obtain ⟨ih0, ih1, ih2⟩ := laws_FnExactKeysOf.mono_l k
 unfold laws_FnExactKeysOf.f
 have m0 := @impl_KeysOf.mono
 have m1 := @laws_eqByteS.mono
 have m2 := @laws_heldByteS.mono
 have m3 := @laws_markByteS.mono
 have m4 := @laws_toByteS.mono
 have m5 := @spec_KeysOf.mono
 exact mt
theorem laws_FnExactKeysOf.wk {P : Prop} (h : P := by
 go_enter Try.func12, Try.ntmps12
 go_wp2
 go_ret
 exact ⟨jex, bq⟩) : P := h
theorem laws_FnExactKeysOf.calls (k : Nat) (A0 : Option Addr) (c0 : Nat) (l0 : List Int) (A1 : Option Addr) (c1 : Nat) (l1 : List Int) (A2 : Option Addr) (c2 : Nat) (l2 : List Int) (r : Bool) (w : World) (hr0 : Kd.C (Kd.int .u8) w A0 l0.length l0) (hc0 : l0.length ≤ c0) (hr1 : Kd.C (Kd.int .u8) w A1 l1.length l1) (hc1 : l1.length ≤ c1) (hr2 : Kd.C (Kd.int .u8) w A2 l2.length l2) (hc2 : l2.length ≤ c2) (h : laws_FnExactKeysOf.f k l0 l1 l2 = some r) :
  Calls Try.prog 12 #[.slice A0 l0.length c0, .slice A1 l1.length c1, .slice A2 l2.length c2] w fun e w' => e = .returned (.bool r) ∧ Below w.heap.size w w' := by
 have HR0 := Aside0.mk hr0
 have HC0 := Aside0.mk hc0
 clear hr0 hc0
 have HR1 := Aside0.mk hr1
 have HC1 := Aside0.mk hc1
 clear hr1 hc1
 have HR2 := Aside0.mk hr2
 have HC2 := Aside0.mk hc2
 clear hr2 hc2
 have HB := Aside0.mk (zbj w.heap.size w)
 have H : (if (l0.length : Int) > 1048576 then (some true) else (if (l1.length : Int) > 1048576 then (some true) else (if (l2.length : Int) > 1048576 then (some true) else ((laws_toByteS.f k l0).bind fun t1166 => ((laws_toByteS.f k l1).bind fun t1169 => ((laws_toByteS.f k l2).bind fun t1172 => ((spec_KeysOf.f k t1166 t1169 t1172).bind fun bt1175 => ((laws_toByteS.f k l0).bind fun t1181 => ((laws_toByteS.f k l1).bind fun t1184 => ((laws_toByteS.f k l2).bind fun t1187 => ((impl_KeysOf.f k t1181 t1184 t1187).bind fun bt1190 => ((laws_eqByteS.f k bt1190.1 bt1175.1).bind fun t1196 => (if t1196 = true then ((laws_eqByteS.f k bt1190.2 bt1175.2).bind fun t1197 => (laws_FnExactKeysOf.j0 k l0 l1 l2 bt1175.1 bt1175.2 t1181 t1184 t1187 bt1190.1 bt1190.2 (!t1197))) else (none)))))))))))))) = some r := h
 clear h
 by_cases c4 : (l0.length : Int) > 1048576
 ·rw [if_pos c4] at H
  have c4b0 := zaa c4
  have c4b1 : decide (1048576 < l0.length) = true := zaa (by omega)
  clear c4
  obtain rfl := Option.some.inj H
  exact laws_FnExactKeysOf.wk
 ·rw [if_neg c4] at H
  have c4b0 := zat c4
  have c4b1 : decide (1048576 < l0.length) = false := zat (by omega)
  clear c4
  by_cases c5 : (l1.length : Int) > 1048576
  ·rw [if_pos c5] at H
   have c5b0 := zaa c5
   have c5b1 : decide (1048576 < l1.length) = true := zaa (by omega)
   clear c5
   obtain rfl := Option.some.inj H
   exact laws_FnExactKeysOf.wk
  ·rw [if_neg c5] at H
   have c5b0 := zat c5
   have c5b1 : decide (1048576 < l1.length) = false := zat (by omega)
   clear c5
   by_cases c6 : (l2.length : Int) > 1048576
   ·rw [if_pos c6] at H
    have c6b0 := zaa c6
    have c6b1 : decide (1048576 < l2.length) = true := zaa (by omega)
    clear c6
    obtain rfl := Option.some.inj H
    exact laws_FnExactKeysOf.wk
   ·rw [if_neg c6] at H
    have c6b0 := zat c6
    have c6b1 : decide (1048576 < l2.length) = false := zat (by omega)
    clear c6
    obtain ⟨t1166, A7, H⟩ := bnd H
    obtain ⟨t1169, A8, H⟩ := bnd H
    obtain ⟨t1172, A9, H⟩ := bnd H
    obtain ⟨⟨t1175, t1176⟩, A10, H⟩ := bnd H
    try dsimp only at H
    obtain ⟨t1181, A11, H⟩ := bnd H
    obtain ⟨t1184, A12, H⟩ := bnd H
    obtain ⟨t1187, A13, H⟩ := bnd H
    obtain ⟨⟨t1190, t1191⟩, A14, H⟩ := bnd H
    try dsimp only at H
    have HC15 := Aside0.mk H
    clear H
    go_enter Try.func12, Try.ntmps12
    go_upto_region 12 with (first | (refine jgc 17 ?_; refine jgs 30 Try.func17 #[.slice A0 l0.length c0] ?_; (with_reducible refine (laws_toByteS.calls k _ _ l0 t1166 _ ?side1 ?side2 A7.out).mono ?_); (case side1 => repeat (first | exact HR0.out | (with_reducible first | apply zba | apply zbb | apply zbf))); (case side2 => exact HC0.out); rintro e w16 ⟨v1167, rfl, ho0, hb⟩; refine ⟨_, rfl, ?_⟩; have xb_ := below_ofs bq hb; have n_ := jA2 (zas ho0 (zaf xb_)) (zao xb_ hb); clear HB; obtain ⟨HO1168, HB⟩ := n_; clear xb_ hb ho0) | (refine jgc 17 ?_; refine jgs 32 Try.func17 #[.slice A1 l1.length c1] ?_; (with_reducible refine (laws_toByteS.calls k _ _ l1 t1169 _ ?side1 ?side2 A8.out).mono ?_); (case side1 => exact jcs HR1.out); (case side2 => exact HC1.out); rintro e w17 ⟨v1170, rfl, ho0, hb⟩; refine ⟨_, rfl, ?_⟩; have xb_ := below_ofs bq hb; have qHO1168 := Kd.R_ofs (pR HO1168.out) hb; have n_ := jA3 (zai qHO1168 (zag ho0) hb) (zas (zal ho0 (zar qHO1168)) (zaf xb_)) (zao xb_ hb); clear qHO1168 HO1168 HB; obtain ⟨HO1168, HO1171, HB⟩ := n_; clear xb_ hb ho0) | (refine jgc 17 ?_; refine jgs 34 Try.func17 #[.slice A2 l2.length c2] ?_; (with_reducible refine (laws_toByteS.calls k _ _ l2 t1172 _ ?side1 ?side2 A9.out).mono ?_); (case side1 => exact jcs HR2.out); (case side2 => exact HC2.out); rintro e w18 ⟨v1173, rfl, ho0, hb⟩; refine ⟨_, rfl, ?_⟩; have xb_ := below_ofs bq hb; have qHO1168 := Kd.R_ofs (pR HO1168.out) hb; have n0_ := Aside0.mk (zai qHO1168 (zag ho0) hb); have qHO1171 := Kd.R_ofs (pR HO1171.out) hb; have n1_ := Aside0.mk (zai qHO1171 (zag ho0) hb); have n2_ := Aside0.mk (zas (zal (zal ho0 (zar qHO1168)) (zar qHO1171)) (zaf xb_)); have n3_ := Aside0.mk (zao xb_ hb); clear qHO1168 HO1168; clear qHO1171 HO1171; clear HB; have HO1168 := n0_; have HO1171 := n1_; have HO1174 := n2_; have HB := n3_; clear n0_ n1_ n2_ n3_; clear xb_ hb ho0; obtain ⟨Ao19, co19, eo19⟩ := zax HO1168.out; subst eo19; obtain ⟨Ao20, co20, eo20⟩ := zax HO1171.out; subst eo20; obtain ⟨Ao21, co21, eo21⟩ := zax HO1174.out; subst eo21) | (refine jgc 49 ?_; refine jgs 35 Try.func49 #[.slice Ao19 t1166.length co19, .slice Ao20 t1169.length co20, .slice Ao21 t1172.length co21] ?_; (with_reducible refine (spec_KeysOf.calls k _ _ t1166 _ _ t1169 _ _ t1172 t1175 t1176 _ ?side1 ?side2 ?side3 ?side4 ?side5 ?side6 A10.out).mono ?_); (case side1 => repeat (first | exact (zad HO1168.out).2.2 | (with_reducible first | apply zba | apply zbb | apply zbf))); (case side2 => exact (zad HO1168.out).2.1); (case side3 => repeat (first | exact (zad HO1171.out).2.2 | (with_reducible first | apply zba | apply zbb | apply zbf))); (case side4 => exact (zad HO1171.out).2.1); (case side5 => repeat (first | exact (zad HO1174.out).2.2 | (with_reducible first | apply zba | apply zbb | apply zbf))); (case side6 => exact (zad HO1174.out).2.1); rintro e w22 ⟨v1177, v1179, rfl, ho0, ho1, hb⟩; refine ⟨_, rfl, ?_⟩; have xb_ := below_ofs bq hb; have n_ := jA6 (zap (zcj (zcj (Kd.R_old (pR HO1168.out) hb) (zag ho0)) (zag ho1)) (fun _ h_ => h_.1)) (zap (zcj (zcj (Kd.R_old (pR HO1171.out) hb) (zag ho0)) (zag ho1)) (fun _ h_ => h_.1)) (zap (zcj (zcj (Kd.R_old (pR HO1174.out) hb) (zag ho0)) (zag ho1)) (fun _ h_ => h_.1)) (zas (zal (zal (zal ho0 (zar (pR HO1168.out))) (zar (pR HO1171.out))) (zar (pR HO1174.out))) (zaf xb_)) (zas (zal (zal (zal ho1 (zar (pR HO1168.out))) (zar (pR HO1171.out))) (zar (pR HO1174.out))) (zaf xb_)) (zao xb_ hb); clear HO1168 HO1171 HO1174 HB; obtain ⟨HO1168, HO1171, HO1174, HO1178, HO1180, HB⟩ := n_; clear xb_ hb ho0; (try clear ho1)) | (refine jgc 17 ?_; refine jgs 39 Try.func17 #[.slice A0 l0.length c0] ?_; (with_reducible refine (laws_toByteS.calls k _ _ l0 t1181 _ ?side1 ?side2 A11.out).mono ?_); (case side1 => exact jcs HR0.out); (case side2 => exact HC0.out); rintro e w23 ⟨v1182, rfl, ho0, hb⟩; refine ⟨_, rfl, ?_⟩; have xb_ := below_ofs bq hb; have qHO1168 := Kd.R_ofs (pR HO1168.out) hb; have n0_ := Aside0.mk (zai qHO1168 (zag ho0) hb); have qHO1171 := Kd.R_ofs (pR HO1171.out) hb; have n1_ := Aside0.mk (zai qHO1171 (zag ho0) hb); have qHO1174 := Kd.R_ofs (pR HO1174.out) hb; have n2_ := Aside0.mk (zai qHO1174 (zag ho0) hb); have qHO1178 := Kd.R_ofs (pR HO1178.out) hb; have n3_ := Aside0.mk (zai qHO1178 (zag ho0) hb); have qHO1180 := Kd.R_ofs (pR HO1180.out) hb; have n4_ := Aside0.mk (zai qHO1180 (zag ho0) hb); have n5_ := Aside0.mk (zas (zal (zal (zal (zal (zal ho0 (zar qHO1168)) (zar qHO1171)) (zar qHO1174)) (zar qHO1178)) (zar qHO1180)) (zaf xb_)); have n6_ := Aside0.mk (zao xb_ hb); clear qHO1168 HO1168; clear qHO1171 HO1171; clear qHO1174 HO1174; clear qHO1178 HO1178; clear qHO1180 HO1180; clear HB; have HO1168 := n0_; have HO1171 := n1_; have HO1174 := n2_; have HO1178 := n3_; have HO1180 := n4_; have HO1183 := n5_; have HB := n6_; clear n0_ n1_ n2_ n3_ n4_ n5_ n6_; clear xb_ hb ho0) | (refine jgc 17 ?_; refine jgs 41 Try.func17 #[.slice A1 l1.length c1] ?_; (with_reducible refine (laws_toByteS.calls k _ _ l1 t1184 _ ?side1 ?side2 A12.out).mono ?_); (case side1 => exact jcs HR1.out); (case side2 => exact HC1.out); rintro e w24 ⟨v1185, rfl, ho0, hb⟩; refine ⟨_, rfl, ?_⟩; have xb_ := below_ofs bq hb; have qHO1168 := Kd.R_ofs (pR HO1168.out) hb; have n0_ := Aside0.mk (zai qHO1168 (zag ho0) hb); have qHO1171 := Kd.R_ofs (pR HO1171.out) hb; have n1_ := Aside0.mk (zai qHO1171 (zag ho0) hb); have qHO1174 := Kd.R_ofs (pR HO1174.out) hb; have n2_ := Aside0.mk (zai qHO1174 (zag ho0) hb); have qHO1178 := Kd.R_ofs (pR HO1178.out) hb; have n3_ := Aside0.mk (zai qHO1178 (zag ho0) hb); have qHO1180 := Kd.R_ofs (pR HO1180.out) hb; have n4_ := Aside0.mk (zai qHO1180 (zag ho0) hb); have qHO1183 := Kd.R_ofs (pR HO1183.out) hb; have n5_ := Aside0.mk (zai qHO1183 (zag ho0) hb); have n6_ := Aside0.mk (zas (zal (zal (zal (zal (zal (zal ho0 (zar qHO1168)) (zar qHO1171)) (zar qHO1174)) (zar qHO1178)) (zar qHO1180)) (zar qHO1183)) (zaf xb_)); have n7_ := Aside0.mk (zao xb_ hb); clear qHO1168 HO1168; clear qHO1171 HO1171; clear qHO1174 HO1174; clear qHO1178 HO1178; clear qHO1180 HO1180; clear qHO1183 HO1183; clear HB; have HO1168 := n0_; have HO1171 := n1_; have HO1174 := n2_; have HO1178 := n3_; have HO1180 := n4_; have HO1183 := n5_; have HO1186 := n6_; have HB := n7_; clear n0_ n1_ n2_ n3_ n4_ n5_ n6_ n7_; clear xb_ hb ho0) | (refine jgc 17 ?_; refine jgs 43 Try.func17 #[.slice A2 l2.length c2] ?_; (with_reducible refine (laws_toByteS.calls k _ _ l2 t1187 _ ?side1 ?side2 A13.out).mono ?_); (case side1 => exact jcs HR2.out); (case side2 => exact HC2.out); rintro e w25 ⟨v1188, rfl, ho0, hb⟩; refine ⟨_, rfl, ?_⟩; have xb_ := below_ofs bq hb; have qHO1168 := Kd.R_ofs (pR HO1168.out) hb; have n0_ := Aside0.mk (zai qHO1168 (zag ho0) hb); have qHO1171 := Kd.R_ofs (pR HO1171.out) hb; have n1_ := Aside0.mk (zai qHO1171 (zag ho0) hb); have qHO1174 := Kd.R_ofs (pR HO1174.out) hb; have n2_ := Aside0.mk (zai qHO1174 (zag ho0) hb); have qHO1178 := Kd.R_ofs (pR HO1178.out) hb; have n3_ := Aside0.mk (zai qHO1178 (zag ho0) hb); have qHO1180 := Kd.R_ofs (pR HO1180.out) hb; have n4_ := Aside0.mk (zai qHO1180 (zag ho0) hb); have qHO1183 := Kd.R_ofs (pR HO1183.out) hb; have n5_ := Aside0.mk (zai qHO1183 (zag ho0) hb); have qHO1186 := Kd.R_ofs (pR HO1186.out) hb; have n6_ := Aside0.mk (zai qHO1186 (zag ho0) hb); have n7_ := Aside0.mk (zas (zal (zal (zal (zal (zal (zal (zal ho0 (zar qHO1168)) (zar qHO1171)) (zar qHO1174)) (zar qHO1178)) (zar qHO1180)) (zar qHO1183)) (zar qHO1186)) (zaf xb_)); have n8_ := Aside0.mk (zao xb_ hb); clear qHO1168 HO1168; clear qHO1171 HO1171; clear qHO1174 HO1174; clear qHO1178 HO1178; clear qHO1180 HO1180; clear qHO1183 HO1183; clear qHO1186 HO1186; clear HB; have HO1168 := n0_; have HO1171 := n1_; have HO1174 := n2_; have HO1178 := n3_; have HO1180 := n4_; have HO1183 := n5_; have HO1186 := n6_; have HO1189 := n7_; have HB := n8_; clear n0_ n1_ n2_ n3_ n4_ n5_ n6_ n7_ n8_; clear xb_ hb ho0; obtain ⟨Ao26, co26, eo26⟩ := zax HO1183.out; subst eo26; obtain ⟨Ao27, co27, eo27⟩ := zax HO1186.out; subst eo27; obtain ⟨Ao28, co28, eo28⟩ := zax HO1189.out; subst eo28) | (refine jgc 50 ?_; refine jgs 48 Try.func50 #[.slice Ao26 t1181.length co26, .slice Ao27 t1184.length co27, .slice Ao28 t1187.length co28] ?_; (with_reducible refine (impl_KeysOf.calls k _ _ t1181 _ _ t1184 _ _ t1187 t1190 t1191 _ ?side1 ?side2 ?side3 ?side4 ?side5 ?side6 A14.out).mono ?_); (case side1 => repeat (first | exact (zad HO1183.out).2.2 | (with_reducible first | apply zba | apply zbb | apply zbf))); (case side2 => exact (zad HO1183.out).2.1); (case side3 => repeat (first | exact (zad HO1186.out).2.2 | (with_reducible first | apply zba | apply zbb | apply zbf))); (case side4 => exact (zad HO1186.out).2.1); (case side5 => repeat (first | exact (zad HO1189.out).2.2 | (with_reducible first | apply zba | apply zbb | apply zbf))); (case side6 => exact (zad HO1189.out).2.1); rintro e w29 ⟨v1192, v1194, rfl, ho0, ho1, hb⟩; refine ⟨_, rfl, ?_⟩; have xb_ := below_ofs bq hb; have n_ := jA11 (zap (zcj (zcj (Kd.R_old (pR HO1168.out) hb) (zag ho0)) (zag ho1)) (fun _ h_ => h_.1)) (zap (zcj (zcj (Kd.R_old (pR HO1171.out) hb) (zag ho0)) (zag ho1)) (fun _ h_ => h_.1)) (zap (zcj (zcj (Kd.R_old (pR HO1174.out) hb) (zag ho0)) (zag ho1)) (fun _ h_ => h_.1)) (zap (zcj (zcj (Kd.R_old (pR HO1178.out) hb) (zag ho0)) (zag ho1)) (fun _ h_ => h_.1)) (zap (zcj (zcj (Kd.R_old (pR HO1180.out) hb) (zag ho0)) (zag ho1)) (fun _ h_ => h_.1)) (zap (zcj (zcj (Kd.R_old (pR HO1183.out) hb) (zag ho0)) (zag ho1)) (fun _ h_ => h_.1)) (zap (zcj (zcj (Kd.R_old (pR HO1186.out) hb) (zag ho0)) (zag ho1)) (fun _ h_ => h_.1)) (zap (zcj (zcj (Kd.R_old (pR HO1189.out) hb) (zag ho0)) (zag ho1)) (fun _ h_ => h_.1)) (zas (zal (zal (zal (zal (zal (zal (zal (zal ho0 (zar (pR HO1168.out))) (zar (pR HO1171.out))) (zar (pR HO1174.out))) (zar (pR HO1178.out))) (zar (pR HO1180.out))) (zar (pR HO1183.out))) (zar (pR HO1186.out))) (zar (pR HO1189.out))) (zaf xb_)) (zas (zal (zal (zal (zal (zal (zal (zal (zal ho1 (zar (pR HO1168.out))) (zar (pR HO1171.out))) (zar (pR HO1174.out))) (zar (pR HO1178.out))) (zar (pR HO1180.out))) (zar (pR HO1183.out))) (zar (pR HO1186.out))) (zar (pR HO1189.out))) (zaf xb_)) (zao xb_ hb); clear HO1168 HO1171 HO1174 HO1178 HO1180 HO1183 HO1186 HO1189 HB; obtain ⟨HO1168, HO1171, HO1174, HO1178, HO1180, HO1183, HO1186, HO1189, HO1193, HO1195, HB⟩ := n_; clear xb_ hb ho0; (try clear ho1)))
    (try simp only [Act.put, zaj, zay, zaz])
    go_cut [60] (fun v60 wc => ∃ (kq : Nat) (x60_14 : Bool), v60 = .bool x60_14 ∧ Aside0 (laws_FnExactKeysOf.j0 kq l0 l1 l2 t1175 t1176 t1181 t1184 t1187 t1190 t1191 x60_14 = some r) ∧ Aside0 (kq ≤ k) ∧ Aside0 (Kd.R (Kd.int .u8) 5 wc w.heap.size (fun k_ => some k_ ≠ (v1179 : Value).ownBlock ∧ some k_ ≠ ((.slice Ao26 t1181.length co26) : Value).ownBlock ∧ some k_ ≠ ((.slice Ao27 t1184.length co27) : Value).ownBlock ∧ some k_ ≠ ((.slice Ao28 t1187.length co28) : Value).ownBlock ∧ some k_ ≠ (v1192 : Value).ownBlock ∧ some k_ ≠ (v1194 : Value).ownBlock) v1177 t1175) ∧ Aside0 (Kd.R (Kd.int .u8) 5 wc w.heap.size (fun k_ => some k_ ≠ (v1177 : Value).ownBlock ∧ some k_ ≠ ((.slice Ao26 t1181.length co26) : Value).ownBlock ∧ some k_ ≠ ((.slice Ao27 t1184.length co27) : Value).ownBlock ∧ some k_ ≠ ((.slice Ao28 t1187.length co28) : Value).ownBlock ∧ some k_ ≠ (v1192 : Value).ownBlock ∧ some k_ ≠ (v1194 : Value).ownBlock) v1179 t1176) ∧ Aside0 (Kd.R (Kd.int .u8) 5 wc w.heap.size (fun k_ => some k_ ≠ (v1177 : Value).ownBlock ∧ some k_ ≠ (v1179 : Value).ownBlock ∧ some k_ ≠ ((.slice Ao27 t1184.length co27) : Value).ownBlock ∧ some k_ ≠ ((.slice Ao28 t1187.length co28) : Value).ownBlock ∧ some k_ ≠ (v1192 : Value).ownBlock ∧ some k_ ≠ (v1194 : Value).ownBlock) (.slice Ao26 t1181.length co26) t1181) ∧ Aside0 (Kd.R (Kd.int .u8) 5 wc w.heap.size (fun k_ => some k_ ≠ (v1177 : Value).ownBlock ∧ some k_ ≠ (v1179 : Value).ownBlock ∧ some k_ ≠ ((.slice Ao26 t1181.length co26) : Value).ownBlock ∧ some k_ ≠ ((.slice Ao28 t1187.length co28) : Value).ownBlock ∧ some k_ ≠ (v1192 : Value).ownBlock ∧ some k_ ≠ (v1194 : Value).ownBlock) (.slice Ao27 t1184.length co27) t1184) ∧ Aside0 (Kd.R (Kd.int .u8) 5 wc w.heap.size (fun k_ => some k_ ≠ (v1177 : Value).ownBlock ∧ some k_ ≠ (v1179 : Value).ownBlock ∧ some k_ ≠ ((.slice Ao26 t1181.length co26) : Value).ownBlock ∧ some k_ ≠ ((.slice Ao27 t1184.length co27) : Value).ownBlock ∧ some k_ ≠ (v1192 : Value).ownBlock ∧ some k_ ≠ (v1194 : Value).ownBlock) (.slice Ao28 t1187.length co28) t1187) ∧ Aside0 (Kd.R (Kd.int .u8) 5 wc w.heap.size (fun k_ => some k_ ≠ (v1177 : Value).ownBlock ∧ some k_ ≠ (v1179 : Value).ownBlock ∧ some k_ ≠ ((.slice Ao26 t1181.length co26) : Value).ownBlock ∧ some k_ ≠ ((.slice Ao27 t1184.length co27) : Value).ownBlock ∧ some k_ ≠ ((.slice Ao28 t1187.length co28) : Value).ownBlock ∧ some k_ ≠ (v1194 : Value).ownBlock) v1192 t1190) ∧ Aside0 (Kd.R (Kd.int .u8) 5 wc w.heap.size (fun k_ => some k_ ≠ (v1177 : Value).ownBlock ∧ some k_ ≠ (v1179 : Value).ownBlock ∧ some k_ ≠ ((.slice Ao26 t1181.length co26) : Value).ownBlock ∧ some k_ ≠ ((.slice Ao27 t1184.length co27) : Value).ownBlock ∧ some k_ ≠ ((.slice Ao28 t1187.length co28) : Value).ownBlock ∧ some k_ ≠ (v1192 : Value).ownBlock) v1194 t1191) ∧ Aside0 (Below w.heap.size w wc))
    case first =>
     have H := HC15.out
     clear HC15
     obtain ⟨t1196, A30, H⟩ := bnd H
     by_cases c31 : t1196 = true
     ·subst c31
      rw [if_pos rfl] at H
      obtain ⟨t1197, A32, H⟩ := bnd H
      have H' := Aside0.mk H
      clear H
      obtain ⟨Ao33, co33, eo33⟩ := zax HO1193.out
      subst eo33
      obtain ⟨Ao34, co34, eo34⟩ := zax HO1178.out
      subst eo34
      go_wp2_with (first | (refine jgc 20 ?_; refine jgs 53 Try.func20 #[.slice Ao33 t1190.length co33, .slice Ao34 t1175.length co34] ?_; (with_reducible refine (laws_eqByteS.calls k _ _ t1190 _ _ t1175 true _ ?side1 ?side2 ?side3 ?side4 A30.out).mono ?_); (case side1 => repeat (first | exact (zad HO1193.out).2.2 | (with_reducible first | apply zba | apply zbb | apply zbf))); (case side2 => exact (zad HO1193.out).2.1); (case side3 => repeat (first | exact (zad HO1178.out).2.2 | (with_reducible first | apply zba | apply zbb | apply zbf))); (case side4 => exact (zad HO1178.out).2.1); rintro e w' ⟨rfl, ⟨nd, rfl⟩⟩; refine ⟨_, rfl, ?_⟩; obtain ⟨Ao35, co35, eo35⟩ := zax HO1195.out; subst eo35; obtain ⟨Ao36, co36, eo36⟩ := zax HO1180.out; subst eo36) | (go_at_call 20; (with_reducible refine (laws_eqByteS.calls k _ _ t1191 _ _ t1176 t1197 _ ?side1 ?side2 ?side3 ?side4 A32.out).mono ?_); (case side1 => repeat (first | exact (zad HO1195.out).2.2 | (with_reducible first | apply zba | apply zbb | apply zbf))); (case side2 => exact (zad HO1195.out).2.1); (case side3 => repeat (first | exact (zad HO1180.out).2.2 | (with_reducible first | apply zba | apply zbb | apply zbf))); (case side4 => exact (zad HO1180.out).2.1); rintro e w' ⟨rfl, ⟨nd, rfl⟩⟩))
      go_meet
      case rel => exact ⟨_, (!t1197), jer, H', ⟨by first | omega | exact zaw _⟩, ⟨by (with_reducible repeat (first | apply zau | apply zav | apply zaq)); exact zap HO1178.out (fun _ hk => ⟨hk.1.1.1.1.1.1.1.1, ⟨hk.1.1.1.1.2, ⟨hk.1.1.1.2, ⟨hk.1.1.2, ⟨hk.1.2, hk.2⟩⟩⟩⟩⟩)⟩, ⟨by (with_reducible repeat (first | apply zau | apply zav | apply zaq)); exact zap HO1180.out (fun _ hk => ⟨hk.1.1.1.1.1.1.1.1, ⟨hk.1.1.1.1.2, ⟨hk.1.1.1.2, ⟨hk.1.1.2, ⟨hk.1.2, hk.2⟩⟩⟩⟩⟩)⟩, ⟨by (with_reducible repeat (first | apply zau | apply zav | apply zaq)); exact zap HO1183.out (fun _ hk => ⟨hk.1.1.1.1.1.2, ⟨hk.1.1.1.1.2, ⟨hk.1.1.1.2, ⟨hk.1.1.2, ⟨hk.1.2, hk.2⟩⟩⟩⟩⟩)⟩, ⟨by (with_reducible repeat (first | apply zau | apply zav | apply zaq)); exact zap HO1186.out (fun _ hk => ⟨hk.1.1.1.1.1.2, ⟨hk.1.1.1.1.2, ⟨hk.1.1.1.2, ⟨hk.1.1.2, ⟨hk.1.2, hk.2⟩⟩⟩⟩⟩)⟩, ⟨by (with_reducible repeat (first | apply zau | apply zav | apply zaq)); exact zap HO1189.out (fun _ hk => ⟨hk.1.1.1.1.1.2, ⟨hk.1.1.1.1.2, ⟨hk.1.1.1.2, ⟨hk.1.1.2, ⟨hk.1.2, hk.2⟩⟩⟩⟩⟩)⟩, ⟨by (with_reducible repeat (first | apply zau | apply zav | apply zaq)); exact zap HO1193.out (fun _ hk => ⟨hk.1.1.1.1.2, ⟨hk.1.1.1.2, ⟨hk.1.1.2, ⟨hk.1.2, ⟨hk.2, hk.1.1.1.1.1.1.1.1⟩⟩⟩⟩⟩)⟩, ⟨by (with_reducible repeat (first | apply zau | apply zav | apply zaq)); exact zap HO1195.out (fun _ hk => ⟨hk.1.1.1.1.2, ⟨hk.1.1.1.2, ⟨hk.1.1.2, ⟨hk.1.2, ⟨hk.2, hk.1.1.1.1.1.1.1.1⟩⟩⟩⟩⟩)⟩, ⟨bq⟩⟩
     ·replace c31 := zbn.mpr c31
      subst c31
      rw [if_neg (show ¬ (false = true) by decide)] at H
      exact absurd H (by simp)
    case rest =>
     clear HC15
     try clear c1
     try clear c2
     try clear p2
     try clear c3
     try clear c4
     try clear c4b0
     try clear c4b1
     try clear c5
     try clear c5b0
     try clear c5b1
     try clear c6
     try clear c6b0
     try clear c6b1
     try clear c12
     try clear c17
     try clear c20
     try clear c31
     obtain ⟨kq, x60_14, rfl, HA, HJ14, HO_7, HO_8, HO_9, HO_10, HO_11, HO_12, HO_13, HB⟩ := hcut
     cases kq with
     | zero => exact absurd HA.out (by simp [laws_FnExactKeysOf.j0])
     | succ kj14 =>
      have H := HA.out
      clear HA
      simp only [laws_FnExactKeysOf.j0] at H
      by_cases c37 : x60_14 = true
      ·subst c37
       rw [if_pos rfl] at H
       exact absurd H (by simp)
      ·replace c37 := zbn.mpr c37
       subst c37
       rw [if_neg (show ¬ (false = true) by decide)] at H
       obtain ⟨t1198, A38, H⟩ := bnd H
       obtain ⟨t1201, A39, H⟩ := bnd H
       by_cases c40 : t1201 = true
       ·subst c40
        rw [if_pos rfl] at H
        obtain ⟨t1202, A41, H⟩ := bnd H
        obtain ⟨t1205, A42, H⟩ := bnd H
        by_cases c43 : t1205 = true
        ·subst c43
         rw [if_pos rfl] at H
         obtain ⟨t1206, A44, H⟩ := bnd H
         obtain ⟨t1209, A45, H⟩ := bnd H
         by_cases c46 : t1209 = true
         ·subst c46
          rw [if_pos rfl] at H
          obtain ⟨⟨t1210, t1211⟩, A47, H⟩ := bnd H
          try dsimp only at H
          obtain ⟨⟨t1212, t1213⟩, A48, H⟩ := bnd H
          try dsimp only at H
          obtain ⟨⟨t1214, t1215⟩, A49, H⟩ := bnd H
          try dsimp only at H
          have HC50 := Aside0.mk H
          clear H
          go_upto_region 24 with (first | (refine jgc 17 ?_; refine jgs 63 Try.func17 #[.slice A0 l0.length c0] ?_; (with_reducible refine (laws_toByteS.calls kj14 _ _ l0 t1198 _ ?side1 ?side2 A38.out).mono ?_); (case side1 => exact jcs HR0.out); (case side2 => exact HC0.out); rintro e w51 ⟨v1199, rfl, ho0, hb⟩; refine ⟨_, rfl, ?_⟩; have xb_ := below_ofs bq hb; have qHO_7 := Kd.R_ofs (pR HO_7.out) hb; have n0_ := Aside0.mk (zai qHO_7 (zag ho0) hb); have qHO_8 := Kd.R_ofs (pR HO_8.out) hb; have n1_ := Aside0.mk (zai qHO_8 (zag ho0) hb); have qHO_9 := Kd.R_ofs (pR HO_9.out) hb; have n2_ := Aside0.mk (zai qHO_9 (zag ho0) hb); have qHO_10 := Kd.R_ofs (pR HO_10.out) hb; have n3_ := Aside0.mk (zai qHO_10 (zag ho0) hb); have qHO_11 := Kd.R_ofs (pR HO_11.out) hb; have n4_ := Aside0.mk (zai qHO_11 (zag ho0) hb); have qHO_12 := Kd.R_ofs (pR HO_12.out) hb; have n5_ := Aside0.mk (zai qHO_12 (zag ho0) hb); have qHO_13 := Kd.R_ofs (pR HO_13.out) hb; have n6_ := Aside0.mk (zai qHO_13 (zag ho0) hb); have n7_ := Aside0.mk (zas (zal (zal (zal (zal (zal (zal (zal ho0 (zar qHO_7)) (zar qHO_8)) (zar qHO_9)) (zar qHO_10)) (zar qHO_11)) (zar qHO_12)) (zar qHO_13)) (zaf xb_)); have n8_ := Aside0.mk (zao xb_ hb); clear qHO_10 HO_7; clear qHO_11 HO_8; clear qHO_12 HO_9; clear qHO_13 HO_10; clear qHO_7 HO_11; clear qHO_8 HO_12; clear qHO_9 HO_13; clear HB; have HO_7 := n0_; have HO_8 := n1_; have HO_9 := n2_; have HO_10 := n3_; have HO_11 := n4_; have HO_12 := n5_; have HO_13 := n6_; have HO1200 := n7_; have HB := n8_; clear n0_ n1_ n2_ n3_ n4_ n5_ n6_ n7_ n8_; clear xb_ hb ho0; obtain ⟨Ao52, co52, eo52⟩ := zax HO1200.out; subst eo52) | (refine jgc 20 ?_; refine jgs 64 Try.func20 #[.slice Ao26 t1181.length co26, .slice Ao52 t1198.length co52] ?_; (with_reducible refine (laws_eqByteS.calls kj14 _ _ t1181 _ _ t1198 true _ ?side1 ?side2 ?side3 ?side4 A39.out).mono ?_); (case side1 => repeat (first | exact (zad HO_9.out).2.2 | (with_reducible first | apply zba | apply zbb | apply zbf))); (case side2 => exact (zad HO_9.out).2.1); (case side3 => repeat (first | exact (zad HO1200.out).2.2 | (with_reducible first | apply zba | apply zbb | apply zbf))); (case side4 => exact (zad HO1200.out).2.1); rintro e w' ⟨rfl, ⟨nd, rfl⟩⟩; refine ⟨_, rfl, ?_⟩) | (refine jgc 17 ?_; refine jgs 68 Try.func17 #[.slice A1 l1.length c1] ?_; (with_reducible refine (laws_toByteS.calls kj14 _ _ l1 t1202 _ ?side1 ?side2 A41.out).mono ?_); (case side1 => repeat (first | exact (Kd.C_below HR1.out bq) | (with_reducible first | apply zba | apply zbb | apply zbf))); (case side2 => exact HC1.out); rintro e w53 ⟨v1203, rfl, ho0, hb⟩; refine ⟨_, rfl, ?_⟩; have xb_ := below_ofs bq hb; have qHO_7 := Kd.R_ofs (pR HO_7.out) hb; have n0_ := Aside0.mk (zai qHO_7 (zag ho0) hb); have qHO_8 := Kd.R_ofs (pR HO_8.out) hb; have n1_ := Aside0.mk (zai qHO_8 (zag ho0) hb); have qHO_9 := Kd.R_ofs (pR HO_9.out) hb; have n2_ := Aside0.mk (zai qHO_9 (zag ho0) hb); have qHO_10 := Kd.R_ofs (pR HO_10.out) hb; have n3_ := Aside0.mk (zai qHO_10 (zag ho0) hb); have qHO_11 := Kd.R_ofs (pR HO_11.out) hb; have n4_ := Aside0.mk (zai qHO_11 (zag ho0) hb); have qHO_12 := Kd.R_ofs (pR HO_12.out) hb; have n5_ := Aside0.mk (zai qHO_12 (zag ho0) hb); have qHO_13 := Kd.R_ofs (pR HO_13.out) hb; have n6_ := Aside0.mk (zai qHO_13 (zag ho0) hb); have qHO1200 := Kd.R_ofs (pR HO1200.out) hb; have n7_ := Aside0.mk (zai qHO1200 (zag ho0) hb); have n8_ := Aside0.mk (zas (zal (zal (zal (zal (zal (zal (zal (zal ho0 (zar qHO_7)) (zar qHO_8)) (zar qHO_9)) (zar qHO_10)) (zar qHO_11)) (zar qHO_12)) (zar qHO_13)) (zar qHO1200)) (zaf xb_)); have n9_ := Aside0.mk (zao xb_ hb); clear qHO1200 HO_7; clear qHO_10 HO_8; clear qHO_11 HO_9; clear qHO_12 HO_10; clear qHO_13 HO_11; clear qHO_7 HO_12; clear qHO_8 HO_13; clear qHO_9 HO1200; clear HB; have HO_7 := n0_; have HO_8 := n1_; have HO_9 := n2_; have HO_10 := n3_; have HO_11 := n4_; have HO_12 := n5_; have HO_13 := n6_; have HO1200 := n7_; have HO1204 := n8_; have HB := n9_; clear n0_ n1_ n2_ n3_ n4_ n5_ n6_ n7_ n8_ n9_; clear xb_ hb ho0; obtain ⟨Ao54, co54, eo54⟩ := zax HO1204.out; subst eo54) | (refine jgc 20 ?_; refine jgs 69 Try.func20 #[.slice Ao27 t1184.length co27, .slice Ao54 t1202.length co54] ?_; (with_reducible refine (laws_eqByteS.calls kj14 _ _ t1184 _ _ t1202 true _ ?side1 ?side2 ?side3 ?side4 A42.out).mono ?_); (case side1 => repeat (first | exact (zad HO_10.out).2.2 | (with_reducible first | apply zba | apply zbb | apply zbf))); (case side2 => exact (zad HO_10.out).2.1); (case side3 => repeat (first | exact (zad HO1204.out).2.2 | (with_reducible first | apply zba | apply zbb | apply zbf))); (case side4 => exact (zad HO1204.out).2.1); rintro e w' ⟨rfl, ⟨nd, rfl⟩⟩; refine ⟨_, rfl, ?_⟩) | (refine jgc 17 ?_; refine jgs 73 Try.func17 #[.slice A2 l2.length c2] ?_; (with_reducible refine (laws_toByteS.calls kj14 _ _ l2 t1206 _ ?side1 ?side2 A44.out).mono ?_); (case side1 => repeat (first | exact (Kd.C_below HR2.out bq) | (with_reducible first | apply zba | apply zbb | apply zbf))); (case side2 => exact HC2.out); rintro e w55 ⟨v1207, rfl, ho0, hb⟩; refine ⟨_, rfl, ?_⟩; have xb_ := below_ofs bq hb; have qHO_7 := Kd.R_ofs (pR HO_7.out) hb; have n0_ := Aside0.mk (zai qHO_7 (zag ho0) hb); have qHO_8 := Kd.R_ofs (pR HO_8.out) hb; have n1_ := Aside0.mk (zai qHO_8 (zag ho0) hb); have qHO_9 := Kd.R_ofs (pR HO_9.out) hb; have n2_ := Aside0.mk (zai qHO_9 (zag ho0) hb); have qHO_10 := Kd.R_ofs (pR HO_10.out) hb; have n3_ := Aside0.mk (zai qHO_10 (zag ho0) hb); have qHO_11 := Kd.R_ofs (pR HO_11.out) hb; have n4_ := Aside0.mk (zai qHO_11 (zag ho0) hb); have qHO_12 := Kd.R_ofs (pR HO_12.out) hb; have n5_ := Aside0.mk (zai qHO_12 (zag ho0) hb); have qHO_13 := Kd.R_ofs (pR HO_13.out) hb; have n6_ := Aside0.mk (zai qHO_13 (zag ho0) hb); have qHO1200 := Kd.R_ofs (pR HO1200.out) hb; have n7_ := Aside0.mk (zai qHO1200 (zag ho0) hb); have qHO1204 := Kd.R_ofs (pR HO1204.out) hb; have n8_ := Aside0.mk (zai qHO1204 (zag ho0) hb); have n9_ := Aside0.mk (zas (zal (zal (zal (zal (zal (zal (zal (zal (zal ho0 (zar qHO_7)) (zar qHO_8)) (zar qHO_9)) (zar qHO_10)) (zar qHO_11)) (zar qHO_12)) (zar qHO_13)) (zar qHO1200)) (zar qHO1204)) (zaf xb_)); have n10_ := Aside0.mk (zao xb_ hb); clear qHO1200 HO_7; clear qHO1204 HO_8; clear qHO_10 HO_9; clear qHO_11 HO_10; clear qHO_12 HO_11; clear qHO_13 HO_12; clear qHO_7 HO_13; clear qHO_8 HO1200; clear qHO_9 HO1204; clear HB; have HO_7 := n0_; have HO_8 := n1_; have HO_9 := n2_; have HO_10 := n3_; have HO_11 := n4_; have HO_12 := n5_; have HO_13 := n6_; have HO1200 := n7_; have HO1204 := n8_; have HO1208 := n9_; have HB := n10_; clear n0_ n1_ n2_ n3_ n4_ n5_ n6_ n7_ n8_ n9_ n10_; clear xb_ hb ho0; obtain ⟨Ao56, co56, eo56⟩ := zax HO1208.out; subst eo56) | (refine jgc 20 ?_; refine jgs 74 Try.func20 #[.slice Ao28 t1187.length co28, .slice Ao56 t1206.length co56] ?_; (with_reducible refine (laws_eqByteS.calls kj14 _ _ t1187 _ _ t1206 true _ ?side1 ?side2 ?side3 ?side4 A45.out).mono ?_); (case side1 => repeat (first | exact (zad HO_11.out).2.2 | (with_reducible first | apply zba | apply zbb | apply zbf))); (case side2 => exact (zad HO_11.out).2.1); (case side3 => repeat (first | exact (zad HO1208.out).2.2 | (with_reducible first | apply zba | apply zbb | apply zbf))); (case side4 => exact (zad HO1208.out).2.1); rintro e w' ⟨rfl, ⟨nd, rfl⟩⟩; refine ⟨_, rfl, ?_⟩) | (refine jgc 22 ?_; refine jgs 78 Try.func22 #[.slice Ao26 t1181.length co26, .int .i64 1] ?_; (with_reducible refine (laws_markByteS.calls kj14 (fun k_ => some k_ = (.slice Ao26 t1181.length co26 : Value).ownBlock) (.slice Ao26 t1181.length co26) t1181 1 t1210 t1211 w _ ?side1 ?side2 A47.out).mono ?_); (case side1 => repeat (first | (with_reducible first | exact HB.out | apply below_alloc | apply zdp | apply zcy) | exact HB.out)); (case side2 => exact Kd.R_tight rfl HO_9.out); rintro e w57 ⟨rfl, hy0, hb, hkp⟩; refine ⟨_, rfl, ?_⟩; have n_ := jA11 (zap (ok' := fun k_ => some k_ ≠ (v1179 : Value).ownBlock ∧ some k_ ≠ (.slice Ao26 t1181.length co26 : Value).ownBlock ∧ some k_ ≠ (.slice Ao27 t1184.length co27 : Value).ownBlock ∧ some k_ ≠ (.slice Ao28 t1187.length co28 : Value).ownBlock ∧ some k_ ≠ (v1192 : Value).ownBlock ∧ some k_ ≠ (v1194 : Value).ownBlock ∧ some k_ ≠ (.slice Ao52 t1198.length co52 : Value).ownBlock ∧ some k_ ≠ (.slice Ao54 t1202.length co54 : Value).ownBlock ∧ some k_ ≠ (.slice Ao56 t1206.length co56 : Value).ownBlock) (zcg (HO_7.out) hkp (fun k_ hk_ hs_ => (hk_.1.1.1.2.1) hs_)) (fun k_ hk_ => ⟨hk_.1.1.1.1.1, hk_.1.1.1.1.2.1, hk_.1.1.1.1.2.2.1, hk_.1.1.1.1.2.2.2.1, hk_.1.1.1.1.2.2.2.2.1, hk_.1.1.1.1.2.2.2.2.2, hk_.1.1.1.2, hk_.1.1.2, hk_.1.2⟩)) (zap (ok' := fun k_ => some k_ ≠ (v1177 : Value).ownBlock ∧ some k_ ≠ (.slice Ao26 t1181.length co26 : Value).ownBlock ∧ some k_ ≠ (.slice Ao27 t1184.length co27 : Value).ownBlock ∧ some k_ ≠ (.slice Ao28 t1187.length co28 : Value).ownBlock ∧ some k_ ≠ (v1192 : Value).ownBlock ∧ some k_ ≠ (v1194 : Value).ownBlock ∧ some k_ ≠ (.slice Ao52 t1198.length co52 : Value).ownBlock ∧ some k_ ≠ (.slice Ao54 t1202.length co54 : Value).ownBlock ∧ some k_ ≠ (.slice Ao56 t1206.length co56 : Value).ownBlock) (zcg (HO_8.out) hkp (fun k_ hk_ hs_ => (hk_.1.1.1.2.1) hs_)) (fun k_ hk_ => ⟨hk_.1.1.1.1.1, hk_.1.1.1.1.2.1, hk_.1.1.1.1.2.2.1, hk_.1.1.1.1.2.2.2.1, hk_.1.1.1.1.2.2.2.2.1, hk_.1.1.1.1.2.2.2.2.2, hk_.1.1.1.2, hk_.1.1.2, hk_.1.2⟩)) (Kd.R_reok rfl hy0 (fun k_ e_ => HO_9.out.1 k_ e_)) (zap (ok' := fun k_ => some k_ ≠ (v1177 : Value).ownBlock ∧ some k_ ≠ (v1179 : Value).ownBlock ∧ some k_ ≠ (.slice Ao26 t1181.length co26 : Value).ownBlock ∧ some k_ ≠ (.slice Ao28 t1187.length co28 : Value).ownBlock ∧ some k_ ≠ (v1192 : Value).ownBlock ∧ some k_ ≠ (v1194 : Value).ownBlock ∧ some k_ ≠ (.slice Ao52 t1198.length co52 : Value).ownBlock ∧ some k_ ≠ (.slice Ao54 t1202.length co54 : Value).ownBlock ∧ some k_ ≠ (.slice Ao56 t1206.length co56 : Value).ownBlock) (zcg (HO_10.out) hkp (fun k_ hk_ hs_ => (hk_.1.1.1.2.2.1) hs_)) (fun k_ hk_ => ⟨hk_.1.1.1.1.1, hk_.1.1.1.1.2.1, hk_.1.1.1.1.2.2.1, hk_.1.1.1.1.2.2.2.1, hk_.1.1.1.1.2.2.2.2.1, hk_.1.1.1.1.2.2.2.2.2, hk_.1.1.1.2, hk_.1.1.2, hk_.1.2⟩)) (zap (ok' := fun k_ => some k_ ≠ (v1177 : Value).ownBlock ∧ some k_ ≠ (v1179 : Value).ownBlock ∧ some k_ ≠ (.slice Ao26 t1181.length co26 : Value).ownBlock ∧ some k_ ≠ (.slice Ao27 t1184.length co27 : Value).ownBlock ∧ some k_ ≠ (v1192 : Value).ownBlock ∧ some k_ ≠ (v1194 : Value).ownBlock ∧ some k_ ≠ (.slice Ao52 t1198.length co52 : Value).ownBlock ∧ some k_ ≠ (.slice Ao54 t1202.length co54 : Value).ownBlock ∧ some k_ ≠ (.slice Ao56 t1206.length co56 : Value).ownBlock) (zcg (HO_11.out) hkp (fun k_ hk_ hs_ => (hk_.1.1.1.2.2.1) hs_)) (fun k_ hk_ => ⟨hk_.1.1.1.1.1, hk_.1.1.1.1.2.1, hk_.1.1.1.1.2.2.1, hk_.1.1.1.1.2.2.2.1, hk_.1.1.1.1.2.2.2.2.1, hk_.1.1.1.1.2.2.2.2.2, hk_.1.1.1.2, hk_.1.1.2, hk_.1.2⟩)) (zap (ok' := fun k_ => some k_ ≠ (v1177 : Value).ownBlock ∧ some k_ ≠ (v1179 : Value).ownBlock ∧ some k_ ≠ (.slice Ao26 t1181.length co26 : Value).ownBlock ∧ some k_ ≠ (.slice Ao27 t1184.length co27 : Value).ownBlock ∧ some k_ ≠ (.slice Ao28 t1187.length co28 : Value).ownBlock ∧ some k_ ≠ (v1194 : Value).ownBlock ∧ some k_ ≠ (.slice Ao52 t1198.length co52 : Value).ownBlock ∧ some k_ ≠ (.slice Ao54 t1202.length co54 : Value).ownBlock ∧ some k_ ≠ (.slice Ao56 t1206.length co56 : Value).ownBlock) (zcg (HO_12.out) hkp (fun k_ hk_ hs_ => (hk_.1.1.1.2.2.1) hs_)) (fun k_ hk_ => ⟨hk_.1.1.1.1.1, hk_.1.1.1.1.2.1, hk_.1.1.1.1.2.2.1, hk_.1.1.1.1.2.2.2.1, hk_.1.1.1.1.2.2.2.2.1, hk_.1.1.1.1.2.2.2.2.2, hk_.1.1.1.2, hk_.1.1.2, hk_.1.2⟩)) (zap (ok' := fun k_ => some k_ ≠ (v1177 : Value).ownBlock ∧ some k_ ≠ (v1179 : Value).ownBlock ∧ some k_ ≠ (.slice Ao26 t1181.length co26 : Value).ownBlock ∧ some k_ ≠ (.slice Ao27 t1184.length co27 : Value).ownBlock ∧ some k_ ≠ (.slice Ao28 t1187.length co28 : Value).ownBlock ∧ some k_ ≠ (v1192 : Value).ownBlock ∧ some k_ ≠ (.slice Ao52 t1198.length co52 : Value).ownBlock ∧ some k_ ≠ (.slice Ao54 t1202.length co54 : Value).ownBlock ∧ some k_ ≠ (.slice Ao56 t1206.length co56 : Value).ownBlock) (zcg (HO_13.out) hkp (fun k_ hk_ hs_ => (hk_.1.1.1.2.2.1) hs_)) (fun k_ hk_ => ⟨hk_.1.1.1.1.1, hk_.1.1.1.1.2.1, hk_.1.1.1.1.2.2.1, hk_.1.1.1.1.2.2.2.1, hk_.1.1.1.1.2.2.2.2.1, hk_.1.1.1.1.2.2.2.2.2, hk_.1.1.1.2, hk_.1.1.2, hk_.1.2⟩)) (zap (ok' := fun k_ => some k_ ≠ (v1177 : Value).ownBlock ∧ some k_ ≠ (v1179 : Value).ownBlock ∧ some k_ ≠ (.slice Ao26 t1181.length co26 : Value).ownBlock ∧ some k_ ≠ (.slice Ao27 t1184.length co27 : Value).ownBlock ∧ some k_ ≠ (.slice Ao28 t1187.length co28 : Value).ownBlock ∧ some k_ ≠ (v1192 : Value).ownBlock ∧ some k_ ≠ (v1194 : Value).ownBlock ∧ some k_ ≠ (.slice Ao54 t1202.length co54 : Value).ownBlock ∧ some k_ ≠ (.slice Ao56 t1206.length co56 : Value).ownBlock) (zcg (HO1200.out) hkp (fun k_ hk_ hs_ => (hk_.1.1.1.1.1.1.2) hs_)) (fun k_ hk_ => ⟨hk_.1.1.1.1.1.1.1.1.1.2, hk_.1.1.1.1.1.1.1.1.2, hk_.1.1.1.1.1.1.1.2, hk_.1.1.1.1.1.1.2, hk_.1.1.1.1.1.2, hk_.1.1.1.1.2, hk_.1.1.1.2, hk_.1.1.2, hk_.1.2⟩)) (zap (ok' := fun k_ => some k_ ≠ (v1177 : Value).ownBlock ∧ some k_ ≠ (v1179 : Value).ownBlock ∧ some k_ ≠ (.slice Ao26 t1181.length co26 : Value).ownBlock ∧ some k_ ≠ (.slice Ao27 t1184.length co27 : Value).ownBlock ∧ some k_ ≠ (.slice Ao28 t1187.length co28 : Value).ownBlock ∧ some k_ ≠ (v1192 : Value).ownBlock ∧ some k_ ≠ (v1194 : Value).ownBlock ∧ some k_ ≠ (.slice Ao52 t1198.length co52 : Value).ownBlock ∧ some k_ ≠ (.slice Ao56 t1206.length co56 : Value).ownBlock) (zcg (HO1204.out) hkp (fun k_ hk_ hs_ => (hk_.1.1.1.1.1.1.2) hs_)) (fun k_ hk_ => ⟨hk_.1.1.1.1.1.1.1.1.1.2, hk_.1.1.1.1.1.1.1.1.2, hk_.1.1.1.1.1.1.1.2, hk_.1.1.1.1.1.1.2, hk_.1.1.1.1.1.2, hk_.1.1.1.1.2, hk_.1.1.1.2, hk_.1.1.2, hk_.1.2⟩)) (zap (ok' := fun k_ => some k_ ≠ (v1177 : Value).ownBlock ∧ some k_ ≠ (v1179 : Value).ownBlock ∧ some k_ ≠ (.slice Ao26 t1181.length co26 : Value).ownBlock ∧ some k_ ≠ (.slice Ao27 t1184.length co27 : Value).ownBlock ∧ some k_ ≠ (.slice Ao28 t1187.length co28 : Value).ownBlock ∧ some k_ ≠ (v1192 : Value).ownBlock ∧ some k_ ≠ (v1194 : Value).ownBlock ∧ some k_ ≠ (.slice Ao52 t1198.length co52 : Value).ownBlock ∧ some k_ ≠ (.slice Ao54 t1202.length co54 : Value).ownBlock) (zcg (HO1208.out) hkp (fun k_ hk_ hs_ => (hk_.1.1.1.1.1.1.2) hs_)) (fun k_ hk_ => ⟨hk_.1.1.1.1.1.1.1.1.1.2, hk_.1.1.1.1.1.1.1.1.2, hk_.1.1.1.1.1.1.1.2, hk_.1.1.1.1.1.1.2, hk_.1.1.1.1.1.2, hk_.1.1.1.1.2, hk_.1.1.1.2, hk_.1.1.2, hk_.1.2⟩)) (hb); clear HO_7 HO_8 HO_9 HO_10 HO_11 HO_12 HO_13 HO1200 HO1204 HO1208 HB; obtain ⟨HO_7, HO_8, HO_9, HO_10, HO_11, HO_12, HO_13, HO1200, HO1204, HO1208, HB⟩ := n_; (try clear hb); (try clear hkp); (try clear hy0)) | (refine jgc 22 ?_; refine jgs 81 Try.func22 #[.slice Ao27 t1184.length co27, .int .i64 t1210] ?_; (with_reducible refine (laws_markByteS.calls kj14 (fun k_ => some k_ = (.slice Ao27 t1184.length co27 : Value).ownBlock) (.slice Ao27 t1184.length co27) t1184 t1210 t1212 t1213 w _ ?side1 ?side2 A48.out).mono ?_); (case side1 => repeat (first | (with_reducible first | exact HB.out | apply below_alloc | apply zdp | apply zcy) | exact HB.out)); (case side2 => exact Kd.R_tight rfl HO_10.out); rintro e w58 ⟨rfl, hy0, hb, hkp⟩; refine ⟨_, rfl, ?_⟩; have n_ := jA11 (zap (ok' := fun k_ => some k_ ≠ (v1179 : Value).ownBlock ∧ some k_ ≠ (.slice Ao26 t1181.length co26 : Value).ownBlock ∧ some k_ ≠ (.slice Ao27 t1184.length co27 : Value).ownBlock ∧ some k_ ≠ (.slice Ao28 t1187.length co28 : Value).ownBlock ∧ some k_ ≠ (v1192 : Value).ownBlock ∧ some k_ ≠ (v1194 : Value).ownBlock ∧ some k_ ≠ (.slice Ao52 t1198.length co52 : Value).ownBlock ∧ some k_ ≠ (.slice Ao54 t1202.length co54 : Value).ownBlock ∧ some k_ ≠ (.slice Ao56 t1206.length co56 : Value).ownBlock) (zcg (HO_7.out) hkp (fun k_ hk_ hs_ => (hk_.2.2.1) hs_)) (fun k_ hk_ => ⟨hk_.1.1, hk_.1.2.1, hk_.1.2.2.1, hk_.1.2.2.2.1, hk_.1.2.2.2.2.1, hk_.1.2.2.2.2.2.1, hk_.1.2.2.2.2.2.2.1, hk_.1.2.2.2.2.2.2.2.1, hk_.1.2.2.2.2.2.2.2.2⟩)) (zap (ok' := fun k_ => some k_ ≠ (v1177 : Value).ownBlock ∧ some k_ ≠ (.slice Ao26 t1181.length co26 : Value).ownBlock ∧ some k_ ≠ (.slice Ao27 t1184.length co27 : Value).ownBlock ∧ some k_ ≠ (.slice Ao28 t1187.length co28 : Value).ownBlock ∧ some k_ ≠ (v1192 : Value).ownBlock ∧ some k_ ≠ (v1194 : Value).ownBlock ∧ some k_ ≠ (.slice Ao52 t1198.length co52 : Value).ownBlock ∧ some k_ ≠ (.slice Ao54 t1202.length co54 : Value).ownBlock ∧ some k_ ≠ (.slice Ao56 t1206.length co56 : Value).ownBlock) (zcg (HO_8.out) hkp (fun k_ hk_ hs_ => (hk_.2.2.1) hs_)) (fun k_ hk_ => ⟨hk_.1.1, hk_.1.2.1, hk_.1.2.2.1, hk_.1.2.2.2.1, hk_.1.2.2.2.2.1, hk_.1.2.2.2.2.2.1, hk_.1.2.2.2.2.2.2.1, hk_.1.2.2.2.2.2.2.2.1, hk_.1.2.2.2.2.2.2.2.2⟩)) (zap (ok' := fun k_ => some k_ ≠ (v1177 : Value).ownBlock ∧ some k_ ≠ (v1179 : Value).ownBlock ∧ some k_ ≠ (.slice Ao27 t1184.length co27 : Value).ownBlock ∧ some k_ ≠ (.slice Ao28 t1187.length co28 : Value).ownBlock ∧ some k_ ≠ (v1192 : Value).ownBlock ∧ some k_ ≠ (v1194 : Value).ownBlock ∧ some k_ ≠ (.slice Ao52 t1198.length co52 : Value).ownBlock ∧ some k_ ≠ (.slice Ao54 t1202.length co54 : Value).ownBlock ∧ some k_ ≠ (.slice Ao56 t1206.length co56 : Value).ownBlock) (zcg (HO_9.out) hkp (fun k_ hk_ hs_ => (hk_.1.1.1.2.2.1) hs_)) (fun k_ hk_ => ⟨hk_.1.1.1.1.1, hk_.1.1.1.1.2.1, hk_.1.1.1.1.2.2.1, hk_.1.1.1.1.2.2.2.1, hk_.1.1.1.1.2.2.2.2.1, hk_.1.1.1.1.2.2.2.2.2, hk_.1.1.1.2, hk_.1.1.2, hk_.1.2⟩)) (Kd.R_reok rfl hy0 (fun k_ e_ => HO_10.out.1 k_ e_)) (zap (ok' := fun k_ => some k_ ≠ (v1177 : Value).ownBlock ∧ some k_ ≠ (v1179 : Value).ownBlock ∧ some k_ ≠ (.slice Ao26 t1181.length co26 : Value).ownBlock ∧ some k_ ≠ (.slice Ao27 t1184.length co27 : Value).ownBlock ∧ some k_ ≠ (v1192 : Value).ownBlock ∧ some k_ ≠ (v1194 : Value).ownBlock ∧ some k_ ≠ (.slice Ao52 t1198.length co52 : Value).ownBlock ∧ some k_ ≠ (.slice Ao54 t1202.length co54 : Value).ownBlock ∧ some k_ ≠ (.slice Ao56 t1206.length co56 : Value).ownBlock) (zcg (HO_11.out) hkp (fun k_ hk_ hs_ => (hk_.2.2.2.1) hs_)) (fun k_ hk_ => ⟨hk_.1.1, hk_.1.2.1, hk_.1.2.2.1, hk_.1.2.2.2.1, hk_.1.2.2.2.2.1, hk_.1.2.2.2.2.2.1, hk_.1.2.2.2.2.2.2.1, hk_.1.2.2.2.2.2.2.2.1, hk_.1.2.2.2.2.2.2.2.2⟩)) (zap (ok' := fun k_ => some k_ ≠ (v1177 : Value).ownBlock ∧ some k_ ≠ (v1179 : Value).ownBlock ∧ some k_ ≠ (.slice Ao26 t1181.length co26 : Value).ownBlock ∧ some k_ ≠ (.slice Ao27 t1184.length co27 : Value).ownBlock ∧ some k_ ≠ (.slice Ao28 t1187.length co28 : Value).ownBlock ∧ some k_ ≠ (v1194 : Value).ownBlock ∧ some k_ ≠ (.slice Ao52 t1198.length co52 : Value).ownBlock ∧ some k_ ≠ (.slice Ao54 t1202.length co54 : Value).ownBlock ∧ some k_ ≠ (.slice Ao56 t1206.length co56 : Value).ownBlock) (zcg (HO_12.out) hkp (fun k_ hk_ hs_ => (hk_.2.2.2.1) hs_)) (fun k_ hk_ => ⟨hk_.1.1, hk_.1.2.1, hk_.1.2.2.1, hk_.1.2.2.2.1, hk_.1.2.2.2.2.1, hk_.1.2.2.2.2.2.1, hk_.1.2.2.2.2.2.2.1, hk_.1.2.2.2.2.2.2.2.1, hk_.1.2.2.2.2.2.2.2.2⟩)) (zap (ok' := fun k_ => some k_ ≠ (v1177 : Value).ownBlock ∧ some k_ ≠ (v1179 : Value).ownBlock ∧ some k_ ≠ (.slice Ao26 t1181.length co26 : Value).ownBlock ∧ some k_ ≠ (.slice Ao27 t1184.length co27 : Value).ownBlock ∧ some k_ ≠ (.slice Ao28 t1187.length co28 : Value).ownBlock ∧ some k_ ≠ (v1192 : Value).ownBlock ∧ some k_ ≠ (.slice Ao52 t1198.length co52 : Value).ownBlock ∧ some k_ ≠ (.slice Ao54 t1202.length co54 : Value).ownBlock ∧ some k_ ≠ (.slice Ao56 t1206.length co56 : Value).ownBlock) (zcg (HO_13.out) hkp (fun k_ hk_ hs_ => (hk_.2.2.2.1) hs_)) (fun k_ hk_ => ⟨hk_.1.1, hk_.1.2.1, hk_.1.2.2.1, hk_.1.2.2.2.1, hk_.1.2.2.2.2.1, hk_.1.2.2.2.2.2.1, hk_.1.2.2.2.2.2.2.1, hk_.1.2.2.2.2.2.2.2.1, hk_.1.2.2.2.2.2.2.2.2⟩)) (zap (ok' := fun k_ => some k_ ≠ (v1177 : Value).ownBlock ∧ some k_ ≠ (v1179 : Value).ownBlock ∧ some k_ ≠ (.slice Ao26 t1181.length co26 : Value).ownBlock ∧ some k_ ≠ (.slice Ao27 t1184.length co27 : Value).ownBlock ∧ some k_ ≠ (.slice Ao28 t1187.length co28 : Value).ownBlock ∧ some k_ ≠ (v1192 : Value).ownBlock ∧ some k_ ≠ (v1194 : Value).ownBlock ∧ some k_ ≠ (.slice Ao54 t1202.length co54 : Value).ownBlock ∧ some k_ ≠ (.slice Ao56 t1206.length co56 : Value).ownBlock) (zcg (HO1200.out) hkp (fun k_ hk_ hs_ => (hk_.2.2.2.1) hs_)) (fun k_ hk_ => ⟨hk_.1.1, hk_.1.2.1, hk_.1.2.2.1, hk_.1.2.2.2.1, hk_.1.2.2.2.2.1, hk_.1.2.2.2.2.2.1, hk_.1.2.2.2.2.2.2.1, hk_.1.2.2.2.2.2.2.2.1, hk_.1.2.2.2.2.2.2.2.2⟩)) (zap (ok' := fun k_ => some k_ ≠ (v1177 : Value).ownBlock ∧ some k_ ≠ (v1179 : Value).ownBlock ∧ some k_ ≠ (.slice Ao26 t1181.length co26 : Value).ownBlock ∧ some k_ ≠ (.slice Ao27 t1184.length co27 : Value).ownBlock ∧ some k_ ≠ (.slice Ao28 t1187.length co28 : Value).ownBlock ∧ some k_ ≠ (v1192 : Value).ownBlock ∧ some k_ ≠ (v1194 : Value).ownBlock ∧ some k_ ≠ (.slice Ao52 t1198.length co52 : Value).ownBlock ∧ some k_ ≠ (.slice Ao56 t1206.length co56 : Value).ownBlock) (zcg (HO1204.out) hkp (fun k_ hk_ hs_ => (hk_.2.2.2.1) hs_)) (fun k_ hk_ => ⟨hk_.1.1, hk_.1.2.1, hk_.1.2.2.1, hk_.1.2.2.2.1, hk_.1.2.2.2.2.1, hk_.1.2.2.2.2.2.1, hk_.1.2.2.2.2.2.2.1, hk_.1.2.2.2.2.2.2.2.1, hk_.1.2.2.2.2.2.2.2.2⟩)) (zap (ok' := fun k_ => some k_ ≠ (v1177 : Value).ownBlock ∧ some k_ ≠ (v1179 : Value).ownBlock ∧ some k_ ≠ (.slice Ao26 t1181.length co26 : Value).ownBlock ∧ some k_ ≠ (.slice Ao27 t1184.length co27 : Value).ownBlock ∧ some k_ ≠ (.slice Ao28 t1187.length co28 : Value).ownBlock ∧ some k_ ≠ (v1192 : Value).ownBlock ∧ some k_ ≠ (v1194 : Value).ownBlock ∧ some k_ ≠ (.slice Ao52 t1198.length co52 : Value).ownBlock ∧ some k_ ≠ (.slice Ao54 t1202.length co54 : Value).ownBlock) (zcg (HO1208.out) hkp (fun k_ hk_ hs_ => (hk_.2.2.2.1) hs_)) (fun k_ hk_ => ⟨hk_.1.1, hk_.1.2.1, hk_.1.2.2.1, hk_.1.2.2.2.1, hk_.1.2.2.2.2.1, hk_.1.2.2.2.2.2.1, hk_.1.2.2.2.2.2.2.1, hk_.1.2.2.2.2.2.2.2.1, hk_.1.2.2.2.2.2.2.2.2⟩)) (hb); clear HO_7 HO_8 HO_9 HO_10 HO_11 HO_12 HO_13 HO1200 HO1204 HO1208 HB; obtain ⟨HO_7, HO_8, HO_9, HO_10, HO_11, HO_12, HO_13, HO1200, HO1204, HO1208, HB⟩ := n_; (try clear hb); (try clear hkp); (try clear hy0)) | (refine jgc 22 ?_; refine jgs 84 Try.func22 #[.slice Ao28 t1187.length co28, .int .i64 t1212] ?_; (with_reducible refine (laws_markByteS.calls kj14 (fun k_ => some k_ = (.slice Ao28 t1187.length co28 : Value).ownBlock) (.slice Ao28 t1187.length co28) t1187 t1212 t1214 t1215 w _ ?side1 ?side2 A49.out).mono ?_); (case side1 => repeat (first | (with_reducible first | exact HB.out | apply below_alloc | apply zdp | apply zcy) | exact HB.out)); (case side2 => exact Kd.R_tight rfl HO_11.out); rintro e w59 ⟨rfl, hy0, hb, hkp⟩; refine ⟨_, rfl, ?_⟩; have n_ := jA11 (zap (ok' := fun k_ => some k_ ≠ (v1179 : Value).ownBlock ∧ some k_ ≠ (.slice Ao26 t1181.length co26 : Value).ownBlock ∧ some k_ ≠ (.slice Ao27 t1184.length co27 : Value).ownBlock ∧ some k_ ≠ (.slice Ao28 t1187.length co28 : Value).ownBlock ∧ some k_ ≠ (v1192 : Value).ownBlock ∧ some k_ ≠ (v1194 : Value).ownBlock ∧ some k_ ≠ (.slice Ao52 t1198.length co52 : Value).ownBlock ∧ some k_ ≠ (.slice Ao54 t1202.length co54 : Value).ownBlock ∧ some k_ ≠ (.slice Ao56 t1206.length co56 : Value).ownBlock) (zcg (HO_7.out) hkp (fun k_ hk_ hs_ => (hk_.2.2.2.1) hs_)) (fun k_ hk_ => ⟨hk_.1.1, hk_.1.2.1, hk_.1.2.2.1, hk_.1.2.2.2.1, hk_.1.2.2.2.2.1, hk_.1.2.2.2.2.2.1, hk_.1.2.2.2.2.2.2.1, hk_.1.2.2.2.2.2.2.2.1, hk_.1.2.2.2.2.2.2.2.2⟩)) (zap (ok' := fun k_ => some k_ ≠ (v1177 : Value).ownBlock ∧ some k_ ≠ (.slice Ao26 t1181.length co26 : Value).ownBlock ∧ some k_ ≠ (.slice Ao27 t1184.length co27 : Value).ownBlock ∧ some k_ ≠ (.slice Ao28 t1187.length co28 : Value).ownBlock ∧ some k_ ≠ (v1192 : Value).ownBlock ∧ some k_ ≠ (v1194 : Value).ownBlock ∧ some k_ ≠ (.slice Ao52 t1198.length co52 : Value).ownBlock ∧ some k_ ≠ (.slice Ao54 t1202.length co54 : Value).ownBlock ∧ some k_ ≠ (.slice Ao56 t1206.length co56 : Value).ownBlock) (zcg (HO_8.out) hkp (fun k_ hk_ hs_ => (hk_.2.2.2.1) hs_)) (fun k_ hk_ => ⟨hk_.1.1, hk_.1.2.1, hk_.1.2.2.1, hk_.1.2.2.2.1, hk_.1.2.2.2.2.1, hk_.1.2.2.2.2.2.1, hk_.1.2.2.2.2.2.2.1, hk_.1.2.2.2.2.2.2.2.1, hk_.1.2.2.2.2.2.2.2.2⟩)) (zap (ok' := fun k_ => some k_ ≠ (v1177 : Value).ownBlock ∧ some k_ ≠ (v1179 : Value).ownBlock ∧ some k_ ≠ (.slice Ao27 t1184.length co27 : Value).ownBlock ∧ some k_ ≠ (.slice Ao28 t1187.length co28 : Value).ownBlock ∧ some k_ ≠ (v1192 : Value).ownBlock ∧ some k_ ≠ (v1194 : Value).ownBlock ∧ some k_ ≠ (.slice Ao52 t1198.length co52 : Value).ownBlock ∧ some k_ ≠ (.slice Ao54 t1202.length co54 : Value).ownBlock ∧ some k_ ≠ (.slice Ao56 t1206.length co56 : Value).ownBlock) (zcg (HO_9.out) hkp (fun k_ hk_ hs_ => (hk_.2.2.2.1) hs_)) (fun k_ hk_ => ⟨hk_.1.1, hk_.1.2.1, hk_.1.2.2.1, hk_.1.2.2.2.1, hk_.1.2.2.2.2.1, hk_.1.2.2.2.2.2.1, hk_.1.2.2.2.2.2.2.1, hk_.1.2.2.2.2.2.2.2.1, hk_.1.2.2.2.2.2.2.2.2⟩)) (zap (ok' := fun k_ => some k_ ≠ (v1177 : Value).ownBlock ∧ some k_ ≠ (v1179 : Value).ownBlock ∧ some k_ ≠ (.slice Ao26 t1181.length co26 : Value).ownBlock ∧ some k_ ≠ (.slice Ao28 t1187.length co28 : Value).ownBlock ∧ some k_ ≠ (v1192 : Value).ownBlock ∧ some k_ ≠ (v1194 : Value).ownBlock ∧ some k_ ≠ (.slice Ao52 t1198.length co52 : Value).ownBlock ∧ some k_ ≠ (.slice Ao54 t1202.length co54 : Value).ownBlock ∧ some k_ ≠ (.slice Ao56 t1206.length co56 : Value).ownBlock) (zcg (HO_10.out) hkp (fun k_ hk_ hs_ => (hk_.2.2.2.1) hs_)) (fun k_ hk_ => ⟨hk_.1.1, hk_.1.2.1, hk_.1.2.2.1, hk_.1.2.2.2.1, hk_.1.2.2.2.2.1, hk_.1.2.2.2.2.2.1, hk_.1.2.2.2.2.2.2.1, hk_.1.2.2.2.2.2.2.2.1, hk_.1.2.2.2.2.2.2.2.2⟩)) (Kd.R_reok rfl hy0 (fun k_ e_ => HO_11.out.1 k_ e_)) (zap (ok' := fun k_ => some k_ ≠ (v1177 : Value).ownBlock ∧ some k_ ≠ (v1179 : Value).ownBlock ∧ some k_ ≠ (.slice Ao26 t1181.length co26 : Value).ownBlock ∧ some k_ ≠ (.slice Ao27 t1184.length co27 : Value).ownBlock ∧ some k_ ≠ (.slice Ao28 t1187.length co28 : Value).ownBlock ∧ some k_ ≠ (v1194 : Value).ownBlock ∧ some k_ ≠ (.slice Ao52 t1198.length co52 : Value).ownBlock ∧ some k_ ≠ (.slice Ao54 t1202.length co54 : Value).ownBlock ∧ some k_ ≠ (.slice Ao56 t1206.length co56 : Value).ownBlock) (zcg (HO_12.out) hkp (fun k_ hk_ hs_ => (hk_.2.2.2.2.1) hs_)) (fun k_ hk_ => ⟨hk_.1.1, hk_.1.2.1, hk_.1.2.2.1, hk_.1.2.2.2.1, hk_.1.2.2.2.2.1, hk_.1.2.2.2.2.2.1, hk_.1.2.2.2.2.2.2.1, hk_.1.2.2.2.2.2.2.2.1, hk_.1.2.2.2.2.2.2.2.2⟩)) (zap (ok' := fun k_ => some k_ ≠ (v1177 : Value).ownBlock ∧ some k_ ≠ (v1179 : Value).ownBlock ∧ some k_ ≠ (.slice Ao26 t1181.length co26 : Value).ownBlock ∧ some k_ ≠ (.slice Ao27 t1184.length co27 : Value).ownBlock ∧ some k_ ≠ (.slice Ao28 t1187.length co28 : Value).ownBlock ∧ some k_ ≠ (v1192 : Value).ownBlock ∧ some k_ ≠ (.slice Ao52 t1198.length co52 : Value).ownBlock ∧ some k_ ≠ (.slice Ao54 t1202.length co54 : Value).ownBlock ∧ some k_ ≠ (.slice Ao56 t1206.length co56 : Value).ownBlock) (zcg (HO_13.out) hkp (fun k_ hk_ hs_ => (hk_.2.2.2.2.1) hs_)) (fun k_ hk_ => ⟨hk_.1.1, hk_.1.2.1, hk_.1.2.2.1, hk_.1.2.2.2.1, hk_.1.2.2.2.2.1, hk_.1.2.2.2.2.2.1, hk_.1.2.2.2.2.2.2.1, hk_.1.2.2.2.2.2.2.2.1, hk_.1.2.2.2.2.2.2.2.2⟩)) (zap (ok' := fun k_ => some k_ ≠ (v1177 : Value).ownBlock ∧ some k_ ≠ (v1179 : Value).ownBlock ∧ some k_ ≠ (.slice Ao26 t1181.length co26 : Value).ownBlock ∧ some k_ ≠ (.slice Ao27 t1184.length co27 : Value).ownBlock ∧ some k_ ≠ (.slice Ao28 t1187.length co28 : Value).ownBlock ∧ some k_ ≠ (v1192 : Value).ownBlock ∧ some k_ ≠ (v1194 : Value).ownBlock ∧ some k_ ≠ (.slice Ao54 t1202.length co54 : Value).ownBlock ∧ some k_ ≠ (.slice Ao56 t1206.length co56 : Value).ownBlock) (zcg (HO1200.out) hkp (fun k_ hk_ hs_ => (hk_.2.2.2.2.1) hs_)) (fun k_ hk_ => ⟨hk_.1.1, hk_.1.2.1, hk_.1.2.2.1, hk_.1.2.2.2.1, hk_.1.2.2.2.2.1, hk_.1.2.2.2.2.2.1, hk_.1.2.2.2.2.2.2.1, hk_.1.2.2.2.2.2.2.2.1, hk_.1.2.2.2.2.2.2.2.2⟩)) (zap (ok' := fun k_ => some k_ ≠ (v1177 : Value).ownBlock ∧ some k_ ≠ (v1179 : Value).ownBlock ∧ some k_ ≠ (.slice Ao26 t1181.length co26 : Value).ownBlock ∧ some k_ ≠ (.slice Ao27 t1184.length co27 : Value).ownBlock ∧ some k_ ≠ (.slice Ao28 t1187.length co28 : Value).ownBlock ∧ some k_ ≠ (v1192 : Value).ownBlock ∧ some k_ ≠ (v1194 : Value).ownBlock ∧ some k_ ≠ (.slice Ao52 t1198.length co52 : Value).ownBlock ∧ some k_ ≠ (.slice Ao56 t1206.length co56 : Value).ownBlock) (zcg (HO1204.out) hkp (fun k_ hk_ hs_ => (hk_.2.2.2.2.1) hs_)) (fun k_ hk_ => ⟨hk_.1.1, hk_.1.2.1, hk_.1.2.2.1, hk_.1.2.2.2.1, hk_.1.2.2.2.2.1, hk_.1.2.2.2.2.2.1, hk_.1.2.2.2.2.2.2.1, hk_.1.2.2.2.2.2.2.2.1, hk_.1.2.2.2.2.2.2.2.2⟩)) (zap (ok' := fun k_ => some k_ ≠ (v1177 : Value).ownBlock ∧ some k_ ≠ (v1179 : Value).ownBlock ∧ some k_ ≠ (.slice Ao26 t1181.length co26 : Value).ownBlock ∧ some k_ ≠ (.slice Ao27 t1184.length co27 : Value).ownBlock ∧ some k_ ≠ (.slice Ao28 t1187.length co28 : Value).ownBlock ∧ some k_ ≠ (v1192 : Value).ownBlock ∧ some k_ ≠ (v1194 : Value).ownBlock ∧ some k_ ≠ (.slice Ao52 t1198.length co52 : Value).ownBlock ∧ some k_ ≠ (.slice Ao54 t1202.length co54 : Value).ownBlock) (zcg (HO1208.out) hkp (fun k_ hk_ hs_ => (hk_.2.2.2.2.1) hs_)) (fun k_ hk_ => ⟨hk_.1.1, hk_.1.2.1, hk_.1.2.2.1, hk_.1.2.2.2.1, hk_.1.2.2.2.2.1, hk_.1.2.2.2.2.2.1, hk_.1.2.2.2.2.2.2.1, hk_.1.2.2.2.2.2.2.2.1, hk_.1.2.2.2.2.2.2.2.2⟩)) (hb); clear HO_7 HO_8 HO_9 HO_10 HO_11 HO_12 HO_13 HO1200 HO1204 HO1208 HB; obtain ⟨HO_7, HO_8, HO_9, HO_10, HO_11, HO_12, HO_13, HO1200, HO1204, HO1208, HB⟩ := n_; (try clear hb); (try clear hkp); (try clear hy0)))
          (try simp only [Act.put, zaj, zay, zaz])
          go_cut [98] (fun v98 wc => ∃ (kq : Nat) (x98_49 : Bool), v98 = .bool x98_49 ∧ Aside0 (laws_FnExactKeysOf.j1 kq l0 l1 l2 t1175 t1176 t1190 t1191 x98_49 = some r) ∧ Aside0 (kq ≤ kj14) ∧ Aside0 (Kd.R (Kd.int .u8) 5 wc w.heap.size (fun k_ => some k_ ≠ (v1179 : Value).ownBlock ∧ some k_ ≠ (v1192 : Value).ownBlock ∧ some k_ ≠ (v1194 : Value).ownBlock) v1177 t1175) ∧ Aside0 (Kd.R (Kd.int .u8) 5 wc w.heap.size (fun k_ => some k_ ≠ (v1177 : Value).ownBlock ∧ some k_ ≠ (v1192 : Value).ownBlock ∧ some k_ ≠ (v1194 : Value).ownBlock) v1179 t1176) ∧ Aside0 (Kd.R (Kd.int .u8) 5 wc w.heap.size (fun k_ => some k_ ≠ (v1177 : Value).ownBlock ∧ some k_ ≠ (v1179 : Value).ownBlock ∧ some k_ ≠ (v1194 : Value).ownBlock) v1192 t1190) ∧ Aside0 (Kd.R (Kd.int .u8) 5 wc w.heap.size (fun k_ => some k_ ≠ (v1177 : Value).ownBlock ∧ some k_ ≠ (v1179 : Value).ownBlock ∧ some k_ ≠ (v1192 : Value).ownBlock) v1194 t1191) ∧ Aside0 (Below w.heap.size w wc))
          case first =>
           have H := HC50.out
           clear HC50
           by_cases c60 : t1214 < 0
           ·rw [if_pos c60] at H
            exact absurd H (by simp)
           ·rw [if_neg c60] at H
            have c60b0 := zat c60
            clear c60
            (first | rw [c60b0] | (simp only [i64_w, i32_w]; rw [c60b0]) | skip)
            obtain ⟨t1216, A61, H⟩ := bnd H
            by_cases c62 : t1216 = true
            ·subst c62
             rw [if_pos rfl] at H
             obtain ⟨t1217, A63, H⟩ := bnd H
             have H' := Aside0.mk H
             clear H
             obtain ⟨Ao64, co64, eo64⟩ := zax HO_12.out
             subst eo64
             obtain ⟨Ao65, co65, eo65⟩ := zax HO_7.out
             subst eo65
             go_wp2_with (first | (go_at_call 20; (with_reducible refine (laws_eqByteS.calls kj14 _ _ t1190 _ _ t1175 true _ ?side1 ?side2 ?side3 ?side4 A61.out).mono ?_); (case side1 => repeat (first | exact (zad HO_12.out).2.2 | (with_reducible first | apply zba | apply zbb | apply zbf))); (case side2 => exact (zad HO_12.out).2.1); (case side3 => repeat (first | exact (zad HO_7.out).2.2 | (with_reducible first | apply zba | apply zbb | apply zbf))); (case side4 => exact (zad HO_7.out).2.1); rintro e w' ⟨rfl, ⟨nd, rfl⟩⟩; obtain ⟨Ao66, co66, eo66⟩ := zax HO_13.out; subst eo66; obtain ⟨Ao67, co67, eo67⟩ := zax HO_8.out; subst eo67) | (go_at_call 20; (with_reducible refine (laws_eqByteS.calls kj14 _ _ t1191 _ _ t1176 t1217 _ ?side1 ?side2 ?side3 ?side4 A63.out).mono ?_); (case side1 => repeat (first | exact (zad HO_13.out).2.2 | (with_reducible first | apply zba | apply zbb | apply zbf))); (case side2 => exact (zad HO_13.out).2.1); (case side3 => repeat (first | exact (zad HO_8.out).2.2 | (with_reducible first | apply zba | apply zbb | apply zbf))); (case side4 => exact (zad HO_8.out).2.1); rintro e w' ⟨rfl, ⟨nd, rfl⟩⟩))
             go_meet
             case rel => exact ⟨_, (!t1217), jer, H', ⟨by have := HJ14.out; first | omega | exact zaw _⟩, ⟨by (with_reducible repeat (first | apply zau | apply zav | apply zaq)); exact zap HO_7.out (fun _ hk => ⟨hk.1, ⟨hk.2.2.2.2.1, hk.2.2.2.2.2.1⟩⟩)⟩, ⟨by (with_reducible repeat (first | apply zau | apply zav | apply zaq)); exact zap HO_8.out (fun _ hk => ⟨hk.1, ⟨hk.2.2.2.2.1, hk.2.2.2.2.2.1⟩⟩)⟩, ⟨by (with_reducible repeat (first | apply zau | apply zav | apply zaq)); exact zap HO_12.out (fun _ hk => ⟨hk.1, ⟨hk.2.1, hk.2.2.2.2.2.1⟩⟩)⟩, ⟨by (with_reducible repeat (first | apply zau | apply zav | apply zaq)); exact zap HO_13.out (fun _ hk => ⟨hk.1, ⟨hk.2.1, hk.2.2.2.2.2.1⟩⟩)⟩, ⟨bq⟩⟩
            ·replace c62 := zbn.mpr c62
             subst c62
             rw [if_neg (show ¬ (false = true) by decide)] at H
             exact absurd H (by simp)
          case rest =>
           clear HC50
           try clear c1
           try clear c2
           try clear p2
           try clear c3
           try clear c4
           try clear c4b0
           try clear c4b1
           try clear c5
           try clear c5b0
           try clear c5b1
           try clear c6
           try clear c6b0
           try clear c6b1
           try clear c12
           try clear c17
           try clear c20
           try clear c22
           try clear c31
           try clear c37
           try clear c40
           try clear c43
           try clear c46
           try clear c49
           try clear c50
           try clear c60
           try clear c60b0
           try clear c62
           try clear p2
           obtain ⟨kq, x98_49, rfl, HA, HJ49, HO_7, HO_8, HO_12, HO_13, HB⟩ := hcut
           cases kq with
           | zero => exact absurd HA.out (by simp [laws_FnExactKeysOf.j1])
           | succ kj49 =>
            have H := HA.out
            clear HA
            simp only [laws_FnExactKeysOf.j1] at H
            by_cases c68 : x98_49 = true
            ·subst c68
             rw [if_pos rfl] at H
             exact absurd H (by simp)
            ·replace c68 := zbn.mpr c68
             subst c68
             rw [if_neg (show ¬ (false = true) by decide)] at H
             obtain ⟨⟨t1218, t1219⟩, A69, H⟩ := bnd H
             try dsimp only at H
             obtain ⟨⟨t1220, t1221⟩, A70, H⟩ := bnd H
             try dsimp only at H
             obtain ⟨t1222, A71, H⟩ := bnd H
             by_cases c72 : t1222 < 0
             ·rw [if_pos c72] at H
              exact absurd H (by simp)
             ·rw [if_neg c72] at H
              have c72b0 := zat c72
              clear c72
              obtain ⟨t1223, A73, H⟩ := bnd H
              by_cases c74 : t1223 < 0
              ·rw [if_pos c74] at H
               exact absurd H (by simp)
              ·rw [if_neg c74] at H
               have c74b0 := zat c74
               clear c74
               by_cases c75 : t1223 = t1220
               ·rw [if_pos c75] at H
                have c75b0 := beqT c75
                have c75b1 := zcv.mpr c75
                clear c75
                obtain ⟨t1224, A76, H⟩ := bnd H
                obtain ⟨t1227, A77, H⟩ := bnd H
                obtain ⟨t1230, A78, H⟩ := bnd H
                obtain ⟨⟨t1233, t1234⟩, A79, H⟩ := bnd H
                try dsimp only at H
                have HC80 := Aside0.mk H
                clear H
                obtain ⟨Ao81, co81, eo81⟩ := zax HO_12.out
                subst eo81
                go_upto_region 39 with (first | (refine jgc 22 ?_; refine jgs 101 Try.func22 #[.slice Ao81 t1190.length co81, .int .i64 1] ?_; (with_reducible refine (laws_markByteS.calls kj49 (fun k_ => some k_ = (.slice Ao81 t1190.length co81 : Value).ownBlock) (.slice Ao81 t1190.length co81) t1190 1 t1218 t1219 w _ ?side1 ?side2 A69.out).mono ?_); (case side1 => repeat (first | (with_reducible first | exact HB.out | apply below_alloc | apply zdp | apply zcy) | exact HB.out)); (case side2 => exact Kd.R_tight rfl HO_12.out); rintro e w82 ⟨rfl, hy0, hb, hkp⟩; refine ⟨_, rfl, ?_⟩; have n_ := jA5 (zap (ok' := fun k_ => some k_ ≠ (v1179 : Value).ownBlock ∧ some k_ ≠ (.slice Ao81 t1190.length co81 : Value).ownBlock ∧ some k_ ≠ (v1194 : Value).ownBlock) (zcg (HO_7.out) hkp (fun k_ hk_ hs_ => (hk_.2.1) hs_)) (fun k_ hk_ => ⟨hk_.1.1, hk_.1.2.1, hk_.1.2.2⟩)) (zap (ok' := fun k_ => some k_ ≠ (v1177 : Value).ownBlock ∧ some k_ ≠ (.slice Ao81 t1190.length co81 : Value).ownBlock ∧ some k_ ≠ (v1194 : Value).ownBlock) (zcg (HO_8.out) hkp (fun k_ hk_ hs_ => (hk_.2.1) hs_)) (fun k_ hk_ => ⟨hk_.1.1, hk_.1.2.1, hk_.1.2.2⟩)) (Kd.R_reok rfl hy0 (fun k_ e_ => HO_12.out.1 k_ e_)) (zap (ok' := fun k_ => some k_ ≠ (v1177 : Value).ownBlock ∧ some k_ ≠ (v1179 : Value).ownBlock ∧ some k_ ≠ (.slice Ao81 t1190.length co81 : Value).ownBlock) (zcg (HO_13.out) hkp (fun k_ hk_ hs_ => (hk_.2.2) hs_)) (fun k_ hk_ => ⟨hk_.1.1, hk_.1.2.1, hk_.1.2.2⟩)) (hb); clear HO_7 HO_8 HO_12 HO_13 HB; obtain ⟨HO_7, HO_8, HO_12, HO_13, HB⟩ := n_; (try clear hb); (try clear hkp); (try clear hy0); obtain ⟨Ao83, co83, eo83⟩ := zax HO_13.out; subst eo83) | (refine jgc 22 ?_; refine jgs 104 Try.func22 #[.slice Ao83 t1191.length co83, .int .i64 t1218] ?_; (with_reducible refine (laws_markByteS.calls kj49 (fun k_ => some k_ = (.slice Ao83 t1191.length co83 : Value).ownBlock) (.slice Ao83 t1191.length co83) t1191 t1218 t1220 t1221 w _ ?side1 ?side2 A70.out).mono ?_); (case side1 => repeat (first | (with_reducible first | exact HB.out | apply below_alloc | apply zdp | apply zcy) | exact HB.out)); (case side2 => exact Kd.R_tight rfl HO_13.out); rintro e w84 ⟨rfl, hy0, hb, hkp⟩; refine ⟨_, rfl, ?_⟩; have n_ := jA5 (zap (ok' := fun k_ => some k_ ≠ (v1179 : Value).ownBlock ∧ some k_ ≠ (.slice Ao81 t1190.length co81 : Value).ownBlock ∧ some k_ ≠ (.slice Ao83 t1191.length co83 : Value).ownBlock) (zcg (HO_7.out) hkp (fun k_ hk_ hs_ => (hk_.2.2) hs_)) (fun k_ hk_ => ⟨hk_.1.1, hk_.1.2.1, hk_.1.2.2⟩)) (zap (ok' := fun k_ => some k_ ≠ (v1177 : Value).ownBlock ∧ some k_ ≠ (.slice Ao81 t1190.length co81 : Value).ownBlock ∧ some k_ ≠ (.slice Ao83 t1191.length co83 : Value).ownBlock) (zcg (HO_8.out) hkp (fun k_ hk_ hs_ => (hk_.2.2) hs_)) (fun k_ hk_ => ⟨hk_.1.1, hk_.1.2.1, hk_.1.2.2⟩)) (zap (ok' := fun k_ => some k_ ≠ (v1177 : Value).ownBlock ∧ some k_ ≠ (v1179 : Value).ownBlock ∧ some k_ ≠ (.slice Ao83 t1191.length co83 : Value).ownBlock) (zcg (HO_12.out) hkp (fun k_ hk_ hs_ => (hk_.2.2) hs_)) (fun k_ hk_ => ⟨hk_.1.1, hk_.1.2.1, hk_.1.2.2⟩)) (Kd.R_reok rfl hy0 (fun k_ e_ => HO_13.out.1 k_ e_)) (hb); clear HO_7 HO_8 HO_12 HO_13 HB; obtain ⟨HO_7, HO_8, HO_12, HO_13, HB⟩ := n_; (try clear hb); (try clear hkp); (try clear hy0)) | (refine jgc 26 ?_; refine goesL_ (some 107) rfl rfl Try.func26 (by kernel_rfl) rfl #[.slice Ao81 t1219.length co81, .int .i64 1] rfl (by (try simp only [zdm, zdr, zdx]); first | done | (rw [show t1219.length = t1190.length from (zad HO_12.out).1.symm] <;> rfl) | rfl | (simp only [zcu, zcp]; rfl)) ?_; (with_reducible refine (laws_heldByteS.calls kj49 _ _ t1219 1 t1222 _ ?side1 ?side2 A71.out).mono ?_); (case side1 => repeat (first | exact (zad HO_12.out).2.2 | (with_reducible first | apply zba | apply zbb | apply zbf))); (case side2 => rw [show t1219.length = t1190.length from (zad HO_12.out).1.symm]; exact (zad HO_12.out).2.1); rintro e w' ⟨rfl, ⟨nd, rfl⟩⟩; refine ⟨_, rfl, ?_⟩) | (refine jgc 26 ?_; refine goesL_ (some 112) rfl rfl Try.func26 (by kernel_rfl) rfl #[.slice Ao83 t1221.length co83, .int .i64 t1222] rfl (by (try simp only [zdm, zdr, zdx]); first | done | (rw [show t1221.length = t1191.length from (zad HO_13.out).1.symm] <;> rfl) | rfl | (simp only [zcu, zcp]; rfl)) ?_; (with_reducible refine (laws_heldByteS.calls kj49 _ _ t1221 t1222 t1223 _ ?side1 ?side2 A73.out).mono ?_); (case side1 => repeat (first | exact (zad HO_13.out).2.2 | (with_reducible first | apply zba | apply zbb | apply zbf))); (case side2 => rw [show t1221.length = t1191.length from (zad HO_13.out).1.symm]; exact (zad HO_13.out).2.1); rintro e w' ⟨rfl, ⟨nd, rfl⟩⟩; refine ⟨_, rfl, ?_⟩) | (refine jgc 17 ?_; refine jgs 120 Try.func17 #[.slice A0 l0.length c0] ?_; (with_reducible refine (laws_toByteS.calls kj49 _ _ l0 t1224 _ ?side1 ?side2 A76.out).mono ?_); (case side1 => repeat (first | exact (Kd.C_below HR0.out bq) | (with_reducible first | apply zba | apply zbb | apply zbf))); (case side2 => exact HC0.out); rintro e w85 ⟨v1225, rfl, ho0, hb⟩; refine ⟨_, rfl, ?_⟩; have xb_ := below_ofs bq hb; have qHO_7 := Kd.R_ofs (pR HO_7.out) hb; have n0_ := Aside0.mk (zai qHO_7 (zag ho0) hb); have qHO_8 := Kd.R_ofs (pR HO_8.out) hb; have n1_ := Aside0.mk (zai qHO_8 (zag ho0) hb); have qHO_12 := Kd.R_ofs (pR HO_12.out) hb; have n2_ := Aside0.mk (zai qHO_12 (zag ho0) hb); have qHO_13 := Kd.R_ofs (pR HO_13.out) hb; have n3_ := Aside0.mk (zai qHO_13 (zag ho0) hb); have n4_ := Aside0.mk (zas (zal (zal (zal (zal ho0 (zar qHO_7)) (zar qHO_8)) (zar qHO_12)) (zar qHO_13)) (zaf xb_)); have n5_ := Aside0.mk (zao xb_ hb); clear qHO_12 HO_7; clear qHO_13 HO_8; clear qHO_7 HO_12; clear qHO_8 HO_13; clear HB; have HO_7 := n0_; have HO_8 := n1_; have HO_12 := n2_; have HO_13 := n3_; have HO1226 := n4_; have HB := n5_; clear n0_ n1_ n2_ n3_ n4_ n5_; clear xb_ hb ho0) | (refine jgc 17 ?_; refine jgs 122 Try.func17 #[.slice A1 l1.length c1] ?_; (with_reducible refine (laws_toByteS.calls kj49 _ _ l1 t1227 _ ?side1 ?side2 A77.out).mono ?_); (case side1 => exact jcs HR1.out); (case side2 => exact HC1.out); rintro e w86 ⟨v1228, rfl, ho0, hb⟩; refine ⟨_, rfl, ?_⟩; have xb_ := below_ofs bq hb; have qHO_7 := Kd.R_ofs (pR HO_7.out) hb; have n0_ := Aside0.mk (zai qHO_7 (zag ho0) hb); have qHO_8 := Kd.R_ofs (pR HO_8.out) hb; have n1_ := Aside0.mk (zai qHO_8 (zag ho0) hb); have qHO_12 := Kd.R_ofs (pR HO_12.out) hb; have n2_ := Aside0.mk (zai qHO_12 (zag ho0) hb); have qHO_13 := Kd.R_ofs (pR HO_13.out) hb; have n3_ := Aside0.mk (zai qHO_13 (zag ho0) hb); have qHO1226 := Kd.R_ofs (pR HO1226.out) hb; have n4_ := Aside0.mk (zai qHO1226 (zag ho0) hb); have n5_ := Aside0.mk (zas (zal (zal (zal (zal (zal ho0 (zar qHO_7)) (zar qHO_8)) (zar qHO_12)) (zar qHO_13)) (zar qHO1226)) (zaf xb_)); have n6_ := Aside0.mk (zao xb_ hb); clear qHO1226 HO_7; clear qHO_12 HO_8; clear qHO_13 HO_12; clear qHO_7 HO_13; clear qHO_8 HO1226; clear HB; have HO_7 := n0_; have HO_8 := n1_; have HO_12 := n2_; have HO_13 := n3_; have HO1226 := n4_; have HO1229 := n5_; have HB := n6_; clear n0_ n1_ n2_ n3_ n4_ n5_ n6_; clear xb_ hb ho0) | (refine jgc 17 ?_; refine jgs 124 Try.func17 #[.slice A2 l2.length c2] ?_; (with_reducible refine (laws_toByteS.calls kj49 _ _ l2 t1230 _ ?side1 ?side2 A78.out).mono ?_); (case side1 => exact jcs HR2.out); (case side2 => exact HC2.out); rintro e w87 ⟨v1231, rfl, ho0, hb⟩; refine ⟨_, rfl, ?_⟩; have xb_ := below_ofs bq hb; have qHO_7 := Kd.R_ofs (pR HO_7.out) hb; have n0_ := Aside0.mk (zai qHO_7 (zag ho0) hb); have qHO_8 := Kd.R_ofs (pR HO_8.out) hb; have n1_ := Aside0.mk (zai qHO_8 (zag ho0) hb); have qHO_12 := Kd.R_ofs (pR HO_12.out) hb; have n2_ := Aside0.mk (zai qHO_12 (zag ho0) hb); have qHO_13 := Kd.R_ofs (pR HO_13.out) hb; have n3_ := Aside0.mk (zai qHO_13 (zag ho0) hb); have qHO1226 := Kd.R_ofs (pR HO1226.out) hb; have n4_ := Aside0.mk (zai qHO1226 (zag ho0) hb); have qHO1229 := Kd.R_ofs (pR HO1229.out) hb; have n5_ := Aside0.mk (zai qHO1229 (zag ho0) hb); have n6_ := Aside0.mk (zas (zal (zal (zal (zal (zal (zal ho0 (zar qHO_7)) (zar qHO_8)) (zar qHO_12)) (zar qHO_13)) (zar qHO1226)) (zar qHO1229)) (zaf xb_)); have n7_ := Aside0.mk (zao xb_ hb); clear qHO1226 HO_7; clear qHO1229 HO_8; clear qHO_12 HO_12; clear qHO_13 HO_13; clear qHO_7 HO1226; clear qHO_8 HO1229; clear HB; have HO_7 := n0_; have HO_8 := n1_; have HO_12 := n2_; have HO_13 := n3_; have HO1226 := n4_; have HO1229 := n5_; have HO1232 := n6_; have HB := n7_; clear n0_ n1_ n2_ n3_ n4_ n5_ n6_ n7_; clear xb_ hb ho0; obtain ⟨Ao88, co88, eo88⟩ := zax HO1226.out; subst eo88; obtain ⟨Ao89, co89, eo89⟩ := zax HO1229.out; subst eo89; obtain ⟨Ao90, co90, eo90⟩ := zax HO1232.out; subst eo90) | (refine jgc 50 ?_; refine jgs 125 Try.func50 #[.slice Ao88 t1224.length co88, .slice Ao89 t1227.length co89, .slice Ao90 t1230.length co90] ?_; (with_reducible refine (impl_KeysOf.calls kj49 _ _ t1224 _ _ t1227 _ _ t1230 t1233 t1234 _ ?side1 ?side2 ?side3 ?side4 ?side5 ?side6 A79.out).mono ?_); (case side1 => repeat (first | exact (zad HO1226.out).2.2 | (with_reducible first | apply zba | apply zbb | apply zbf))); (case side2 => exact (zad HO1226.out).2.1); (case side3 => repeat (first | exact (zad HO1229.out).2.2 | (with_reducible first | apply zba | apply zbb | apply zbf))); (case side4 => exact (zad HO1229.out).2.1); (case side5 => repeat (first | exact (zad HO1232.out).2.2 | (with_reducible first | apply zba | apply zbb | apply zbf))); (case side6 => exact (zad HO1232.out).2.1); rintro e w91 ⟨v1235, v1237, rfl, ho0, ho1, hb⟩; refine ⟨_, rfl, ?_⟩; have xb_ := below_ofs bq hb; have n_ := jA10 (zap (zcj (zcj (Kd.R_old (pR HO_7.out) hb) (zag ho0)) (zag ho1)) (fun _ h_ => h_.1)) (zap (zcj (zcj (Kd.R_old (pR HO_8.out) hb) (zag ho0)) (zag ho1)) (fun _ h_ => h_.1)) (zap (zcj (zcj (Kd.R_old (pR HO_12.out) hb) (zag ho0)) (zag ho1)) (fun _ h_ => h_.1)) (zap (zcj (zcj (Kd.R_old (pR HO_13.out) hb) (zag ho0)) (zag ho1)) (fun _ h_ => h_.1)) (zap (zcj (zcj (Kd.R_old (pR HO1226.out) hb) (zag ho0)) (zag ho1)) (fun _ h_ => h_.1)) (zap (zcj (zcj (Kd.R_old (pR HO1229.out) hb) (zag ho0)) (zag ho1)) (fun _ h_ => h_.1)) (zap (zcj (zcj (Kd.R_old (pR HO1232.out) hb) (zag ho0)) (zag ho1)) (fun _ h_ => h_.1)) (zas (zal (zal (zal (zal (zal (zal (zal ho0 (zar (pR HO_7.out))) (zar (pR HO_8.out))) (zar (pR HO_12.out))) (zar (pR HO_13.out))) (zar (pR HO1226.out))) (zar (pR HO1229.out))) (zar (pR HO1232.out))) (zaf xb_)) (zas (zal (zal (zal (zal (zal (zal (zal ho1 (zar (pR HO_7.out))) (zar (pR HO_8.out))) (zar (pR HO_12.out))) (zar (pR HO_13.out))) (zar (pR HO1226.out))) (zar (pR HO1229.out))) (zar (pR HO1232.out))) (zaf xb_)) (zao xb_ hb); clear HO_7 HO_8 HO_12 HO_13 HO1226 HO1229 HO1232 HB; obtain ⟨HO_7, HO_8, HO_12, HO_13, HO1226, HO1229, HO1232, HO1236, HO1238, HB⟩ := n_; clear xb_ hb ho0; (try clear ho1)))
                (try simp only [Act.put, zaj, zay, zaz])
                go_cut [137] (fun v137 wc => ∃ (kq : Nat) (x137_79 : Bool), v137 = .bool x137_79 ∧ Aside0 (laws_FnExactKeysOf.j2 kq t1219 t1221 t1220 x137_79 = some r) ∧ Aside0 (kq ≤ kj49) ∧ Aside0 (Kd.R (Kd.int .u8) 5 wc w.heap.size (fun k_ => some k_ ≠ ((.slice Ao83 t1191.length co83) : Value).ownBlock) (.slice Ao81 t1190.length co81) t1219) ∧ Aside0 (Kd.R (Kd.int .u8) 5 wc w.heap.size (fun k_ => some k_ ≠ ((.slice Ao81 t1190.length co81) : Value).ownBlock) (.slice Ao83 t1191.length co83) t1221) ∧ Aside0 (Below w.heap.size w wc))
                case first =>
                 have H := HC80.out
                 clear HC80
                 obtain ⟨t1239, A92, H⟩ := bnd H
                 by_cases c93 : t1239 = true
                 ·subst c93
                  rw [if_pos rfl] at H
                  obtain ⟨t1240, A94, H⟩ := bnd H
                  have H' := Aside0.mk H
                  clear H
                  obtain ⟨Ao95, co95, eo95⟩ := zax HO1236.out
                  subst eo95
                  obtain ⟨Ao96, co96, eo96⟩ := zax HO_7.out
                  subst eo96
                  go_wp2_with (first | (refine jgc 20 ?_; refine jgs 130 Try.func20 #[.slice Ao95 t1233.length co95, .slice Ao96 t1175.length co96] ?_; (with_reducible refine (laws_eqByteS.calls kj49 _ _ t1233 _ _ t1175 true _ ?side1 ?side2 ?side3 ?side4 A92.out).mono ?_); (case side1 => repeat (first | exact (zad HO1236.out).2.2 | (with_reducible first | apply zba | apply zbb | apply zbf))); (case side2 => exact (zad HO1236.out).2.1); (case side3 => repeat (first | exact (zad HO_7.out).2.2 | (with_reducible first | apply zba | apply zbb | apply zbf))); (case side4 => exact (zad HO_7.out).2.1); rintro e w' ⟨rfl, ⟨nd, rfl⟩⟩; refine ⟨_, rfl, ?_⟩; obtain ⟨Ao97, co97, eo97⟩ := zax HO1238.out; subst eo97; obtain ⟨Ao98, co98, eo98⟩ := zax HO_8.out; subst eo98) | (go_at_call 20; (with_reducible refine (laws_eqByteS.calls kj49 _ _ t1234 _ _ t1176 t1240 _ ?side1 ?side2 ?side3 ?side4 A94.out).mono ?_); (case side1 => repeat (first | exact (zad HO1238.out).2.2 | (with_reducible first | apply zba | apply zbb | apply zbf))); (case side2 => exact (zad HO1238.out).2.1); (case side3 => repeat (first | exact (zad HO_8.out).2.2 | (with_reducible first | apply zba | apply zbb | apply zbf))); (case side4 => exact (zad HO_8.out).2.1); rintro e w' ⟨rfl, ⟨nd, rfl⟩⟩))
                  go_meet
                  case rel => exact ⟨_, (!t1240), jer, H', ⟨by have := HJ14.out; have := HJ49.out; first | omega | exact zaw _⟩, ⟨by (with_reducible repeat (first | apply zau | apply zav | apply zaq)); exact zap HO_12.out (fun _ hk => hk.1.1.1.1.1.2.2)⟩, ⟨by (with_reducible repeat (first | apply zau | apply zav | apply zaq)); exact zap HO_13.out (fun _ hk => hk.1.1.1.1.1.2.2)⟩, ⟨bq⟩⟩
                 ·replace c93 := zbn.mpr c93
                  subst c93
                  rw [if_neg (show ¬ (false = true) by decide)] at H
                  exact absurd H (by simp)
                case rest =>
                 clear HC80
                 try clear c1
                 try clear c2
                 try clear p2
                 try clear c3
                 try clear c4
                 try clear c4b0
                 try clear c4b1
                 try clear c5
                 try clear c5b0
                 try clear c5b1
                 try clear c6
                 try clear c6b0
                 try clear c6b1
                 try clear c7
                 try clear c9
                 try clear c12
                 try clear c17
                 try clear c20
                 try clear c22
                 try clear c26
                 try clear c31
                 try clear c37
                 try clear c40
                 try clear c43
                 try clear c46
                 try clear c49
                 try clear c50
                 try clear c60
                 try clear c60b0
                 try clear c62
                 try clear c68
                 try clear c72
                 try clear c72b0
                 try clear c74
                 try clear c74b0
                 try clear c75
                 try clear c75b0
                 try clear c75b1
                 try clear c93
                 try clear p2
                 obtain ⟨kq, x137_79, rfl, HA, HJ79, HO_12, HO_13, HB⟩ := hcut
                 have hl12_79 := (zad HO_12.out).1
                 rw [hl12_79] at HO_12
                 (try simp only [hl12_79])
                 (try simp only [hl12_79] at HO_13)
                 have hl13_79 := (zad HO_13.out).1
                 rw [hl13_79] at HO_13
                 (try simp only [hl13_79])
                 (try simp only [hl13_79] at HO_12)
                 cases kq with
                 | zero => exact absurd HA.out (by simp [laws_FnExactKeysOf.j2])
                 | succ kj79 =>
                  have H := HA.out
                  clear HA
                  simp only [laws_FnExactKeysOf.j2] at H
                  by_cases c99 : x137_79 = true
                  ·subst c99
                   rw [if_pos rfl] at H
                   exact absurd H (by simp)
                  ·replace c99 := zbn.mpr c99
                   subst c99
                   rw [if_neg (show ¬ (false = true) by decide)] at H
                   obtain ⟨t1241, A100, H⟩ := bnd H
                   by_cases c101 : t1241 < 0
                   ·rw [if_pos c101] at H
                    exact absurd H (by simp)
                   ·rw [if_neg c101] at H
                    have c101b0 := zat c101
                    clear c101
                    obtain ⟨t1242, A102, H⟩ := bnd H
                    by_cases c103 : t1242 < 0
                    ·rw [if_pos c103] at H
                     exact absurd H (by simp)
                    ·rw [if_neg c103] at H
                     have c103b0 := zat c103
                     clear c103
                     by_cases c104 : t1242 = t1220
                     ·rw [if_pos c104] at H
                      have c104b0 := beqT c104
                      have c104b1 := zcv.mpr c104
                      clear c104
                      obtain rfl := Option.some.inj H
                      go_wp2_with (first | (refine jgc 26 ?_; refine jgs 140 Try.func26 #[.slice Ao81 t1219.length co81, .int .i64 1] ?_; (with_reducible refine (laws_heldByteS.calls kj79 _ _ t1219 1 t1241 _ ?side1 ?side2 A100.out).mono ?_); (case side1 => repeat (first | exact (zad HO_12.out).2.2 | (with_reducible first | apply zba | apply zbb | apply zbf))); (case side2 => exact (zad HO_12.out).2.1); rintro e w' ⟨rfl, ⟨nd, rfl⟩⟩; refine ⟨_, rfl, ?_⟩) | (refine jgc 26 ?_; refine jgs 145 Try.func26 #[.slice Ao83 t1221.length co83, .int .i64 t1241] ?_; (with_reducible refine (laws_heldByteS.calls kj79 _ _ t1221 t1241 t1242 _ ?side1 ?side2 A102.out).mono ?_); (case side1 => repeat (first | exact (zad HO_13.out).2.2 | (with_reducible first | apply zba | apply zbb | apply zbf))); (case side2 => exact (zad HO_13.out).2.1); rintro e w' ⟨rfl, ⟨nd, rfl⟩⟩; refine ⟨_, rfl, ?_⟩))
                      go_ret
                      exact ⟨jex, bq⟩
                     ·rw [if_neg c104] at H
                      exact absurd H (by simp)
               ·rw [if_neg c75] at H
                exact absurd H (by simp)
         ·replace c46 := zbn.mpr c46
          subst c46
          rw [if_neg (show ¬ (false = true) by decide)] at H
          exact absurd H (by simp)
        ·replace c43 := zbn.mpr c43
         subst c43
         rw [if_neg (show ¬ (false = true) by decide)] at H
         exact absurd H (by simp)
       ·replace c40 := zbn.mpr c40
        subst c40
        rw [if_neg (show ¬ (false = true) by decide)] at H
        exact absurd H (by simp)

def laws_FnExactKeysOf.Pure : Prop := ∀ (l0 : List Int) (l1 : List Int) (l2 : List Int), l0.length ≤ maxLen → l0.length * 1 ≤ 140737488351232 → (∀ x ∈ l0, (Lit.int .u8 x).wf = true) → l1.length ≤ maxLen → l1.length * 1 ≤ 140737488351232 → (∀ x ∈ l1, (Lit.int .u8 x).wf = true) → l2.length ≤ maxLen → l2.length * 1 ≤ 140737488351232 → (∀ x ∈ l2, (Lit.int .u8 x).wf = true) → ∃ k, laws_FnExactKeysOf.f k l0 l1 l2 = some true
theorem laws_FnExactKeysOf.walk (P : laws_FnExactKeysOf.Pure) (a0 : Option Addr) (len0 cap0 : Nat) (z0 : List Int) (a1 : Option Addr) (len1 cap1 : Nat) (z1 : List Int) (a2 : Option Addr) (len2 cap2 : Nat) (z2 : List Int) (w : World) (w0 : (a0 = none ∧ len0 = 0 ∧ cap0 = 0 ∧ z0 = []) ∨ ∃ x, a0 = some x ∧ len0 ≤ cap0 ∧ cap0 ≤ maxLen ∧ z0.length = cap0 ∧ (∀ i, i < z0.length → w.cell? (x.add i) = some (.int .u8 (z0.getD i 0))) ∧ ∀ n ∈ z0, (Lit.int .u8 n).wf = true) (y0 : len0 * 1 ≤ 140737488351232) (w1 : (a1 = none ∧ len1 = 0 ∧ cap1 = 0 ∧ z1 = []) ∨ ∃ x, a1 = some x ∧ len1 ≤ cap1 ∧ cap1 ≤ maxLen ∧ z1.length = cap1 ∧ (∀ i, i < z1.length → w.cell? (x.add i) = some (.int .u8 (z1.getD i 0))) ∧ ∀ n ∈ z1, (Lit.int .u8 n).wf = true) (y1 : len1 * 1 ≤ 140737488351232) (w2 : (a2 = none ∧ len2 = 0 ∧ cap2 = 0 ∧ z2 = []) ∨ ∃ x, a2 = some x ∧ len2 ≤ cap2 ∧ cap2 ≤ maxLen ∧ z2.length = cap2 ∧ (∀ i, i < z2.length → w.cell? (x.add i) = some (.int .u8 (z2.getD i 0))) ∧ ∀ n ∈ z2, (Lit.int .u8 n).wf = true) (y2 : len2 * 1 ≤ 140737488351232) :
  Calls Try.prog 12 #[.slice a0 len0 cap0, .slice a1 len1 cap1, .slice a2 len2 cap2] w fun e w' => e = .returned (.bool true) ∧ Below w.heap.size w w' := by
 obtain ⟨l0, rfl, hr0, hm0, hw0, hc0⟩ := ReadsInt.ofRowC w0
 obtain ⟨l1, rfl, hr1, hm1, hw1, hc1⟩ := ReadsInt.ofRowC w1
 obtain ⟨l2, rfl, hr2, hm2, hw2, hc2⟩ := ReadsInt.ofRowC w2
 obtain ⟨k, h⟩ := P l0 l1 l2 hm0 y0 hw0 hm1 y1 hw1 hm2 y2 hw2
 refine (laws_FnExactKeysOf.calls k _ _ l0 _ _ l1 _ _ l2 true w (Kd.C_of_reads (d := (0 : Int)) (h1 := fun _ => rfl) hr0) hc0 (Kd.C_of_reads (d := (0 : Int)) (h1 := fun _ => rfl) hr1) hc1 (Kd.C_of_reads (d := (0 : Int)) (h1 := fun _ => rfl) hr2) hc2 h).mono ?_
 rintro e w' ⟨rfl, hd⟩
 exact ⟨rfl, hd⟩
end Go.Proofs.Ytienlgcjohpphaa.P
/- FnExactKeysOf: of all arguments both pairs of answers are one; no list is changed, and no two calls share what is answered. -/
namespace Go.Proofs.Ytienlgcjohpphaa.Pure
open Go.RowKit Go.Proofs.Ytienlgcjohpphaa.P Go.Proofs.Ytienlgcjohpphaa.B Go.Proofs.YtienlgcjohpphaaW.PrintWords Go.Proofs.YtienlgcjohpphaaW.PrintLast Go.Proofs.YtienlgcjohpphaaW.PrintMore
theorem FnExactKeysOf : laws_FnExactKeysOf.Pure := by
  intro a b c _ _ haw _ _ hbw _ _ hcw
  have ha8 := wf8 haw
  have hb8 := wf8 hbw
  have hc8 := wf8 hcw
  refine ⟨a.length + b.length + c.length + 9999, ?_⟩
  unfold laws_FnExactKeysOf.f
  by_cases q0 : (a.length : Int) > 1048576
  · rw [if_pos q0]
  · rw [if_neg q0]
    by_cases q1 : (b.length : Int) > 1048576
    · rw [if_pos q1]
    · rw [if_neg q1]
      by_cases q2 : (c.length : Int) > 1048576
      · rw [if_pos q2]
      · rw [if_neg q2]
        have s := specKeys a b c ha8 hb8 hc8 (by omega) (a.length + b.length + c.length + 9999) (by omega)
        have i := implKeys a b c (by omega) (a.length + b.length + c.length + 9999) (by omega)
        have i2 := implKeys a b c (by omega) (a.length + b.length + c.length + 9997) (by omega)
        have h1 : ((keysL a b c).take 32).length = 32 := by rw [List.length_take, keysL_length]; rfl
        have h2 : ((keysL a b c).drop 32).length = 12 := by rw [List.length_drop, keysL_length]
        generalize (keysL a b c).take 32 = x at s i i2 h1
        generalize (keysL a b c).drop 32 = y at s i i2 h2
        have e : ¬ ((1 : Int) + (a.length : Int) + (b.length : Int) + (c.length : Int) < 0) := by omega
        have e1 : ¬ ((1 : Int) + (x.length : Int) < 0) := by omega
        have e2 : ¬ ((1 : Int) + (x.length : Int) + (y.length : Int) < 0) := by omega
        simp (disch := omega) only [toByteS, s, i, eqByteS_same, Option.bind_some, if_true, Bool.not_true]
        rw [laws_FnExactKeysOf.j0, if_neg (by decide)]
        simp (disch := omega) only [toByteS, eqByteS_same, markByteS, Option.bind_some, if_true, e, if_false, Bool.not_true]
        rw [laws_FnExactKeysOf.j1, if_neg (by decide)]
        simp (disch := omega) only [toByteS, i2, eqByteS_same, markByteS, heldByteS, Option.bind_some, if_true, e1, e2, if_false, Bool.not_true]
        rw [laws_FnExactKeysOf.j2, if_neg (by decide)]
        simp (disch := omega) only [heldByteS, Option.bind_some, if_true, e1, e2, if_false]
end Go.Proofs.Ytienlgcjohpphaa.Pure
