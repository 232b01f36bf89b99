import Derived.Test.YtienlgcjohpphaaM38
namespace Go.Proofs.Ytienlgcjohpphaa.P
open Go.RowKit Go.Proofs.YtienlgcjohpphaaW.PrintWords Go.Proofs.YtienlgcjohpphaaW.PrintLast Go.Proofs.YtienlgcjohpphaaW.PrintMore
attribute [local go_sem] zdd zde zdy zdz zcb zcc zdf zdg   -- for this text's walks alone
set_option linter.unusedVariables false
set_option linter.unusedSimpArgs false

def spec_DrawExpand.f (k : Nat) (l0 : List Int) : Option (List Int × List Int × Int) := (spec_l1New.f k l0).bind fun bt1307 => ((spec_l4DrawKey.f k bt1307.1 bt1307.2.1 bt1307.2.2).bind fun bt1311 => ((spec_l1DrawBytes.f k bt1307.1 bt1311.2.1 bt1311.2.2 12).bind fun bt1316 => ((spec_l4DrawMany.f bt1307.1 bt1316.2.1 bt1316.2.2).bind fun bt1321 => (some (bt1311.1, bt1316.1, bt1321.1)))))
theorem spec_DrawExpand.mono : ∀ a0 k, LeO (spec_DrawExpand.f k a0) (spec_DrawExpand.f (k + 1) a0) := by
 intro a0 k
 unfold spec_DrawExpand.f
 repeat' first
   | (with_reducible exact spec_l1DrawBytes.mono _ _ _ _ _)
   | (with_reducible exact spec_l1New.mono _ _)
   | (with_reducible exact spec_l4DrawKey.mono _ _ _ _)
   | (with_reducible exact zcf _)
   | (with_reducible exact zcj _)
   | (with_reducible refine zdp ?_ ?_)
   | (with_reducible refine zcg ?_ (fun _ => ?_))
set_option maxHeartbeats 8000000 in
set_option maxRecDepth 100000 in
theorem spec_DrawExpand.calls (k : Nat) (A0 : Option Addr) (c0 : Nat) (l0 : List Int) (r1 : List Int) (r2 : List Int) (r3 : Int) (w : World) (hr0 : Kd.C (Kd.int .u8) w A0 l0.length l0) (hc0 : l0.length ≤ c0) (h : spec_DrawExpand.f k l0 = some (r1, r2, r3)) :
  Calls Try.prog 53 #[.slice A0 l0.length c0] w fun e w' => ∃ v0_ v1_ : Value, e = .returned (.tuple #[v0_, v1_, .int .i64 r3]) ∧ Kd.R (Kd.int .u8) 5 w' w.heap.size (fun k_ => some k_ ≠ (v1_ : Value).ownBlock) v0_ r1 ∧ Kd.R (Kd.int .u8) 5 w' w.heap.size (fun k_ => some k_ ≠ (v0_ : Value).ownBlock) v1_ r2 ∧ Below w.heap.size w w' := by
 have HR0 := Aside0.mk hr0
 have HC0 := Aside0.mk hc0
 clear hr0 hc0
 have HB := Aside0.mk (zbq w.heap.size w)
 have H : ((spec_l1New.f k l0).bind fun bt1307 => ((spec_l4DrawKey.f k bt1307.1 bt1307.2.1 bt1307.2.2).bind fun bt1311 => ((spec_l1DrawBytes.f k bt1307.1 bt1311.2.1 bt1311.2.2 12).bind fun bt1316 => ((spec_l4DrawMany.f bt1307.1 bt1316.2.1 bt1316.2.2).bind fun bt1321 => (some (bt1311.1, bt1316.1, bt1321.1)))))) = some (r1, r2, r3) := h
 clear h
 replace H := zaj.mp H
 obtain ⟨⟨t1307, t1308, t1309⟩, A20, H⟩ := H
 try dsimp only at H
 have A2 := Aside0.mk A20
 clear A20
 replace H := zaj.mp H
 obtain ⟨⟨t1311, t1314, t1315⟩, A30, H⟩ := H
 try dsimp only at H
 have A3 := Aside0.mk A30
 clear A30
 replace H := zaj.mp H
 obtain ⟨⟨t1316, t1319, t1320⟩, A40, H⟩ := H
 try dsimp only at H
 have A4 := Aside0.mk A40
 clear A40
 replace H := zaj.mp H
 obtain ⟨⟨t1321, t1322, t1323⟩, A50, H⟩ := H
 try dsimp only at H
 have A5 := Aside0.mk A50
 clear A50
 simp only [zdb, zee] at H
 obtain ⟨rfl, rfl, rfl⟩ := H
 go_enter Try.func53, Try.ntmps53
 go_wp2_with (first | ((with_reducible refine zbc (f := 78) rfl ?_); refine goesL_ (some 9) rfl rfl Try.func78 (by kernel_rfl) rfl #[.slice A0 l0.length c0] rfl (by (try simp only [zap, zau, zav]); first | done | rfl) ?_; (with_reducible refine (spec_l1New.calls k _ _ l0 t1307 t1308 t1309 w _ ?side1 ?side2 ?side3 A2.out).mono ?_); (case side1 => repeat (first | (with_reducible first | exact HB.out | apply zai | apply zad | apply zah) | exact HB.out)); (case side2 => exact HR0.out); (case side3 => exact HC0.out); rintro e w6 ⟨g1310, rfl, hi, hb, hb2⟩; refine ⟨_, rfl, ?_⟩; have n0_ := Aside0.mk (hb); have n1_ := Aside0.mk (hi); clear HB; have HB := n0_; have HI1310 := n1_; clear n0_ n1_; (try clear hb); (try clear hb2); (try clear hk); (try clear hi)) | ((with_reducible refine zbc (f := 95) rfl ?_); refine goesL_ (some 11) rfl rfl Try.func95 (by kernel_rfl) rfl #[.pointer (some ⟨g1310, 0, none⟩)] rfl (by (try simp only [zap, zau, zav]); first | done | rfl) ?_; (with_reducible refine (spec_l4DrawKey.calls k g1310 t1307 t1308 t1309 t1311 t1314 t1315 w _ ?side1 ?side2 A3.out).mono ?_); (case side1 => repeat (first | (with_reducible first | exact HI1310.out | apply IsS85.alloc | apply IsS85.drewN | apply IsS85.drew | apply IsS85.set_1 | apply IsS85.set_2) | exact HI1310.out)); (case side2 => repeat (first | (with_reducible first | exact HB.out | apply zai | apply zad | apply zah | refine zby ?_ (IsS85.ge HI1310.out)) | exact HB.out)); rintro e w7 ⟨v1312, rfl, ho0, hi, hb, hk⟩; refine ⟨_, rfl, ?_⟩; have n0_ := Aside0.mk (zbj ho0 (zax (by repeat (first | (with_reducible first | exact HB.out | apply zai | apply zad | apply zah | refine zby ?_ (IsS85.ge HI1310.out)) | exact HB.out)))); have n1_ := Aside0.mk (hb); have n2_ := Aside0.mk (hi); clear HB HI1310; have HO1313 := n0_; have HB := n1_; have HI1310 := n2_; clear n0_ n1_ n2_; clear hb hk hi ho0) | ((with_reducible refine zbc (f := 96) rfl ?_); refine goesL_ (some 13) rfl rfl Try.func96 (by kernel_rfl) rfl #[.pointer (some ⟨g1310, 0, none⟩), .int .i64 12] rfl (by (try simp only [zap, zau, zav]); first | done | rfl) ?_; (with_reducible refine (spec_l1DrawBytes.calls k g1310 t1307 t1314 t1315 12 t1316 t1319 t1320 w _ ?side1 ?side2 A4.out).mono ?_); (case side1 => repeat (first | (with_reducible first | exact HI1310.out | apply IsS85.alloc | apply IsS85.drewN | apply IsS85.drew | apply IsS85.set_1 | apply IsS85.set_2) | exact HI1310.out)); (case side2 => repeat (first | (with_reducible first | exact HB.out | apply zai | apply zad | apply zah | refine zby ?_ (IsS85.ge HI1310.out)) | exact HB.out)); rintro e w8 ⟨v1317, rfl, ho0, hi, hb, hk⟩; refine ⟨_, rfl, ?_⟩; have n0_ := Aside0.mk (zbe (zds (Kd.R_oldK (IsS85.apart (show IsS85 w _ g1310 t1307 t1314 t1315 from by repeat (first | (with_reducible first | exact HI1310.out | apply IsS85.alloc | apply IsS85.drewN | apply IsS85.drew | apply IsS85.set_1 | apply IsS85.set_2) | exact HI1310.out)) (by (with_reducible repeat (first | apply zab | apply zac | apply zae)); exact HO1313.out) (by decide)) hk) (zal ho0)) (fun _ h_ => h_.1)); have n1_ := Aside0.mk (zbj (zam ho0 (zat (by (with_reducible repeat (first | apply zab | apply zac | apply zae)); exact HO1313.out))) (zax (by repeat (first | (with_reducible first | exact HB.out | apply zai | apply zad | apply zah | refine zby ?_ (IsS85.ge HI1310.out)) | exact HB.out)))); have n2_ := Aside0.mk (hb); have n3_ := Aside0.mk (hi); clear HO1313 HB HI1310; have HO1313 := n0_; have HO1318 := n1_; have HB := n2_; have HI1310 := n3_; clear n0_ n1_ n2_ n3_; clear hb hk hi ho0) | ((with_reducible refine zbc (f := 97) rfl ?_); refine goesL_ (some 17) rfl rfl Try.func97 (by kernel_rfl) rfl #[.pointer (some ⟨g1310, 0, none⟩)] rfl (by (try simp only [zap, zau, zav]); first | done | rfl) ?_; (with_reducible refine (spec_l4DrawMany.calls g1310 t1307 t1319 t1320 t1321 t1322 t1323 w _ ?side1 ?side2 A5.out).mono ?_); (case side1 => repeat (first | (with_reducible first | exact HI1310.out | apply IsS85.alloc | apply IsS85.drewN | apply IsS85.drew | apply IsS85.set_1 | apply IsS85.set_2) | exact HI1310.out)); (case side2 => repeat (first | (with_reducible first | exact HB.out | apply zai | apply zad | apply zah | refine zby ?_ (IsS85.ge HI1310.out)) | exact HB.out)); rintro e w9 ⟨rfl, hi, hb, hk⟩; refine ⟨_, rfl, ?_⟩; have n0_ := Aside0.mk (zbe (Kd.R_keep (IsS85.apart (show IsS85 w _ g1310 t1307 t1319 t1320 from by repeat (first | (with_reducible first | exact HI1310.out | apply IsS85.alloc | apply IsS85.drewN | apply IsS85.drew | apply IsS85.set_1 | apply IsS85.set_2) | exact HI1310.out)) (by (with_reducible repeat (first | apply zab | apply zac | apply zae)); exact HO1313.out) (by decide)) hk (fun _ h => h.2)) (fun _ h => h.1)); have n1_ := Aside0.mk (zbe (Kd.R_keep (IsS85.apart (show IsS85 w _ g1310 t1307 t1319 t1320 from by repeat (first | (with_reducible first | exact HI1310.out | apply IsS85.alloc | apply IsS85.drewN | apply IsS85.drew | apply IsS85.set_1 | apply IsS85.set_2) | exact HI1310.out)) (by (with_reducible repeat (first | apply zab | apply zac | apply zae)); exact HO1318.out) (by decide)) hk (fun _ h => h.2)) (fun _ h => h.1)); have n2_ := Aside0.mk (hb); have n3_ := Aside0.mk (hi); clear HO1313 HO1318 HB HI1310; have HO1313 := n0_; have HO1318 := n1_; have HB := n2_; have HI1310 := n3_; clear n0_ n1_ n2_ n3_; (try clear hb); (try clear hb2); (try clear hk); (try clear hi)))
 go_ret3
 exact ⟨_, _, by first | rfl | (simp [zbk, zbl] <;> rfl) | (simp [*, zbk, zbl] <;> rfl), by (with_reducible repeat (first | apply zab | apply zac | apply zae)); exact zbe HO1313.out (fun _ hk => hk.2), by (with_reducible repeat (first | apply zab | apply zac | apply zae)); exact zbe HO1318.out (fun _ hk => hk.2), by repeat (first | (with_reducible first | exact HB.out | apply zai | apply zad | apply zah | refine zby ?_ (IsS85.ge HI1310.out)) | exact HB.out)⟩
def spec_DrawDerive.f (k : Nat) (l0 : List Int) : Option (List Int × List Int × List Int × Int) := (spec_l1New.f k l0).bind fun bt1324 => ((spec_l4DrawKey.f k bt1324.1 bt1324.2.1 bt1324.2.2).bind fun bt1328 => ((spec_l1DrawBytes.f k bt1324.1 bt1328.2.1 bt1328.2.2 40).bind fun bt1333 => ((spec_l1DrawBytes.f k bt1324.1 bt1333.2.1 bt1333.2.2 12).bind fun bt1338 => ((spec_l4DrawMany.f bt1324.1 bt1338.2.1 bt1338.2.2).bind fun bt1343 => (some (bt1328.1, bt1333.1, bt1338.1, bt1343.1))))))
theorem spec_DrawDerive.mono : ∀ a0 k, LeO (spec_DrawDerive.f k a0) (spec_DrawDerive.f (k + 1) a0) := by
 intro a0 k
 unfold spec_DrawDerive.f
 repeat' first
   | (with_reducible exact spec_l1DrawBytes.mono _ _ _ _ _)
   | (with_reducible exact spec_l1New.mono _ _)
   | (with_reducible exact spec_l4DrawKey.mono _ _ _ _)
   | (with_reducible exact zcf _)
   | (with_reducible exact zcj _)
   | (with_reducible refine zdp ?_ ?_)
   | (with_reducible refine zcg ?_ (fun _ => ?_))
set_option maxHeartbeats 8000000 in
set_option maxRecDepth 100000 in
theorem spec_DrawDerive.calls (k : Nat) (A0 : Option Addr) (c0 : Nat) (l0 : List Int) (r1 : List Int) (r2 : List Int) (r3 : List Int) (r4 : Int) (w : World) (hr0 : Kd.C (Kd.int .u8) w A0 l0.length l0) (hc0 : l0.length ≤ c0) (h : spec_DrawDerive.f k l0 = some (r1, r2, r3, r4)) :
  Calls Try.prog 54 #[.slice A0 l0.length c0] w fun e w' => ∃ v0_ v1_ v2_ : Value, e = .returned (.tuple #[v0_, v1_, v2_, .int .i64 r4]) ∧ Kd.R (Kd.int .u8) 5 w' w.heap.size (fun k_ => some k_ ≠ (v1_ : Value).ownBlock ∧ some k_ ≠ (v2_ : Value).ownBlock) v0_ r1 ∧ Kd.R (Kd.int .u8) 5 w' w.heap.size (fun k_ => some k_ ≠ (v0_ : Value).ownBlock ∧ some k_ ≠ (v2_ : Value).ownBlock) v1_ r2 ∧ Kd.R (Kd.int .u8) 5 w' w.heap.size (fun k_ => some k_ ≠ (v0_ : Value).ownBlock ∧ some k_ ≠ (v1_ : Value).ownBlock) v2_ r3 ∧ Below w.heap.size w w' := by
 have HR0 := Aside0.mk hr0
 have HC0 := Aside0.mk hc0
 clear hr0 hc0
 have HB := Aside0.mk (zbq w.heap.size w)
 have H : ((spec_l1New.f k l0).bind fun bt1324 => ((spec_l4DrawKey.f k bt1324.1 bt1324.2.1 bt1324.2.2).bind fun bt1328 => ((spec_l1DrawBytes.f k bt1324.1 bt1328.2.1 bt1328.2.2 40).bind fun bt1333 => ((spec_l1DrawBytes.f k bt1324.1 bt1333.2.1 bt1333.2.2 12).bind fun bt1338 => ((spec_l4DrawMany.f bt1324.1 bt1338.2.1 bt1338.2.2).bind fun bt1343 => (some (bt1328.1, bt1333.1, bt1338.1, bt1343.1))))))) = some (r1, r2, r3, r4) := h
 clear h
 replace H := zaj.mp H
 obtain ⟨⟨t1324, t1325, t1326⟩, A20, H⟩ := H
 try dsimp only at H
 have A2 := Aside0.mk A20
 clear A20
 replace H := zaj.mp H
 obtain ⟨⟨t1328, t1331, t1332⟩, A30, H⟩ := H
 try dsimp only at H
 have A3 := Aside0.mk A30
 clear A30
 replace H := zaj.mp H
 obtain ⟨⟨t1333, t1336, t1337⟩, A40, H⟩ := H
 try dsimp only at H
 have A4 := Aside0.mk A40
 clear A40
 replace H := zaj.mp H
 obtain ⟨⟨t1338, t1341, t1342⟩, A50, H⟩ := H
 try dsimp only at H
 have A5 := Aside0.mk A50
 clear A50
 replace H := zaj.mp H
 obtain ⟨⟨t1343, t1344, t1345⟩, A60, H⟩ := H
 try dsimp only at H
 have A6 := Aside0.mk A60
 clear A60
 simp only [zdb, zee] at H
 obtain ⟨rfl, rfl, rfl, rfl⟩ := H
 go_enter Try.func54, Try.ntmps54
 go_wp2_with (first | ((with_reducible refine zbc (f := 78) rfl ?_); refine goesL_ (some 11) rfl rfl Try.func78 (by kernel_rfl) rfl #[.slice A0 l0.length c0] rfl (by (try simp only [zap, zau, zav]); first | done | rfl) ?_; (with_reducible refine (spec_l1New.calls k _ _ l0 t1324 t1325 t1326 w _ ?side1 ?side2 ?side3 A2.out).mono ?_); (case side1 => repeat (first | (with_reducible first | exact HB.out | apply zai | apply zad | apply zah) | exact HB.out)); (case side2 => exact HR0.out); (case side3 => exact HC0.out); rintro e w7 ⟨g1327, rfl, hi, hb, hb2⟩; refine ⟨_, rfl, ?_⟩; have n0_ := Aside0.mk (hb); have n1_ := Aside0.mk (hi); clear HB; have HB := n0_; have HI1327 := n1_; clear n0_ n1_; (try clear hb); (try clear hb2); (try clear hk); (try clear hi)) | ((with_reducible refine zbc (f := 95) rfl ?_); refine goesL_ (some 13) rfl rfl Try.func95 (by kernel_rfl) rfl #[.pointer (some ⟨g1327, 0, none⟩)] rfl (by (try simp only [zap, zau, zav]); first | done | rfl) ?_; (with_reducible refine (spec_l4DrawKey.calls k g1327 t1324 t1325 t1326 t1328 t1331 t1332 w _ ?side1 ?side2 A3.out).mono ?_); (case side1 => repeat (first | (with_reducible first | exact HI1327.out | apply IsS85.alloc | apply IsS85.drewN | apply IsS85.drew | apply IsS85.set_1 | apply IsS85.set_2) | exact HI1327.out)); (case side2 => repeat (first | (with_reducible first | exact HB.out | apply zai | apply zad | apply zah | refine zby ?_ (IsS85.ge HI1327.out)) | exact HB.out)); rintro e w8 ⟨v1329, rfl, ho0, hi, hb, hk⟩; refine ⟨_, rfl, ?_⟩; have n0_ := Aside0.mk (zbj ho0 (zax (by repeat (first | (with_reducible first | exact HB.out | apply zai | apply zad | apply zah | refine zby ?_ (IsS85.ge HI1327.out)) | exact HB.out)))); have n1_ := Aside0.mk (hb); have n2_ := Aside0.mk (hi); clear HB HI1327; have HO1330 := n0_; have HB := n1_; have HI1327 := n2_; clear n0_ n1_ n2_; clear hb hk hi ho0) | ((with_reducible refine zbc (f := 96) rfl ?_); refine goesL_ (some 15) rfl rfl Try.func96 (by kernel_rfl) rfl #[.pointer (some ⟨g1327, 0, none⟩), .int .i64 40] rfl (by (try simp only [zap, zau, zav]); first | done | rfl) ?_; (with_reducible refine (spec_l1DrawBytes.calls k g1327 t1324 t1331 t1332 40 t1333 t1336 t1337 w _ ?side1 ?side2 A4.out).mono ?_); (case side1 => repeat (first | (with_reducible first | exact HI1327.out | apply IsS85.alloc | apply IsS85.drewN | apply IsS85.drew | apply IsS85.set_1 | apply IsS85.set_2) | exact HI1327.out)); (case side2 => repeat (first | (with_reducible first | exact HB.out | apply zai | apply zad | apply zah | refine zby ?_ (IsS85.ge HI1327.out)) | exact HB.out)); rintro e w9 ⟨v1334, rfl, ho0, hi, hb, hk⟩; refine ⟨_, rfl, ?_⟩; have n0_ := Aside0.mk (zbe (zds (Kd.R_oldK (IsS85.apart (show IsS85 w _ g1327 t1324 t1331 t1332 from by repeat (first | (with_reducible first | exact HI1327.out | apply IsS85.alloc | apply IsS85.drewN | apply IsS85.drew | apply IsS85.set_1 | apply IsS85.set_2) | exact HI1327.out)) (by (with_reducible repeat (first | apply zab | apply zac | apply zae)); exact HO1330.out) (by decide)) hk) (zal ho0)) (fun _ h_ => h_.1)); have n1_ := Aside0.mk (zbj (zam ho0 (zat (by (with_reducible repeat (first | apply zab | apply zac | apply zae)); exact HO1330.out))) (zax (by repeat (first | (with_reducible first | exact HB.out | apply zai | apply zad | apply zah | refine zby ?_ (IsS85.ge HI1327.out)) | exact HB.out)))); have n2_ := Aside0.mk (hb); have n3_ := Aside0.mk (hi); clear HO1330 HB HI1327; have HO1330 := n0_; have HO1335 := n1_; have HB := n2_; have HI1327 := n3_; clear n0_ n1_ n2_ n3_; clear hb hk hi ho0) | ((with_reducible refine zbc (f := 96) rfl ?_); refine goesL_ (some 17) rfl rfl Try.func96 (by kernel_rfl) rfl #[.pointer (some ⟨g1327, 0, none⟩), .int .i64 12] rfl (by (try simp only [zap, zau, zav]); first | done | rfl) ?_; (with_reducible refine (spec_l1DrawBytes.calls k g1327 t1324 t1336 t1337 12 t1338 t1341 t1342 w _ ?side1 ?side2 A5.out).mono ?_); (case side1 => repeat (first | (with_reducible first | exact HI1327.out | apply IsS85.alloc | apply IsS85.drewN | apply IsS85.drew | apply IsS85.set_1 | apply IsS85.set_2) | exact HI1327.out)); (case side2 => repeat (first | (with_reducible first | exact HB.out | apply zai | apply zad | apply zah | refine zby ?_ (IsS85.ge HI1327.out)) | exact HB.out)); rintro e w10 ⟨v1339, rfl, ho0, hi, hb, hk⟩; refine ⟨_, rfl, ?_⟩; have n0_ := Aside0.mk (zbe (zds (Kd.R_oldK (IsS85.apart (show IsS85 w _ g1327 t1324 t1336 t1337 from by repeat (first | (with_reducible first | exact HI1327.out | apply IsS85.alloc | apply IsS85.drewN | apply IsS85.drew | apply IsS85.set_1 | apply IsS85.set_2) | exact HI1327.out)) (by (with_reducible repeat (first | apply zab | apply zac | apply zae)); exact HO1330.out) (by decide)) hk) (zal ho0)) (fun _ h_ => h_.1)); have n1_ := Aside0.mk (zbe (zds (Kd.R_oldK (IsS85.apart (show IsS85 w _ g1327 t1324 t1336 t1337 from by repeat (first | (with_reducible first | exact HI1327.out | apply IsS85.alloc | apply IsS85.drewN | apply IsS85.drew | apply IsS85.set_1 | apply IsS85.set_2) | exact HI1327.out)) (by (with_reducible repeat (first | apply zab | apply zac | apply zae)); exact HO1335.out) (by decide)) hk) (zal ho0)) (fun _ h_ => h_.1)); have n2_ := Aside0.mk (zbj (zam (zam ho0 (zat (by (with_reducible repeat (first | apply zab | apply zac | apply zae)); exact HO1330.out))) (zat (by (with_reducible repeat (first | apply zab | apply zac | apply zae)); exact HO1335.out))) (zax (by repeat (first | (with_reducible first | exact HB.out | apply zai | apply zad | apply zah | refine zby ?_ (IsS85.ge HI1327.out)) | exact HB.out)))); have n3_ := Aside0.mk (hb); have n4_ := Aside0.mk (hi); clear HO1330 HO1335 HB HI1327; have HO1330 := n0_; have HO1335 := n1_; have HO1340 := n2_; have HB := n3_; have HI1327 := n4_; clear n0_ n1_ n2_ n3_ n4_; clear hb hk hi ho0) | ((with_reducible refine zbc (f := 97) rfl ?_); refine goesL_ (some 22) rfl rfl Try.func97 (by kernel_rfl) rfl #[.pointer (some ⟨g1327, 0, none⟩)] rfl (by (try simp only [zap, zau, zav]); first | done | rfl) ?_; (with_reducible refine (spec_l4DrawMany.calls g1327 t1324 t1341 t1342 t1343 t1344 t1345 w _ ?side1 ?side2 A6.out).mono ?_); (case side1 => repeat (first | (with_reducible first | exact HI1327.out | apply IsS85.alloc | apply IsS85.drewN | apply IsS85.drew | apply IsS85.set_1 | apply IsS85.set_2) | exact HI1327.out)); (case side2 => repeat (first | (with_reducible first | exact HB.out | apply zai | apply zad | apply zah | refine zby ?_ (IsS85.ge HI1327.out)) | exact HB.out)); rintro e w11 ⟨rfl, hi, hb, hk⟩; refine ⟨_, rfl, ?_⟩; have n0_ := Aside0.mk (zbe (Kd.R_keep (IsS85.apart (show IsS85 w _ g1327 t1324 t1341 t1342 from by repeat (first | (with_reducible first | exact HI1327.out | apply IsS85.alloc | apply IsS85.drewN | apply IsS85.drew | apply IsS85.set_1 | apply IsS85.set_2) | exact HI1327.out)) (by (with_reducible repeat (first | apply zab | apply zac | apply zae)); exact HO1330.out) (by decide)) hk (fun _ h => h.2)) (fun _ h => h.1)); have n1_ := Aside0.mk (zbe (Kd.R_keep (IsS85.apart (show IsS85 w _ g1327 t1324 t1341 t1342 from by repeat (first | (with_reducible first | exact HI1327.out | apply IsS85.alloc | apply IsS85.drewN | apply IsS85.drew | apply IsS85.set_1 | apply IsS85.set_2) | exact HI1327.out)) (by (with_reducible repeat (first | apply zab | apply zac | apply zae)); exact HO1335.out) (by decide)) hk (fun _ h => h.2)) (fun _ h => h.1)); have n2_ := Aside0.mk (zbe (Kd.R_keep (IsS85.apart (show IsS85 w _ g1327 t1324 t1341 t1342 from by repeat (first | (with_reducible first | exact HI1327.out | apply IsS85.alloc | apply IsS85.drewN | apply IsS85.drew | apply IsS85.set_1 | apply IsS85.set_2) | exact HI1327.out)) (by (with_reducible repeat (first | apply zab | apply zac | apply zae)); exact HO1340.out) (by decide)) hk (fun _ h => h.2)) (fun _ h => h.1)); have n3_ := Aside0.mk (hb); have n4_ := Aside0.mk (hi); clear HO1330 HO1335 HO1340 HB HI1327; have HO1330 := n0_; have HO1335 := n1_; have HO1340 := n2_; have HB := n3_; have HI1327 := n4_; clear n0_ n1_ n2_ n3_ n4_; (try clear hb); (try clear hb2); (try clear hk); (try clear hi)))
 refine bodyPost_ret (results_list (rs := [.tmp 2, .tmp 3, .tmp 4, .tmp 5]) rfl (by simp) (.tmp (.tmp (.tmp (.tmp .nil))))) rfl ?_
 exact ⟨_, _, _, by first | rfl | (simp [zbk, zbl] <;> rfl) | (simp [*, zbk, zbl] <;> rfl), by (with_reducible repeat (first | apply zab | apply zac | apply zae)); exact zbe HO1330.out (fun _ hk => ⟨hk.1.2, hk.2⟩), by (with_reducible repeat (first | apply zab | apply zac | apply zae)); exact zbe HO1335.out (fun _ hk => ⟨hk.1.2, hk.2⟩), by (with_reducible repeat (first | apply zab | apply zac | apply zae)); exact zbe HO1340.out (fun _ hk => ⟨hk.1.2, hk.2⟩), by repeat (first | (with_reducible first | exact HB.out | apply zai | apply zad | apply zah | refine zby ?_ (IsS85.ge HI1327.out)) | exact HB.out)⟩
def laws_minOf.f (a0 : Int) (a1 : Int) : Option (Int) := if a0 < a1 then (some a0) else (some a1)
set_option maxHeartbeats 8000000 in
set_option maxRecDepth 100000 in
theorem laws_minOf.calls (a0 : Int) (a1 : Int) (r : Int) (w : World) (h : laws_minOf.f a0 a1 = some r) :
  Calls Try.prog 55 #[.int .i64 a0, .int .i64 a1] w fun e w' => e = .returned (.int .i64 r) ∧ Drawn0 w w' := by
 have H : (if a0 < a1 then (some a0) else (some a1)) = some r := h
 clear h
 by_cases c3 : a0 < a1
 ·rw [if_pos c3] at H
  have c3b0 : decide (a0 < a1) = true := zaq c3
  clear c3
  obtain rfl := Option.some.inj H
  go_enter Try.func55, Try.ntmps55
  go_wp2
  go_ret
  exact ⟨by first | rfl | (simp; done) | (simp [*]; done), by repeat (first | exact Drawn0.refl _ | apply Drawn0.step)⟩
 ·rw [if_neg c3] at H
  have c3b0 : decide (a0 < a1) = false := zbr c3
  clear c3
  obtain rfl := Option.some.inj H
  go_enter Try.func55, Try.ntmps55
  go_wp2
  go_ret
  exact ⟨by first | rfl | (simp; done) | (simp [*]; done), by repeat (first | exact Drawn0.refl _ | apply Drawn0.step)⟩
end Go.Proofs.Ytienlgcjohpphaa.P
