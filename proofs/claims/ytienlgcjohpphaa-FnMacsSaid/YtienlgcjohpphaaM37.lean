import Derived.Test.YtienlgcjohpphaaM36
namespace Go.Proofs.Ytienlgcjohpphaa.P
open Go.RowKit Go.Proofs.YtienlgcjohpphaaW.PrintWords Go.Proofs.YtienlgcjohpphaaW.PrintLast Go.Proofs.YtienlgcjohpphaaW.PrintMore
attribute [local go_sem] zdd zde zdy zdz zcb zcc zdf zdg   -- for this text's walks alone
set_option linter.unusedVariables false
set_option linter.unusedSimpArgs false

def spec_DrawMac.f (k : Nat) (l0 : List Int) : Option (List Int × List Int) := (spec_l1New.f k l0).bind fun bt1272 => ((spec_l4DrawKey.f k bt1272.1 bt1272.2.1 bt1272.2.2).bind fun bt1276 => ((spec_l1Once.f bt1272.1 bt1276.2.1 bt1276.2.2 40).bind fun bt1281 => (if bt1281.1 = true then ((spec_l1Below.f bt1272.1 bt1281.2.1 bt1281.2.2 2).bind fun bt1284 => (if 0 ≤ (wrap64 (3936 + bt1284.1)) then (if (wrap64 (3936 + bt1284.1) : Int).toNat ≤ 281474976710656 then (some (bt1276.1, (List.replicate (wrap64 (3936 + bt1284.1) : Int).toNat 0))) else (none)) else (none))) else ((spec_l1DrawBytes.f k bt1272.1 bt1281.2.1 bt1281.2.2 40).bind fun bt1290 => (some (bt1276.1, bt1290.1))))))
theorem spec_DrawMac.mono : ∀ a0 k, LeO (spec_DrawMac.f k a0) (spec_DrawMac.f (k + 1) a0) := by
 intro a0 k
 unfold spec_DrawMac.f
 repeat' first
   | (with_reducible exact spec_l1DrawBytes.mono _ _ _ _ _)
   | (with_reducible exact spec_l1New.mono _ _)
   | (with_reducible exact spec_l4DrawKey.mono _ _ _ _)
   | (with_reducible exact zcf _)
   | (with_reducible exact zcj _)
   | (with_reducible refine zdp ?_ ?_)
   | (with_reducible refine zcg ?_ (fun _ => ?_))
set_option maxHeartbeats 8000000 in
set_option maxRecDepth 100000 in
theorem spec_DrawMac.calls (k : Nat) (A0 : Option Addr) (c0 : Nat) (l0 : List Int) (r1 : List Int) (r2 : List Int) (w : World) (hr0 : Kd.C (Kd.int .u8) w A0 l0.length l0) (hc0 : l0.length ≤ c0) (h : spec_DrawMac.f k l0 = some (r1, r2)) :
  Calls Try.prog 51 #[.slice A0 l0.length c0] w fun e w' => ∃ v0_ v1_ : Value, e = .returned (.tuple #[v0_, v1_]) ∧ Kd.R (Kd.int .u8) 5 w' w.heap.size (fun k_ => some k_ ≠ (v1_ : Value).ownBlock) v0_ r1 ∧ Kd.R (Kd.int .u8) 5 w' w.heap.size (fun k_ => some k_ ≠ (v0_ : Value).ownBlock) v1_ r2 ∧ Below w.heap.size w w' := by
 have HR0 := Aside0.mk hr0
 have HC0 := Aside0.mk hc0
 clear hr0 hc0
 have HB := Aside0.mk (zbq w.heap.size w)
 have H : ((spec_l1New.f k l0).bind fun bt1272 => ((spec_l4DrawKey.f k bt1272.1 bt1272.2.1 bt1272.2.2).bind fun bt1276 => ((spec_l1Once.f bt1272.1 bt1276.2.1 bt1276.2.2 40).bind fun bt1281 => (if bt1281.1 = true then ((spec_l1Below.f bt1272.1 bt1281.2.1 bt1281.2.2 2).bind fun bt1284 => (if 0 ≤ (wrap64 (3936 + bt1284.1)) then (if (wrap64 (3936 + bt1284.1) : Int).toNat ≤ 281474976710656 then (some (bt1276.1, (List.replicate (wrap64 (3936 + bt1284.1) : Int).toNat 0))) else (none)) else (none))) else ((spec_l1DrawBytes.f k bt1272.1 bt1281.2.1 bt1281.2.2 40).bind fun bt1290 => (some (bt1276.1, bt1290.1))))))) = some (r1, r2) := h
 clear h
 replace H := zaj.mp H
 obtain ⟨⟨t1272, t1273, t1274⟩, A20, H⟩ := H
 try dsimp only at H
 have A2 := Aside0.mk A20
 clear A20
 replace H := zaj.mp H
 obtain ⟨⟨t1276, t1279, t1280⟩, A30, H⟩ := H
 try dsimp only at H
 have A3 := Aside0.mk A30
 clear A30
 replace H := zaj.mp H
 obtain ⟨⟨t1281, t1282, t1283⟩, A40, H⟩ := H
 try dsimp only at H
 have A4 := Aside0.mk A40
 clear A40
 by_cases c5 : t1281 = true
 ·subst c5
  have H1 : ((spec_l1Below.f t1272 t1282 t1283 2).bind fun bt1284 => (if 0 ≤ (wrap64 (3936 + bt1284.1)) then (if (wrap64 (3936 + bt1284.1) : Int).toNat ≤ 281474976710656 then (some (t1276, (List.replicate (wrap64 (3936 + bt1284.1) : Int).toNat 0))) else (none)) else (none))) = some (r1, r2) := by rw [if_pos rfl] at H; exact H
  clear H
  have H := H1
  clear H1
  replace H := zaj.mp H
  obtain ⟨⟨t1284, t1285, t1286⟩, A60, H⟩ := H
  try dsimp only at H
  have A6 := Aside0.mk A60
  clear A60
  obtain ⟨ji7, hji7⟩ : ∃ j_ : Int, (wrap64 (3936 + t1284)) = j_ := ⟨_, rfl⟩
  replace H : (if 0 ≤ (ji7) then (if (ji7 : Int).toNat ≤ 281474976710656 then (some (t1276, (List.replicate (ji7 : Int).toNat 0))) else (none)) else (none)) = some (r1, r2) := by first | (rw [hji7] at H; exact H) | (simp only [hji7] at H ⊢; exact H)
  (try rw [hji7] at A2)
  (try rw [hji7] at A3)
  (try rw [hji7] at A4)
  (try rw [hji7] at A6)
  have hji7w : (IntKind.i64.wrap (3936 + t1284)) = ji7 := (i64_w _).trans hji7
  by_cases c8 : 0 ≤ (ji7)
  ·rw [if_pos c8] at H
   have c8b0 := zbn c8
   have c8b1 : decide (0 ≤ (ji7)) = true := zaq c8
   clear c8
   by_cases c9 : (ji7 : Int).toNat ≤ 281474976710656
   ·rw [if_pos c9] at H
    have c9b0 := zbn c9
    have c9b1 : decide ((ji7 : Int).toNat ≤ 281474976710656) = true := zaq c9
    clear c9
    obtain ⟨y1287, hy1287⟩ : ∃ y_ : List Int, y_ = (List.replicate (ji7 : Int).toNat 0) := ⟨_, rfl⟩
    replace H : (some (t1276, y1287)) = some (r1, r2) := by first | (rw [hy1287]; with_reducible first | exact H | exact bind_ofs H) | (with_reducible first | exact H | exact bind_ofs H) | (rw [hy1287]; exact H) | exact H
    have Ny1287 := Aside0.mk hy1287
    clear hy1287
    simp only [zdb, zee] at H
    obtain ⟨rfl, rfl⟩ := H
    go_enter Try.func51, Try.ntmps51
    try go_wp2_with (first | ((with_reducible refine zbc (f := 78) rfl ?_); refine goesL_ (some 7) rfl rfl Try.func78 (by kernel_rfl) rfl #[.slice A0 l0.length c0] rfl (by (try simp only [zap, zau, zav]); first | done | rfl | (simp only [zbp, zbo]; rfl) | (simp only [zbp, zbo]; rw [zdn (zeh.mpr (zer (by assumption)))])) ?_; (with_reducible refine (spec_l1New.calls k _ _ l0 t1272 t1273 t1274 w _ ?side1 ?side2 ?side3 A2.out).mono ?_); (case side1 => repeat (first | (with_reducible first | exact HB.out | apply zai | apply zad | apply zah) | exact HB.out)); (case side2 => exact HR0.out); (case side3 => exact HC0.out); rintro e w10 ⟨g1275, rfl, hi, hb, hb2⟩; refine ⟨_, rfl, ?_⟩; have n0_ := Aside0.mk (hb); have n1_ := Aside0.mk (hi); clear HB; have HB := n0_; have HI1275 := n1_; clear n0_ n1_; (try clear hb); (try clear hb2); (try clear hk); (try clear hi)) | ((with_reducible refine zbc (f := 95) rfl ?_); refine goesL_ (some 9) rfl rfl Try.func95 (by kernel_rfl) rfl #[.pointer (some ⟨g1275, 0, none⟩)] rfl (by (try simp only [zap, zau, zav]); first | done | rfl | (simp only [zbp, zbo]; rfl) | (simp only [zbp, zbo]; rw [zdn (zeh.mpr (zer (by assumption)))])) ?_; (with_reducible refine (spec_l4DrawKey.calls k g1275 t1272 t1273 t1274 t1276 t1279 t1280 w _ ?side1 ?side2 A3.out).mono ?_); (case side1 => repeat (first | (with_reducible first | exact HI1275.out | apply IsS85.alloc | apply IsS85.drewN | apply IsS85.drew | apply IsS85.set_1 | apply IsS85.set_2) | exact HI1275.out)); (case side2 => repeat (first | (with_reducible first | exact HB.out | apply zai | apply zad | apply zah | refine zby ?_ (IsS85.ge HI1275.out)) | exact HB.out)); rintro e w11 ⟨v1277, rfl, ho0, hi, hb, hk⟩; refine ⟨_, rfl, ?_⟩; have n0_ := Aside0.mk (zbj ho0 (zax (by repeat (first | (with_reducible first | exact HB.out | apply zai | apply zad | apply zah | refine zby ?_ (IsS85.ge HI1275.out)) | exact HB.out)))); have n1_ := Aside0.mk (hb); have n2_ := Aside0.mk (hi); clear HB; clear HI1275; have HO1278 := n0_; have HB := n1_; have HI1275 := n2_; clear n0_ n1_ n2_; (try clear hb); (try clear hb2); (try clear hk); (try clear hi); (try clear ho0)) | ((with_reducible refine zbc (f := 81) rfl ?_); refine goesL_ (some 11) rfl rfl Try.func81 (by kernel_rfl) rfl #[.pointer (some ⟨g1275, 0, none⟩), .int .i64 40] rfl (by (try simp only [zap, zau, zav]); first | done | rfl | (simp only [zbp, zbo]; rfl) | (simp only [zbp, zbo]; rw [zdn (zeh.mpr (zer (by assumption)))])) ?_; (with_reducible refine (spec_l1Once.calls g1275 t1272 t1279 t1280 40 true t1282 t1283 w _ ?side1 ?side2 A4.out).mono ?_); (case side1 => repeat (first | (with_reducible first | exact HI1275.out | apply IsS85.alloc | apply IsS85.drewN | apply IsS85.drew | apply IsS85.set_1 | apply IsS85.set_2) | exact HI1275.out)); (case side2 => repeat (first | (with_reducible first | exact HB.out | apply zai | apply zad | apply zah | refine zby ?_ (IsS85.ge HI1275.out)) | exact HB.out)); rintro e w12 ⟨rfl, hi, hb, hk⟩; refine ⟨_, rfl, ?_⟩; have n0_ := Aside0.mk (zbe (Kd.R_keep (IsS85.apart (show IsS85 w _ g1275 t1272 t1279 t1280 from by repeat (first | (with_reducible first | exact HI1275.out | apply IsS85.alloc | apply IsS85.drewN | apply IsS85.drew | apply IsS85.set_1 | apply IsS85.set_2) | exact HI1275.out)) (by (with_reducible repeat (first | apply zab | apply zac | apply zae)); exact HO1278.out) (by decide)) hk (fun _ h => h.2)) (fun _ h => h.1)); have n1_ := Aside0.mk (hb); have n2_ := Aside0.mk (hi); clear HO1278; clear HB; clear HI1275; have HO1278 := n0_; have HB := n1_; have HI1275 := n2_; clear n0_ n1_ n2_; (try clear hb); (try clear hb2); (try clear hk); (try clear hi)))
    have n0_ := Aside0.mk (zae HO1278.out)
    have n1_ := Aside0.mk (IsS85.drew HI1275.out)
    have n2_ := Aside0.mk (zah HB.out)
    clear HO1278
    clear HI1275
    clear HB
    have HO1278 := n0_
    have HI1275 := n1_
    have HB := n2_
    clear n0_ n1_ n2_
    refine start_ (n := 7) (S := fun w' => True) (ds := []) #[false, false, false, false, false, false, false] (by kernel_rfl) rfl rfl zbw (fun hHeld => ?_)
    generalize w12.drew = w13 at HO1278 HI1275 HB hHeld ⊢
    refine pure_ (i := 0) (N := some 12) (v := ?_) (a' := ?_) #[true, false, false, false, false, false, false] rfl rfl (by kernel_rfl) (fun _ _ _ h => h) (Or.inl ⟨by rfl, ?_⟩) ?_ ?_
    rotate_left
    ·intro w'
     go_simp
     with_reducible rfl
    rotate_left
    ·simp only [Act.put, zaa, zaf, zag, i64_w, i32_w]
     rfl
    refine pure_ (i := 1) (N := some 13) (v := ?_) (a' := ?_) #[true, true, false, false, false, false, false] rfl rfl (by kernel_rfl) (fun _ _ _ h => h) (Or.inl ⟨by rfl, ?_⟩) ?_ ?_
    rotate_left
    ·intro w'
     go_simp
     with_reducible rfl
    rotate_left
    ·simp only [Act.put, zaa, zaf, zag, i64_w, i32_w]
     rfl
    refine one_ (i := 2) (N := some 14) #[true, true, true, false, false, false, false] rfl rfl (by kernel_rfl) (by decide) (fun K hK => ?_)
    refine goes_ Try.func83 (by kernel_rfl) rfl #[.pointer (some ⟨g1275, 0, none⟩), .int .i64 2] (by rfl) rfl rfl (by (try simp only [zap, zau, zav]); first | done | rfl | (simp only [zbp, zbo]; rfl) | (simp only [zbp, zbo]; rw [zdn (zeh.mpr (zer (by assumption)))])) ?_
    with_reducible refine (spec_l1Below.calls g1275 t1272 t1282 t1283 2 t1284 t1285 t1286 w _ ?side1 ?side2 A6.out).mono ?_
    (case side1 => repeat (first | (with_reducible first | exact HI1275.out | apply IsS85.alloc | apply IsS85.drewN | apply IsS85.drew | apply IsS85.set_1 | apply IsS85.set_2) | exact HI1275.out))
    (case side2 => repeat (first | (with_reducible first | exact HB.out | apply zai | apply zad | apply zah | refine zby ?_ (IsS85.ge HI1275.out)) | exact HB.out))
    rintro e w14 ⟨rfl, hi, hb, hk⟩
    refine ⟨_, rfl, ?_⟩
    have n0_ := Aside0.mk (zbe (Kd.R_keep (IsS85.apart (show IsS85 w _ g1275 t1272 t1282 t1283 from by repeat (first | (with_reducible first | exact HI1275.out | apply IsS85.alloc | apply IsS85.drewN | apply IsS85.drew | apply IsS85.set_1 | apply IsS85.set_2) | exact HI1275.out)) (by (with_reducible repeat (first | apply zab | apply zac | apply zae)); exact HO1278.out) (by decide)) hk (fun _ h => h.2)) (fun _ h => h.1))
    have n1_ := Aside0.mk (hb)
    have n2_ := Aside0.mk (hi)
    clear HO1278
    clear HB
    clear HI1275
    have HO1278 := n0_
    have HB := n1_
    have HI1275 := n2_
    clear n0_ n1_ n2_
    (try clear hb)
    (try clear hb2)
    (try clear hk)
    (try clear hi)
    refine hK.out _ _ zbw (fun hHeld => ?_)
    clear hK K
    refine norm_ (a' := ?_) ?_ ?_
    rotate_left
    ·show Act.put _ (some 14) _ = _
     simp only [Act.put, zaa, zaf, zag, i64_w, i32_w]
     rfl
    refine pure_ (i := 3) (N := some 15) (v := ?_) (a' := ?_) #[true, true, true, true, false, false, false] rfl rfl (by kernel_rfl) (fun _ _ _ h => h) (Or.inl ⟨by rfl, ?_⟩) ?_ ?_
    rotate_left
    ·intro w'
     go_simp
     with_reducible rfl
    rotate_left
    ·simp only [Act.put, zaa, zaf, zag, i64_w, i32_w]
     rfl
    refine pure_ (i := 5) (N := some 2) (v := ?_) (a' := ?_) #[true, true, true, true, false, true, false] rfl rfl (by kernel_rfl) (fun _ _ _ h => h) (Or.inl ⟨by rfl, ?_⟩) ?_ ?_
    rotate_left
    ·intro w'
     go_simp
     with_reducible rfl
    rotate_left
    ·simp only [Act.put, zaa, zaf, zag, i64_w, i32_w]
     rfl
    refine one_ (i := 4) (N := some 16) #[true, true, true, true, true, true, false] rfl rfl (by kernel_rfl) (by decide) (fun K hK => ?_)
    refine Kd.R_make_step (Kd.int .u8) _ 5 (by rfl) (N := 16) rfl 23 _ _ rfl ji7 (by first | rfl | exact congrArg (Value.int .i64) hji7) (by first | rfl | exact congrArg (Value.int .i64) hji7) Try.underlying23 (.int .u8 0) 1 info5 rfl (by decide) (by omega) 0 (ok := fun _ => True) (okp := fun _ => True) rfl (fun _ hk => hk) zbw (zar (by first | (with_reducible assumption) | assumption)) (zff (Nat.mul_le_mul_right _ (zar (by first | (with_reducible assumption) | assumption) : ji7.toNat ≤ 281474976710656)) (by omega)) (zbq _ _) (zbi _) ?_
    intro v1288 w15 ho16 hb hg_ hnew_
    clear hg_ hnew_
    (first | rw [← Ny1287.out] at ho16 | (simp only [Int.reduceToNat] at ho16; rw [← Ny1287.out] at ho16))
    have n0_ := Aside0.mk (zak (by (with_reducible repeat (first | apply zab | apply zac | apply zae)); exact HO1278.out) (zal ho16) hb)
    have n1_ := Aside0.mk (zbj (zam ho16 (zat (by (with_reducible repeat (first | apply zab | apply zac | apply zae)); exact HO1278.out))) (zax (by repeat (first | (with_reducible first | exact HB.out | apply zai | apply zad | apply zah | refine zby ?_ (IsS85.ge HI1275.out)) | exact HB.out))))
    have n2_ := Aside0.mk (IsS85.below (by repeat (first | (with_reducible first | exact HI1275.out | apply IsS85.alloc | apply IsS85.drewN | apply IsS85.drew | apply IsS85.set_1 | apply IsS85.set_2) | exact HI1275.out)) hb)
    have n3_ := Aside0.mk (zbf (by repeat (first | (with_reducible first | exact HB.out | apply zai | apply zad | apply zah | refine zby ?_ (IsS85.ge HI1275.out)) | exact HB.out)) hb)
    clear HO1278
    clear HI1275
    clear HB
    have HO1278 := n0_
    have HO1289 := n1_
    have HI1275 := n2_
    have HB := n3_
    clear n0_ n1_ n2_ n3_
    clear hb ho16
    refine hK.out _ _ zbw (fun hHeld => ?_)
    clear hK K
    refine norm_ (a' := ?_) ?_ ?_
    rotate_left
    ·show Act.put _ (some 16) _ = _
     simp only [Act.put, zaa, zaf, zag, i64_w, i32_w]
     rfl
    refine pure_ (i := 6) (N := some 3) (v := ?_) (a' := ?_) #[true, true, true, true, true, true, true] rfl rfl (by kernel_rfl) (fun _ _ _ h => h) (Or.inl ⟨by rfl, ?_⟩) ?_ ?_
    rotate_left
    ·intro w'
     go_simp
     with_reducible rfl
    rotate_left
    ·simp only [Act.put, zaa, zaf, zag, i64_w, i32_w]
     rfl
    refine done_ (by kernel_rfl) ?_
    try go_wp2
    go_ret2
    exact ⟨_, _, by first | rfl | (simp [zbk, zbl] <;> rfl) | (simp only [← hji7]; first | rfl | (simp [zbk, zbl] <;> rfl)) | (simp [*, zbk, zbl] <;> rfl), by (with_reducible repeat (first | apply zab | apply zac | apply zae)); exact zbe HO1278.out (fun _ hk => hk.2), by (with_reducible repeat (first | apply zab | apply zac | apply zae)); exact zbe HO1289.out (fun _ hk => hk.2), by repeat (first | (with_reducible first | exact HB.out | apply zai | apply zad | apply zah | refine zby ?_ (IsS85.ge HI1275.out)) | exact HB.out)⟩
   ·rw [if_neg c9] at H
    exact absurd H (by simp)
  ·rw [if_neg c8] at H
   exact absurd H (by simp)
 ·replace c5 := zcv.mpr c5
  subst c5
  have H1 : ((spec_l1DrawBytes.f k t1272 t1282 t1283 40).bind fun bt1290 => (some (t1276, bt1290.1))) = some (r1, r2) := by rw [if_neg (show ¬ (false = true) by decide)] at H; exact H
  clear H
  have H := H1
  clear H1
  replace H := zaj.mp H
  obtain ⟨⟨t1290, t1293, t1294⟩, A170, H⟩ := H
  try dsimp only at H
  have A17 := Aside0.mk A170
  clear A170
  simp only [zdb, zee] at H
  obtain ⟨rfl, rfl⟩ := H
  go_enter Try.func51, Try.ntmps51
  go_wp2_with (first | ((with_reducible refine zbc (f := 78) rfl ?_); refine goesL_ (some 7) rfl rfl Try.func78 (by kernel_rfl) rfl #[.slice A0 l0.length c0] rfl (by (try simp only [zap, zau, zav]); first | done | rfl) ?_; (with_reducible refine (spec_l1New.calls k _ _ l0 t1272 t1273 t1274 w _ ?side1 ?side2 ?side3 A2.out).mono ?_); (case side1 => repeat (first | (with_reducible first | exact HB.out | apply zai | apply zad | apply zah) | exact HB.out)); (case side2 => exact HR0.out); (case side3 => exact HC0.out); rintro e w18 ⟨g1275, rfl, hi, hb, hb2⟩; refine ⟨_, rfl, ?_⟩; have n0_ := Aside0.mk (hb); have n1_ := Aside0.mk (hi); clear HB; have HB := n0_; have HI1275 := n1_; clear n0_ n1_; (try clear hb); (try clear hb2); (try clear hk); (try clear hi)) | ((with_reducible refine zbc (f := 95) rfl ?_); refine goesL_ (some 9) rfl rfl Try.func95 (by kernel_rfl) rfl #[.pointer (some ⟨g1275, 0, none⟩)] rfl (by (try simp only [zap, zau, zav]); first | done | rfl) ?_; (with_reducible refine (spec_l4DrawKey.calls k g1275 t1272 t1273 t1274 t1276 t1279 t1280 w _ ?side1 ?side2 A3.out).mono ?_); (case side1 => repeat (first | (with_reducible first | exact HI1275.out | apply IsS85.alloc | apply IsS85.drewN | apply IsS85.drew | apply IsS85.set_1 | apply IsS85.set_2) | exact HI1275.out)); (case side2 => repeat (first | (with_reducible first | exact HB.out | apply zai | apply zad | apply zah | refine zby ?_ (IsS85.ge HI1275.out)) | exact HB.out)); rintro e w19 ⟨v1277, rfl, ho0, hi, hb, hk⟩; refine ⟨_, rfl, ?_⟩; have n0_ := Aside0.mk (zbj ho0 (zax (by repeat (first | (with_reducible first | exact HB.out | apply zai | apply zad | apply zah | refine zby ?_ (IsS85.ge HI1275.out)) | exact HB.out)))); have n1_ := Aside0.mk (hb); have n2_ := Aside0.mk (hi); clear HB HI1275; have HO1278 := n0_; have HB := n1_; have HI1275 := n2_; clear n0_ n1_ n2_; clear hb hk hi ho0) | ((with_reducible refine zbc (f := 81) rfl ?_); refine goesL_ (some 11) rfl rfl Try.func81 (by kernel_rfl) rfl #[.pointer (some ⟨g1275, 0, none⟩), .int .i64 40] rfl (by (try simp only [zap, zau, zav]); first | done | rfl) ?_; (with_reducible refine (spec_l1Once.calls g1275 t1272 t1279 t1280 40 false t1282 t1283 w _ ?side1 ?side2 A4.out).mono ?_); (case side1 => repeat (first | (with_reducible first | exact HI1275.out | apply IsS85.alloc | apply IsS85.drewN | apply IsS85.drew | apply IsS85.set_1 | apply IsS85.set_2) | exact HI1275.out)); (case side2 => repeat (first | (with_reducible first | exact HB.out | apply zai | apply zad | apply zah | refine zby ?_ (IsS85.ge HI1275.out)) | exact HB.out)); rintro e w20 ⟨rfl, hi, hb, hk⟩; refine ⟨_, rfl, ?_⟩; have n0_ := Aside0.mk (zbe (Kd.R_keep (IsS85.apart (show IsS85 w _ g1275 t1272 t1279 t1280 from by repeat (first | (with_reducible first | exact HI1275.out | apply IsS85.alloc | apply IsS85.drewN | apply IsS85.drew | apply IsS85.set_1 | apply IsS85.set_2) | exact HI1275.out)) (by (with_reducible repeat (first | apply zab | apply zac | apply zae)); exact HO1278.out) (by decide)) hk (fun _ h => h.2)) (fun _ h => h.1)); have n1_ := Aside0.mk (hb); have n2_ := Aside0.mk (hi); clear HO1278 HB HI1275; have HO1278 := n0_; have HB := n1_; have HI1275 := n2_; clear n0_ n1_ n2_; (try clear hb); (try clear hb2); (try clear hk); (try clear hi)) | ((with_reducible refine zbc (f := 96) rfl ?_); refine goesL_ (some 19) rfl rfl Try.func96 (by kernel_rfl) rfl #[.pointer (some ⟨g1275, 0, none⟩), .int .i64 40] rfl (by (try simp only [zap, zau, zav]); first | done | rfl) ?_; (with_reducible refine (spec_l1DrawBytes.calls k g1275 t1272 t1282 t1283 40 t1290 t1293 t1294 w _ ?side1 ?side2 A17.out).mono ?_); (case side1 => repeat (first | (with_reducible first | exact HI1275.out | apply IsS85.alloc | apply IsS85.drewN | apply IsS85.drew | apply IsS85.set_1 | apply IsS85.set_2) | exact HI1275.out)); (case side2 => repeat (first | (with_reducible first | exact HB.out | apply zai | apply zad | apply zah | refine zby ?_ (IsS85.ge HI1275.out)) | exact HB.out)); rintro e w21 ⟨v1291, rfl, ho0, hi, hb, hk⟩; refine ⟨_, rfl, ?_⟩; have n0_ := Aside0.mk (zbe (zds (Kd.R_oldK (IsS85.apart (show IsS85 w _ g1275 t1272 t1282 t1283 from by repeat (first | (with_reducible first | exact HI1275.out | apply IsS85.alloc | apply IsS85.drewN | apply IsS85.drew | apply IsS85.set_1 | apply IsS85.set_2) | exact HI1275.out)) (by (with_reducible repeat (first | apply zab | apply zac | apply zae)); exact HO1278.out) (by decide)) hk) (zal ho0)) (fun _ h_ => h_.1)); have n1_ := Aside0.mk (zbj (zam ho0 (zat (by (with_reducible repeat (first | apply zab | apply zac | apply zae)); exact HO1278.out))) (zax (by repeat (first | (with_reducible first | exact HB.out | apply zai | apply zad | apply zah | refine zby ?_ (IsS85.ge HI1275.out)) | exact HB.out)))); have n2_ := Aside0.mk (hb); have n3_ := Aside0.mk (hi); clear HO1278 HB HI1275; have HO1278 := n0_; have HO1292 := n1_; have HB := n2_; have HI1275 := n3_; clear n0_ n1_ n2_ n3_; clear hb hk hi ho0))
  go_ret2
  exact ⟨_, _, by first | rfl | (simp [zbk, zbl] <;> rfl) | (simp [*, zbk, zbl] <;> rfl), by (with_reducible repeat (first | apply zab | apply zac | apply zae)); exact zbe HO1278.out (fun _ hk => hk.2), by (with_reducible repeat (first | apply zab | apply zac | apply zae)); exact zbe HO1292.out (fun _ hk => hk.2), by repeat (first | (with_reducible first | exact HB.out | apply zai | apply zad | apply zah | refine zby ?_ (IsS85.ge HI1275.out)) | exact HB.out)⟩
end Go.Proofs.Ytienlgcjohpphaa.P
