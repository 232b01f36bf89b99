import Derived.Test.Ytlalkldjpniakaaqm21
namespace Go.Proofs.Ytlalkldjpniakaa.P
open Go.RowKit Go.Proofs.YtlalkldjpniakaaW.PrintWords Go.Proofs.YtlalkldjpniakaaW.PrintLast Go.Proofs.YtlalkldjpniakaaW.PrintMore
attribute [local go_sem] zcm zcn zdd zde zbw zbx zco zcp   -- for this text's walks alone
set_option linter.unusedVariables false
set_option linter.unusedSimpArgs false

def laws_FnExactPostOk.f (k : Nat) (l0_0 : List (S31)) (a0_1 : Int) (l0_2 : List Int) (a0_3 : Int) : Option (Bool) := (laws_szPost.f k l0_0 a0_1 l0_2 a0_3 1048576).bind fun t1357 => (if t1357 < 0 then (some true) else ((laws_toPost.f k l0_0 a0_1 l0_2 a0_3).bind fun bt1358 => ((spec_PostOk.f k bt1358.1 bt1358.2.1 bt1358.2.2.1 bt1358.2.2.2).bind fun t1366 => ((laws_toPost.f k l0_0 a0_1 l0_2 a0_3).bind fun bt1367 => ((impl_PostOk.f k bt1367.1 bt1367.2.1 bt1367.2.2.1 bt1367.2.2.2).bind fun t1376 => (if (t1376 != t1366) = true then (none) else ((laws_toPost.f k l0_0 a0_1 l0_2 a0_3).bind fun bt1377 => ((laws_eqPost.f k bt1367.1 bt1367.2.1 bt1367.2.2.1 bt1367.2.2.2 bt1377.1 bt1377.2.1 bt1377.2.2.1 bt1377.2.2.2).bind fun t1385 => (if t1385 = true then (some true) else (none))))))))))
theorem laws_FnExactPostOk.mono : ∀ a0 a1 a2 a3 k, LeO (laws_FnExactPostOk.f k a0 a1 a2 a3) (laws_FnExactPostOk.f (k + 1) a0 a1 a2 a3) := by
 intro a0 a1 a2 a3 k
 unfold laws_FnExactPostOk.f
 have m0 := @impl_PostOk.mono
 have m1 := @laws_eqPost.mono
 have m2 := @laws_szPost.mono
 have m3 := @laws_toPost.mono
 have m4 := @spec_PostOk.mono
 exact mt
set_option maxHeartbeats 8000000 in
set_option maxRecDepth 100000 in
theorem laws_FnExactPostOk.calls (k : Nat) (A0_0 : Option Addr) (c0_0 : Nat) (l0_0 : List (S31)) (a0_1 : Int) (A0_2 : Option Addr) (c0_2 : Nat) (l0_2 : List Int) (a0_3 : Int) (r : Bool) (w : World) (hr0_0 : Kd.C k31 w A0_0 l0_0.length l0_0) (hc0_0 : l0_0.length ≤ c0_0) (hr0_2 : Kd.C (Kd.int .u8) w A0_2 l0_2.length l0_2) (hc0_2 : l0_2.length ≤ c0_2) (h : laws_FnExactPostOk.f k l0_0 a0_1 l0_2 a0_3 = some r) :
  Calls Try.prog 16 #[.agg #[.slice A0_0 l0_0.length c0_0, .int .i64 a0_1, .slice A0_2 l0_2.length c0_2, .int .i64 a0_3]] w fun e w' => e = .returned (.bool r) ∧ Below w.heap.size w w' := by
 have hu86 := Try.underlying86
 have hu39 := Try.underlying39
 have HR0_0 := Aside0.mk hr0_0
 have HC0_0 := Aside0.mk hc0_0
 clear hr0_0 hc0_0
 have HR0_2 := Aside0.mk hr0_2
 have HC0_2 := Aside0.mk hc0_2
 clear hr0_2 hc0_2
 have HB := Aside0.mk (zbk w.heap.size w)
 have H : ((laws_szPost.f k l0_0 a0_1 l0_2 a0_3 1048576).bind fun t1357 => (if t1357 < 0 then (some true) else ((laws_toPost.f k l0_0 a0_1 l0_2 a0_3).bind fun bt1358 => ((spec_PostOk.f k bt1358.1 bt1358.2.1 bt1358.2.2.1 bt1358.2.2.2).bind fun t1366 => ((laws_toPost.f k l0_0 a0_1 l0_2 a0_3).bind fun bt1367 => ((impl_PostOk.f k bt1367.1 bt1367.2.1 bt1367.2.2.1 bt1367.2.2.2).bind fun t1376 => (if (t1376 != t1366) = true then (none) else ((laws_toPost.f k l0_0 a0_1 l0_2 a0_3).bind fun bt1377 => ((laws_eqPost.f k bt1367.1 bt1367.2.1 bt1367.2.2.1 bt1367.2.2.2 bt1377.1 bt1377.2.1 bt1377.2.2.1 bt1377.2.2.2).bind fun t1385 => (if t1385 = true then (some true) else (none))))))))))) = some r := h
 clear h
 obtain ⟨t1357, A2, H⟩ := bnd H
 by_cases c3 : t1357 < 0
 ·rw [if_pos c3] at H
  have c3b0 := zae c3
  clear c3
  obtain rfl := Option.some.inj H
  go_enter Try.func16, Try.ntmps16
  go_wp2_with (first | (refine jgd 1 ?_; refine bx 1 (#[.slice A0_0 l0_0.length c0_0, .int .i64 a0_1, .slice A0_2 l0_2.length c0_2, .int .i64 a0_3]) 86 ?_; intro gb1356 hg w4 hbox hb; have xb_ := below_ofs bq hb; have n_ := jA4 (zab xb_ hb) (hbox) (ge0 hg xb_ : w.heap.size ≤ gb1356) (ge0 hg xb_ : w.heap.size ≤ gb1356); clear HB; obtain ⟨HB, BK1356, GW1356, GE1356⟩ := n_; clear xb_ hb hbox hg; obtain ⟨hcz5_0, hcz5_1, hcz5_2, hcz5_3, hfz5_0, hfz5_1, hfz5_2, hfz5_3⟩ := cz4 BK1356.out) | (refine jgc 77 ?_; refine jgs 9 Try.func77 #[.agg #[.slice A0_0 l0_0.length c0_0, .int .i64 a0_1, .slice A0_2 l0_2.length c0_2, .int .i64 a0_3], .int .i64 1048576] ?_; (with_reducible refine (laws_szPost.calls k _ _ l0_0 a0_1 _ _ l0_2 a0_3 1048576 t1357 _ ?side1 ?side2 ?side3 ?side4 A2.out).mono ?_); (case side1 => exact jcs HR0_0.out); (case side2 => exact HC0_0.out); (case side3 => exact jcs HR0_2.out); (case side4 => exact HC0_2.out); rintro e w6 ⟨rfl, hb⟩; refine ⟨_, rfl, ?_⟩; have n_ := jA2 (jbb BK1356.out hb) (zab (bs1 GE1356.out) hb); clear BK1356 HB; obtain ⟨BK1356, HB⟩ := n_; (try clear hb); (try clear hb2); (try clear hk); (try clear hi)))
  go_ret
  exact ⟨jex, (bs1 GE1356.out)⟩
 ·rw [if_neg c3] at H
  have c3b0 := zas c3
  clear c3
  obtain ⟨⟨t1358, t1361, t1362, t1365⟩, A7, H⟩ := bnd H
  try dsimp only at H
  obtain ⟨t1366, A8, H⟩ := bnd H
  obtain ⟨⟨t1367, t1370, t1371, t1374⟩, A9, H⟩ := bnd H
  try dsimp only at H
  obtain ⟨t1376, A10, H⟩ := bnd H
  by_cases c11 : (t1376 != t1366) = true
  ·rw [if_pos c11] at H
   exact absurd H (by simp)
  ·rw [if_neg c11] at H
   have c11b0 : (t1376 != t1366) = false := by simpa using c11
   (try (have c11b1 : decide (t1376 = t1366) = true := by simpa using c11))
   (try (have c11b2 : (t1376 == t1366) = true := by simpa using c11))
   clear c11
   obtain ⟨⟨t1377, t1380, t1381, t1384⟩, A12, H⟩ := bnd H
   try dsimp only at H
   obtain ⟨t1385, A13, H⟩ := bnd H
   by_cases c14 : t1385 = true
   ·subst c14
    rw [if_pos rfl] at H
    obtain rfl := Option.some.inj H
    go_enter Try.func16, Try.ntmps16
    try go_wp2_with (first | (refine jgd 1 ?_; refine bx 1 (#[.slice A0_0 l0_0.length c0_0, .int .i64 a0_1, .slice A0_2 l0_2.length c0_2, .int .i64 a0_3]) 86 ?_; intro gb1356 hg w15 hbox hb; have n_ := jA4 (zab bq hb) (hbox) (ge0 hg bq : w.heap.size ≤ gb1356) (ge0 hg bq : w.heap.size ≤ gb1356); clear HB; obtain ⟨HB, BK1356, GW1356, GE1356⟩ := n_; clear hb hbox hg; obtain ⟨hcz16_0, hcz16_1, hcz16_2, hcz16_3, hfz16_0, hfz16_1, hfz16_2, hfz16_3⟩ := cz4 BK1356.out) | (refine jgc 77 ?_; refine jgs 9 Try.func77 #[.agg #[.slice A0_0 l0_0.length c0_0, .int .i64 a0_1, .slice A0_2 l0_2.length c0_2, .int .i64 a0_3], .int .i64 1048576] ?_; (with_reducible refine (laws_szPost.calls k _ _ l0_0 a0_1 _ _ l0_2 a0_3 1048576 t1357 _ ?side1 ?side2 ?side3 ?side4 A2.out).mono ?_); (case side1 => exact jcs HR0_0.out); (case side2 => exact HC0_0.out); (case side3 => exact jcs HR0_2.out); (case side4 => exact HC0_2.out); rintro e w17 ⟨rfl, hb⟩; refine ⟨_, rfl, ?_⟩; have n_ := jA2 (jbb BK1356.out hb) (zab (bs1 GE1356.out) hb); clear BK1356 HB; obtain ⟨BK1356, HB⟩ := n_; (try clear hb); (try clear hb2); (try clear hk); (try clear hi); obtain ⟨hcz18_0, hcz18_1, hcz18_2, hcz18_3, hfz18_0, hfz18_1, hfz18_2, hfz18_3⟩ := cz4 BK1356.out) | (refine jgc 79 ?_; refine jgs 13 Try.func79 #[.agg #[.slice A0_0 l0_0.length c0_0, .int .i64 a0_1, .slice A0_2 l0_2.length c0_2, .int .i64 a0_3]] ?_; (with_reducible refine (laws_toPost.calls k _ _ l0_0 a0_1 _ _ l0_2 a0_3 t1358 t1361 t1362 t1365 _ ?side1 ?side2 ?side3 ?side4 A7.out).mono ?_); (case side1 => exact jcs HR0_0.out); (case side2 => exact HC0_0.out); (case side3 => exact jcs HR0_2.out); (case side4 => exact HC0_2.out); rintro e w19 ⟨v1359, v1363, rfl, ho0, ho1, hb⟩; refine ⟨_, rfl, ?_⟩; have n_ := jA4 (zeg ho0 (zak (bs1 GE1356.out))) (zbc ho1 (zak (bs1 GE1356.out))) (jbb BK1356.out hb) (zab (bs1 GE1356.out) hb); clear BK1356 HB; obtain ⟨HO1360, HO1364, BK1356, HB⟩ := n_; (try clear hb); (try clear hb2); (try clear hk); (try clear hi); (try clear ho0); (try clear ho1); obtain ⟨Ao20, co20, eo20⟩ := Kd.S_slice HO1360.out; subst eo20; obtain ⟨Ao21, co21, eo21⟩ := zbm HO1364.out; subst eo21) | (refine jgc 78 ?_; refine jgs 14 Try.func78 #[.agg #[.slice Ao20 t1358.length co20, .int .i64 t1361, .slice Ao21 t1362.length co21, .int .i64 t1365]] ?_; (with_reducible refine (spec_PostOk.calls k _ _ t1358 t1361 _ _ t1362 t1365 t1366 _ ?side1 ?side2 ?side3 ?side4 A8.out).mono ?_); (case side1 => repeat (first | exact (zdt HO1360.out).2.2 | (with_reducible refine zcv ?_ _) | (with_reducible refine zdi ?_ _) | (with_reducible refine zdu ?_))); (case side2 => exact (zdt HO1360.out).2.1); (case side3 => repeat (first | exact (zbq HO1364.out).2.2 | (with_reducible refine zcv ?_ _) | (with_reducible refine zdi ?_ _) | (with_reducible refine zdu ?_))); (case side4 => exact (zbq HO1364.out).2.1); rintro e w22 ⟨rfl, hb⟩; refine ⟨_, rfl, ?_⟩; have n_ := jA4 (zdy (pS HO1360.out) hb) (zdj (pR HO1364.out) hb) (jbb BK1356.out hb) (zab (bs1 GE1356.out) hb); clear HO1360 HO1364 BK1356 HB; obtain ⟨HO1360, HO1364, BK1356, HB⟩ := n_; (try clear hb); (try clear hb2); (try clear hk); (try clear hi); obtain ⟨hcz23_0, hcz23_1, hcz23_2, hcz23_3, hfz23_0, hfz23_1, hfz23_2, hfz23_3⟩ := cz4 BK1356.out) | (refine jgc 79 ?_; refine jgs 16 Try.func79 #[.agg #[.slice A0_0 l0_0.length c0_0, .int .i64 a0_1, .slice A0_2 l0_2.length c0_2, .int .i64 a0_3]] ?_; (with_reducible refine (laws_toPost.calls k _ _ l0_0 a0_1 _ _ l0_2 a0_3 t1367 t1370 t1371 t1374 _ ?side1 ?side2 ?side3 ?side4 A9.out).mono ?_); (case side1 => exact jcs HR0_0.out); (case side2 => exact HC0_0.out); (case side3 => exact jcs HR0_2.out); (case side4 => exact HC0_2.out); rintro e w24 ⟨v1368, v1372, rfl, ho0, ho1, hb⟩; refine ⟨_, rfl, ?_⟩; have n_ := jA6 (zcx (Kd.S_told (Kd.S_told (Kd.S_old (pS HO1360.out) hb) (Kd.S_base ho0)) (zbe ho1)) (fun _ h_ => h_.1)) (zbr (pR HO1364.out) (zbe ho1) hb) (zeg (Kd.S_new' (Kd.S_new' ho0 (Kd.S_lt (pS HO1360.out))) (zcd (pR HO1364.out))) (zak (bs1 GE1356.out))) (zbc (zcz ho1 (zcd (pR HO1364.out))) (zak (bs1 GE1356.out))) (jbb BK1356.out hb) (zab (bs1 GE1356.out) hb); clear HO1360 HO1364 BK1356 HB; obtain ⟨HO1360, HO1364, HO1369, HO1373, BK1356, HB⟩ := n_; (try clear hb); (try clear hb2); (try clear hk); (try clear hi); (try clear ho0); (try clear ho1)) | (refine jgd 5 ?_; refine bx 5 (#[.slice none 0 0, .int .i64 0, .slice none 0 0, .int .i64 0]) 39 ?_; intro gb1375 hg w25 hbox hb; have n_ := jA11 (zdy (pS HO1360.out) hb) (zdj (pR HO1364.out) hb) (zdy (pS HO1369.out) hb) (zdj (pR HO1373.out) hb) (jbb BK1356.out hb) (zab (bs1 GE1356.out) hb) (hbox) (ge0 hg (bs1 GE1356.out) : w.heap.size ≤ gb1375) (ge0 hg (bs1 GE1356.out) : w.heap.size ≤ gb1375) (nl hg (pB BK1356.out) : gb1356 ≠ gb1375) (ng hg (pB BK1356.out) : gb1375 ≠ gb1356); clear HO1360 HO1364 HO1369 HO1373 BK1356 HB; obtain ⟨HO1360, HO1364, HO1369, HO1373, BK1356, HB, BK1375, GW1375, GE1375, NB1356_1375, NB1375_1356⟩ := n_; clear hb hbox hg; obtain ⟨Ao26, co26, eo26⟩ := Kd.S_slice HO1369.out; subst eo26; have hnb27 := NB1375_1356.out; have hnc27 := NB1356_1375.out; obtain ⟨hcz28_0, hcz28_1, hcz28_2, hcz28_3, hfz28_0, hfz28_1, hfz28_2, hfz28_3⟩ := cz4 BK1375.out; obtain ⟨Ao29, co29, eo29⟩ := zbm HO1373.out; subst eo29) | (refine jgc 80 ?_; refine jgs 18 Try.func80 #[.agg #[.slice Ao26 t1367.length co26, .int .i64 t1370, .slice Ao29 t1371.length co29, .int .i64 t1374]] ?_; (with_reducible refine (impl_PostOk.calls k _ _ t1367 t1370 _ _ t1371 t1374 t1376 _ ?side1 ?side2 ?side3 ?side4 A10.out).mono ?_); (case side1 => refine (zdt (e := 34) (base := w.heap.size) (ok := fun k_ => ((some k_ ≠ (.slice Ao29 t1371.length co29 : Value).ownBlock ∧ some k_ ≠ (.slice Ao20 t1358.length co20 : Value).ownBlock) ∧ some k_ ≠ (.slice Ao21 t1362.length co21 : Value).ownBlock)) (n := t1367.length) (c := co26) ?_).2.2; exact (by (with_reducible repeat (first | apply zdk | apply zdl | apply zdr)); exact (zcx (zci (p := ⟨gb1375, 3, none⟩) (zci (p := ⟨gb1375, 2, none⟩) (zci (p := ⟨gb1375, 1, none⟩) (zci (p := ⟨gb1375, 0, none⟩) (zfp HO1369.out BK1375.out (by decide)) (fun _ hk => hk.2) (.slice Ao26 t1367.length co26)) (fun _ hk => hk.2) (.int .i64 t1370)) (fun _ hk => hk.2) (.slice Ao29 t1371.length co29)) (fun _ hk => hk.2) (.int .i64 t1374)) (fun _ h_ => h_.1)))); (case side2 => exact (zdt HO1369.out).2.1); (case side3 => refine (zbq (e := 5) (base := w.heap.size) (ok := fun k_ => (True ∧ some k_ ≠ (.slice Ao21 t1362.length co21 : Value).ownBlock)) (n := t1371.length) (c := co29) ?_).2.2; exact (by (with_reducible repeat (first | apply zbo | apply zbp | apply zbs)); exact (zav (zbt (p := ⟨gb1375, 3, none⟩) (zbt (p := ⟨gb1375, 2, none⟩) (zbt (p := ⟨gb1375, 1, none⟩) (zbt (p := ⟨gb1375, 0, none⟩) (zcb HO1373.out BK1375.out (by decide)) (fun _ hk => hk.2) (.slice Ao26 t1367.length co26)) (fun _ hk => hk.2) (.int .i64 t1370)) (fun _ hk => hk.2) (.slice Ao29 t1371.length co29)) (fun _ hk => hk.2) (.int .i64 t1374)) (fun _ h_ => h_.1)))); (case side4 => exact (zbq HO1373.out).2.1); rintro e w30 ⟨rfl, hb⟩; refine ⟨_, rfl, ?_⟩; have n_ := jA7 (zdy (by (with_reducible repeat (first | apply zdk | apply zdl | apply zdr)); exact (zcx (zci (p := ⟨gb1375, 3, none⟩) (zci (p := ⟨gb1375, 2, none⟩) (zci (p := ⟨gb1375, 1, none⟩) (zci (p := ⟨gb1375, 0, none⟩) (zfp HO1360.out BK1375.out (by decide)) (fun _ hk => hk.2) (.slice Ao26 t1367.length co26)) (fun _ hk => hk.2) (.int .i64 t1370)) (fun _ hk => hk.2) (.slice Ao29 t1371.length co29)) (fun _ hk => hk.2) (.int .i64 t1374)) (fun _ h_ => h_.1))) hb) (zdj (by (with_reducible repeat (first | apply zbo | apply zbp | apply zbs)); exact (zav (zbt (p := ⟨gb1375, 3, none⟩) (zbt (p := ⟨gb1375, 2, none⟩) (zbt (p := ⟨gb1375, 1, none⟩) (zbt (p := ⟨gb1375, 0, none⟩) (zcb HO1364.out BK1375.out (by decide)) (fun _ hk => hk.2) (.slice Ao26 t1367.length co26)) (fun _ hk => hk.2) (.int .i64 t1370)) (fun _ hk => hk.2) (.slice Ao29 t1371.length co29)) (fun _ hk => hk.2) (.int .i64 t1374)) (fun _ h_ => h_.1))) hb) (zdy (by (with_reducible repeat (first | apply zdk | apply zdl | apply zdr)); exact (zcx (zci (p := ⟨gb1375, 3, none⟩) (zci (p := ⟨gb1375, 2, none⟩) (zci (p := ⟨gb1375, 1, none⟩) (zci (p := ⟨gb1375, 0, none⟩) (zfp HO1369.out BK1375.out (by decide)) (fun _ hk => hk.2) (.slice Ao26 t1367.length co26)) (fun _ hk => hk.2) (.int .i64 t1370)) (fun _ hk => hk.2) (.slice Ao29 t1371.length co29)) (fun _ hk => hk.2) (.int .i64 t1374)) (fun _ h_ => h_.1))) hb) (zdj (by (with_reducible repeat (first | apply zbo | apply zbp | apply zbs)); exact (zav (zbt (p := ⟨gb1375, 3, none⟩) (zbt (p := ⟨gb1375, 2, none⟩) (zbt (p := ⟨gb1375, 1, none⟩) (zbt (p := ⟨gb1375, 0, none⟩) (zcb HO1373.out BK1375.out (by decide)) (fun _ hk => hk.2) (.slice Ao26 t1367.length co26)) (fun _ hk => hk.2) (.int .i64 t1370)) (fun _ hk => hk.2) (.slice Ao29 t1371.length co29)) (fun _ hk => hk.2) (.int .i64 t1374)) (fun _ h_ => h_.1))) hb) (blk_below (g := gb1356) (o := .cells #[.slice A0_0 l0_0.length c0_0, .int .i64 a0_1, .slice A0_2 l0_2.length c0_2, .int .i64 a0_3] 86 (0, 0)) (by (with_reducible repeat (first | refine zbg ?_ _ | refine zbl ?_ | refine zbh ?_ _)); refine blk_far ?_ NB1356_1375.out _; (with_reducible repeat (first | refine zbg ?_ _ | refine zbl ?_ | refine zbh ?_ _)); refine blk_far ?_ NB1356_1375.out _; (with_reducible repeat (first | refine zbg ?_ _ | refine zbl ?_ | refine zbh ?_ _)); refine blk_far ?_ NB1356_1375.out _; (with_reducible repeat (first | refine zbg ?_ _ | refine zbl ?_ | refine zbh ?_ _)); refine blk_far ?_ NB1356_1375.out _; (with_reducible repeat (first | refine zbg ?_ _ | refine zbl ?_ | refine zbh ?_ _)); exact BK1356.out) hb) (blk_below (g := gb1375) (o := .cells #[.slice Ao26 t1367.length co26, .int .i64 t1370, .slice Ao29 t1371.length co29, .int .i64 t1374] 39 (0, 0)) (by (with_reducible repeat (first | refine zbg ?_ _ | refine zbl ?_ | refine zbh ?_ _)); refine zdh (cs := #[.slice Ao26 t1367.length co26, .int .i64 t1370, .slice Ao29 t1371.length co29, .int .i64 0]) ?_ 3 _ rfl; (with_reducible repeat (first | refine zbg ?_ _ | refine zbl ?_ | refine zbh ?_ _)); refine zdh (cs := #[.slice Ao26 t1367.length co26, .int .i64 t1370, .slice none 0 0, .int .i64 0]) ?_ 2 _ rfl; (with_reducible repeat (first | refine zbg ?_ _ | refine zbl ?_ | refine zbh ?_ _)); refine zdh (cs := #[.slice Ao26 t1367.length co26, .int .i64 0, .slice none 0 0, .int .i64 0]) ?_ 1 _ rfl; (with_reducible repeat (first | refine zbg ?_ _ | refine zbl ?_ | refine zbh ?_ _)); refine zdh (cs := #[.slice none 0 0, .int .i64 0, .slice none 0 0, .int .i64 0]) ?_ 0 _ rfl; (with_reducible repeat (first | refine zbg ?_ _ | refine zbl ?_ | refine zbh ?_ _)); exact BK1375.out) hb) (zab (bs2 GE1356.out GE1375.out) hb); clear HO1360 HO1364 HO1369 HO1373 BK1356 BK1375 HB; obtain ⟨HO1360, HO1364, HO1369, HO1373, BK1356, BK1375, HB⟩ := n_; (try clear hb); (try clear hb2); (try clear hk); (try clear hi)))
    have n_ := jA7 (zdr HO1360.out) (zbs HO1364.out) (zdr HO1369.out) (zbs HO1373.out) (zbl BK1356.out) (zbl BK1375.out) (zev HB.out)
    clear HO1360 HO1364 HO1369 HO1373 BK1356 BK1375 HB
    obtain ⟨HO1360, HO1364, HO1369, HO1373, BK1356, BK1375, HB⟩ := n_
    refine start_ (n := 5) (S := fun w' => w'.cell? ⟨gb1375, 0, none⟩ = some (.slice Ao26 t1367.length co26) ∧ w'.cell? ⟨gb1375, 1, none⟩ = some (.int .i64 t1370) ∧ w'.cell? ⟨gb1375, 2, none⟩ = some (.slice Ao29 t1371.length co29) ∧ w'.cell? ⟨gb1375, 3, none⟩ = some (.int .i64 t1374) ∧ w'.cell? ⟨gb1356, 0, none⟩ = some (.slice A0_0 l0_0.length c0_0) ∧ w'.cell? ⟨gb1356, 1, none⟩ = some (.int .i64 a0_1) ∧ w'.cell? ⟨gb1356, 2, none⟩ = some (.slice A0_2 l0_2.length c0_2) ∧ w'.cell? ⟨gb1356, 3, none⟩ = some (.int .i64 a0_3)) (ds := []) #[false, false, false, false, false] (by kernel_rfl) rfl rfl ⟨(zbf BK1375.out 0).trans rfl, (zbf BK1375.out 1).trans rfl, (zbf BK1375.out 2).trans rfl, (zbf BK1375.out 3).trans rfl, (zbf BK1356.out 0).trans rfl, (zbf BK1356.out 1).trans rfl, (zbf BK1356.out 2).trans rfl, (zbf BK1356.out 3).trans rfl⟩ (fun hHeld => ?_)
    generalize w30.drew = w31 at HO1360 HO1364 HO1369 HO1373 BK1356 BK1375 HB hHeld ⊢
    refine take_ (i := 0) (N := some 22) (v := ?_) (a' := ?_) #[true, false, false, false, false] rfl rfl (by kernel_rfl) (fun _ _ _ h => h) (Or.inl ⟨by rfl, ?_⟩) hHeld ?_ ?_
    rotate_left
    ·rintro w' ⟨s0, s1, s2, s3, s4, s5, s6, s7⟩
     go_simp
     with_reducible rfl
    rotate_left
    ·simp only [Act.put, zal, zaw, zax, i64_w, i32_w]
     rfl
    refine take_ (i := 1) (N := some 23) (v := ?_) (a' := ?_) #[true, true, false, false, false] rfl rfl (by kernel_rfl) (fun _ _ _ h => h) (Or.inl ⟨by rfl, ?_⟩) hHeld ?_ ?_
    rotate_left
    ·rintro w' ⟨s0, s1, s2, s3, s4, s5, s6, s7⟩
     go_simp
     with_reducible rfl
    rotate_left
    ·simp only [Act.put, zal, zaw, zax, i64_w, i32_w]
     rfl
    refine one_ (i := 2) (N := some 24) #[true, true, true, false, false] rfl rfl (by kernel_rfl) (by decide) (fun K hK => ?_)
    refine goes_ Try.func79 (by kernel_rfl) rfl #[.agg #[.slice A0_0 l0_0.length c0_0, .int .i64 a0_1, .slice A0_2 l0_2.length c0_2, .int .i64 a0_3]] (by rfl) rfl rfl jhl ?_
    with_reducible refine (laws_toPost.calls k _ _ l0_0 a0_1 _ _ l0_2 a0_3 t1377 t1380 t1381 t1384 _ ?side1 ?side2 ?side3 ?side4 A12.out).mono ?_
    (case side1 => exact jcs HR0_0.out)
    (case side2 => exact HC0_0.out)
    (case side3 => exact jcs HR0_2.out)
    (case side4 => exact HC0_2.out)
    rintro e w32 ⟨v1378, v1382, rfl, ho0, ho1, hb⟩
    refine ⟨_, rfl, ?_⟩
    have n_ := jA9 (zcx (Kd.S_told (Kd.S_told (Kd.S_old (pS HO1360.out) hb) (Kd.S_base ho0)) (zbe ho1)) (fun _ h_ => h_.1)) (zbr (pR HO1364.out) (zbe ho1) hb) (zcx (Kd.S_told (Kd.S_told (Kd.S_old (pS HO1369.out) hb) (Kd.S_base ho0)) (zbe ho1)) (fun _ h_ => h_.1)) (zbr (pR HO1373.out) (zbe ho1) hb) (zeg (Kd.S_new' (Kd.S_new' (Kd.S_new' (Kd.S_new' ho0 (Kd.S_lt (pS HO1360.out))) (zcd (pR HO1364.out))) (Kd.S_lt (pS HO1369.out))) (zcd (pR HO1373.out))) (zak (bs2 GE1356.out GE1375.out))) (zbc (zcz (zcz ho1 (zcd (pR HO1364.out))) (zcd (pR HO1373.out))) (zak (bs2 GE1356.out GE1375.out))) (jbb BK1356.out hb) (jbb BK1375.out hb) (zab (bs2 GE1356.out GE1375.out) hb)
    clear HO1360 HO1364 HO1369 HO1373 BK1356 BK1375 HB
    obtain ⟨HO1360, HO1364, HO1369, HO1373, HO1379, HO1383, BK1356, BK1375, HB⟩ := n_
    (try clear hb)
    (try clear hb2)
    (try clear hk)
    (try clear hi)
    (try clear ho0)
    (try clear ho1)
    obtain ⟨Ao33, co33, eo33⟩ := Kd.S_slice HO1379.out
    (first | subst eo33 | (injection eo33 with f1_ f2_ f3_; have f4_ := f1_.symm; have f5_ := f3_.symm; clear f1_ f2_ f3_; subst f4_; subst f5_))
    obtain ⟨Ao34, co34, eo34⟩ := zbm HO1383.out
    (first | subst eo34 | (injection eo34 with f1_ f2_ f3_; have f4_ := f1_.symm; have f5_ := f3_.symm; clear f1_ f2_ f3_; subst f4_; subst f5_))
    refine hK.out _ _ ⟨(zbf BK1375.out 0).trans rfl, (zbf BK1375.out 1).trans rfl, (zbf BK1375.out 2).trans rfl, (zbf BK1375.out 3).trans rfl, (zbf BK1356.out 0).trans rfl, (zbf BK1356.out 1).trans rfl, (zbf BK1356.out 2).trans rfl, (zbf BK1356.out 3).trans rfl⟩ (fun hHeld => ?_)
    clear hK K
    refine norm_ (a' := ?_) ?_ ?_
    rotate_left
    ·show Act.put _ (some 24) _ = _
     simp only [Act.put, zal, zaw, zax, i64_w, i32_w]
     rfl
    refine one_ (i := 3) (N := some 25) #[true, true, true, true, false] rfl rfl (by kernel_rfl) (by decide) (fun K hK => ?_)
    refine goes_ Try.func30 (by kernel_rfl) rfl #[.agg #[.slice Ao26 t1367.length co26, .int .i64 t1370, .slice Ao29 t1371.length co29, .int .i64 t1374], .agg #[.slice Ao33 t1377.length co33, .int .i64 t1380, .slice Ao34 t1381.length co34, .int .i64 t1384]] (by rfl) rfl rfl jhl ?_
    with_reducible refine (laws_eqPost.calls k _ _ t1367 t1370 _ _ t1371 t1374 _ _ t1377 t1380 _ _ t1381 t1384 true _ ?side1 ?side2 ?side3 ?side4 ?side5 ?side6 ?side7 ?side8 A13.out).mono ?_
    (case side1 => repeat (first | exact (zdt HO1369.out).2.2 | (with_reducible refine zcv ?_ _) | (with_reducible refine zdi ?_ _) | (with_reducible refine zdu ?_)))
    (case side2 => exact (zdt HO1369.out).2.1)
    (case side3 => repeat (first | exact (zbq HO1373.out).2.2 | (with_reducible refine zcv ?_ _) | (with_reducible refine zdi ?_ _) | (with_reducible refine zdu ?_)))
    (case side4 => exact (zbq HO1373.out).2.1)
    (case side5 => repeat (first | exact (zdt HO1379.out).2.2 | (with_reducible refine zcv ?_ _) | (with_reducible refine zdi ?_ _) | (with_reducible refine zdu ?_)))
    (case side6 => exact (zdt HO1379.out).2.1)
    (case side7 => repeat (first | exact (zbq HO1383.out).2.2 | (with_reducible refine zcv ?_ _) | (with_reducible refine zdi ?_ _) | (with_reducible refine zdu ?_)))
    (case side8 => exact (zbq HO1383.out).2.1)
    rintro e w35 ⟨rfl, hb⟩
    refine ⟨_, rfl, ?_⟩
    have n_ := jA9 (zdy (pS HO1360.out) hb) (zdj (pR HO1364.out) hb) (zdy (pS HO1369.out) hb) (zdj (pR HO1373.out) hb) (zdy (pS HO1379.out) hb) (zdj (pR HO1383.out) hb) (jbb BK1356.out hb) (jbb BK1375.out hb) (zab (bs2 GE1356.out GE1375.out) hb)
    clear HO1360 HO1364 HO1369 HO1373 HO1379 HO1383 BK1356 BK1375 HB
    obtain ⟨HO1360, HO1364, HO1369, HO1373, HO1379, HO1383, BK1356, BK1375, HB⟩ := n_
    (try clear hb)
    (try clear hb2)
    (try clear hk)
    (try clear hi)
    refine hK.out _ _ ⟨(zbf BK1375.out 0).trans rfl, (zbf BK1375.out 1).trans rfl, (zbf BK1375.out 2).trans rfl, (zbf BK1375.out 3).trans rfl, (zbf BK1356.out 0).trans rfl, (zbf BK1356.out 1).trans rfl, (zbf BK1356.out 2).trans rfl, (zbf BK1356.out 3).trans rfl⟩ (fun hHeld => ?_)
    clear hK K
    refine norm_ (a' := ?_) ?_ ?_
    rotate_left
    ·show Act.put _ (some 25) _ = _
     simp only [Act.put, zal, zaw, zax, i64_w, i32_w]
     rfl
    refine pure_ (i := 4) (N := some 26) (v := ?_) (a' := ?_) #[true, true, true, true, true] rfl rfl (by kernel_rfl) (fun _ _ _ h => h) (Or.inl ⟨by rfl, ?_⟩) ?_ ?_
    rotate_left
    ·intro w'
     go_simp
     with_reducible rfl
    rotate_left
    ·simp only [Act.put, zal, zaw, zax, i64_w, i32_w]
     rfl
    refine done_ (by kernel_rfl) ?_
    try go_wp2
    go_ret
    exact ⟨jex, (bs2 GE1356.out GE1375.out)⟩
   ·replace c14 := zbn.mpr c14
    subst c14
    rw [if_neg (show ¬ (false = true) by decide)] at H
    exact absurd H (by simp)
end Go.Proofs.Ytlalkldjpniakaa.P
-- Written by a program of this session (wip/drive.py) over the kit's print.
namespace Go.Proofs.Ytlalkldjpniakaa.P
open Go.RowKit Go.Proofs.YtlalkldjpniakaaW.PrintWords
def good31 (x : S31) : Prop := x.f0.size ≤ maxLen ∧ (Lit.int .i64 x.f1).wf = true ∧ (Lit.int .i64 x.f2).wf = true ∧ (x.f3.length ≤ maxLen ∧ ∀ y_ ∈ x.f3, (Lit.int .u8 y_).wf = true)
def good86 (x : S86) : Prop := (x.f0.length ≤ maxLen ∧ ∀ y_ ∈ x.f0, good31 y_) ∧ (Lit.int .i64 x.f1).wf = true ∧ (x.f2.length ≤ maxLen ∧ ∀ y_ ∈ x.f2, (Lit.int .u8 y_).wf = true) ∧ (Lit.int .i64 x.f3).wf = true
/-- The one pure statement of laws_FnExactPostOk. -/
def laws_FnExactPostOk.Pure : Prop := ∀ (l0_0 : List (S31)) (a0_1 : Int) (l0_2 : List Int) (a0_3 : Int), (l0_0.length ≤ maxLen ∧ ∀ y_ ∈ l0_0, good31 y_) → (Lit.int .i64 a0_1).wf = true → (l0_2.length ≤ maxLen ∧ ∀ y_ ∈ l0_2, (Lit.int .u8 y_).wf = true) → (Lit.int .i64 a0_3).wf = true → ∃ k, laws_FnExactPostOk.f k l0_0 a0_1 l0_2 a0_3 = some true
end Go.Proofs.Ytlalkldjpniakaa.P
/- FnExactPostOk: of every box of post both answers are one, and nothing of it is changed. -/
namespace Go.Proofs.Ytlalkldjpniakaa.Pure
open Go.RowKit Go.Proofs.Ytlalkldjpniakaa.P Go.Proofs.Ytlalkldjpniakaa.B Go.Proofs.YtlalkldjpniakaaW.PrintWords Go.Proofs.YtlalkldjpniakaaW.PrintLast Go.Proofs.YtlalkldjpniakaaW.PrintMore
theorem szPost_le_l0 : ∀ (rest pre : List S31) (a : Int) (k : Nat) (r : Int), (∀ y ∈ rest, okIt y) → 0 ≤ a → a ≤ 1048576 → pre.length + rest.length ≤ 4611686018427387904 → rest.length < k →
    laws_szItemS.l0 k (pre ++ rest) a (pre.length : Int) = some r → r ≤ 1048576
  | [], pre, a, k, r, hg, h0, h1, hb, hk, h => by
    obtain ⟨k, rfl⟩ : ∃ m, k = m + 1 := ⟨k - 1, by omega⟩
    simp only [laws_szItemS.l0] at h; rw [if_neg (nlt_end pre)] at h
    obtain rfl := Option.some.inj h
    exact h1
  | x :: rest, pre, a, k, r, hg, h0, h1, hb, hk, h => by
    obtain ⟨k, rfl⟩ : ∃ m, k = m + 1 := ⟨k - 1, by simp at hk; omega⟩
    simp only [List.length_cons] at hb hk
    have hx := hg x List.mem_cons_self
    simp only [laws_szItemS.l0] at h
    rw [if_pos (lt_mid pre x rest), if_pos (pre_nonneg pre), rdT31_mid] at h
    rcases szItem x.f0 x.f1 x.f2 x.f3 a hx.1 hx.2 h0 h1 with e | ⟨e, hle⟩
    · rw [e, Option.bind_some, if_pos (by omega)] at h
      obtain rfl := Option.some.inj h
      omega
    · rw [e, Option.bind_some, if_neg (by omega), wrap_step pre x (by omega), snoc_app pre x rest] at h
      exact szPost_le_l0 rest (pre ++ [x]) (a - x.f0.size - x.f3.length) k r (fun y hy => hg y (List.mem_cons_of_mem _ hy)) (by omega) (by omega) (by simp; omega) (by omega) h
theorem szPost_le (l : List S31) (hl : l.length ≤ maxLen) (hg : ∀ y ∈ l, okIt y) (k : Nat) (hk : l.length < k) (r : Int) (h : laws_szItemS.f k l 1048576 = some r) : r ≤ 1048576 := by
  unfold laws_szItemS.f at h
  have hl' := hl
  unfold maxLen at hl'
  rw [wrap_eq _ (by omega) (by omega)] at h
  by_cases c : (1048576 : Int) - (l.length : Int) < 0
  · rw [if_pos c] at h
    obtain rfl := Option.some.inj h
    omega
  · rw [if_neg c] at h
    exact szPost_le_l0 l [] _ k r hg (by omega) (by omega) (by simp; omega) hk h
theorem FnExactPostOk : laws_FnExactPostOk.Pure := by
  intro l t b a hl _ hb _
  obtain ⟨hl, hg⟩ := hl
  obtain ⟨hb, hw⟩ := hb
  have hw8 := wf8 hw
  have hg' : ∀ y ∈ l, okIt y := fun y hy => ⟨(hg y hy).1, (hg y hy).2.2.2.1⟩
  obtain ⟨r, h0, h0b, h0c⟩ : ∃ r, (∀ k, l.length < k → laws_szItemS.f k l 1048576 = some r) ∧ (¬ r < 0 → l.length ≤ 1048576 ∧ ∀ y ∈ l, fits y) ∧ r ≤ 1048576 := by
    obtain ⟨r, hr, hf⟩ := szItemS l 1048576 hl hg' (by omega) (by omega) (l.length + 1) (by omega)
    refine ⟨r, fun k hk => ?_, hf, szPost_le l hl hg' _ (by omega) r hr⟩
    exact at_rounds (g := fun k => laws_szItemS.f k l 1048576) (fun k => laws_szItemS.mono l 1048576 k) (show l.length + 1 ≤ k by omega) hr
  have hs : Ev (fun k => laws_szItemS.f k l 1048576) r := evOf _ h0
  refine (Ev.rounds ?_)
  unfold laws_FnExactPostOk.f laws_szPost.f
  by_cases h1 : r < 0
  · exact evBind (a := -1) (evBind hs (evPos h1 (evConst _))) (evPos (by omega) (evConst _))
  obtain ⟨h2, h3⟩ := h0b h1
  by_cases h4 : (b.length : Int) > r
  · refine evBind (a := -1) (evBind hs (evNeg h1 ?_)) (evPos (by omega) (evConst _))
    rw [szByteS b r hb (by omega) h0c, if_pos h4]
    exact evBind (a := -1) (evConst _) (evPos (by omega) (evConst _))
  have hsz : Ev (fun k => (laws_szItemS.f k l 1048576).bind fun t1352 => (if t1352 < 0 then (some (-1)) else ((laws_szByteS.f b t1352).bind fun t1353 => (if t1353 < 0 then (some (-1)) else (some t1353))))) (r - b.length) := by
    refine evBind hs (evNeg h1 ?_)
    rw [szByteS b r hb (by omega) h0c, if_neg h4]
    exact evBind (a := r - b.length) (evConst _) (evNeg (by omega) (evConst _))
  have ht : Ev (fun k => laws_toPost.f k l t b a) (l.map it, t, b, a) := by
    unfold laws_toPost.f
    exact evBind (evOf 2097152 fun k hk => toItemS l h2 h3 k hk) (evBind (evOf b.length fun k hk => toByteS b (by omega) k hk) (evConst _))
  have hm : (l.map it).length = l.length := List.length_map it
  have hQ : qOk (l.map it) := ⟨by omega, fun y hy => by obtain ⟨x, hx, rfl⟩ := List.mem_map.1 hy; exact h3 x hx⟩
  obtain ⟨c, p1, p2⟩ := postOk (l.map it) t b a hQ hw8
  have hc : ¬ (c != c) = true := by cases c <;> decide
  have he : Ev (fun k => laws_eqPost.f k (l.map it) t b a (l.map it) t b a) true := by
    unfold laws_eqPost.f
    exact evBind (evOf 2097152 fun k hk => eqItemS_same (l.map it) (by omega) (fun y hy => (hQ.2 y hy).2) k hk) (evPos rfl (evPos rfl (evBind (evOf b.length fun k hk => eqByteS_same b (by omega) k hk) (evPos rfl (evPos rfl (evConst _))))))
  exact evBind hsz (evNeg (by omega) (evBind ht (evBind p1 (evBind ht (evBind p2 (evNeg hc (evBind ht (evBind he (evPos rfl (evConst _))))))))))
end Go.Proofs.Ytlalkldjpniakaa.Pure
