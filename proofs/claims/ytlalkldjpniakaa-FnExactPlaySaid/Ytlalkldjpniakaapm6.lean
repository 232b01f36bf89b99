import Derived.Test.Ytlalkldjpniakaapm5
namespace Go.Proofs.Ytlalkldjpniakaa.P
open Go.RowKit Go.Proofs.YtlalkldjpniakaaW.PrintWords Go.Proofs.YtlalkldjpniakaaW.PrintLast Go.Proofs.YtlalkldjpniakaaW.PrintMore
attribute [local go_sem] zcm zcn zdi zdj zbz zca zco zcp   -- for this text's walks alone
set_option linter.unusedVariables false
set_option linter.unusedSimpArgs false
set_option maxHeartbeats 8000000
set_option maxRecDepth 100000

def spec_l14Item.f (a0_0 : Int) (a0_1 : ByteArray) (a0_2 : Int) (a0_3 : Int) (l0_4 : List Int) : Option (ByteArray × Int × Int × List Int) := (some (([] : List Int) : List Int)).bind fun y271 => (if y271.length + l0_4.length < 140737488355328 then (some (a0_1, a0_2, a0_3, (y271 ++ l0_4))) else (none))
def spec_l14Item.T1 : Bool × List (List Nat × List Nat) := (true, [([], []), ([0], [0]), ([], []), ([2], [2]), ([], []), ([4], [4]), ([], []), ([], []), ([7], [7]), ([6, 8], [6, 8]), ([1, 3, 5, 9], [1, 3, 5, 9]), ([10, 9, 0, 1, 2, 3, 4, 5, 6, 7, 8, 9, 10], [10])])
def spec_l14Item.B1 : List Nat := [0, 1, 0, 4, 0, 16, 0, 0, 128, 448, 1023, 2047]
theorem spec_l14Item.tab1 : rtab .any (opsOf Try.f92 1) = spec_l14Item.T1 := by kernel_rfl
theorem spec_l14Item.bits1 : waitsOk spec_l14Item.T1.2 spec_l14Item.B1 = true := by kernel_rfl
theorem spec_l14Item.calls (a0_0 : Int) (a0_1 : ByteArray) (a0_2 : Int) (a0_3 : Int) (A0_4 : Option Addr) (c0_4 : Nat) (l0_4 : List Int) (r1 : ByteArray) (r2 : Int) (r3 : Int) (r4 : List Int) (w : World) (hr0_4 : Kd.C (Kd.int .u8) w A0_4 l0_4.length l0_4) (hc0_4 : l0_4.length ≤ c0_4) (h : spec_l14Item.f a0_0 a0_1 a0_2 a0_3 l0_4 = some (r1, r2, r3, r4)) :
  Calls Try.prog 92 #[.agg #[.int .i64 a0_0, .string a0_1, .int .i64 a0_2, .int .i64 a0_3, .slice A0_4 l0_4.length c0_4]] w fun e w' => ∃ v3_ : Value, e = .returned (.agg #[.string r1, .int .i64 r2, .int .i64 r3, v3_]) ∧ Kd.R (Kd.int .u8) 5 w' w.heap.size (fun _ => True) v3_ r4 ∧ Below w.heap.size w w' := by
 have hu48 := Try.underlying48
 have hu34 := Try.underlying34
 have HR0_4 := Aside0.mk hr0_4
 have HC0_4 := Aside0.mk hc0_4
 clear hr0_4 hc0_4
 have HB := Aside0.mk (zbj w.heap.size w)
 have H : ((some (([] : List Int) : List Int)).bind fun y271 => (if y271.length + l0_4.length < 140737488355328 then (some (a0_1, a0_2, a0_3, (y271 ++ l0_4))) else (none))) = some (r1, r2, r3, r4) := h
 clear h
 obtain ⟨y271, hy271⟩ : ∃ y_ : List Int, y_ = (([] : List Int)) := ⟨_, rfl⟩
 replace H := bto hy271 H
 have Ny271 := Aside0.mk hy271
 clear hy271
 by_cases c2 : y271.length + l0_4.length < 140737488355328
 ·rw [if_pos c2] at H
  have LMc2 := Aside0.mk c2
  clear c2
  obtain ⟨y274, hy274⟩ : ∃ y_ : List Int, y_ = (y271 ++ l0_4) := ⟨_, rfl⟩
  replace H : (some (a0_1, a0_2, a0_3, y274)) = some (r1, r2, r3, r4) := jrw hy274 H
  have Ny274 := Aside0.mk hy274
  clear hy274
  simp only [zbx, zcg] at H
  obtain ⟨rfl, rfl, rfl, rfl⟩ := H
  go_enter Try.func92, Try.ntmps92
  try go_wp2_with (first | (refine jgd 1 ?_; refine bx 1 (#[.int .i64 a0_0, .string a0_1, .int .i64 a0_2, .int .i64 a0_3, .slice A0_4 l0_4.length c0_4]) 48 ?_; intro gb269 hg w3 hbox hb; have n_ := jA4 (zad bq hb) (hbox) (ge0 hg bq : w.heap.size ≤ gb269) (ge0 hg bq : w.heap.size ≤ gb269); clear HB; obtain ⟨HB, BK269, GW269, GE269⟩ := n_; clear hb hbox hg) | (refine jgd 2 ?_; refine bx 2 (#[.string (⟨#[]⟩ : ByteArray), .int .i64 0, .int .i64 0, .slice none 0 0]) 34 ?_; intro gb270 hg w4 hbox hb; have n_ := jA7 (jbb BK269.out hb) (zad (bs1 GE269.out) hb) (hbox) (ge0 hg (bs1 GE269.out) : w.heap.size ≤ gb270) (ge0 hg (bs1 GE269.out) : w.heap.size ≤ gb270) (nl hg (pB BK269.out) : gb269 ≠ gb270) (ng hg (pB BK269.out) : gb270 ≠ gb269); clear BK269 HB; obtain ⟨BK269, HB, BK270, GW270, GE270, NB269_270, NB270_269⟩ := n_; clear hb hbox hg))
  have n_ := jA3 (zbu BK269.out) (zbu BK270.out) (zfj HB.out)
  clear BK269 BK270 HB
  obtain ⟨BK269, BK270, HB⟩ := n_
  refine start_ (n := 12) (S := fun w' => w'.cell? ⟨gb269, 0, none⟩ = some (.int .i64 a0_0) ∧ w'.cell? ⟨gb269, 1, none⟩ = some (.string a0_1) ∧ w'.cell? ⟨gb269, 2, none⟩ = some (.int .i64 a0_2) ∧ w'.cell? ⟨gb269, 3, none⟩ = some (.int .i64 a0_3) ∧ w'.cell? ⟨gb269, 4, none⟩ = some (.slice A0_4 l0_4.length c0_4)) (ds := []) #[false, false, false, false, false, false, false, false, false, false, false, false] (by kernel_rfl) rfl rfl ⟨(zbn BK269.out 0).trans rfl, (zbn BK269.out 1).trans rfl, (zbn BK269.out 2).trans rfl, (zbn BK269.out 3).trans rfl, (zbn BK269.out 4).trans rfl⟩ (fun hHeld => ?_); refine zgm spec_l14Item.tab1 spec_l14Item.bits1 (fun HT_ HW_ => ?_)
  generalize w4.drew = w5 at BK269 BK270 HB hHeld ⊢
  refine pu 0 3 HT_.out ?_
  refine pu 2 5 HT_.out ?_
  refine pu 4 7 HT_.out ?_
  refine pu 7 10 HT_.out ?_
  refine tk 1 4 HT_.out HW_.out hHeld ?_
  refine tk 3 6 HT_.out HW_.out hHeld ?_
  refine tk 5 8 HT_.out HW_.out hHeld ?_
  refine tk 8 11 HT_.out HW_.out hHeld ?_
  refine one_ (i := 6) (N := some 9) #[true, true, true, true, true, true, true, true, true, false, false, false] rfl rfl (one_of HT_.out (by kernel_rfl)) (by decide) (fun K hK => ?_)
  refine Kd.R_lit_step (Kd.int .u8) _ 5 ?hg (N := 9) ?hd (xs := ([] : List Int)) (inner := []) (ok := fun _ => True) (okp := fun _ => True) ?hr ?hp (fun _ hk => hk) trivial (zbj _ _) (zaf _) (by simp) ?_; (case hd => rfl); (case hg => rfl); (case hr => first | (go_simp; done) | (go_simp; rfl)); (case hp => exact (zgg _ _))
  intro v272 w6 ho7 hb hg_ hnew_
  clear hg_ hnew_
  (first | rw [← Ny271.out] at ho7 | (simp only [Int.reduceToNat] at ho7; rw [← Ny271.out] at ho7))
  have n_ := jA4 (zaw ho7 (zah (bs2 GE269.out GE270.out))) (jbb BK269.out hb) (jbb BK270.out hb) (zad (bs2 GE269.out GE270.out) hb)
  clear BK269 BK270 HB
  obtain ⟨HO273, BK269, BK270, HB⟩ := n_
  clear hb ho7
  refine hK.out _ _ ⟨(zbn BK269.out 0).trans rfl, (zbn BK269.out 1).trans rfl, (zbn BK269.out 2).trans rfl, (zbn BK269.out 3).trans rfl, (zbn BK269.out 4).trans rfl⟩ (fun hHeld => ?_)
  clear hK K
  refine norm_ (a' := ?_) ?_ ?_
  rotate_left
  ·show Act.put _ (some 9) _ = _
   simp only [Act.put, zao, zbc, zbd, i64_w, i32_w]
   rfl
  refine one_ (i := 9) (N := some 12) #[true, true, true, true, true, true, true, true, true, true, false, false] rfl rfl (one_of HT_.out (by kernel_rfl)) (by decide) (fun K hK => ?_)
  refine Kd.R_append_rows_step (Kd.int .u8) (w0 := w) w.heap.size (by rfl) (.tmp 9) (.tmp 11) 29 5 (.int .u8 0) 1 rfl Try.underlying29 info5 rfl (by decide) (by omega) v272 y271 l0_4 _ _ _ (fun _ => True) (fun _ => False) rfl rfl ?aO ?aR (fun _ _ h => h) (fun _ h => h.elim) ?aF ?aB ?aS ?aL ?_
  (case aR => exact jcs HR0_4.out)
  (case aB => exact (bs2 GE269.out GE270.out))
  (case aF => exact (fun _ _ => trivial))
  (case aO => exact (pR HO273.out))
  (case aS => exact (zah (bs2 GE269.out GE270.out)))
  (case aL => have := LMc2.out; omega)
  intro v275 w8 ho hb hg hat
  rw [← Ny274.out] at ho
  have n_ := jA4 (zed (pB BK269.out) hg (zfz HO273.out BK269.out (by decide))) (zed (pB BK270.out) hg (zfz HO273.out BK270.out (by decide))) (hb) (ho)
  clear BK269 BK270 HB HO273
  obtain ⟨BK269, BK270, HB, HO276⟩ := n_
  clear ho hb hg hat
  obtain ⟨Ao9, co9, eo9⟩ := zbg HO276.out
  (first | subst eo9 | (injection eo9 with f1_ f2_ f3_; have f4_ := f1_.symm; have f5_ := f3_.symm; clear f1_ f2_ f3_; subst f4_; subst f5_))
  refine hK.out _ _ ⟨(zbn BK269.out 0).trans rfl, (zbn BK269.out 1).trans rfl, (zbn BK269.out 2).trans rfl, (zbn BK269.out 3).trans rfl, (zbn BK269.out 4).trans rfl⟩ (fun hHeld => ?_)
  clear hK K
  refine norm_ (a' := ?_) ?_ ?_
  rotate_left
  ·show Act.put _ (some 12) _ = _
   simp only [Act.put, zao, zbc, zbd, i64_w, i32_w]
   rfl
  refine pu 10 13 HT_.out ?_
  refine one_ (i := 11) (N := none) #[true, true, true, true, true, true, true, true, true, true, true, true] rfl rfl (one_of HT_.out (by kernel_rfl)) (by decide) (fun K hK => ?_)
  have hs10 : w8.cell? ⟨gb270, 0, none⟩ = some (.string (⟨#[]⟩ : ByteArray)) := (zbn BK270.out 0).trans rfl
  have hfs10 := blk_frozen BK270.out 0
  have hns10_0 := NB269_270.out
  have hms10_0 := NB270_269.out
  have hs11 : w8.cell? ⟨gb270, 1, none⟩ = some (.int .i64 0) := (zbn BK270.out 1).trans rfl
  have hfs11 := blk_frozen BK270.out 1
  have hns11_0 := NB269_270.out
  have hms11_0 := NB270_269.out
  have hs12 : w8.cell? ⟨gb270, 2, none⟩ = some (.int .i64 0) := (zbn BK270.out 2).trans rfl
  have hfs12 := blk_frozen BK270.out 2
  have hns12_0 := NB269_270.out
  have hms12_0 := NB270_269.out
  have hs13 : w8.cell? ⟨gb270, 3, none⟩ = some (.slice none 0 0) := (zbn BK270.out 3).trans rfl
  have hfs13 := blk_frozen BK270.out 3
  have hns13_0 := NB269_270.out
  have hms13_0 := NB270_269.out
  refine skip_ (w1 := ?_) (by rfl) rfl ?_ ?_
  rotate_left
  ·go_simp
   rfl
  refine hK.out _ _ ⟨((zef (p := ⟨gb270, _, none⟩) NB269_270.out _).trans (((zef (p := ⟨gb270, _, none⟩) NB269_270.out _).trans (((zef (p := ⟨gb270, _, none⟩) NB269_270.out _).trans (((zef (p := ⟨gb270, _, none⟩) NB269_270.out _).trans (hHeld.1)))))))), ((zef (p := ⟨gb270, _, none⟩) NB269_270.out _).trans (((zef (p := ⟨gb270, _, none⟩) NB269_270.out _).trans (((zef (p := ⟨gb270, _, none⟩) NB269_270.out _).trans (((zef (p := ⟨gb270, _, none⟩) NB269_270.out _).trans (hHeld.2.1)))))))), ((zef (p := ⟨gb270, _, none⟩) NB269_270.out _).trans (((zef (p := ⟨gb270, _, none⟩) NB269_270.out _).trans (((zef (p := ⟨gb270, _, none⟩) NB269_270.out _).trans (((zef (p := ⟨gb270, _, none⟩) NB269_270.out _).trans (hHeld.2.2.1)))))))), ((zef (p := ⟨gb270, _, none⟩) NB269_270.out _).trans (((zef (p := ⟨gb270, _, none⟩) NB269_270.out _).trans (((zef (p := ⟨gb270, _, none⟩) NB269_270.out _).trans (((zef (p := ⟨gb270, _, none⟩) NB269_270.out _).trans (hHeld.2.2.2.1)))))))), ((zef (p := ⟨gb270, _, none⟩) NB269_270.out _).trans (((zef (p := ⟨gb270, _, none⟩) NB269_270.out _).trans (((zef (p := ⟨gb270, _, none⟩) NB269_270.out _).trans (((zef (p := ⟨gb270, _, none⟩) NB269_270.out _).trans (hHeld.2.2.2.2))))))))⟩ (fun hHeld => ?_)
  clear hK K
  refine done_ (done_of HT_.out (by kernel_rfl)) ?_
  try go_wp2
  refine zeg (results_cell_row rfl _ _ gb270 34 #[.string a0_1, .int .i64 a0_2, .int .i64 a0_3, .slice Ao9 y274.length co9] (0, 0) _ rfl (by (with_reducible repeat (first | refine zbr ?_ _ | refine zbu ?_ | refine zbs ?_ _)); refine zea (cs := #[.string a0_1, .int .i64 a0_2, .int .i64 a0_3, .slice none 0 0]) ?_ 3 _ rfl; (with_reducible repeat (first | refine zbr ?_ _ | refine zbu ?_ | refine zbs ?_ _)); refine zea (cs := #[.string a0_1, .int .i64 a0_2, .int .i64 0, .slice none 0 0]) ?_ 2 _ rfl; (with_reducible repeat (first | refine zbr ?_ _ | refine zbu ?_ | refine zbs ?_ _)); refine zea (cs := #[.string a0_1, .int .i64 0, .int .i64 0, .slice none 0 0]) ?_ 1 _ rfl; (with_reducible repeat (first | refine zbr ?_ _ | refine zbu ?_ | refine zbs ?_ _)); refine zea (cs := #[.string (⟨#[]⟩ : ByteArray), .int .i64 0, .int .i64 0, .slice none 0 0]) ?_ 0 _ rfl; (with_reducible repeat (first | refine zbr ?_ _ | refine zbu ?_ | refine zbs ?_ _)); exact BK270.out) Try.underlying34 rfl (by kernel_rfl)) rfl ?_
  exact ⟨_, jex, by (with_reducible repeat (first | apply zap | apply zaq | apply zav)); exact zak (zch (p := ⟨gb270, 3, none⟩) (zch (p := ⟨gb270, 2, none⟩) (zch (p := ⟨gb270, 1, none⟩) (zch (p := ⟨gb270, 0, none⟩) (zby HO276.out BK270.out (by decide)) (fun _ hk => hk.2) (.string a0_1)) (fun _ hk => hk.2) (.int .i64 a0_2)) (fun _ hk => hk.2) (.int .i64 a0_3)) (fun _ hk => hk.2) (.slice Ao9 y274.length co9)) (fun _ hk => trivial), (bs2 GE269.out GE270.out)⟩
 ·rw [if_neg c2] at H
  exact absurd H (by simp)
def spec_LineOk.f (k : Nat) (a0_0 : Int) (a0_1 : ByteArray) (a0_2 : Int) (a0_3 : Int) (l0_4 : List Int) : Option (Bool) := if a0_0 = 1 then ((spec_l14Item.f a0_0 a0_1 a0_2 a0_3 l0_4).bind fun bt278 => ((spec_ItemOk.f k bt278.1 bt278.2.1 bt278.2.2.1 bt278.2.2.2).bind fun t284 => (some t284))) else (if a0_0 = 2 then ((spec_l13Route.f k a0_1).bind fun t285 => (if t285 = true then (if a0_2 = 0 then (if a0_3 = 0 then (some ((l0_4.length : Int) == 0)) else (some false)) else (some false)) else (some false))) else (if a0_0 = 3 then (if a0_1.toList = ([] : List UInt8) then (if a0_2 = 0 then ((spec_l1In.f a0_3 0 100000).bind fun t286 => (if t286 = true then (some ((l0_4.length : Int) == 0)) else (some false))) else (some false)) else (some false)) else (some false)))
theorem spec_LineOk.mono : ∀ a0 a1 a2 a3 a4 k, LeO (spec_LineOk.f k a0 a1 a2 a3 a4) (spec_LineOk.f (k + 1) a0 a1 a2 a3 a4) := by
 intro a0 a1 a2 a3 a4 k
 unfold spec_LineOk.f
 have m0 := @spec_ItemOk.mono
 have m1 := @spec_l13Route.mono
 exact mt
theorem spec_LineOk.wk {P : Prop} (h : P := by
 go_enter Try.func34, Try.ntmps34
 go_wp2_with (first | (refine jgd 1 ?_; (try (refine gate_guard (by rfl) ?_; dsimp only)); refine bx 1 (#[.int .i64 a0_0, .string a0_1, .int .i64 a0_2, .int .i64 a0_3, .slice A0_4 l0_4.length c0_4]) 48 ?_; intro gb277 hg w_ hbox hb; have xb_ := below_ofs bq hb; have n_ := jA4 (zad xb_ hb) (hbox) (ge0 hg xb_ : w.heap.size ≤ gb277) (ge0 hg xb_ : w.heap.size ≤ gb277); clear HB; obtain ⟨HB, BK277, GW277, GE277⟩ := n_; clear xb_ hb hbox hg; obtain ⟨c0, c1, c2, c3, c4, z0, z1, z2, z3, z4⟩ := cz5 BK277.out) | (refine jgc 92 ?_; refine jgs 8 Try.func92 #[.agg #[.int .i64 a0_0, .string a0_1, .int .i64 a0_2, .int .i64 a0_3, .slice A0_4 l0_4.length c0_4]] ?_; (with_reducible refine (spec_l14Item.calls a0_0 a0_1 a0_2 a0_3 _ _ l0_4 t278 t279 t280 t281 _ ?side1 ?side2 A3.out).mono ?_); (case side1 => exact jcs HR0_4.out); (case side2 => exact HC0_4.out); rintro e w_ ⟨v282, rfl, ho0, hb⟩; refine ⟨_, rfl, ?_⟩; have n_ := jA3 (zaw ho0 (zah (bs1 GE277.out))) (jbb BK277.out hb) (zad (bs1 GE277.out) hb); clear BK277 HB; obtain ⟨HO283, BK277, HB⟩ := n_; clear hb ho0; obtain ⟨Ao8, co8, eo8⟩ := zbg HO283.out; subst eo8) | (refine jgc 24 ?_; refine jgs 9 Try.func24 #[.agg #[.string t278, .int .i64 t279, .int .i64 t280, .slice Ao8 t281.length co8]] ?_; (with_reducible refine (spec_ItemOk.calls k t278 t279 t280 _ _ t281 t284 _ ?side1 ?side2 A4.out).mono ?_); (case side1 => repeat (first | exact (zbq HO283.out).2.2 | (with_reducible first | apply zdk | apply zdw | apply zeh))); (case side2 => exact (zbq HO283.out).2.1); rintro e w_ ⟨rfl, hb⟩; refine ⟨_, rfl, ?_⟩; have n_ := jA3 (zdz (pR HO283.out) hb) (jbb BK277.out hb) (zad (bs1 GE277.out) hb); clear HO283 BK277 HB; obtain ⟨HO283, BK277, HB⟩ := n_; (try clear hb); (try clear hb2); (try clear hk); (try clear hi)) | (refine jgc 88 ?_; refine jgs 14 Try.func88 #[.string a0_1] ?_; (with_reducible refine (spec_l13Route.calls k a0_1 _ _ A11.out).mono ?_); rintro e w_ ⟨rfl, hb⟩; refine ⟨_, rfl, ?_⟩; have n_ := jA2 (jbb BK277.out hb) (zad (bs1 GE277.out) hb); clear BK277 HB; obtain ⟨BK277, HB⟩ := n_; (try clear hb); (try clear hb2); (try clear hk); (try clear hi); obtain ⟨c0, c1, c2, c3, c4, z0, z1, z2, z3, z4⟩ := cz5 BK277.out) | (go_at_call 89; (with_reducible refine (spec_l1In.calls a0_3 0 100000 _ _ A33.out).mono ?_); rintro e w' ⟨rfl, ⟨nd, rfl⟩⟩))
 go_ret
 exact ⟨jex, (bs1 GE277.out)⟩) : P := h
theorem spec_LineOk.calls (k : Nat) (a0_0 : Int) (a0_1 : ByteArray) (a0_2 : Int) (a0_3 : Int) (A0_4 : Option Addr) (c0_4 : Nat) (l0_4 : List Int) (r : Bool) (w : World) (hr0_4 : Kd.C (Kd.int .u8) w A0_4 l0_4.length l0_4) (hc0_4 : l0_4.length ≤ c0_4) (h : spec_LineOk.f k a0_0 a0_1 a0_2 a0_3 l0_4 = some r) :
  Calls Try.prog 34 #[.agg #[.int .i64 a0_0, .string a0_1, .int .i64 a0_2, .int .i64 a0_3, .slice A0_4 l0_4.length c0_4]] w fun e w' => e = .returned (.bool r) ∧ Below w.heap.size w w' := by
 have hu48 := Try.underlying48
 have HR0_4 := Aside0.mk hr0_4
 have HC0_4 := Aside0.mk hc0_4
 clear hr0_4 hc0_4
 have HB := Aside0.mk (zbj w.heap.size w)
 have H : (if a0_0 = 1 then ((spec_l14Item.f a0_0 a0_1 a0_2 a0_3 l0_4).bind fun bt278 => ((spec_ItemOk.f k bt278.1 bt278.2.1 bt278.2.2.1 bt278.2.2.2).bind fun t284 => (some t284))) else (if a0_0 = 2 then ((spec_l13Route.f k a0_1).bind fun t285 => (if t285 = true then (if a0_2 = 0 then (if a0_3 = 0 then (some ((l0_4.length : Int) == 0)) else (some false)) else (some false)) else (some false))) else (if a0_0 = 3 then (if a0_1.toList = ([] : List UInt8) then (if a0_2 = 0 then ((spec_l1In.f a0_3 0 100000).bind fun t286 => (if t286 = true then (some ((l0_4.length : Int) == 0)) else (some false))) else (some false)) else (some false)) else (some false)))) = some r := h
 clear h
 by_cases c2 : a0_0 = 1
 ·rw [if_pos c2] at H
  have c2b0 := beqT c2
  have c2b1 := zbe.mpr c2
  clear c2
  obtain ⟨⟨t278, t279, t280, t281⟩, A3, H⟩ := bnd H
  try dsimp only at H
  obtain ⟨t284, A4, H⟩ := bnd H
  obtain rfl := Option.some.inj H
  exact spec_LineOk.wk
 ·rw [if_neg c2] at H
  have c2b0 := zax.mpr c2
  have c2b1 := zdb.mpr c2
  by_cases c10 : a0_0 = 2
  ·rw [if_pos c10] at H
   have c10b0 := beqT c10
   have c10b1 := zbe.mpr c10
   clear c10
   obtain ⟨t285, A11, H⟩ := bnd H
   by_cases c12 : t285 = true
   ·subst c12
    rw [if_pos rfl] at H
    by_cases c13 : a0_2 = 0
    ·rw [if_pos c13] at H
     have c13b0 := beqT c13
     have c13b1 := zbe.mpr c13
     clear c13
     by_cases c14 : a0_3 = 0
     ·rw [if_pos c14] at H
      have c14b0 := beqT c14
      have c14b1 := zbe.mpr c14
      clear c14
      obtain rfl := Option.some.inj H
      exact spec_LineOk.wk
     ·rw [if_neg c14] at H
      have c14b0 := zax.mpr c14
      have c14b1 := zdb.mpr c14
      obtain rfl := Option.some.inj H
      exact spec_LineOk.wk
    ·rw [if_neg c13] at H
     have c13b0 := zax.mpr c13
     have c13b1 := zdb.mpr c13
     obtain rfl := Option.some.inj H
     exact spec_LineOk.wk
   ·replace c12 := zcd.mpr c12
    subst c12
    rw [if_neg (show ¬ (false = true) by decide)] at H
    obtain rfl := Option.some.inj H
    exact spec_LineOk.wk
  ·rw [if_neg c10] at H
   have c10b0 := zax.mpr c10
   have c10b1 := zdb.mpr c10
   by_cases c30 : a0_0 = 3
   ·rw [if_pos c30] at H
    have c30b0 := beqT c30
    have c30b1 := zbe.mpr c30
    clear c30
    by_cases c31 : a0_1.toList = ([] : List UInt8)
    ·rw [if_pos c31] at H
     have c31b0 := beqT c31
     have c31b1 := zbe.mpr c31
     clear c31
     by_cases c32 : a0_2 = 0
     ·rw [if_pos c32] at H
      have c32b0 := beqT c32
      have c32b1 := zbe.mpr c32
      clear c32
      obtain ⟨t286, A33, H⟩ := bnd H
      by_cases c34 : t286 = true
      ·subst c34
       rw [if_pos rfl] at H
       obtain rfl := Option.some.inj H
       exact spec_LineOk.wk
      ·replace c34 := zcd.mpr c34
       subst c34
       rw [if_neg (show ¬ (false = true) by decide)] at H
       obtain rfl := Option.some.inj H
       exact spec_LineOk.wk
     ·rw [if_neg c32] at H
      have c32b0 := zax.mpr c32
      have c32b1 := zdb.mpr c32
      obtain rfl := Option.some.inj H
      exact spec_LineOk.wk
    ·rw [if_neg c31] at H
     have c31b0 := zax.mpr c31
     have c31b1 := zdb.mpr c31
     obtain rfl := Option.some.inj H
     exact spec_LineOk.wk
   ·rw [if_neg c30] at H
    have c30b0 := zax.mpr c30
    have c30b1 := zdb.mpr c30
    obtain rfl := Option.some.inj H
    exact spec_LineOk.wk
mutual
def spec_Little.j0 : Nat → Int → Int → List Int → Bool → Option (List Int)
 | 0, _, _, _, _ => none
 | k + 1, x0, x1, x5, x14 => if x14 = true then (some x5) else (spec_Little.l0 k x0 x1 x5 0)
def spec_Little.l0 : Nat → Int → Int → List Int → Int → Option (List Int)
 | 0, _, _, _, _ => none
 | k + 1, x0, x1, x5, x6 => if x6 < x1 then (if x5.length < 140737488355328 then (spec_Little.l0 k (x0 / 256) x1 (x5 ++ [(Go.bits .and .i64 x0 255) % 256]) (wrap64 (x6 + 1))) else (none)) else (some x5)
end
def spec_Little.f (k : Nat) (a0 : Int) (a1 : Int) : Option (List Int) := (some (([] : List Int) : List Int)).bind fun y445 => (if a0 < 0 then (spec_Little.j0 k a0 a1 y445 true) else ((spec_l1In.f a1 1 8).bind fun t448 => (spec_Little.j0 k a0 a1 y445 (!t448))))
theorem spec_Little.mono_l : ∀ k, (∀ y0 y1 y2 y3, LeO (spec_Little.j0 k y0 y1 y2 y3) (spec_Little.j0 (k + 1) y0 y1 y2 y3)) ∧ (∀ y0 y1 y2 y3, LeO (spec_Little.l0 k y0 y1 y2 y3) (spec_Little.l0 (k + 1) y0 y1 y2 y3))
 | 0 => ⟨fun _ _ _ _ r h => by simp [spec_Little.j0] at h, fun _ _ _ _ r h => by simp [spec_Little.l0] at h⟩
 | k + 1 => by
  obtain ⟨ih0, ih1⟩ := spec_Little.mono_l k
  refine ⟨?_, ?_⟩
  ·intro y0 y1 y2 y3
   unfold spec_Little.j0
   exact mt
  ·intro y0 y1 y2 y3
   unfold spec_Little.l0
   exact mt
theorem spec_Little.mono : ∀ a0 a1 k, LeO (spec_Little.f k a0 a1) (spec_Little.f (k + 1) a0 a1) := by
 intro a0 a1 k
 obtain ⟨ih0, ih1⟩ := spec_Little.mono_l k
 unfold spec_Little.f
 exact mt
theorem spec_Little.calls (k : Nat) (a0 : Int) (a1 : Int) (r : List Int) (w : World) (h : spec_Little.f k a0 a1 = some r) :
  Calls Try.prog 136 #[.int .i64 a0, .int .i64 a1] w fun e w' => ∃ v0_ : Value, e = .returned (v0_) ∧ Kd.R (Kd.int .u8) 5 w' w.heap.size (fun _ => True) v0_ r ∧ Below w.heap.size w w' := by
 have HB := Aside0.mk (zbj w.heap.size w)
 have H : ((some (([] : List Int) : List Int)).bind fun y445 => (if a0 < 0 then (spec_Little.j0 k a0 a1 y445 true) else ((spec_l1In.f a1 1 8).bind fun t448 => (spec_Little.j0 k a0 a1 y445 (!t448))))) = some r := h
 clear h
 obtain ⟨y445, hy445⟩ : ∃ y_ : List Int, y_ = (([] : List Int)) := ⟨_, rfl⟩
 replace H := bto hy445 H
 have Ny445 := Aside0.mk hy445
 clear hy445
 have HC3 := Aside0.mk H
 clear H
 go_enter Try.func136, Try.ntmps136
 go_upto_region 2 with (first | (refine jgd 7 ?_; refine jlt 7 (Kd.int .u8) 5 ?_; intro v446 w4 ho5 hb; have xb_ := below_ofs bq hb; (first | rw [← Ny445.out] at ho5 | (simp only [Int.reduceToNat] at ho5; rw [← Ny445.out] at ho5)); have n_ := jA2 (zaw ho5 (zah xb_)) (zad xb_ hb); clear HB; obtain ⟨HO447, HB⟩ := n_; clear xb_ hb ho5))
 (try simp only [Act.put, zao, zbc, zbd])
 go_cut [14] (fun v14 wc => ∃ (kq : Nat) (x14_2 : Bool), v14 = .bool x14_2 ∧ Aside0 (spec_Little.j0 kq a0 a1 y445 x14_2 = some r) ∧ Aside0 (kq ≤ k) ∧ Aside0 (Kd.R (Kd.int .u8) 5 wc w.heap.size (fun _ => True) v446 y445) ∧ Aside0 (Below w.heap.size w wc))
 case first =>
  have H := HC3.out
  clear HC3
  by_cases c6 : a0 < 0
  ·rw [if_pos c6] at H
   have c6b0 := zae c6
   clear c6
   (first | rw [c6b0] | (simp only [i64_w, i32_w]; rw [c6b0]) | skip)
   have H' := Aside0.mk H
   clear H
   go_wp2
   go_meet
   case rel => exact ⟨_, (true), jer, H', ⟨by first | omega | exact zaf _⟩, ⟨pR HO447.out⟩, ⟨bq⟩⟩
  ·rw [if_neg c6] at H
   have c6b0 := zas c6
   clear c6
   (first | rw [c6b0] | (simp only [i64_w, i32_w]; rw [c6b0]) | skip)
   obtain ⟨t448, A7, H⟩ := bnd H
   have H' := Aside0.mk H
   clear H
   go_wp2_with (first | (go_at_call 89; (with_reducible refine (spec_l1In.calls a1 1 8 t448 _ A7.out).mono ?_); rintro e w' ⟨rfl, ⟨nd, rfl⟩⟩))
   go_meet
   case rel => exact ⟨_, (!t448), jer, H', ⟨by first | omega | exact zaf _⟩, ⟨pR HO447.out⟩, ⟨bq⟩⟩
 case rest =>
  clear HC3
  try clear c1
  try clear p2
  try clear c6
  try clear c6b0
  obtain ⟨kq, x14_2, rfl, HA, HJ2, HO_5, HB⟩ := hcut
  cases kq with
  | zero => exact absurd HA.out (by simp [spec_Little.j0])
  | succ kj2 =>
   have H := HA.out
   clear HA
   simp only [spec_Little.j0] at H
   by_cases c8 : x14_2 = true
   ·subst c8
    rw [if_pos rfl] at H
    obtain rfl := Option.some.inj H
    go_wp2
    go_ret
    exact ⟨_, jex, by (with_reducible repeat (first | apply zap | apply zaq | apply zav)); exact HO_5.out, bq⟩
   ·replace c8 := zcd.mpr c8
    subst c8
    rw [if_neg (show ¬ (false = true) by decide)] at H
    have H' := Aside0.mk H
    clear H
    go_wp2
    go_loopg [0, 5, 6] kj2 (fun kq v0 v5 v6 w' => ∃ (x0_2 : Int) (x5_2 : List Int) (x6_2 : Int), v0 = .int .i64 x0_2 ∧ v6 = .int .i64 x6_2 ∧ Aside0 (spec_Little.l0 kq x0_2 a1 x5_2 x6_2 = some r) ∧ Aside0 (kq ≤ kj2) ∧ Aside0 (Kd.R (Kd.int .u8) 5 w' w.heap.size (fun _ => True) v5 x5_2) ∧ Aside0 (Below w.heap.size w w'))
    case atStart => exact ⟨(a0), (y445), (0), jer, jer, H', ⟨zaf _⟩, ⟨pR HO_5.out⟩, ⟨bq⟩⟩
    case round =>
     clear H'
     try clear c1
     try clear p2
     try clear c6
     try clear c6b0
     try clear c8
     try clear p2
     obtain ⟨x0_2, x5_2, x6_2, rfl, rfl, HA, HK2, HO_5, HB⟩ := hrel
     cases gk with
     | zero => exact absurd HA.out (by simp [spec_Little.l0])
     | succ k2 =>
      have H := HA.out
      clear HA
      simp only [spec_Little.l0] at H
      by_cases c9 : x6_2 < a1
      ·rw [if_pos c9] at H
       have c9b0 := zae c9
       clear c9
       by_cases c10 : x5_2.length < 140737488355328
       ·rw [if_pos c10] at H
        have LMc10 := Aside0.mk c10
        clear c10
        obtain ⟨y449, hy449⟩ : ∃ y_ : List Int, y_ = (x5_2 ++ [(Go.bits .and .i64 x0_2 255) % 256]) := ⟨_, rfl⟩
        replace H : (spec_Little.l0 k2 (x0_2 / 256) a1 y449 (wrap64 (x6_2 + 1))) = some r := jrw hy449 H
        have Ny449 := Aside0.mk hy449
        clear hy449
        have H' := Aside0.mk H
        clear H
        go_wp2_with (first | ((with_reducible refine zbw (b := .append) (xs := #[.tmp 21, .tmp 25]) rfl ?_); at_builtin; refine Kd.R_append (Kd.int .u8) (w0 := w) w.heap.size rfl (.tmp 21) (.tmp 25) 29 5 (.int .u8 0) 1 rfl Try.underlying29 info5 rfl (by decide) (by omega) u5 x5_2 ((Go.bits .and .i64 x0_2 255) % 256) [.int .u8 ((Go.bits .and .i64 x0_2 255) % 256)] (fun _ => True) (fun _ => False) rfl rfl ?aP (fun _ hk => hk.elim) ?aF ?aO ?aB ?aS ?aL ?_; (case aP => exact rfl); (case aB => exact bq); (case aF => exact (fun _ _ => trivial)); (case aO => exact (pR HO_5.out)); (case aS => exact (zah bq)); (case aL => have := LMc10.out; omega); intro v450 w11 ho hb hg hat; rw [← Ny449.out] at ho; have n_ := jA2 (hb) (ho); clear HB HO_5; obtain ⟨HB, HO451⟩ := n_; clear ho hb hg hat))
        go_roundg k2
        case measure => have := HJ2.out; have := HK2.out; omega
        case rel => exact ⟨(x0_2 / 256), (y449), (wrap64 (x6_2 + 1)), jer, jer, H', ⟨by have := HJ2.out; have := HK2.out; omega⟩, ⟨pR HO451.out⟩, ⟨bq⟩⟩
       ·rw [if_neg c10] at H
        exact absurd H (by simp)
      ·rw [if_neg c9] at H
       have c9b0 := zas c9
       clear c9
       obtain rfl := Option.some.inj H
       go_wp2
       go_ret
       exact ⟨_, jex, by (with_reducible repeat (first | apply zap | apply zaq | apply zav)); exact HO_5.out, bq⟩
def spec_Great.l0 : Nat → List Int → List Int → Int → Option (List Int)
 | 0, _, _, _ => none
 | k + 1, x5, x6, x7 => if x7 ≥ 0 then (if 0 ≤ x7 then (if x7 < (x5.length : Int) then (if x6.length < 140737488355328 then (spec_Great.l0 k x5 (x6 ++ [rd x5 x7]) (wrap64 (x7 - 1))) else (none)) else (none)) else (none)) else (some x6)
def spec_Great.f (k : Nat) (a0 : Int) (a1 : Int) : Option (List Int) := (spec_Little.f k a0 a1).bind fun t452 => (spec_Great.l0 k t452 (([] : List Int)) (wrap64 ((t452.length : Int) - 1)))
theorem spec_Great.mono_l : ∀ k, (∀ y0 y1 y2, LeO (spec_Great.l0 k y0 y1 y2) (spec_Great.l0 (k + 1) y0 y1 y2))
 | 0 => fun _ _ _ r h => by simp [spec_Great.l0] at h
 | k + 1 => by
  have ih0 := spec_Great.mono_l k
  ·intro y0 y1 y2
   unfold spec_Great.l0
   have m0 := @spec_Little.mono
   exact mt
theorem spec_Great.mono : ∀ a0 a1 k, LeO (spec_Great.f k a0 a1) (spec_Great.f (k + 1) a0 a1) := by
 intro a0 a1 k
 have ih0 := spec_Great.mono_l k
 unfold spec_Great.f
 have m0 := @spec_Little.mono
 exact mt
theorem spec_Great.calls (k : Nat) (a0 : Int) (a1 : Int) (r : List Int) (w : World) (h : spec_Great.f k a0 a1 = some r) :
  Calls Try.prog 107 #[.int .i64 a0, .int .i64 a1] w fun e w' => ∃ v0_ : Value, e = .returned (v0_) ∧ Kd.R (Kd.int .u8) 5 w' w.heap.size (fun _ => True) v0_ r ∧ Below w.heap.size w w' := by
 have HB := Aside0.mk (zbj w.heap.size w)
 have H : ((spec_Little.f k a0 a1).bind fun t452 => (spec_Great.l0 k t452 (([] : List Int)) (wrap64 ((t452.length : Int) - 1)))) = some r := h
 clear h
 obtain ⟨t452, A3, H⟩ := bnd H
 obtain ⟨y455, hy455⟩ : ∃ y_ : List Int, y_ = (([] : List Int)) := ⟨_, rfl⟩
 replace H : (spec_Great.l0 k t452 y455 (wrap64 ((t452.length : Int) - 1))) = some r := jrw hy455 H
 have Ny455 := Aside0.mk hy455
 clear hy455
 have H' := Aside0.mk H
 clear H
 go_enter Try.func107, Try.ntmps107
 go_wp2_with (first | (refine jgc 136 ?_; refine jgs 10 Try.func136 #[.int .i64 a0, .int .i64 a1] ?_; (with_reducible refine (spec_Little.calls k a0 a1 t452 _ A3.out).mono ?_); rintro e w4 ⟨v453, rfl, ho0, hb⟩; refine ⟨_, rfl, ?_⟩; have xb_ := below_ofs bq hb; have n_ := jA2 (zaw ho0 (zah xb_)) (zad xb_ hb); clear HB; obtain ⟨HO454, HB⟩ := n_; clear xb_ hb ho0) | (refine jgd 11 ?_; refine jlt 11 (Kd.int .u8) 5 ?_; intro v456 w5 ho6 hb; have xb_ := below_ofs bq hb; (first | rw [← Ny455.out] at ho6 | (simp only [Int.reduceToNat] at ho6; rw [← Ny455.out] at ho6)); have qHO454 := Kd.R_ofs (pR HO454.out) hb; have n_ := jA3 (zbl qHO454 (zba ho6) hb) (zaw (zda ho6 (zce qHO454)) (zah xb_)) (zad xb_ hb); clear qHO454 HO454 HB; obtain ⟨HO454, HO457, HB⟩ := n_; clear xb_ hb ho6; obtain ⟨Ao7, co7, eo7⟩ := zbg HO454.out; subst eo7))
 go_loopg [6, 7] k (fun kq v6 v7 w' => ∃ (x6_1 : List Int) (x7_1 : Int), v7 = .int .i64 x7_1 ∧ Aside0 (spec_Great.l0 kq t452 x6_1 x7_1 = some r) ∧ Aside0 (kq ≤ k) ∧ Aside0 (Kd.R (Kd.int .u8) 5 w' w.heap.size (fun k_ => some k_ ≠ (v6 : Value).ownBlock) (.slice Ao7 t452.length co7) t452) ∧ Aside0 (Kd.R (Kd.int .u8) 5 w' w.heap.size (fun k_ => some k_ ≠ ((.slice Ao7 t452.length co7) : Value).ownBlock) v6 x6_1) ∧ Aside0 (Below w.heap.size w w'))
 case atStart => exact ⟨(y455), (wrap64 ((t452.length : Int) - 1)), jer, H', ⟨zaf _⟩, ⟨by (with_reducible repeat (first | apply zap | apply zaq | apply zav)); exact zak HO454.out (fun _ hk => hk.2)⟩, ⟨by (with_reducible repeat (first | apply zap | apply zaq | apply zav)); exact zak HO457.out (fun _ hk => hk.2)⟩, ⟨bq⟩⟩
 case round =>
  clear H'
  try clear c1
  try clear p2
  try clear p6
  obtain ⟨x6_1, x7_1, rfl, HA, HK1, HO_5, HO_6, HB⟩ := hrel
  cases gk with
  | zero => exact absurd HA.out (by simp [spec_Great.l0])
  | succ k1 =>
   have H := HA.out
   clear HA
   simp only [spec_Great.l0] at H
   by_cases c8 : x7_1 ≥ 0
   ·rw [if_pos c8] at H
    have c8b0 := zae c8
    clear c8
    by_cases c9 : 0 ≤ x7_1
    ·rw [if_pos c9] at H
     have c9b0 := zae c9
     clear c9
     by_cases c10 : x7_1 < (t452.length : Int)
     ·rw [if_pos c10] at H
      have c10b0 := zae c10
      clear c10
      by_cases c11 : x6_1.length < 140737488355328
      ·rw [if_pos c11] at H
       have LMc11 := Aside0.mk c11
       clear c11
       obtain ⟨y459, hy459⟩ : ∃ y_ : List Int, y_ = (x6_1 ++ [rd t452 x7_1]) := ⟨_, rfl⟩
       replace H : (spec_Great.l0 k1 t452 y459 (wrap64 (x7_1 - 1))) = some r := jrw hy459 H
       have Ny459 := Aside0.mk hy459
       clear hy459
       have H' := Aside0.mk H
       clear H
       have p458 : 0 ≤ (x7_1 : Int) := zaa jab
       have q458 : x7_1 < (t452.length : Int) := zaa jab
       obtain ⟨ad458, e458, hx458_0⟩ := zet (zbq HO_5.out).2.2 x7_1 p458 q458
       cases e458
       replace p458 := zay p458
       replace q458 := zay q458
       go_wp2_with (first | ((with_reducible refine zbw (b := .append) (xs := #[.tmp 19, .tmp 24]) rfl ?_); at_builtin; refine Kd.R_append (Kd.int .u8) (w0 := w) w.heap.size rfl (.tmp 19) (.tmp 24) 29 5 (.int .u8 0) 1 rfl Try.underlying29 info5 rfl (by decide) (by omega) u6 x6_1 (rd t452 x7_1) [.int .u8 (rd t452 x7_1)] (fun k_ => some k_ ≠ (.slice (some ad458) t452.length co7 : Value).ownBlock) (fun _ => False) rfl rfl ?aP (fun _ hk => hk.elim) ?aF ?aO ?aB ?aS ?aL ?_; (case aP => exact rfl); (case aB => exact bq); (case aF => exact (fun k_ hk => zdq (zce (pR HO_5.out)) k_ hk)); (case aO => exact (pR HO_6.out)); (case aS => exact (zah bq)); (case aL => have := LMc11.out; omega); intro v460 w12 ho hb hg hat; rw [← Ny459.out] at ho; have n_ := jA3 (zdl (ok := (fun _ => True)) (by (with_reducible repeat (first | apply zap | apply zaq | apply zav)); exact zak HO_5.out (fun _ hk => ⟨trivial, hk⟩)) hg hat) (hb) (ho); clear HO_5 HB HO_6; obtain ⟨HO_5, HB, HO461⟩ := n_; clear ho hb hg hat))
       go_roundg k1
       case measure => have := HK1.out; omega
       case rel => exact ⟨(y459), (wrap64 (x7_1 - 1)), jer, H', ⟨by have := HK1.out; omega⟩, ⟨by (with_reducible repeat (first | apply zap | apply zaq | apply zav)); exact zak HO_5.out (fun _ hk => hk.2)⟩, ⟨pR HO461.out⟩, ⟨bq⟩⟩
      ·rw [if_neg c11] at H
       exact absurd H (by simp)
     ·rw [if_neg c10] at H
      exact absurd H (by simp)
    ·rw [if_neg c9] at H
     exact absurd H (by simp)
   ·rw [if_neg c8] at H
    have c8b0 := zas c8
    clear c8
    obtain rfl := Option.some.inj H
    go_wp2
    go_ret
    exact ⟨_, jex, by (with_reducible repeat (first | apply zap | apply zaq | apply zav)); exact zak HO_6.out (fun _ hk => trivial), bq⟩
end Go.Proofs.Ytlalkldjpniakaa.P
