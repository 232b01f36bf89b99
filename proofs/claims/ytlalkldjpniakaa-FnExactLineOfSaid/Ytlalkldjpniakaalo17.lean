import Derived.Test.Ytlalkldjpniakaalo8
namespace Go.Proofs.Ytlalkldjpniakaa.P
open Go.RowKit Go.Proofs.YtlalkldjpniakaaW.PrintWords Go.Proofs.YtlalkldjpniakaaW.PrintLast Go.Proofs.YtlalkldjpniakaaW.PrintMore
attribute [local go_sem] zdk zdl zeh zei zcz zda zdm zdn   -- for this text's walks alone
set_option linter.unusedVariables false
set_option linter.unusedSimpArgs false

def spec_l14Item.f (a0_0 : Int) (a0_1 : ByteArray) (a0_2 : Int) (a0_3 : Int) (l0_4 : List Int) : Option (ByteArray × Int × Int × List Int) := (some (([] : List Int) : List Int)).bind fun y271 => (if y271.length + l0_4.length < 140737488355328 then (some (a0_1, a0_2, a0_3, (y271 ++ l0_4))) else (none))
def spec_l14Item.T1 : Bool × List (List Nat × List Nat) := (true, [([], []), ([0], [0]), ([], []), ([2], [2]), ([], []), ([4], [4]), ([], []), ([], []), ([7], [7]), ([6, 8], [6, 8]), ([1, 3, 5, 9], [1, 3, 5, 9]), ([10, 9, 0, 1, 2, 3, 4, 5, 6, 7, 8, 9, 10], [10])])
def spec_l14Item.B1 : List Nat := [0, 1, 0, 4, 0, 16, 0, 0, 128, 448, 1023, 2047]
theorem spec_l14Item.tab1 : rtab .any (opsOf Try.f92 1) = spec_l14Item.T1 := by kernel_rfl
theorem spec_l14Item.bits1 : waitsOk spec_l14Item.T1.2 spec_l14Item.B1 = true := by kernel_rfl
set_option maxHeartbeats 8000000 in
set_option maxRecDepth 100000 in
theorem spec_l14Item.calls (a0_0 : Int) (a0_1 : ByteArray) (a0_2 : Int) (a0_3 : Int) (A0_4 : Option Addr) (c0_4 : Nat) (l0_4 : List Int) (r1 : ByteArray) (r2 : Int) (r3 : Int) (r4 : List Int) (w : World) (hr0_4 : Kd.C (Kd.int .u8) w A0_4 l0_4.length l0_4) (hc0_4 : l0_4.length ≤ c0_4) (h : spec_l14Item.f a0_0 a0_1 a0_2 a0_3 l0_4 = some (r1, r2, r3, r4)) :
  Calls Try.prog 92 #[.agg #[.int .i64 a0_0, .string a0_1, .int .i64 a0_2, .int .i64 a0_3, .slice A0_4 l0_4.length c0_4]] w fun e w' => ∃ v3_ : Value, e = .returned (.agg #[.string r1, .int .i64 r2, .int .i64 r3, v3_]) ∧ Kd.R (Kd.int .u8) 5 w' w.heap.size (fun _ => True) v3_ r4 ∧ Below w.heap.size w w' := by
 have hu48 := Try.underlying48
 have hu34 := Try.underlying34
 have HR0_4 := Aside0.mk hr0_4
 have HC0_4 := Aside0.mk hc0_4
 clear hr0_4 hc0_4
 have HB := Aside0.mk (zbz w.heap.size w)
 have H : ((some (([] : List Int) : List Int)).bind fun y271 => (if y271.length + l0_4.length < 140737488355328 then (some (a0_1, a0_2, a0_3, (y271 ++ l0_4))) else (none))) = some (r1, r2, r3, r4) := h
 clear h
 obtain ⟨y271, hy271⟩ : ∃ y_ : List Int, y_ = (([] : List Int)) := ⟨_, rfl⟩
 replace H : (if y271.length + l0_4.length < 140737488355328 then (some (a0_1, a0_2, a0_3, (y271 ++ l0_4))) else (none)) = some (r1, r2, r3, r4) := by first | (rw [hy271]; with_reducible first | exact H | exact bind_ofs H) | (with_reducible first | exact H | exact bind_ofs H) | (rw [hy271]; exact H) | exact H
 have Ny271 := Aside0.mk hy271
 clear hy271
 by_cases c2 : y271.length + l0_4.length < 140737488355328
 ·rw [if_pos c2] at H
  have LMc2 := Aside0.mk c2
  clear c2
  obtain ⟨y274, hy274⟩ : ∃ y_ : List Int, y_ = (y271 ++ l0_4) := ⟨_, rfl⟩
  replace H : (some (a0_1, a0_2, a0_3, y274)) = some (r1, r2, r3, r4) := by first | (rw [hy274]; with_reducible first | exact H | exact bind_ofs H) | (with_reducible first | exact H | exact bind_ofs H) | (rw [hy274]; exact H) | exact H
  have Ny274 := Aside0.mk hy274
  clear hy274
  simp only [zdg, zen] at H
  obtain ⟨rfl, rfl, rfl, rfl⟩ := H
  go_enter Try.func92, Try.ntmps92
  try go_wp2_with (first | ((with_reducible refine zbu (N := 1) rfl ?_); refine zcb ?hg (N := 1) ?hd (cs := #[.int .i64 a0_0, .string a0_1, .int .i64 a0_2, .int .i64 a0_3, .slice A0_4 l0_4.length c0_4]) (t := 48) ?hr ?_; (case hd => rfl); (case hg => rfl); (case hr => first | (go_simp; done) | (go_simp; rfl)); intro gb269 hg w3 hbox hb; have n0_ := Aside0.mk (zat (by repeat (first | (with_reducible first | exact HB.out | apply zad | apply zaa | apply zac) | exact HB.out)) hb); have n1_ := Aside0.mk (hbox); have n2_ := Aside0.mk ((by rw [hg]; exact (zan (by repeat (first | (with_reducible first | exact HB.out | apply zad | apply zaa | apply zac) | exact HB.out))) : w.heap.size ≤ gb269)); have n3_ := Aside0.mk ((by rw [hg]; exact (zan (by repeat (first | (with_reducible first | exact HB.out | apply zad | apply zaa | apply zac) | exact HB.out))) : w.heap.size ≤ gb269)); clear HB; have HB := n0_; have BK269 := n1_; have GW269 := n2_; have GE269 := n3_; clear n0_ n1_ n2_ n3_; clear hb hbox hg) | ((with_reducible refine zbu (N := 2) rfl ?_); refine zcb ?hg (N := 2) ?hd (cs := #[.string (⟨#[]⟩ : ByteArray), .int .i64 0, .int .i64 0, .slice none 0 0]) (t := 34) ?hr ?_; (case hd => rfl); (case hg => rfl); (case hr => first | (go_simp; done) | (go_simp; rfl)); intro gb270 hg w4 hbox hb; have n0_ := Aside0.mk (zbq (g := gb269) (o := .cells #[.int .i64 a0_0, .string a0_1, .int .i64 a0_2, .int .i64 a0_3, .slice A0_4 l0_4.length c0_4] 48 (0, 0)) (by (with_reducible repeat (first | refine zar ?_ _ | refine zaw ?_ | refine zas ?_ _)); exact BK269.out) hb); have n1_ := Aside0.mk (zat (by repeat (first | (with_reducible first | exact HB.out | apply zad | apply zaa | apply zac | refine zal ?_ GE269.out) | exact HB.out)) hb); have n2_ := Aside0.mk (hbox); have n3_ := Aside0.mk ((by rw [hg]; exact (zan (by repeat (first | (with_reducible first | exact HB.out | apply zad | apply zaa | apply zac | refine zal ?_ GE269.out) | exact HB.out))) : w.heap.size ≤ gb270)); have n4_ := Aside0.mk ((by rw [hg]; exact (zan (by repeat (first | (with_reducible first | exact HB.out | apply zad | apply zaa | apply zac | refine zal ?_ GE269.out) | exact HB.out))) : w.heap.size ≤ gb270)); have n5_ := Aside0.mk ((by rw [hg]; exact zdz (blk_lt (g := gb269) (o := .cells #[.int .i64 a0_0, .string a0_1, .int .i64 a0_2, .int .i64 a0_3, .slice A0_4 l0_4.length c0_4] 48 (0, 0)) (by (with_reducible repeat (first | refine zar ?_ _ | refine zaw ?_ | refine zas ?_ _)); exact BK269.out)) : gb269 ≠ gb270)); have n6_ := Aside0.mk ((by rw [hg]; exact zea (blk_lt (g := gb269) (o := .cells #[.int .i64 a0_0, .string a0_1, .int .i64 a0_2, .int .i64 a0_3, .slice A0_4 l0_4.length c0_4] 48 (0, 0)) (by (with_reducible repeat (first | refine zar ?_ _ | refine zaw ?_ | refine zas ?_ _)); exact BK269.out)) : gb270 ≠ gb269)); clear BK269; clear HB; have BK269 := n0_; have HB := n1_; have BK270 := n2_; have GW270 := n3_; have GE270 := n4_; have NB269_270 := n5_; have NB270_269 := n6_; clear n0_ n1_ n2_ n3_ n4_ n5_ n6_; clear hb hbox hg))
  have n0_ := Aside0.mk (zaw BK269.out)
  have n1_ := Aside0.mk (zaw BK270.out)
  have n2_ := Aside0.mk (zac HB.out)
  clear BK269
  clear BK270
  clear HB
  have BK269 := n0_
  have BK270 := n1_
  have HB := n2_
  clear n0_ n1_ n2_
  refine start_ (n := 12) (S := fun w' => w'.cell? ⟨gb269, 0, none⟩ = some (.int .i64 a0_0) ∧ w'.cell? ⟨gb269, 1, none⟩ = some (.string a0_1) ∧ w'.cell? ⟨gb269, 2, none⟩ = some (.int .i64 a0_2) ∧ w'.cell? ⟨gb269, 3, none⟩ = some (.int .i64 a0_3) ∧ w'.cell? ⟨gb269, 4, none⟩ = some (.slice A0_4 l0_4.length c0_4)) (ds := []) #[false, false, false, false, false, false, false, false, false, false, false, false] (by kernel_rfl) rfl rfl ⟨(zaf BK269.out 0).trans rfl, (zaf BK269.out 1).trans rfl, (zaf BK269.out 2).trans rfl, (zaf BK269.out 3).trans rfl, (zaf BK269.out 4).trans rfl⟩ (fun hHeld => ?_); refine with_tabW spec_l14Item.tab1 spec_l14Item.bits1 (fun HT_ HW_ => ?_)
  generalize w4.drew = w5 at BK269 BK270 HB hHeld ⊢
  refine pure_ (i := 0) (N := some 3) (v := ?_) (a' := ?_) #[true, false, false, false, false, false, false, false, false, false, false, false] rfl rfl (any_of HT_.out (by kernel_rfl)) (fun _ _ _ h => h) (Or.inl ⟨by rfl, ?_⟩) ?_ ?_
  rotate_left
  ·intro w'
   go_simp
   with_reducible rfl
  rotate_left
  ·simp only [Act.put, zae, zag, zah, i64_w, i32_w]
   rfl
  refine pure_ (i := 2) (N := some 5) (v := ?_) (a' := ?_) #[true, false, true, false, false, false, false, false, false, false, false, false] rfl rfl (any_of HT_.out (by kernel_rfl)) (fun _ _ _ h => h) (Or.inl ⟨by rfl, ?_⟩) ?_ ?_
  rotate_left
  ·intro w'
   go_simp
   with_reducible rfl
  rotate_left
  ·simp only [Act.put, zae, zag, zah, i64_w, i32_w]
   rfl
  refine pure_ (i := 4) (N := some 7) (v := ?_) (a' := ?_) #[true, false, true, false, true, false, false, false, false, false, false, false] rfl rfl (any_of HT_.out (by kernel_rfl)) (fun _ _ _ h => h) (Or.inl ⟨by rfl, ?_⟩) ?_ ?_
  rotate_left
  ·intro w'
   go_simp
   with_reducible rfl
  rotate_left
  ·simp only [Act.put, zae, zag, zah, i64_w, i32_w]
   rfl
  refine pure_ (i := 7) (N := some 10) (v := ?_) (a' := ?_) #[true, false, true, false, true, false, false, true, false, false, false, false] rfl rfl (any_of HT_.out (by kernel_rfl)) (fun _ _ _ h => h) (Or.inl ⟨by rfl, ?_⟩) ?_ ?_
  rotate_left
  ·intro w'
   go_simp
   with_reducible rfl
  rotate_left
  ·simp only [Act.put, zae, zag, zah, i64_w, i32_w]
   rfl
  refine take_ (i := 1) (N := some 4) (v := ?_) (a' := ?_) #[true, true, true, false, true, false, false, true, false, false, false, false] rfl rfl (zfu HT_.out HW_.out (by kernel_rfl)) (fun _ _ _ h => h) (Or.inl ⟨by rfl, ?_⟩) hHeld ?_ ?_
  rotate_left
  ·rintro w' ⟨s0, s1, s2, s3, s4⟩
   go_simp
   with_reducible rfl
  rotate_left
  ·simp only [Act.put, zae, zag, zah, i64_w, i32_w]
   rfl
  refine take_ (i := 3) (N := some 6) (v := ?_) (a' := ?_) #[true, true, true, true, true, false, false, true, false, false, false, false] rfl rfl (zfu HT_.out HW_.out (by kernel_rfl)) (fun _ _ _ h => h) (Or.inl ⟨by rfl, ?_⟩) hHeld ?_ ?_
  rotate_left
  ·rintro w' ⟨s0, s1, s2, s3, s4⟩
   go_simp
   with_reducible rfl
  rotate_left
  ·simp only [Act.put, zae, zag, zah, i64_w, i32_w]
   rfl
  refine take_ (i := 5) (N := some 8) (v := ?_) (a' := ?_) #[true, true, true, true, true, true, false, true, false, false, false, false] rfl rfl (zfu HT_.out HW_.out (by kernel_rfl)) (fun _ _ _ h => h) (Or.inl ⟨by rfl, ?_⟩) hHeld ?_ ?_
  rotate_left
  ·rintro w' ⟨s0, s1, s2, s3, s4⟩
   go_simp
   with_reducible rfl
  rotate_left
  ·simp only [Act.put, zae, zag, zah, i64_w, i32_w]
   rfl
  refine take_ (i := 8) (N := some 11) (v := ?_) (a' := ?_) #[true, true, true, true, true, true, false, true, true, false, false, false] rfl rfl (zfu HT_.out HW_.out (by kernel_rfl)) (fun _ _ _ h => h) (Or.inl ⟨by rfl, ?_⟩) hHeld ?_ ?_
  rotate_left
  ·rintro w' ⟨s0, s1, s2, s3, s4⟩
   go_simp
   with_reducible rfl
  rotate_left
  ·simp only [Act.put, zae, zag, zah, i64_w, i32_w]
   rfl
  refine one_ (i := 6) (N := some 9) #[true, true, true, true, true, true, true, true, true, false, false, false] rfl rfl (one_of HT_.out (by kernel_rfl)) (by decide) (fun K hK => ?_)
  refine Kd.R_lit_step (Kd.int .u8) _ 5 ?hg (N := 9) ?hd (xs := ([] : List Int)) (inner := []) (ok := fun _ => True) (okp := fun _ => True) ?hr ?hp (fun _ hk => hk) trivial (zbz _ _) (zak _) (by simp) ?_; (case hd => rfl); (case hg => rfl); (case hr => first | (go_simp; done) | (go_simp; rfl)); (case hp => exact (zej _ _))
  intro v272 w6 ho7 hb hg_ hnew_
  clear hg_ hnew_
  (first | rw [← Ny271.out] at ho7 | (simp only [Int.reduceToNat] at ho7; rw [← Ny271.out] at ho7))
  have n0_ := Aside0.mk (zca ho7 (zan (by repeat (first | (with_reducible first | exact HB.out | apply zad | apply zaa | apply zac | refine zal ?_ GE269.out | refine zal ?_ GE270.out) | exact HB.out))))
  have n1_ := Aside0.mk (zbq (g := gb269) (o := .cells #[.int .i64 a0_0, .string a0_1, .int .i64 a0_2, .int .i64 a0_3, .slice A0_4 l0_4.length c0_4] 48 (0, 0)) (by (with_reducible repeat (first | refine zar ?_ _ | refine zaw ?_ | refine zas ?_ _)); exact BK269.out) hb)
  have n2_ := Aside0.mk (zbq (g := gb270) (o := .cells #[.string (⟨#[]⟩ : ByteArray), .int .i64 0, .int .i64 0, .slice none 0 0] 34 (0, 0)) (by (with_reducible repeat (first | refine zar ?_ _ | refine zaw ?_ | refine zas ?_ _)); exact BK270.out) hb)
  have n3_ := Aside0.mk (zat (by repeat (first | (with_reducible first | exact HB.out | apply zad | apply zaa | apply zac | refine zal ?_ GE269.out | refine zal ?_ GE270.out) | exact HB.out)) hb)
  clear BK269
  clear BK270
  clear HB
  have HO273 := n0_
  have BK269 := n1_
  have BK270 := n2_
  have HB := n3_
  clear n0_ n1_ n2_ n3_
  clear hb ho7
  refine hK.out _ _ ⟨(zaf BK269.out 0).trans rfl, (zaf BK269.out 1).trans rfl, (zaf BK269.out 2).trans rfl, (zaf BK269.out 3).trans rfl, (zaf BK269.out 4).trans rfl⟩ (fun hHeld => ?_)
  clear hK K
  refine norm_ (a' := ?_) ?_ ?_
  rotate_left
  ·show Act.put _ (some 9) _ = _
   simp only [Act.put, zae, zag, zah, i64_w, i32_w]
   rfl
  refine one_ (i := 9) (N := some 12) #[true, true, true, true, true, true, true, true, true, true, false, false] rfl rfl (one_of HT_.out (by kernel_rfl)) (by decide) (fun K hK => ?_)
  refine Kd.R_append_rows_step (Kd.int .u8) (w0 := w) w.heap.size (by rfl) (.tmp 9) (.tmp 11) 29 5 (.int .u8 0) 1 rfl Try.underlying29 info5 rfl (by decide) (by omega) v272 y271 l0_4 _ _ _ (fun _ => True) (fun _ => False) rfl rfl ?aO ?aR (fun _ _ h => h) (fun _ h => h.elim) ?aF ?aB ?aS ?aL ?_
  (case aR => repeat (first | exact (zbk HR0_4.out HB.out) | (with_reducible refine zcl ?_ _) | (with_reducible refine zcm ?_ _) | (with_reducible refine zcu ?_)))
  (case aB => exact (by repeat (first | (with_reducible first | exact HB.out | apply zad | apply zaa | apply zac | refine zal ?_ GE269.out | refine zal ?_ GE270.out) | exact HB.out)))
  (case aF => exact (fun _ _ => trivial))
  (case aO => exact (by (with_reducible repeat (first | apply zai | apply zaj | apply zam)); exact HO273.out))
  (case aS => exact (zan (by repeat (first | (with_reducible first | exact HB.out | apply zad | apply zaa | apply zac | refine zal ?_ GE269.out | refine zal ?_ GE270.out) | exact HB.out))))
  (case aL => have := LMc2.out; omega)
  intro v275 w8 ho hb hg hat
  rw [← Ny274.out] at ho
  have n0_ := Aside0.mk (blk_grown (g := gb269) (o := .cells #[.int .i64 a0_0, .string a0_1, .int .i64 a0_2, .int .i64 a0_3, .slice A0_4 l0_4.length c0_4] 48 (0, 0)) (by (with_reducible repeat (first | refine zar ?_ _ | refine zaw ?_ | refine zas ?_ _)); exact BK269.out) hg (zfm HO273.out BK269.out (by decide)))
  have n1_ := Aside0.mk (blk_grown (g := gb270) (o := .cells #[.string (⟨#[]⟩ : ByteArray), .int .i64 0, .int .i64 0, .slice none 0 0] 34 (0, 0)) (by (with_reducible repeat (first | refine zar ?_ _ | refine zaw ?_ | refine zas ?_ _)); exact BK270.out) hg (zfm HO273.out BK270.out (by decide)))
  have n2_ := Aside0.mk (hb)
  have n3_ := Aside0.mk (ho)
  clear BK269
  clear BK270
  clear HB
  clear HO273
  have BK269 := n0_
  have BK270 := n1_
  have HB := n2_
  have HO276 := n3_
  clear n0_ n1_ n2_ n3_
  clear ho hb hg hat
  obtain ⟨Ao9, co9, eo9⟩ := zcy HO276.out
  (first | subst eo9 | (injection eo9 with f1_ f2_ f3_; have f4_ := f1_.symm; have f5_ := f3_.symm; clear f1_ f2_ f3_; subst f4_; subst f5_))
  refine hK.out _ _ ⟨(zaf BK269.out 0).trans rfl, (zaf BK269.out 1).trans rfl, (zaf BK269.out 2).trans rfl, (zaf BK269.out 3).trans rfl, (zaf BK269.out 4).trans rfl⟩ (fun hHeld => ?_)
  clear hK K
  refine norm_ (a' := ?_) ?_ ?_
  rotate_left
  ·show Act.put _ (some 12) _ = _
   simp only [Act.put, zae, zag, zah, i64_w, i32_w]
   rfl
  refine pure_ (i := 10) (N := some 13) (v := ?_) (a' := ?_) #[true, true, true, true, true, true, true, true, true, true, true, false] rfl rfl (any_of HT_.out (by kernel_rfl)) (fun _ _ _ h => h) (Or.inl ⟨by rfl, ?_⟩) ?_ ?_
  rotate_left
  ·intro w'
   go_simp
   with_reducible rfl
  rotate_left
  ·simp only [Act.put, zae, zag, zah, i64_w, i32_w]
   rfl
  refine one_ (i := 11) (N := none) #[true, true, true, true, true, true, true, true, true, true, true, true] rfl rfl (one_of HT_.out (by kernel_rfl)) (by decide) (fun K hK => ?_)
  have hs10 : w8.cell? ⟨gb270, 0, none⟩ = some (.string (⟨#[]⟩ : ByteArray)) := (zaf BK270.out 0).trans rfl
  have hfs10 := zab BK270.out 0
  have hns10_0 := NB269_270.out
  have hms10_0 := NB270_269.out
  have hs11 : w8.cell? ⟨gb270, 1, none⟩ = some (.int .i64 0) := (zaf BK270.out 1).trans rfl
  have hfs11 := zab BK270.out 1
  have hns11_0 := NB269_270.out
  have hms11_0 := NB270_269.out
  have hs12 : w8.cell? ⟨gb270, 2, none⟩ = some (.int .i64 0) := (zaf BK270.out 2).trans rfl
  have hfs12 := zab BK270.out 2
  have hns12_0 := NB269_270.out
  have hms12_0 := NB270_269.out
  have hs13 : w8.cell? ⟨gb270, 3, none⟩ = some (.slice none 0 0) := (zaf BK270.out 3).trans rfl
  have hfs13 := zab BK270.out 3
  have hns13_0 := NB269_270.out
  have hms13_0 := NB270_269.out
  refine skip_ (w1 := ?_) (by rfl) rfl ?_ ?_
  rotate_left
  ·go_simp
   rfl
  refine hK.out _ _ ⟨((zdy (p := ⟨gb270, _, none⟩) NB269_270.out _).trans (((zdy (p := ⟨gb270, _, none⟩) NB269_270.out _).trans (((zdy (p := ⟨gb270, _, none⟩) NB269_270.out _).trans (((zdy (p := ⟨gb270, _, none⟩) NB269_270.out _).trans (hHeld.1)))))))), ((zdy (p := ⟨gb270, _, none⟩) NB269_270.out _).trans (((zdy (p := ⟨gb270, _, none⟩) NB269_270.out _).trans (((zdy (p := ⟨gb270, _, none⟩) NB269_270.out _).trans (((zdy (p := ⟨gb270, _, none⟩) NB269_270.out _).trans (hHeld.2.1)))))))), ((zdy (p := ⟨gb270, _, none⟩) NB269_270.out _).trans (((zdy (p := ⟨gb270, _, none⟩) NB269_270.out _).trans (((zdy (p := ⟨gb270, _, none⟩) NB269_270.out _).trans (((zdy (p := ⟨gb270, _, none⟩) NB269_270.out _).trans (hHeld.2.2.1)))))))), ((zdy (p := ⟨gb270, _, none⟩) NB269_270.out _).trans (((zdy (p := ⟨gb270, _, none⟩) NB269_270.out _).trans (((zdy (p := ⟨gb270, _, none⟩) NB269_270.out _).trans (((zdy (p := ⟨gb270, _, none⟩) NB269_270.out _).trans (hHeld.2.2.2.1)))))))), ((zdy (p := ⟨gb270, _, none⟩) NB269_270.out _).trans (((zdy (p := ⟨gb270, _, none⟩) NB269_270.out _).trans (((zdy (p := ⟨gb270, _, none⟩) NB269_270.out _).trans (((zdy (p := ⟨gb270, _, none⟩) NB269_270.out _).trans (hHeld.2.2.2.2))))))))⟩ (fun hHeld => ?_)
  clear hK K
  refine done_ (done_of HT_.out (by kernel_rfl)) ?_
  try go_wp2
  refine zfa (results_cell_row rfl _ _ gb270 34 #[.string a0_1, .int .i64 a0_2, .int .i64 a0_3, .slice Ao9 y274.length co9] (0, 0) _ rfl (by (with_reducible repeat (first | refine zar ?_ _ | refine zaw ?_ | refine zas ?_ _)); refine zew (cs := #[.string a0_1, .int .i64 a0_2, .int .i64 a0_3, .slice none 0 0]) ?_ 3 _ rfl; (with_reducible repeat (first | refine zar ?_ _ | refine zaw ?_ | refine zas ?_ _)); refine zew (cs := #[.string a0_1, .int .i64 a0_2, .int .i64 0, .slice none 0 0]) ?_ 2 _ rfl; (with_reducible repeat (first | refine zar ?_ _ | refine zaw ?_ | refine zas ?_ _)); refine zew (cs := #[.string a0_1, .int .i64 0, .int .i64 0, .slice none 0 0]) ?_ 1 _ rfl; (with_reducible repeat (first | refine zar ?_ _ | refine zaw ?_ | refine zas ?_ _)); refine zew (cs := #[.string (⟨#[]⟩ : ByteArray), .int .i64 0, .int .i64 0, .slice none 0 0]) ?_ 0 _ rfl; (with_reducible repeat (first | refine zar ?_ _ | refine zaw ?_ | refine zas ?_ _)); exact BK270.out) Try.underlying34 rfl (by kernel_rfl)) rfl ?_
  exact ⟨_, by first | rfl | (simp [zaz, zba] <;> rfl) | (simp [*, zaz, zba] <;> rfl), by (with_reducible repeat (first | apply zai | apply zaj | apply zam)); exact zbg (zcd (p := ⟨gb270, 3, none⟩) (zcd (p := ⟨gb270, 2, none⟩) (zcd (p := ⟨gb270, 1, none⟩) (zcd (p := ⟨gb270, 0, none⟩) (zdt HO276.out BK270.out (by decide)) (fun _ hk => hk.2) (.string a0_1)) (fun _ hk => hk.2) (.int .i64 a0_2)) (fun _ hk => hk.2) (.int .i64 a0_3)) (fun _ hk => hk.2) (.slice Ao9 y274.length co9)) (fun _ hk => trivial), by repeat (first | (with_reducible first | exact HB.out | apply zad | apply zaa | apply zac | refine zal ?_ GE269.out | refine zal ?_ GE270.out) | exact HB.out)⟩
 ·rw [if_neg c2] at H
  exact absurd H (by simp)
end Go.Proofs.Ytlalkldjpniakaa.P
