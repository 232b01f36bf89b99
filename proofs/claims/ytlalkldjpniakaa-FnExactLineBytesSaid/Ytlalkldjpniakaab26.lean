import Derived.Test.Ytlalkldjpniakaab25
namespace Go.Proofs.Ytlalkldjpniakaa.P
open Go.RowKit Go.Proofs.YtlalkldjpniakaaW.PrintWords Go.Proofs.YtlalkldjpniakaaW.PrintLast Go.Proofs.YtlalkldjpniakaaW.PrintMore
attribute [local go_sem] zdn zdo zeh zei zcs zct zdp zdq   -- for this text's walks alone
set_option linter.unusedVariables false
set_option linter.unusedSimpArgs false

def impl_itemOf.f (a0_0 : Int) (a0_1 : ByteArray) (a0_2 : Int) (a0_3 : Int) (l0_4 : List Int) : Option (ByteArray × Int × Int × List Int) := (slices_Clone_byte_byte.f l0_4).bind fun t296 => (some (a0_1, a0_2, a0_3, t296))
def impl_itemOf.T1 : Bool × List (List Nat × List Nat) := (true, [([], []), ([0], [0]), ([], []), ([2], [2]), ([], []), ([4], [4]), ([], []), ([6], [6]), ([7], [7]), ([1, 3, 5, 8], [1, 3, 5, 8]), ([9, 8, 0, 1, 2, 3, 4, 5, 6, 7, 8, 9], [9])])
def impl_itemOf.B1 : List Nat := [0, 1, 0, 4, 0, 16, 0, 64, 192, 511, 1023]
theorem impl_itemOf.tab1 : rtab .any (opsOf Try.f93 1) = impl_itemOf.T1 := by kernel_rfl
theorem impl_itemOf.bits1 : waitsOk impl_itemOf.T1.2 impl_itemOf.B1 = true := by kernel_rfl
set_option maxHeartbeats 8000000 in
set_option maxRecDepth 100000 in
theorem impl_itemOf.calls (a0_0 : Int) (a0_1 : ByteArray) (a0_2 : Int) (a0_3 : Int) (A0_4 : Option Addr) (c0_4 : Nat) (l0_4 : List Int) (r1 : ByteArray) (r2 : Int) (r3 : Int) (r4 : List Int) (w : World) (hr0_4 : Kd.C (Kd.int .u8) w A0_4 l0_4.length l0_4) (hc0_4 : l0_4.length ≤ c0_4) (h : impl_itemOf.f a0_0 a0_1 a0_2 a0_3 l0_4 = some (r1, r2, r3, r4)) :
  Calls Try.prog 93 #[.agg #[.int .i64 a0_0, .string a0_1, .int .i64 a0_2, .int .i64 a0_3, .slice A0_4 l0_4.length c0_4]] w fun e w' => ∃ v3_ : Value, e = .returned (.agg #[.string r1, .int .i64 r2, .int .i64 r3, v3_]) ∧ Kd.R (Kd.int .u8) 5 w' w.heap.size (fun _ => True) v3_ r4 ∧ Below w.heap.size w w' := by
 have hu48 := Try.underlying48
 have hu34 := Try.underlying34
 have HR0_4 := Aside0.mk hr0_4
 have HC0_4 := Aside0.mk hc0_4
 clear hr0_4 hc0_4
 have HB := Aside0.mk (zca w.heap.size w)
 have H : ((slices_Clone_byte_byte.f l0_4).bind fun t296 => (some (a0_1, a0_2, a0_3, t296))) = some (r1, r2, r3, r4) := h
 clear h
 replace H := zap.mp H
 obtain ⟨t296, A20, H⟩ := H
 try dsimp only at H
 have A2 := Aside0.mk A20
 clear A20
 simp only [zdj, zem] at H
 obtain ⟨rfl, rfl, rfl, rfl⟩ := H
 go_enter Try.func93, Try.ntmps93
 try go_wp2_with (first | ((with_reducible refine zbu (N := 1) rfl ?_); refine zby ?hg (N := 1) ?hd (cs := #[.int .i64 a0_0, .string a0_1, .int .i64 a0_2, .int .i64 a0_3, .slice A0_4 l0_4.length c0_4]) (t := 48) ?hr ?_; (case hd => rfl); (case hg => rfl); (case hr => first | (go_simp; done) | (go_simp; rfl)); intro gb294 hg w3 hbox hb; have n0_ := Aside0.mk (zao (by repeat (first | (with_reducible first | exact HB.out | apply zad | apply zaa | apply zac) | exact HB.out)) hb); have n1_ := Aside0.mk (hbox); have n2_ := Aside0.mk ((by rw [hg]; exact (zaj (by repeat (first | (with_reducible first | exact HB.out | apply zad | apply zaa | apply zac) | exact HB.out))) : w.heap.size ≤ gb294)); have n3_ := Aside0.mk ((by rw [hg]; exact (zaj (by repeat (first | (with_reducible first | exact HB.out | apply zad | apply zaa | apply zac) | exact HB.out))) : w.heap.size ≤ gb294)); clear HB; have HB := n0_; have BK294 := n1_; have GW294 := n2_; have GE294 := n3_; clear n0_ n1_ n2_ n3_; clear hb hbox hg) | ((with_reducible refine zbu (N := 2) rfl ?_); refine zby ?hg (N := 2) ?hd (cs := #[.string (⟨#[]⟩ : ByteArray), .int .i64 0, .int .i64 0, .slice none 0 0]) (t := 34) ?hr ?_; (case hd => rfl); (case hg => rfl); (case hr => first | (go_simp; done) | (go_simp; rfl)); intro gb295 hg w4 hbox hb; have n0_ := Aside0.mk (zbg (g := gb294) (o := .cells #[.int .i64 a0_0, .string a0_1, .int .i64 a0_2, .int .i64 a0_3, .slice A0_4 l0_4.length c0_4] 48 (0, 0)) (by (with_reducible repeat (first | refine zak ?_ _ | refine zan ?_ | refine zal ?_ _)); exact BK294.out) hb); have n1_ := Aside0.mk (zao (by repeat (first | (with_reducible first | exact HB.out | apply zad | apply zaa | apply zac | refine zaf ?_ GE294.out) | exact HB.out)) hb); have n2_ := Aside0.mk (hbox); have n3_ := Aside0.mk ((by rw [hg]; exact (zaj (by repeat (first | (with_reducible first | exact HB.out | apply zad | apply zaa | apply zac | refine zaf ?_ GE294.out) | exact HB.out))) : w.heap.size ≤ gb295)); have n4_ := Aside0.mk ((by rw [hg]; exact (zaj (by repeat (first | (with_reducible first | exact HB.out | apply zad | apply zaa | apply zac | refine zaf ?_ GE294.out) | exact HB.out))) : w.heap.size ≤ gb295)); have n5_ := Aside0.mk ((by rw [hg]; exact zdh (blk_lt (g := gb294) (o := .cells #[.int .i64 a0_0, .string a0_1, .int .i64 a0_2, .int .i64 a0_3, .slice A0_4 l0_4.length c0_4] 48 (0, 0)) (by (with_reducible repeat (first | refine zak ?_ _ | refine zan ?_ | refine zal ?_ _)); exact BK294.out)) : gb294 ≠ gb295)); have n6_ := Aside0.mk ((by rw [hg]; exact zdi (blk_lt (g := gb294) (o := .cells #[.int .i64 a0_0, .string a0_1, .int .i64 a0_2, .int .i64 a0_3, .slice A0_4 l0_4.length c0_4] 48 (0, 0)) (by (with_reducible repeat (first | refine zak ?_ _ | refine zan ?_ | refine zal ?_ _)); exact BK294.out)) : gb295 ≠ gb294)); clear BK294; clear HB; have BK294 := n0_; have HB := n1_; have BK295 := n2_; have GW295 := n3_; have GE295 := n4_; have NB294_295 := n5_; have NB295_294 := n6_; clear n0_ n1_ n2_ n3_ n4_ n5_ n6_; clear hb hbox hg))
 have n0_ := Aside0.mk (zan BK294.out)
 have n1_ := Aside0.mk (zan BK295.out)
 have n2_ := Aside0.mk (zac HB.out)
 clear BK294
 clear BK295
 clear HB
 have BK294 := n0_
 have BK295 := n1_
 have HB := n2_
 clear n0_ n1_ n2_
 refine start_ (n := 11) (S := fun w' => w'.cell? ⟨gb294, 0, none⟩ = some (.int .i64 a0_0) ∧ w'.cell? ⟨gb294, 1, none⟩ = some (.string a0_1) ∧ w'.cell? ⟨gb294, 2, none⟩ = some (.int .i64 a0_2) ∧ w'.cell? ⟨gb294, 3, none⟩ = some (.int .i64 a0_3) ∧ w'.cell? ⟨gb294, 4, none⟩ = some (.slice A0_4 l0_4.length c0_4)) (ds := []) #[false, false, false, false, false, false, false, false, false, false, false] (by kernel_rfl) rfl rfl ⟨(zae BK294.out 0).trans rfl, (zae BK294.out 1).trans rfl, (zae BK294.out 2).trans rfl, (zae BK294.out 3).trans rfl, (zae BK294.out 4).trans rfl⟩ (fun hHeld => ?_); refine with_tabW impl_itemOf.tab1 impl_itemOf.bits1 (fun HT_ HW_ => ?_)
 generalize w4.drew = w5 at BK294 BK295 HB hHeld ⊢
 refine pure_ (i := 0) (N := some 3) (v := ?_) (a' := ?_) #[true, false, false, false, false, false, false, false, false, false, false] rfl rfl (any_of HT_.out (by kernel_rfl)) (fun _ _ _ h => h) (Or.inl ⟨by rfl, ?_⟩) ?_ ?_
 rotate_left
 ·intro w'
  go_simp
  with_reducible rfl
 rotate_left
 ·simp only [Act.put, zay, zbk, zbl, i64_w, i32_w]
  rfl
 refine pure_ (i := 2) (N := some 5) (v := ?_) (a' := ?_) #[true, false, true, false, false, false, false, false, false, false, false] rfl rfl (any_of HT_.out (by kernel_rfl)) (fun _ _ _ h => h) (Or.inl ⟨by rfl, ?_⟩) ?_ ?_
 rotate_left
 ·intro w'
  go_simp
  with_reducible rfl
 rotate_left
 ·simp only [Act.put, zay, zbk, zbl, i64_w, i32_w]
  rfl
 refine pure_ (i := 4) (N := some 7) (v := ?_) (a' := ?_) #[true, false, true, false, true, false, false, false, false, false, false] rfl rfl (any_of HT_.out (by kernel_rfl)) (fun _ _ _ h => h) (Or.inl ⟨by rfl, ?_⟩) ?_ ?_
 rotate_left
 ·intro w'
  go_simp
  with_reducible rfl
 rotate_left
 ·simp only [Act.put, zay, zbk, zbl, i64_w, i32_w]
  rfl
 refine pure_ (i := 6) (N := some 9) (v := ?_) (a' := ?_) #[true, false, true, false, true, false, true, false, false, false, false] rfl rfl (any_of HT_.out (by kernel_rfl)) (fun _ _ _ h => h) (Or.inl ⟨by rfl, ?_⟩) ?_ ?_
 rotate_left
 ·intro w'
  go_simp
  with_reducible rfl
 rotate_left
 ·simp only [Act.put, zay, zbk, zbl, i64_w, i32_w]
  rfl
 refine take_ (i := 1) (N := some 4) (v := ?_) (a' := ?_) #[true, true, true, false, true, false, true, false, false, false, false] rfl rfl (take_ofW HT_.out HW_.out (by kernel_rfl)) (fun _ _ _ h => h) (Or.inl ⟨by rfl, ?_⟩) hHeld ?_ ?_
 rotate_left
 ·rintro w' ⟨s0, s1, s2, s3, s4⟩
  go_simp
  with_reducible rfl
 rotate_left
 ·simp only [Act.put, zay, zbk, zbl, i64_w, i32_w]
  rfl
 refine take_ (i := 3) (N := some 6) (v := ?_) (a' := ?_) #[true, true, true, true, true, false, true, false, false, false, false] rfl rfl (take_ofW HT_.out HW_.out (by kernel_rfl)) (fun _ _ _ h => h) (Or.inl ⟨by rfl, ?_⟩) hHeld ?_ ?_
 rotate_left
 ·rintro w' ⟨s0, s1, s2, s3, s4⟩
  go_simp
  with_reducible rfl
 rotate_left
 ·simp only [Act.put, zay, zbk, zbl, i64_w, i32_w]
  rfl
 refine take_ (i := 5) (N := some 8) (v := ?_) (a' := ?_) #[true, true, true, true, true, true, true, false, false, false, false] rfl rfl (take_ofW HT_.out HW_.out (by kernel_rfl)) (fun _ _ _ h => h) (Or.inl ⟨by rfl, ?_⟩) hHeld ?_ ?_
 rotate_left
 ·rintro w' ⟨s0, s1, s2, s3, s4⟩
  go_simp
  with_reducible rfl
 rotate_left
 ·simp only [Act.put, zay, zbk, zbl, i64_w, i32_w]
  rfl
 refine take_ (i := 7) (N := some 10) (v := ?_) (a' := ?_) #[true, true, true, true, true, true, true, true, false, false, false] rfl rfl (take_ofW HT_.out HW_.out (by kernel_rfl)) (fun _ _ _ h => h) (Or.inl ⟨by rfl, ?_⟩) hHeld ?_ ?_
 rotate_left
 ·rintro w' ⟨s0, s1, s2, s3, s4⟩
  go_simp
  with_reducible rfl
 rotate_left
 ·simp only [Act.put, zay, zbk, zbl, i64_w, i32_w]
  rfl
 refine one_ (i := 8) (N := some 11) #[true, true, true, true, true, true, true, true, true, false, false] rfl rfl (one_of HT_.out (by kernel_rfl)) (by decide) (fun K hK => ?_)
 refine goes_ Try.func116 (by kernel_rfl) rfl #[.slice A0_4 l0_4.length c0_4] (by rfl) rfl rfl (by (try simp only [zam, zaq, zav]); first | done | rfl | (simp only [zbp, zbq]; rfl) | (simp only [zbp, zbq]; rw [zcu (zdy.mpr (zep (by assumption)))])) ?_
 with_reducible refine (slices_Clone_byte_byte.calls _ _ l0_4 t296 _ ?side1 ?side2 A2.out).mono ?_
 (case side1 => repeat (first | exact (zco HR0_4.out HB.out) | (with_reducible refine zbm ?_ _) | (with_reducible refine zbn ?_ _) | (with_reducible refine zbv ?_)))
 (case side2 => exact HC0_4.out)
 rintro e w6 ⟨v297, rfl, ho0, hb⟩
 refine ⟨_, rfl, ?_⟩
 have n0_ := Aside0.mk (zbs ho0 (zaj (by repeat (first | (with_reducible first | exact HB.out | apply zad | apply zaa | apply zac | refine zaf ?_ GE294.out | refine zaf ?_ GE295.out) | exact HB.out))))
 have n1_ := Aside0.mk (zbg (g := gb294) (o := .cells #[.int .i64 a0_0, .string a0_1, .int .i64 a0_2, .int .i64 a0_3, .slice A0_4 l0_4.length c0_4] 48 (0, 0)) (by (with_reducible repeat (first | refine zak ?_ _ | refine zan ?_ | refine zal ?_ _)); exact BK294.out) hb)
 have n2_ := Aside0.mk (zbg (g := gb295) (o := .cells #[.string (⟨#[]⟩ : ByteArray), .int .i64 0, .int .i64 0, .slice none 0 0] 34 (0, 0)) (by (with_reducible repeat (first | refine zak ?_ _ | refine zan ?_ | refine zal ?_ _)); exact BK295.out) hb)
 have n3_ := Aside0.mk (zao (by repeat (first | (with_reducible first | exact HB.out | apply zad | apply zaa | apply zac | refine zaf ?_ GE294.out | refine zaf ?_ GE295.out) | exact HB.out)) hb)
 clear BK294
 clear BK295
 clear HB
 have HO298 := n0_
 have BK294 := n1_
 have BK295 := n2_
 have HB := n3_
 clear n0_ n1_ n2_ n3_
 (try clear hb)
 (try clear hb2)
 (try clear hk)
 (try clear hi)
 (try clear ho0)
 obtain ⟨Ao7, co7, eo7⟩ := zcf HO298.out
 (first | subst eo7 | (injection eo7 with f1_ f2_ f3_; have f4_ := f1_.symm; have f5_ := f3_.symm; clear f1_ f2_ f3_; subst f4_; subst f5_))
 refine hK.out _ _ ⟨(zae BK294.out 0).trans rfl, (zae BK294.out 1).trans rfl, (zae BK294.out 2).trans rfl, (zae BK294.out 3).trans rfl, (zae BK294.out 4).trans rfl⟩ (fun hHeld => ?_)
 clear hK K
 refine norm_ (a' := ?_) ?_ ?_
 rotate_left
 ·show Act.put _ (some 11) _ = _
  simp only [Act.put, zay, zbk, zbl, i64_w, i32_w]
  rfl
 refine pure_ (i := 9) (N := some 12) (v := ?_) (a' := ?_) #[true, true, true, true, true, true, true, true, true, true, false] rfl rfl (any_of HT_.out (by kernel_rfl)) (fun _ _ _ h => h) (Or.inl ⟨by rfl, ?_⟩) ?_ ?_
 rotate_left
 ·intro w'
  go_simp
  with_reducible rfl
 rotate_left
 ·simp only [Act.put, zay, zbk, zbl, i64_w, i32_w]
  rfl
 refine one_ (i := 10) (N := none) #[true, true, true, true, true, true, true, true, true, true, true] rfl rfl (one_of HT_.out (by kernel_rfl)) (by decide) (fun K hK => ?_)
 have hs8 : w6.cell? ⟨gb295, 0, none⟩ = some (.string (⟨#[]⟩ : ByteArray)) := (zae BK295.out 0).trans rfl
 have hfs8 := zab BK295.out 0
 have hns8_0 := NB294_295.out
 have hms8_0 := NB295_294.out
 have hs9 : w6.cell? ⟨gb295, 1, none⟩ = some (.int .i64 0) := (zae BK295.out 1).trans rfl
 have hfs9 := zab BK295.out 1
 have hns9_0 := NB294_295.out
 have hms9_0 := NB295_294.out
 have hs10 : w6.cell? ⟨gb295, 2, none⟩ = some (.int .i64 0) := (zae BK295.out 2).trans rfl
 have hfs10 := zab BK295.out 2
 have hns10_0 := NB294_295.out
 have hms10_0 := NB295_294.out
 have hs11 : w6.cell? ⟨gb295, 3, none⟩ = some (.slice none 0 0) := (zae BK295.out 3).trans rfl
 have hfs11 := zab BK295.out 3
 have hns11_0 := NB294_295.out
 have hms11_0 := NB295_294.out
 refine skip_ (w1 := ?_) (by rfl) rfl ?_ ?_
 rotate_left
 ·go_simp
  rfl
 refine hK.out _ _ ⟨((zdg (p := ⟨gb295, _, none⟩) NB294_295.out _).trans (((zdg (p := ⟨gb295, _, none⟩) NB294_295.out _).trans (((zdg (p := ⟨gb295, _, none⟩) NB294_295.out _).trans (((zdg (p := ⟨gb295, _, none⟩) NB294_295.out _).trans (hHeld.1)))))))), ((zdg (p := ⟨gb295, _, none⟩) NB294_295.out _).trans (((zdg (p := ⟨gb295, _, none⟩) NB294_295.out _).trans (((zdg (p := ⟨gb295, _, none⟩) NB294_295.out _).trans (((zdg (p := ⟨gb295, _, none⟩) NB294_295.out _).trans (hHeld.2.1)))))))), ((zdg (p := ⟨gb295, _, none⟩) NB294_295.out _).trans (((zdg (p := ⟨gb295, _, none⟩) NB294_295.out _).trans (((zdg (p := ⟨gb295, _, none⟩) NB294_295.out _).trans (((zdg (p := ⟨gb295, _, none⟩) NB294_295.out _).trans (hHeld.2.2.1)))))))), ((zdg (p := ⟨gb295, _, none⟩) NB294_295.out _).trans (((zdg (p := ⟨gb295, _, none⟩) NB294_295.out _).trans (((zdg (p := ⟨gb295, _, none⟩) NB294_295.out _).trans (((zdg (p := ⟨gb295, _, none⟩) NB294_295.out _).trans (hHeld.2.2.2.1)))))))), ((zdg (p := ⟨gb295, _, none⟩) NB294_295.out _).trans (((zdg (p := ⟨gb295, _, none⟩) NB294_295.out _).trans (((zdg (p := ⟨gb295, _, none⟩) NB294_295.out _).trans (((zdg (p := ⟨gb295, _, none⟩) NB294_295.out _).trans (hHeld.2.2.2.2))))))))⟩ (fun hHeld => ?_)
 clear hK K
 refine done_ (done_of HT_.out (by kernel_rfl)) ?_
 try go_wp2
 refine bodyPost_ret (results_cell_row rfl _ _ gb295 34 #[.string a0_1, .int .i64 a0_2, .int .i64 a0_3, .slice Ao7 t296.length co7] (0, 0) _ rfl (by (with_reducible repeat (first | refine zak ?_ _ | refine zan ?_ | refine zal ?_ _)); refine zdz (cs := #[.string a0_1, .int .i64 a0_2, .int .i64 a0_3, .slice none 0 0]) ?_ 3 _ rfl; (with_reducible repeat (first | refine zak ?_ _ | refine zan ?_ | refine zal ?_ _)); refine zdz (cs := #[.string a0_1, .int .i64 a0_2, .int .i64 0, .slice none 0 0]) ?_ 2 _ rfl; (with_reducible repeat (first | refine zak ?_ _ | refine zan ?_ | refine zal ?_ _)); refine zdz (cs := #[.string a0_1, .int .i64 0, .int .i64 0, .slice none 0 0]) ?_ 1 _ rfl; (with_reducible repeat (first | refine zak ?_ _ | refine zan ?_ | refine zal ?_ _)); refine zdz (cs := #[.string (⟨#[]⟩ : ByteArray), .int .i64 0, .int .i64 0, .slice none 0 0]) ?_ 0 _ rfl; (with_reducible repeat (first | refine zak ?_ _ | refine zan ?_ | refine zal ?_ _)); exact BK295.out) Try.underlying34 rfl (by kernel_rfl)) rfl ?_
 exact ⟨_, by first | rfl | (simp [zas, zat] <;> rfl) | (simp [*, zas, zat] <;> rfl), by (with_reducible repeat (first | apply zag | apply zah | apply zai)); exact zax (zci (p := ⟨gb295, 3, none⟩) (zci (p := ⟨gb295, 2, none⟩) (zci (p := ⟨gb295, 1, none⟩) (zci (p := ⟨gb295, 0, none⟩) (zcp HO298.out BK295.out (by decide)) (fun _ hk => hk.2) (.string a0_1)) (fun _ hk => hk.2) (.int .i64 a0_2)) (fun _ hk => hk.2) (.int .i64 a0_3)) (fun _ hk => hk.2) (.slice Ao7 t296.length co7)) (fun _ hk => trivial), by repeat (first | (with_reducible first | exact HB.out | apply zad | apply zaa | apply zac | refine zaf ?_ GE294.out | refine zaf ?_ GE295.out) | exact HB.out)⟩
end Go.Proofs.Ytlalkldjpniakaa.P
