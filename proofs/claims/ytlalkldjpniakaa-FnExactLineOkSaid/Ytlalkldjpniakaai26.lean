import Derived.Test.Ytlalkldjpniakaai25
namespace Go.Proofs.Ytlalkldjpniakaa.P
open Go.RowKit Go.Proofs.YtlalkldjpniakaaW.PrintWords Go.Proofs.YtlalkldjpniakaaW.PrintLast Go.Proofs.YtlalkldjpniakaaW.PrintMore
attribute [local go_sem] zdg zdh zdw zdx zcy zcz zdi zdj   -- for this text's walks alone
set_option linter.unusedVariables false
set_option linter.unusedSimpArgs false

def impl_itemOf.f (a0_0 : Int) (a0_1 : ByteArray) (a0_2 : Int) (a0_3 : Int) (l0_4 : List Int) : Option (ByteArray × Int × Int × List Int) := (slices_Clone_byte_byte.f l0_4).bind fun t287 => (some (a0_1, a0_2, a0_3, t287))
def impl_itemOf.T1 : Bool × List (List Nat × List Nat) := (true, [([], []), ([0], [0]), ([], []), ([2], [2]), ([], []), ([4], [4]), ([], []), ([6], [6]), ([7], [7]), ([1, 3, 5, 8], [1, 3, 5, 8]), ([9, 8, 0, 1, 2, 3, 4, 5, 6, 7, 8, 9], [9])])
def impl_itemOf.B1 : List Nat := [0, 1, 0, 4, 0, 16, 0, 64, 192, 511, 1023]
theorem impl_itemOf.tab1 : rtab .any (opsOf Try.f93 1) = impl_itemOf.T1 := by kernel_rfl
theorem impl_itemOf.bits1 : waitsOk impl_itemOf.T1.2 impl_itemOf.B1 = true := by kernel_rfl
set_option maxHeartbeats 8000000 in
set_option maxRecDepth 100000 in
theorem impl_itemOf.calls (a0_0 : Int) (a0_1 : ByteArray) (a0_2 : Int) (a0_3 : Int) (A0_4 : Option Addr) (c0_4 : Nat) (l0_4 : List Int) (r1 : ByteArray) (r2 : Int) (r3 : Int) (r4 : List Int) (w : World) (hr0_4 : Kd.C (Kd.int .u8) w A0_4 l0_4.length l0_4) (hc0_4 : l0_4.length ≤ c0_4) (h : impl_itemOf.f a0_0 a0_1 a0_2 a0_3 l0_4 = some (r1, r2, r3, r4)) :
  Calls Try.prog 93 #[.agg #[.int .i64 a0_0, .string a0_1, .int .i64 a0_2, .int .i64 a0_3, .slice A0_4 l0_4.length c0_4]] w fun e w' => ∃ v3_ : Value, e = .returned (.agg #[.string r1, .int .i64 r2, .int .i64 r3, v3_]) ∧ Kd.R (Kd.int .u8) 5 w' w.heap.size (fun _ => True) v3_ r4 ∧ Below w.heap.size w w' := by
 have hu48 := Try.underlying48
 have hu34 := Try.underlying34
 have HR0_4 := Aside0.mk hr0_4
 have HC0_4 := Aside0.mk hc0_4
 clear hr0_4 hc0_4
 have HB := Aside0.mk (zcb w.heap.size w)
 have H : ((slices_Clone_byte_byte.f l0_4).bind fun t287 => (some (a0_1, a0_2, a0_3, t287))) = some (r1, r2, r3, r4) := h
 clear h
 replace H := zas.mp H
 obtain ⟨t287, A20, H⟩ := H
 try dsimp only at H
 have A2 := Aside0.mk A20
 clear A20
 simp only [zcs, zdr] at H
 obtain ⟨rfl, rfl, rfl, rfl⟩ := H
 go_enter Try.func93, Try.ntmps93
 try go_wp2_with (first | ((with_reducible refine zbj (N := 1) rfl ?_); refine zbk ?hg (N := 1) ?hd (cs := #[.int .i64 a0_0, .string a0_1, .int .i64 a0_2, .int .i64 a0_3, .slice A0_4 l0_4.length c0_4]) (t := 48) ?hr ?_; (case hd => rfl); (case hg => rfl); (case hr => first | (go_simp; done) | (go_simp; rfl)); intro gb285 hg w3 hbox hb; have n0_ := Aside0.mk (zak (by repeat (first | (with_reducible first | exact HB.out | apply zae | apply zaa | apply zad) | exact HB.out)) hb); have n1_ := Aside0.mk (hbox); have n2_ := Aside0.mk ((by rw [hg]; exact (zai (by repeat (first | (with_reducible first | exact HB.out | apply zae | apply zaa | apply zad) | exact HB.out))) : w.heap.size ≤ gb285)); have n3_ := Aside0.mk ((by rw [hg]; exact (zai (by repeat (first | (with_reducible first | exact HB.out | apply zae | apply zaa | apply zad) | exact HB.out))) : w.heap.size ≤ gb285)); clear HB; have HB := n0_; have BK285 := n1_; have GW285 := n2_; have GE285 := n3_; clear n0_ n1_ n2_ n3_; clear hb hbox hg) | ((with_reducible refine zbj (N := 2) rfl ?_); refine zbk ?hg (N := 2) ?hd (cs := #[.string (⟨#[]⟩ : ByteArray), .int .i64 0, .int .i64 0, .slice none 0 0]) (t := 34) ?hr ?_; (case hd => rfl); (case hg => rfl); (case hr => first | (go_simp; done) | (go_simp; rfl)); intro gb286 hg w4 hbox hb; have n0_ := Aside0.mk (zbb (g := gb285) (o := .cells #[.int .i64 a0_0, .string a0_1, .int .i64 a0_2, .int .i64 a0_3, .slice A0_4 l0_4.length c0_4] 48 (0, 0)) (by (with_reducible repeat (first | refine zag ?_ _ | refine zaj ?_ | refine zah ?_ _)); exact BK285.out) hb); have n1_ := Aside0.mk (zak (by repeat (first | (with_reducible first | exact HB.out | apply zae | apply zaa | apply zad | refine zaf ?_ GE285.out) | exact HB.out)) hb); have n2_ := Aside0.mk (hbox); have n3_ := Aside0.mk ((by rw [hg]; exact (zai (by repeat (first | (with_reducible first | exact HB.out | apply zae | apply zaa | apply zad | refine zaf ?_ GE285.out) | exact HB.out))) : w.heap.size ≤ gb286)); have n4_ := Aside0.mk ((by rw [hg]; exact (zai (by repeat (first | (with_reducible first | exact HB.out | apply zae | apply zaa | apply zad | refine zaf ?_ GE285.out) | exact HB.out))) : w.heap.size ≤ gb286)); have n5_ := Aside0.mk ((by rw [hg]; exact zch (blk_lt (g := gb285) (o := .cells #[.int .i64 a0_0, .string a0_1, .int .i64 a0_2, .int .i64 a0_3, .slice A0_4 l0_4.length c0_4] 48 (0, 0)) (by (with_reducible repeat (first | refine zag ?_ _ | refine zaj ?_ | refine zah ?_ _)); exact BK285.out)) : gb285 ≠ gb286)); have n6_ := Aside0.mk ((by rw [hg]; exact zci (blk_lt (g := gb285) (o := .cells #[.int .i64 a0_0, .string a0_1, .int .i64 a0_2, .int .i64 a0_3, .slice A0_4 l0_4.length c0_4] 48 (0, 0)) (by (with_reducible repeat (first | refine zag ?_ _ | refine zaj ?_ | refine zah ?_ _)); exact BK285.out)) : gb286 ≠ gb285)); clear BK285; clear HB; have BK285 := n0_; have HB := n1_; have BK286 := n2_; have GW286 := n3_; have GE286 := n4_; have NB285_286 := n5_; have NB286_285 := n6_; clear n0_ n1_ n2_ n3_ n4_ n5_ n6_; clear hb hbox hg))
 have n0_ := Aside0.mk (zaj BK285.out)
 have n1_ := Aside0.mk (zaj BK286.out)
 have n2_ := Aside0.mk (zad HB.out)
 clear BK285
 clear BK286
 clear HB
 have BK285 := n0_
 have BK286 := n1_
 have HB := n2_
 clear n0_ n1_ n2_
 refine start_ (n := 11) (S := fun w' => w'.cell? ⟨gb285, 0, none⟩ = some (.int .i64 a0_0) ∧ w'.cell? ⟨gb285, 1, none⟩ = some (.string a0_1) ∧ w'.cell? ⟨gb285, 2, none⟩ = some (.int .i64 a0_2) ∧ w'.cell? ⟨gb285, 3, none⟩ = some (.int .i64 a0_3) ∧ w'.cell? ⟨gb285, 4, none⟩ = some (.slice A0_4 l0_4.length c0_4)) (ds := []) #[false, false, false, false, false, false, false, false, false, false, false] (by kernel_rfl) rfl rfl ⟨(zac BK285.out 0).trans rfl, (zac BK285.out 1).trans rfl, (zac BK285.out 2).trans rfl, (zac BK285.out 3).trans rfl, (zac BK285.out 4).trans rfl⟩ (fun hHeld => ?_); refine with_tabW impl_itemOf.tab1 impl_itemOf.bits1 (fun HT_ HW_ => ?_)
 generalize w4.drew = w5 at BK285 BK286 HB hHeld ⊢
 refine pure_ (i := 0) (N := some 3) (v := ?_) (a' := ?_) #[true, false, false, false, false, false, false, false, false, false, false] rfl rfl (any_of HT_.out (by kernel_rfl)) (fun _ _ _ h => h) (Or.inl ⟨by rfl, ?_⟩) ?_ ?_
 rotate_left
 ·intro w'
  go_simp
  with_reducible rfl
 rotate_left
 ·simp only [Act.put, zao, zbc, zbd, i64_w, i32_w]
  rfl
 refine pure_ (i := 2) (N := some 5) (v := ?_) (a' := ?_) #[true, false, true, false, false, false, false, false, false, false, false] rfl rfl (any_of HT_.out (by kernel_rfl)) (fun _ _ _ h => h) (Or.inl ⟨by rfl, ?_⟩) ?_ ?_
 rotate_left
 ·intro w'
  go_simp
  with_reducible rfl
 rotate_left
 ·simp only [Act.put, zao, zbc, zbd, i64_w, i32_w]
  rfl
 refine pure_ (i := 4) (N := some 7) (v := ?_) (a' := ?_) #[true, false, true, false, true, false, false, false, false, false, false] rfl rfl (any_of HT_.out (by kernel_rfl)) (fun _ _ _ h => h) (Or.inl ⟨by rfl, ?_⟩) ?_ ?_
 rotate_left
 ·intro w'
  go_simp
  with_reducible rfl
 rotate_left
 ·simp only [Act.put, zao, zbc, zbd, i64_w, i32_w]
  rfl
 refine pure_ (i := 6) (N := some 9) (v := ?_) (a' := ?_) #[true, false, true, false, true, false, true, false, false, false, false] rfl rfl (any_of HT_.out (by kernel_rfl)) (fun _ _ _ h => h) (Or.inl ⟨by rfl, ?_⟩) ?_ ?_
 rotate_left
 ·intro w'
  go_simp
  with_reducible rfl
 rotate_left
 ·simp only [Act.put, zao, zbc, zbd, i64_w, i32_w]
  rfl
 refine take_ (i := 1) (N := some 4) (v := ?_) (a' := ?_) #[true, true, true, false, true, false, true, false, false, false, false] rfl rfl (take_ofW HT_.out HW_.out (by kernel_rfl)) (fun _ _ _ h => h) (Or.inl ⟨by rfl, ?_⟩) hHeld ?_ ?_
 rotate_left
 ·rintro w' ⟨s0, s1, s2, s3, s4⟩
  go_simp
  with_reducible rfl
 rotate_left
 ·simp only [Act.put, zao, zbc, zbd, i64_w, i32_w]
  rfl
 refine take_ (i := 3) (N := some 6) (v := ?_) (a' := ?_) #[true, true, true, true, true, false, true, false, false, false, false] rfl rfl (take_ofW HT_.out HW_.out (by kernel_rfl)) (fun _ _ _ h => h) (Or.inl ⟨by rfl, ?_⟩) hHeld ?_ ?_
 rotate_left
 ·rintro w' ⟨s0, s1, s2, s3, s4⟩
  go_simp
  with_reducible rfl
 rotate_left
 ·simp only [Act.put, zao, zbc, zbd, i64_w, i32_w]
  rfl
 refine take_ (i := 5) (N := some 8) (v := ?_) (a' := ?_) #[true, true, true, true, true, true, true, false, false, false, false] rfl rfl (take_ofW HT_.out HW_.out (by kernel_rfl)) (fun _ _ _ h => h) (Or.inl ⟨by rfl, ?_⟩) hHeld ?_ ?_
 rotate_left
 ·rintro w' ⟨s0, s1, s2, s3, s4⟩
  go_simp
  with_reducible rfl
 rotate_left
 ·simp only [Act.put, zao, zbc, zbd, i64_w, i32_w]
  rfl
 refine take_ (i := 7) (N := some 10) (v := ?_) (a' := ?_) #[true, true, true, true, true, true, true, true, false, false, false] rfl rfl (take_ofW HT_.out HW_.out (by kernel_rfl)) (fun _ _ _ h => h) (Or.inl ⟨by rfl, ?_⟩) hHeld ?_ ?_
 rotate_left
 ·rintro w' ⟨s0, s1, s2, s3, s4⟩
  go_simp
  with_reducible rfl
 rotate_left
 ·simp only [Act.put, zao, zbc, zbd, i64_w, i32_w]
  rfl
 refine one_ (i := 8) (N := some 11) #[true, true, true, true, true, true, true, true, true, false, false] rfl rfl (one_of HT_.out (by kernel_rfl)) (by decide) (fun K hK => ?_)
 refine goes_ Try.func116 (by kernel_rfl) rfl #[.slice A0_4 l0_4.length c0_4] (by rfl) rfl rfl (by (try simp only [zal, zav, zba]); first | done | rfl | (simp only [zay, zaz]; rfl) | (simp only [zay, zaz]; rw [zbu (zce.mpr (zcn (by assumption)))])) ?_
 with_reducible refine (slices_Clone_byte_byte.calls _ _ l0_4 t287 _ ?side1 ?side2 A2.out).mono ?_
 (case side1 => repeat (first | exact (zbx HR0_4.out HB.out) | (with_reducible refine zbo ?_ _) | (with_reducible refine zbp ?_ _) | (with_reducible refine zbv ?_)))
 (case side2 => exact HC0_4.out)
 rintro e w6 ⟨v288, rfl, ho0, hb⟩
 refine ⟨_, rfl, ?_⟩
 have n0_ := Aside0.mk (zby ho0 (zai (by repeat (first | (with_reducible first | exact HB.out | apply zae | apply zaa | apply zad | refine zaf ?_ GE285.out | refine zaf ?_ GE286.out) | exact HB.out))))
 have n1_ := Aside0.mk (zbb (g := gb285) (o := .cells #[.int .i64 a0_0, .string a0_1, .int .i64 a0_2, .int .i64 a0_3, .slice A0_4 l0_4.length c0_4] 48 (0, 0)) (by (with_reducible repeat (first | refine zag ?_ _ | refine zaj ?_ | refine zah ?_ _)); exact BK285.out) hb)
 have n2_ := Aside0.mk (zbb (g := gb286) (o := .cells #[.string (⟨#[]⟩ : ByteArray), .int .i64 0, .int .i64 0, .slice none 0 0] 34 (0, 0)) (by (with_reducible repeat (first | refine zag ?_ _ | refine zaj ?_ | refine zah ?_ _)); exact BK286.out) hb)
 have n3_ := Aside0.mk (zak (by repeat (first | (with_reducible first | exact HB.out | apply zae | apply zaa | apply zad | refine zaf ?_ GE285.out | refine zaf ?_ GE286.out) | exact HB.out)) hb)
 clear BK285
 clear BK286
 clear HB
 have HO289 := n0_
 have BK285 := n1_
 have BK286 := n2_
 have HB := n3_
 clear n0_ n1_ n2_ n3_
 (try clear hb)
 (try clear hb2)
 (try clear hk)
 (try clear hi)
 (try clear ho0)
 obtain ⟨Ao7, co7, eo7⟩ := zcx HO289.out
 (first | subst eo7 | (injection eo7 with f1_ f2_ f3_; have f4_ := f1_.symm; have f5_ := f3_.symm; clear f1_ f2_ f3_; subst f4_; subst f5_))
 refine hK.out _ _ ⟨(zac BK285.out 0).trans rfl, (zac BK285.out 1).trans rfl, (zac BK285.out 2).trans rfl, (zac BK285.out 3).trans rfl, (zac BK285.out 4).trans rfl⟩ (fun hHeld => ?_)
 clear hK K
 refine norm_ (a' := ?_) ?_ ?_
 rotate_left
 ·show Act.put _ (some 11) _ = _
  simp only [Act.put, zao, zbc, zbd, i64_w, i32_w]
  rfl
 refine pure_ (i := 9) (N := some 12) (v := ?_) (a' := ?_) #[true, true, true, true, true, true, true, true, true, true, false] rfl rfl (any_of HT_.out (by kernel_rfl)) (fun _ _ _ h => h) (Or.inl ⟨by rfl, ?_⟩) ?_ ?_
 rotate_left
 ·intro w'
  go_simp
  with_reducible rfl
 rotate_left
 ·simp only [Act.put, zao, zbc, zbd, i64_w, i32_w]
  rfl
 refine one_ (i := 10) (N := none) #[true, true, true, true, true, true, true, true, true, true, true] rfl rfl (one_of HT_.out (by kernel_rfl)) (by decide) (fun K hK => ?_)
 have hs8 : w6.cell? ⟨gb286, 0, none⟩ = some (.string (⟨#[]⟩ : ByteArray)) := (zac BK286.out 0).trans rfl
 have hfs8 := zab BK286.out 0
 have hns8_0 := NB285_286.out
 have hms8_0 := NB286_285.out
 have hs9 : w6.cell? ⟨gb286, 1, none⟩ = some (.int .i64 0) := (zac BK286.out 1).trans rfl
 have hfs9 := zab BK286.out 1
 have hns9_0 := NB285_286.out
 have hms9_0 := NB286_285.out
 have hs10 : w6.cell? ⟨gb286, 2, none⟩ = some (.int .i64 0) := (zac BK286.out 2).trans rfl
 have hfs10 := zab BK286.out 2
 have hns10_0 := NB285_286.out
 have hms10_0 := NB286_285.out
 have hs11 : w6.cell? ⟨gb286, 3, none⟩ = some (.slice none 0 0) := (zac BK286.out 3).trans rfl
 have hfs11 := zab BK286.out 3
 have hns11_0 := NB285_286.out
 have hms11_0 := NB286_285.out
 refine skip_ (w1 := ?_) (by rfl) rfl ?_ ?_
 rotate_left
 ·go_simp
  rfl
 refine hK.out _ _ ⟨((zco (p := ⟨gb286, _, none⟩) NB285_286.out _).trans (((zco (p := ⟨gb286, _, none⟩) NB285_286.out _).trans (((zco (p := ⟨gb286, _, none⟩) NB285_286.out _).trans (((zco (p := ⟨gb286, _, none⟩) NB285_286.out _).trans (hHeld.1)))))))), ((zco (p := ⟨gb286, _, none⟩) NB285_286.out _).trans (((zco (p := ⟨gb286, _, none⟩) NB285_286.out _).trans (((zco (p := ⟨gb286, _, none⟩) NB285_286.out _).trans (((zco (p := ⟨gb286, _, none⟩) NB285_286.out _).trans (hHeld.2.1)))))))), ((zco (p := ⟨gb286, _, none⟩) NB285_286.out _).trans (((zco (p := ⟨gb286, _, none⟩) NB285_286.out _).trans (((zco (p := ⟨gb286, _, none⟩) NB285_286.out _).trans (((zco (p := ⟨gb286, _, none⟩) NB285_286.out _).trans (hHeld.2.2.1)))))))), ((zco (p := ⟨gb286, _, none⟩) NB285_286.out _).trans (((zco (p := ⟨gb286, _, none⟩) NB285_286.out _).trans (((zco (p := ⟨gb286, _, none⟩) NB285_286.out _).trans (((zco (p := ⟨gb286, _, none⟩) NB285_286.out _).trans (hHeld.2.2.2.1)))))))), ((zco (p := ⟨gb286, _, none⟩) NB285_286.out _).trans (((zco (p := ⟨gb286, _, none⟩) NB285_286.out _).trans (((zco (p := ⟨gb286, _, none⟩) NB285_286.out _).trans (((zco (p := ⟨gb286, _, none⟩) NB285_286.out _).trans (hHeld.2.2.2.2))))))))⟩ (fun hHeld => ?_)
 clear hK K
 refine done_ (done_of HT_.out (by kernel_rfl)) ?_
 try go_wp2
 refine bodyPost_ret (results_cell_row rfl _ _ gb286 34 #[.string a0_1, .int .i64 a0_2, .int .i64 a0_3, .slice Ao7 t287.length co7] (0, 0) _ rfl (by (with_reducible repeat (first | refine zag ?_ _ | refine zaj ?_ | refine zah ?_ _)); refine zcm (cs := #[.string a0_1, .int .i64 a0_2, .int .i64 a0_3, .slice none 0 0]) ?_ 3 _ rfl; (with_reducible repeat (first | refine zag ?_ _ | refine zaj ?_ | refine zah ?_ _)); refine zcm (cs := #[.string a0_1, .int .i64 a0_2, .int .i64 0, .slice none 0 0]) ?_ 2 _ rfl; (with_reducible repeat (first | refine zag ?_ _ | refine zaj ?_ | refine zah ?_ _)); refine zcm (cs := #[.string a0_1, .int .i64 0, .int .i64 0, .slice none 0 0]) ?_ 1 _ rfl; (with_reducible repeat (first | refine zag ?_ _ | refine zaj ?_ | refine zah ?_ _)); refine zcm (cs := #[.string (⟨#[]⟩ : ByteArray), .int .i64 0, .int .i64 0, .slice none 0 0]) ?_ 0 _ rfl; (with_reducible repeat (first | refine zag ?_ _ | refine zaj ?_ | refine zah ?_ _)); exact BK286.out) Try.underlying34 rfl (by kernel_rfl)) rfl ?_
 exact ⟨_, by first | rfl | (simp [zap, zaq] <;> rfl) | (simp [*, zap, zaq] <;> rfl), by (with_reducible repeat (first | apply zat | apply zau | apply zax)); exact zdc (zbi (p := ⟨gb286, 3, none⟩) (zbi (p := ⟨gb286, 2, none⟩) (zbi (p := ⟨gb286, 1, none⟩) (zbi (p := ⟨gb286, 0, none⟩) (zdb HO289.out BK286.out (by decide)) (fun _ hk => hk.2) (.string a0_1)) (fun _ hk => hk.2) (.int .i64 a0_2)) (fun _ hk => hk.2) (.int .i64 a0_3)) (fun _ hk => hk.2) (.slice Ao7 t287.length co7)) (fun _ hk => zdn), by repeat (first | (with_reducible first | exact HB.out | apply zae | apply zaa | apply zad | refine zaf ?_ GE285.out | refine zaf ?_ GE286.out) | exact HB.out)⟩
end Go.Proofs.Ytlalkldjpniakaa.P
