import Derived.Test.Ytlalkldjpniakaaqm13
namespace Go.Proofs.Ytlalkldjpniakaa.P
open Go.RowKit Go.Proofs.YtlalkldjpniakaaW.PrintWords Go.Proofs.YtlalkldjpniakaaW.PrintLast Go.Proofs.YtlalkldjpniakaaW.PrintMore
attribute [local go_sem] zcm zcn zdd zde zbw zbx zco zcp   -- for this text's walks alone
set_option linter.unusedVariables false
set_option linter.unusedSimpArgs false
set_option maxHeartbeats 8000000
set_option maxRecDepth 100000

def impl_itemOf.f (a0_0 : Int) (a0_1 : ByteArray) (a0_2 : Int) (a0_3 : Int) (l0_4 : List Int) : Option (ByteArray × Int × Int × List Int) := (slices_Clone_byte_byte.f l0_4).bind fun t295 => (some (a0_1, a0_2, a0_3, t295))
def impl_itemOf.T1 : Bool × List (List Nat × List Nat) := (true, [([], []), ([0], [0]), ([], []), ([2], [2]), ([], []), ([4], [4]), ([], []), ([6], [6]), ([7], [7]), ([1, 3, 5, 8], [1, 3, 5, 8]), ([9, 8, 0, 1, 2, 3, 4, 5, 6, 7, 8, 9], [9])])
def impl_itemOf.B1 : List Nat := [0, 1, 0, 4, 0, 16, 0, 64, 192, 511, 1023]
theorem impl_itemOf.tab1 : rtab .any (opsOf Try.f93 1) = impl_itemOf.T1 := by kernel_rfl
theorem impl_itemOf.bits1 : waitsOk impl_itemOf.T1.2 impl_itemOf.B1 = true := by kernel_rfl
theorem impl_itemOf.calls (a0_0 : Int) (a0_1 : ByteArray) (a0_2 : Int) (a0_3 : Int) (A0_4 : Option Addr) (c0_4 : Nat) (l0_4 : List Int) (r1 : ByteArray) (r2 : Int) (r3 : Int) (r4 : List Int) (w : World) (hr0_4 : Kd.C (Kd.int .u8) w A0_4 l0_4.length l0_4) (hc0_4 : l0_4.length ≤ c0_4) (h : impl_itemOf.f a0_0 a0_1 a0_2 a0_3 l0_4 = some (r1, r2, r3, r4)) :
  Calls Try.prog 93 #[.agg #[.int .i64 a0_0, .string a0_1, .int .i64 a0_2, .int .i64 a0_3, .slice A0_4 l0_4.length c0_4]] w fun e w' => ∃ v3_ : Value, e = .returned (.agg #[.string r1, .int .i64 r2, .int .i64 r3, v3_]) ∧ Kd.R (Kd.int .u8) 5 w' w.heap.size (fun _ => True) v3_ r4 ∧ Below w.heap.size w w' := by
 have hu48 := Try.underlying48
 have hu34 := Try.underlying34
 have HR0_4 := Aside0.mk hr0_4
 have HC0_4 := Aside0.mk hc0_4
 clear hr0_4 hc0_4
 have HB := Aside0.mk (zbk w.heap.size w)
 have H : ((slices_Clone_byte_byte.f l0_4).bind fun t295 => (some (a0_1, a0_2, a0_3, t295))) = some (r1, r2, r3, r4) := h
 clear h
 obtain ⟨t295, A2, H⟩ := bnd H
 simp only [zbz, zcj] at H
 obtain ⟨rfl, rfl, rfl, rfl⟩ := H
 go_enter Try.func93, Try.ntmps93
 try go_wp2_with (first | (refine jgd 1 ?_; refine bx 1 (#[.int .i64 a0_0, .string a0_1, .int .i64 a0_2, .int .i64 a0_3, .slice A0_4 l0_4.length c0_4]) 48 ?_; intro gb293 hg w3 hbox hb; have n_ := jA4 (zab bq hb) (hbox) (ge0 hg bq : w.heap.size ≤ gb293) (ge0 hg bq : w.heap.size ≤ gb293); clear HB; obtain ⟨HB, BK293, GW293, GE293⟩ := n_; clear hb hbox hg) | (refine jgd 2 ?_; refine bx 2 (#[.string (⟨#[]⟩ : ByteArray), .int .i64 0, .int .i64 0, .slice none 0 0]) 34 ?_; intro gb294 hg w4 hbox hb; have n_ := jA7 (jbb BK293.out hb) (zab (bs1 GE293.out) hb) (hbox) (ge0 hg (bs1 GE293.out) : w.heap.size ≤ gb294) (ge0 hg (bs1 GE293.out) : w.heap.size ≤ gb294) (nl hg (pB BK293.out) : gb293 ≠ gb294) (ng hg (pB BK293.out) : gb294 ≠ gb293); clear BK293 HB; obtain ⟨BK293, HB, BK294, GW294, GE294, NB293_294, NB294_293⟩ := n_; clear hb hbox hg))
 have n_ := jA3 (zbl BK293.out) (zbl BK294.out) (zev HB.out)
 clear BK293 BK294 HB
 obtain ⟨BK293, BK294, HB⟩ := n_
 refine start_ (n := 11) (S := fun w' => w'.cell? ⟨gb293, 0, none⟩ = some (.int .i64 a0_0) ∧ w'.cell? ⟨gb293, 1, none⟩ = some (.string a0_1) ∧ w'.cell? ⟨gb293, 2, none⟩ = some (.int .i64 a0_2) ∧ w'.cell? ⟨gb293, 3, none⟩ = some (.int .i64 a0_3) ∧ w'.cell? ⟨gb293, 4, none⟩ = some (.slice A0_4 l0_4.length c0_4)) (ds := []) #[false, false, false, false, false, false, false, false, false, false, false] (by kernel_rfl) rfl rfl ⟨(zbf BK293.out 0).trans rfl, (zbf BK293.out 1).trans rfl, (zbf BK293.out 2).trans rfl, (zbf BK293.out 3).trans rfl, (zbf BK293.out 4).trans rfl⟩ (fun hHeld => ?_); refine zgf impl_itemOf.tab1 impl_itemOf.bits1 (fun HT_ HW_ => ?_)
 generalize w4.drew = w5 at BK293 BK294 HB hHeld ⊢
 refine pu 0 3 HT_.out ?_
 refine pu 2 5 HT_.out ?_
 refine pu 4 7 HT_.out ?_
 refine pu 6 9 HT_.out ?_
 refine tk 1 4 HT_.out HW_.out hHeld ?_
 refine tk 3 6 HT_.out HW_.out hHeld ?_
 refine tk 5 8 HT_.out HW_.out hHeld ?_
 refine tk 7 10 HT_.out HW_.out hHeld ?_
 refine one_ (i := 8) (N := some 11) #[true, true, true, true, true, true, true, true, true, false, false] rfl rfl (one_of HT_.out (by kernel_rfl)) (by decide) (fun K hK => ?_)
 refine goes_ Try.func116 (by kernel_rfl) rfl #[.slice A0_4 l0_4.length c0_4] (by rfl) rfl rfl jhl ?_
 with_reducible refine (slices_Clone_byte_byte.calls _ _ l0_4 t295 _ ?side1 ?side2 A2.out).mono ?_
 (case side1 => exact jcs HR0_4.out)
 (case side2 => exact HC0_4.out)
 rintro e w6 ⟨v296, rfl, ho0, hb⟩
 refine ⟨_, rfl, ?_⟩
 have n_ := jA4 (zbc ho0 (zak (bs2 GE293.out GE294.out))) (jbb BK293.out hb) (jbb BK294.out hb) (zab (bs2 GE293.out GE294.out) hb)
 clear BK293 BK294 HB
 obtain ⟨HO297, BK293, BK294, HB⟩ := n_
 (try clear hb)
 (try clear hb2)
 (try clear hk)
 (try clear hi)
 (try clear ho0)
 obtain ⟨Ao7, co7, eo7⟩ := zbm HO297.out
 (first | subst eo7 | (injection eo7 with f1_ f2_ f3_; have f4_ := f1_.symm; have f5_ := f3_.symm; clear f1_ f2_ f3_; subst f4_; subst f5_))
 refine hK.out _ _ ⟨(zbf BK293.out 0).trans rfl, (zbf BK293.out 1).trans rfl, (zbf BK293.out 2).trans rfl, (zbf BK293.out 3).trans rfl, (zbf BK293.out 4).trans rfl⟩ (fun hHeld => ?_)
 clear hK K
 refine norm_ (a' := ?_) ?_ ?_
 rotate_left
 ·show Act.put _ (some 11) _ = _
  simp only [Act.put, zal, zaw, zax, i64_w, i32_w]
  rfl
 refine pu 9 12 HT_.out ?_
 refine one_ (i := 10) (N := none) #[true, true, true, true, true, true, true, true, true, true, true] rfl rfl (one_of HT_.out (by kernel_rfl)) (by decide) (fun K hK => ?_)
 have hs8 : w6.cell? ⟨gb294, 0, none⟩ = some (.string (⟨#[]⟩ : ByteArray)) := (zbf BK294.out 0).trans rfl
 have hfs8 := blk_frozen BK294.out 0
 have hns8_0 := NB293_294.out
 have hms8_0 := NB294_293.out
 have hs9 : w6.cell? ⟨gb294, 1, none⟩ = some (.int .i64 0) := (zbf BK294.out 1).trans rfl
 have hfs9 := blk_frozen BK294.out 1
 have hns9_0 := NB293_294.out
 have hms9_0 := NB294_293.out
 have hs10 : w6.cell? ⟨gb294, 2, none⟩ = some (.int .i64 0) := (zbf BK294.out 2).trans rfl
 have hfs10 := blk_frozen BK294.out 2
 have hns10_0 := NB293_294.out
 have hms10_0 := NB294_293.out
 have hs11 : w6.cell? ⟨gb294, 3, none⟩ = some (.slice none 0 0) := (zbf BK294.out 3).trans rfl
 have hfs11 := blk_frozen BK294.out 3
 have hns11_0 := NB293_294.out
 have hms11_0 := NB294_293.out
 refine skip_ (w1 := ?_) (by rfl) rfl ?_ ?_
 rotate_left
 ·go_simp
  rfl
 refine hK.out _ _ ⟨((zdz (p := ⟨gb294, _, none⟩) NB293_294.out _).trans (((zdz (p := ⟨gb294, _, none⟩) NB293_294.out _).trans (((zdz (p := ⟨gb294, _, none⟩) NB293_294.out _).trans (((zdz (p := ⟨gb294, _, none⟩) NB293_294.out _).trans (hHeld.1)))))))), ((zdz (p := ⟨gb294, _, none⟩) NB293_294.out _).trans (((zdz (p := ⟨gb294, _, none⟩) NB293_294.out _).trans (((zdz (p := ⟨gb294, _, none⟩) NB293_294.out _).trans (((zdz (p := ⟨gb294, _, none⟩) NB293_294.out _).trans (hHeld.2.1)))))))), ((zdz (p := ⟨gb294, _, none⟩) NB293_294.out _).trans (((zdz (p := ⟨gb294, _, none⟩) NB293_294.out _).trans (((zdz (p := ⟨gb294, _, none⟩) NB293_294.out _).trans (((zdz (p := ⟨gb294, _, none⟩) NB293_294.out _).trans (hHeld.2.2.1)))))))), ((zdz (p := ⟨gb294, _, none⟩) NB293_294.out _).trans (((zdz (p := ⟨gb294, _, none⟩) NB293_294.out _).trans (((zdz (p := ⟨gb294, _, none⟩) NB293_294.out _).trans (((zdz (p := ⟨gb294, _, none⟩) NB293_294.out _).trans (hHeld.2.2.2.1)))))))), ((zdz (p := ⟨gb294, _, none⟩) NB293_294.out _).trans (((zdz (p := ⟨gb294, _, none⟩) NB293_294.out _).trans (((zdz (p := ⟨gb294, _, none⟩) NB293_294.out _).trans (((zdz (p := ⟨gb294, _, none⟩) NB293_294.out _).trans (hHeld.2.2.2.2))))))))⟩ (fun hHeld => ?_)
 clear hK K
 refine done_ (done_of HT_.out (by kernel_rfl)) ?_
 try go_wp2
 refine zdx (results_cell_row rfl _ _ gb294 34 #[.string a0_1, .int .i64 a0_2, .int .i64 a0_3, .slice Ao7 t295.length co7] (0, 0) _ rfl (by (with_reducible repeat (first | refine zbg ?_ _ | refine zbl ?_ | refine zbh ?_ _)); refine zdh (cs := #[.string a0_1, .int .i64 a0_2, .int .i64 a0_3, .slice none 0 0]) ?_ 3 _ rfl; (with_reducible repeat (first | refine zbg ?_ _ | refine zbl ?_ | refine zbh ?_ _)); refine zdh (cs := #[.string a0_1, .int .i64 a0_2, .int .i64 0, .slice none 0 0]) ?_ 2 _ rfl; (with_reducible repeat (first | refine zbg ?_ _ | refine zbl ?_ | refine zbh ?_ _)); refine zdh (cs := #[.string a0_1, .int .i64 0, .int .i64 0, .slice none 0 0]) ?_ 1 _ rfl; (with_reducible repeat (first | refine zbg ?_ _ | refine zbl ?_ | refine zbh ?_ _)); refine zdh (cs := #[.string (⟨#[]⟩ : ByteArray), .int .i64 0, .int .i64 0, .slice none 0 0]) ?_ 0 _ rfl; (with_reducible repeat (first | refine zbg ?_ _ | refine zbl ?_ | refine zbh ?_ _)); exact BK294.out) Try.underlying34 rfl (by kernel_rfl)) rfl ?_
 exact ⟨_, jex, by (with_reducible repeat (first | apply zbo | apply zbp | apply zbs)); exact zav (zbt (p := ⟨gb294, 3, none⟩) (zbt (p := ⟨gb294, 2, none⟩) (zbt (p := ⟨gb294, 1, none⟩) (zbt (p := ⟨gb294, 0, none⟩) (zcb HO297.out BK294.out (by decide)) (fun _ hk => hk.2) (.string a0_1)) (fun _ hk => hk.2) (.int .i64 a0_2)) (fun _ hk => hk.2) (.int .i64 a0_3)) (fun _ hk => hk.2) (.slice Ao7 t295.length co7)) (fun _ hk => trivial), (bs2 GE293.out GE294.out)⟩
def impl_cloneItem.f (a0_0 : ByteArray) (a0_1 : Int) (a0_2 : Int) (l0_3 : List Int) : Option (ByteArray × Int × Int × List Int) := (slices_Clone_byte_byte.f l0_3).bind fun t362 => (some (a0_0, a0_1, a0_2, t362))
theorem impl_cloneItem.calls (a0_0 : ByteArray) (a0_1 : Int) (a0_2 : Int) (A0_3 : Option Addr) (c0_3 : Nat) (l0_3 : List Int) (r1 : ByteArray) (r2 : Int) (r3 : Int) (r4 : List Int) (w : World) (hr0_3 : Kd.C (Kd.int .u8) w A0_3 l0_3.length l0_3) (hc0_3 : l0_3.length ≤ c0_3) (h : impl_cloneItem.f a0_0 a0_1 a0_2 l0_3 = some (r1, r2, r3, r4)) :
  Calls Try.prog 104 #[.agg #[.string a0_0, .int .i64 a0_1, .int .i64 a0_2, .slice A0_3 l0_3.length c0_3]] w fun e w' => ∃ v3_ : Value, e = .returned (.agg #[.string r1, .int .i64 r2, .int .i64 r3, v3_]) ∧ Kd.R (Kd.int .u8) 5 w' w.heap.size (fun _ => True) v3_ r4 ∧ Below w.heap.size w w' := by
 have hu34 := Try.underlying34
 have HR0_3 := Aside0.mk hr0_3
 have HC0_3 := Aside0.mk hc0_3
 clear hr0_3 hc0_3
 have HB := Aside0.mk (zbk w.heap.size w)
 have H : ((slices_Clone_byte_byte.f l0_3).bind fun t362 => (some (a0_0, a0_1, a0_2, t362))) = some (r1, r2, r3, r4) := h
 clear h
 obtain ⟨t362, A2, H⟩ := bnd H
 simp only [zbz, zcj] at H
 obtain ⟨rfl, rfl, rfl, rfl⟩ := H
 go_enter Try.func104, Try.ntmps104
 go_wp2_with (first | (refine jgd 1 ?_; refine bx 1 (#[.string a0_0, .int .i64 a0_1, .int .i64 a0_2, .slice A0_3 l0_3.length c0_3]) 34 ?_; intro gb360 hg w3 hbox hb; have xb_ := below_ofs bq hb; have n_ := jA4 (zab xb_ hb) (hbox) (ge0 hg xb_ : w.heap.size ≤ gb360) (ge0 hg xb_ : w.heap.size ≤ gb360); clear HB; obtain ⟨HB, BK360, GW360, GE360⟩ := n_; clear xb_ hb hbox hg) | (refine jgd 2 ?_; refine bx 2 (#[.string (⟨#[]⟩ : ByteArray), .int .i64 0, .int .i64 0, .slice none 0 0]) 34 ?_; intro gb361 hg w4 hbox hb; have n_ := jA7 (jbb BK360.out hb) (zab (bs1 GE360.out) hb) (hbox) (ge0 hg (bs1 GE360.out) : w.heap.size ≤ gb361) (ge0 hg (bs1 GE360.out) : w.heap.size ≤ gb361) (nl hg (pB BK360.out) : gb360 ≠ gb361) (ng hg (pB BK360.out) : gb361 ≠ gb360); clear BK360 HB; obtain ⟨BK360, HB, BK361, GW361, GE361, NB360_361, NB361_360⟩ := n_; clear hb hbox hg; have hnb5 := NB360_361.out; have hnc5 := NB361_360.out; obtain ⟨hcz6_0, hcz6_1, hcz6_2, hcz6_3, hfz6_0, hfz6_1, hfz6_2, hfz6_3⟩ := cz4 BK360.out) | (refine jgc 116 ?_; refine jgs 5 Try.func116 #[.slice A0_3 l0_3.length c0_3] ?_; (with_reducible refine (slices_Clone_byte_byte.calls _ _ l0_3 t362 _ ?side1 ?side2 A2.out).mono ?_); (case side1 => exact jcs HR0_3.out); (case side2 => exact HC0_3.out); rintro e w7 ⟨v363, rfl, ho0, hb⟩; refine ⟨_, rfl, ?_⟩; have n_ := jA4 (zbc ho0 (zak (bs2 GE360.out GE361.out))) (jbb BK360.out hb) (jbb BK361.out hb) (zab (bs2 GE360.out GE361.out) hb); clear BK360 BK361 HB; obtain ⟨HO364, BK360, BK361, HB⟩ := n_; clear hb ho0; obtain ⟨Ao8, co8, eo8⟩ := zbm HO364.out; subst eo8; obtain ⟨hcz9_0, hcz9_1, hcz9_2, hcz9_3, hfz9_0, hfz9_1, hfz9_2, hfz9_3⟩ := cz4 BK360.out; obtain ⟨hcz10_0, hcz10_1, hcz10_2, hcz10_3, hfz10_0, hfz10_1, hfz10_2, hfz10_3⟩ := cz4 BK361.out))
 refine zdx (results_cell_row rfl _ _ gb361 34 #[.string a0_0, .int .i64 a0_1, .int .i64 a0_2, .slice Ao8 t362.length co8] (0, 0) _ rfl (by (with_reducible repeat (first | refine zbg ?_ _ | refine zbl ?_ | refine zbh ?_ _)); refine zdh (cs := #[.string a0_0, .int .i64 a0_1, .int .i64 a0_2, .slice none 0 0]) ?_ 3 _ rfl; (with_reducible repeat (first | refine zbg ?_ _ | refine zbl ?_ | refine zbh ?_ _)); refine zdh (cs := #[.string a0_0, .int .i64 a0_1, .int .i64 0, .slice none 0 0]) ?_ 2 _ rfl; (with_reducible repeat (first | refine zbg ?_ _ | refine zbl ?_ | refine zbh ?_ _)); refine zdh (cs := #[.string a0_0, .int .i64 0, .int .i64 0, .slice none 0 0]) ?_ 1 _ rfl; (with_reducible repeat (first | refine zbg ?_ _ | refine zbl ?_ | refine zbh ?_ _)); refine zdh (cs := #[.string (⟨#[]⟩ : ByteArray), .int .i64 0, .int .i64 0, .slice none 0 0]) ?_ 0 _ rfl; (with_reducible repeat (first | refine zbg ?_ _ | refine zbl ?_ | refine zbh ?_ _)); refine blk_far ?_ NB361_360.out _; (with_reducible repeat (first | refine zbg ?_ _ | refine zbl ?_ | refine zbh ?_ _)); exact BK361.out) Try.underlying34 rfl (by kernel_rfl)) rfl ?_
 exact ⟨_, jex, by (with_reducible repeat (first | apply zbo | apply zbp | apply zbs)); exact zav (zbt (p := ⟨gb361, 3, none⟩) (zbt (p := ⟨gb361, 2, none⟩) (zbt (p := ⟨gb361, 1, none⟩) (zbt (p := ⟨gb361, 0, none⟩) (zbt (p := ⟨gb360, 3, none⟩) (zcb (zcb HO364.out BK360.out (by decide)) BK361.out (by decide)) (fun _ hk => hk.1.2) (.slice Ao8 t362.length co8)) (fun _ hk => hk.2) (.string a0_0)) (fun _ hk => hk.2) (.int .i64 a0_1)) (fun _ hk => hk.2) (.int .i64 a0_2)) (fun _ hk => hk.2) (.slice Ao8 t362.length co8)) (fun _ hk => trivial), (bs2 GE360.out GE361.out)⟩
def impl_cloneItems.l0 : Nat → List (S34) → List (S34) → Int → Int → Option ((List (S34)))
 | 0, _, _, _, _ => none
 | k + 1, x3, x6, x7, x8 => if x8 < x7 then (if 0 ≤ x8 then (if x8 < (x6.length : Int) then ((impl_cloneItem.f ((rd_T34 x6 x8).f0) ((rd_T34 x6 x8).f1) ((rd_T34 x6 x8).f2) ((rd_T34 x6 x8).f3)).bind fun bt367 => (if x3.length < 2513169434916 then (impl_cloneItems.l0 k (x3 ++ [(⟨bt367.1, bt367.2.1, bt367.2.2.1, bt367.2.2.2⟩ : S34)]) x6 x7 (wrap64 (x8 + 1))) else (none))) else (none)) else (none)) else (some x3)
def impl_cloneItems.f (k : Nat) (l0 : List (S34)) : Option ((List (S34))) := impl_cloneItems.l0 k ([] : List (S34)) l0 (l0.length : Int) 0
theorem impl_cloneItems.mono_l : ∀ k, (∀ y0 y1 y2 y3, LeO (impl_cloneItems.l0 k y0 y1 y2 y3) (impl_cloneItems.l0 (k + 1) y0 y1 y2 y3))
 | 0 => fun _ _ _ _ r h => by simp [impl_cloneItems.l0] at h
 | k + 1 => by
  have ih0 := impl_cloneItems.mono_l k
  ·intro y0 y1 y2 y3
   unfold impl_cloneItems.l0
   exact mt
theorem impl_cloneItems.mono : ∀ a0 k, LeO (impl_cloneItems.f k a0) (impl_cloneItems.f (k + 1) a0) := by
 intro a0 k
 have ih0 := impl_cloneItems.mono_l k
 unfold impl_cloneItems.f
 exact mt
theorem impl_cloneItems.calls (k : Nat) (A0 : Option Addr) (c0 : Nat) (l0 : List (S34)) (r : List (S34)) (w : World) (hr0 : Kd.C k34 w A0 l0.length l0) (hc0 : l0.length ≤ c0) (h : impl_cloneItems.f k l0 = some r) :
  Calls Try.prog 96 #[.slice A0 l0.length c0] w fun e w' => ∃ v0_ : Value, e = .returned (v0_) ∧ Kd.S k34 34 w' w.heap.size (fun _ => True) v0_ r ∧ Below w.heap.size w w' := by
 have hu34 := Try.underlying34
 have HR0 := Aside0.mk hr0
 have HC0 := Aside0.mk hc0
 clear hr0 hc0
 have HB := Aside0.mk (zbk w.heap.size w)
 have H : (impl_cloneItems.l0 k ([] : List (S34)) l0 (l0.length : Int) 0) = some r := h
 clear h
 have H' := Aside0.mk H
 clear H
 go_enter Try.func96, Try.ntmps96
 go_wp2
 go_loopg [3, 8] k (fun kq v3 v8 w' => ∃ (x3_1 : List (S34)) (x8_1 : Int), v8 = .int .i64 x8_1 ∧ Aside0 (impl_cloneItems.l0 kq x3_1 l0 (l0.length : Int) x8_1 = some r) ∧ Aside0 (kq ≤ k) ∧ Aside0 (Kd.S k34 34 w' w.heap.size (fun _ => True) v3 x3_1) ∧ Aside0 (Below w.heap.size w w'))
 case atStart => exact ⟨(([] : List (S34))), (0), jer, H', ⟨zaf _⟩, ⟨by first | exact Kd.S_nil _ _ _ _ _ | exact Kd.N_nil _ _ _ _ _ | exact Kd.V_nil _ _ _ _ _ | exact Kd.Q_nil _ _ _ _ _ | exact zfz _ _ _ _ _⟩, ⟨bq⟩⟩
 case round =>
  clear H'
  obtain ⟨x3_1, x8_1, rfl, HA, HK1, HO_3, HB⟩ := hrel
  cases gk with
  | zero => exact absurd HA.out (by simp [impl_cloneItems.l0])
  | succ k1 =>
   have H := HA.out
   clear HA
   simp only [impl_cloneItems.l0] at H
   by_cases c2 : x8_1 < (l0.length : Int)
   ·rw [if_pos c2] at H
    have c2b0 := zae c2
    clear c2
    by_cases c3 : 0 ≤ x8_1
    ·rw [if_pos c3] at H
     have c3b0 := zae c3
     clear c3
     by_cases c4 : x8_1 < (l0.length : Int)
     ·rw [if_pos c4] at H
      have c4b0 := zae c4
      clear c4
      obtain ⟨⟨t367, t368, t369, t370⟩, A5, H⟩ := bnd H
      try dsimp only at H
      by_cases c6 : x3_1.length < 2513169434916
      ·rw [if_pos c6] at H
       have LMc6 := Aside0.mk c6
       clear c6
       obtain ⟨y373, hy373⟩ : ∃ y_ : List (S34), y_ = (x3_1 ++ [(⟨t367, t368, t369, t370⟩ : S34)]) := ⟨_, rfl⟩
       replace H : (impl_cloneItems.l0 k1 y373 l0 (l0.length : Int) (wrap64 (x8_1 + 1))) = some r := jrw hy373 H
       have Ny373 := Aside0.mk hy373
       clear hy373
       have H' := Aside0.mk H
       clear H
       obtain ⟨p365, q365, ad365, A365_3, c365_3, e365, hx365_0, hx365_1, hx365_2, hx365_3, HC365_3, HR365_3⟩ := jel HR0.out HB.out x8_1
       cases e365
       go_wp2_with (first | (refine jgd 5 ?_; refine bx 5 (#[.string (⟨#[]⟩ : ByteArray), .int .i64 0, .int .i64 0, .slice none 0 0]) 34 ?_; intro gb366 hg w7 hbox hb; have xb_ := below_ofs bq hb; have n_ := jA5 (zdy (Kd.S_elderB (pS HO_3.out) gb366 (zej hg.symm)) hb) (zab xb_ hb) (hbox) (ge0 hg xb_ : w.heap.size ≤ gb366) (ge0 hg xb_ : w.heap.size ≤ gb366); clear HO_3 HB; obtain ⟨HO_3, HB, BK366, GW366, GE366⟩ := n_; clear xb_ hb hbox hg; obtain ⟨hcz8_0, hcz8_1, hcz8_2, hcz8_3, hfz8_0, hfz8_1, hfz8_2, hfz8_3⟩ := cz4 BK366.out) | (refine jgc 104 ?_; refine jgs 14 Try.func104 #[.agg #[.string ((rd_T34 l0 x8_1).f0), .int .i64 ((rd_T34 l0 x8_1).f1), .int .i64 ((rd_T34 l0 x8_1).f2), .slice A365_3 ((rd_T34 l0 x8_1).f3).length c365_3]] ?_; (with_reducible refine (impl_cloneItem.calls ((rd_T34 l0 x8_1).f0) ((rd_T34 l0 x8_1).f1) ((rd_T34 l0 x8_1).f2) _ _ ((rd_T34 l0 x8_1).f3) t367 t368 t369 t370 _ ?side1 ?side2 A5.out).mono ?_); (case side1 => exact zaz HR365_3.out (bs1 GE366.out)); (case side2 => exact HC365_3.out); rintro e w9 ⟨v371, rfl, ho0, hb⟩; refine ⟨_, rfl, ?_⟩; have n_ := jA4 (zea (by (with_reducible repeat (first | apply zdk | apply zdl | apply zdr)); exact (zcx (zci (p := ⟨gb366, 3, none⟩) (zci (p := ⟨gb366, 2, none⟩) (zci (p := ⟨gb366, 1, none⟩) (zci (p := ⟨gb366, 0, none⟩) (zcx HO_3.out (fun k_ hk => (⟨hk, hk.2⟩ : _ ∧ k_ ≠ gb366))) (fun _ hk => hk.2) (.string ((rd_T34 l0 x8_1).f0))) (fun _ hk => hk.2) (.int .i64 ((rd_T34 l0 x8_1).f1))) (fun _ hk => hk.2) (.int .i64 ((rd_T34 l0 x8_1).f2))) (fun _ hk => hk.2) (.slice A365_3 ((rd_T34 l0 x8_1).f3).length c365_3)) (fun _ h_ => h_.1))) (zbe ho0) hb) (zbc ho0 (zak (bs1 GE366.out))) (blk_below (g := gb366) (o := .cells #[.string ((rd_T34 l0 x8_1).f0), .int .i64 ((rd_T34 l0 x8_1).f1), .int .i64 ((rd_T34 l0 x8_1).f2), .slice A365_3 ((rd_T34 l0 x8_1).f3).length c365_3] 34 (0, 0)) (by (with_reducible repeat (first | refine zbg ?_ _ | refine zbl ?_ | refine zbh ?_ _)); refine zdh (cs := #[.string ((rd_T34 l0 x8_1).f0), .int .i64 ((rd_T34 l0 x8_1).f1), .int .i64 ((rd_T34 l0 x8_1).f2), .slice none 0 0]) ?_ 3 _ rfl; (with_reducible repeat (first | refine zbg ?_ _ | refine zbl ?_ | refine zbh ?_ _)); refine zdh (cs := #[.string ((rd_T34 l0 x8_1).f0), .int .i64 ((rd_T34 l0 x8_1).f1), .int .i64 0, .slice none 0 0]) ?_ 2 _ rfl; (with_reducible repeat (first | refine zbg ?_ _ | refine zbl ?_ | refine zbh ?_ _)); refine zdh (cs := #[.string ((rd_T34 l0 x8_1).f0), .int .i64 0, .int .i64 0, .slice none 0 0]) ?_ 1 _ rfl; (with_reducible repeat (first | refine zbg ?_ _ | refine zbl ?_ | refine zbh ?_ _)); refine zdh (cs := #[.string (⟨#[]⟩ : ByteArray), .int .i64 0, .int .i64 0, .slice none 0 0]) ?_ 0 _ rfl; (with_reducible repeat (first | refine zbg ?_ _ | refine zbl ?_ | refine zbh ?_ _)); exact BK366.out) hb) (zab (bs1 GE366.out) hb); clear HO_3 BK366 HB; obtain ⟨HO_3, HO372, BK366, HB⟩ := n_; clear hb ho0; obtain ⟨Ao11, co11, eo11⟩ := zbm HO372.out; subst eo11) | ((with_reducible refine zcc (b := .append) (xs := #[.tmp 12, .tmp 15]) rfl ?_); at_builtin; refine zex k34 (w0 := w) w.heap.size rfl (.tmp 12) (.tmp 15) 25 34 (.agg #[(.string ⟨#[]⟩), (.int .i64 0), (.int .i64 0), (.slice none 0 0)]) 56 rfl Try.underlying25 info34 rfl (by decide) (by omega) u3 x3_1 (⟨t367, t368, t369, t370⟩ : S34) [.string t367, .int .i64 t368, .int .i64 t369, .slice Ao11 t370.length co11] (fun k_ => k_ ≠ gb366) (fun k_ => some k_ = (.slice Ao11 t370.length co11 : Value).ownBlock) rfl rfl ?aP (fun k_ hk_ => ((zav (ok' := fun k_ => ((fun k_ => k_ ≠ gb366)) k_ ∧ some k_ ≠ (u3 : Value).ownBlock) (zcb (zds (HO372.out) (zec HO_3.out) (by decide)) BK366.out (by decide)) (fun k_ hk => ⟨hk.2, hk.1.2⟩))).1 k_ hk_.symm) ?aF ?aO ?aB ?aS ?aL ?_; (case aP => exact k34_mkM _ _ _ (⟨t367, t368, t369, t370⟩ : S34) (zav (zfe rfl (zav (ok' := fun k_ => ((fun k_ => k_ ≠ gb366)) k_ ∧ some k_ ≠ (u3 : Value).ownBlock) (zcb (zds (HO372.out) (zec HO_3.out) (by decide)) BK366.out (by decide)) (fun k_ hk => ⟨hk.2, hk.1.2⟩))) (fun _ h_ => h_))); (case aB => exact (bs1 GE366.out)); (case aF => exact (fun k_ hk => zey (pB BK366.out) k_ hk)); (case aO => exact (by (with_reducible repeat (first | apply zdk | apply zdl | apply zdr)); exact zcx HO_3.out (fun k_ hk => ⟨hk.1.2, fun e_ => hk.2 e_⟩))); (case aS => exact (zak (bs1 GE366.out))); (case aL => have := LMc6.out; omega); intro v374 w10 ho hb hg hat; rw [← Ny373.out] at ho; have n_ := jA3 (zei (pB BK366.out) hg (Kd.S_away HO_3.out (fun _ hk => hk.1.2))) (hb) (ho); clear BK366 HB HO_3 HO372; obtain ⟨BK366, HB, HO375⟩ := n_; clear ho hb hg hat))
       go_roundg k1
       case measure => have := HK1.out; omega
       case rel => exact ⟨(y373), (wrap64 (x8_1 + 1)), jer, H', ⟨by have := HK1.out; omega⟩, ⟨tqS HO375.out⟩, ⟨bs1 GE366.out⟩⟩
      ·rw [if_neg c6] at H
       exact absurd H (by simp)
     ·rw [if_neg c4] at H
      exact absurd H (by simp)
    ·rw [if_neg c3] at H
     exact absurd H (by simp)
   ·rw [if_neg c2] at H
    have c2b0 := zas c2
    clear c2
    obtain rfl := Option.some.inj H
    go_wp2
    go_ret
    exact ⟨_, jex, by (with_reducible repeat (first | apply zdk | apply zdl | apply zdr)); exact HO_3.out, bq⟩
def impl_Due.f (k : Nat) (l0 : List (S34)) (a1 : Int) : Option (List (S34)) := (impl_cloneItems.f k l0).bind fun t => some (t.filter fun x => !decide (x.f2 < a1))
theorem impl_Due.mono : ∀ a0 a1 k, LeO (impl_Due.f k a0 a1) (impl_Due.f (k + 1) a0 a1) := by
 intro a0 a1 k
 unfold impl_Due.f
 exact LeO.bind (impl_cloneItems.mono _ _) (fun _ => LeO.refl _)
theorem impl_Due.calls (k : Nat) (A0 : Option Addr) (c0 : Nat) (l0 : List (S34)) (a1 : Int) (r : List (S34)) (w : World) (hr0 : Kd.C k34 w A0 l0.length l0) (hc0 : l0.length ≤ c0) (h : impl_Due.f k l0 a1 = some r) :
  Calls Try.prog 39 #[.slice A0 l0.length c0, .int .i64 a1] w fun e w' => ∃ v0_ : Value, e = .returned (v0_) ∧ Kd.S k34 34 w' w.heap.size (fun _ => True) v0_ r ∧ Below w.heap.size w w' := by
 unfold impl_Due.f at h
 replace h := zce.1 h
 obtain ⟨t, ht, h⟩ := h
 obtain rfl := Option.some.inj h
 have HR := Aside0.mk hr0
 have HC := Aside0.mk hc0
 have F := Aside0.mk ht
 have eg : ∀ args w, (callFunc 97 args).run Try.prog w = .ok (.enter 97 args) w := enters_of Try.func97 (by kernel_rfl) rfl
 clear h ht hr0 hc0
 go_enter Try.func39, Try.ntmps39
 go_wp2_with (first | (go_at_call 96; (with_reducible refine (impl_cloneItems.calls k _ _ l0 t _ (zcv HR.out _) HC.out F.out).mono ?_); rintro e w1 ⟨v1, rfl, ho, hb⟩; have HS := Aside0.mk ho; have HB := Aside0.mk hb; clear ho hb; obtain ⟨A1, c1, e1⟩ := zbm (Kd.S_R HS.out); subst e1) | (go_at_call 95; refine Hid.out ?_))
 show Calls _ _ _ _ _
 have hsz : w.heap.size + 1 = (w.alloc (.cells #[.int .i64 a1] 3)).heap.size := by simp
 refine (items_delete (fun x => decide (x.f2 < a1)) _ _ w.heap.size _ (due_pred a1 w.heap.size) eg A1 c1 t w1 _ _ HS.out ?ho ?hne).mono ?_
 case ho => rw [HB.out.block _ (by omega)]; exact zgc w _
 case hne => intro e_; have h1 := Kd.S_base HS.out _ e_.symm; omega
 rintro e w2 ⟨v2, rfl, hs, hg, hv⟩
 go_wp2_with (fail "none")
 go_ret
 replace hsz : w.heap.size ≤ (w.alloc (.cells #[.int .i64 a1] 3)).heap.size := by omega
 exact ⟨_, rfl, zcx (zeg hs hsz) (fun _ _ => trivial), zcg (((zbk _ w).alloc (zaf _) _).trans (HB.out.mono hsz)) _ (zeb hsz HB.out.size) hg (fun k hk => zeb hsz (Kd.S_base HS.out k hk))⟩
end Go.Proofs.Ytlalkldjpniakaa.P
/- slices.Delete of one item, over a list of items of the call's own. -/
namespace Go.Proofs.Ytlalkldjpniakaa.P
open Go.RowKit Go.Proofs.YtlalkldjpniakaaW.PrintWords Go.Proofs.YtlalkldjpniakaaW.PrintLast Go.Proofs.YtlalkldjpniakaaW.PrintMore
set_option linter.unusedVariables false
set_option linter.unusedSimpArgs false
set_option maxHeartbeats 8000000
set_option maxRecDepth 100000
/-- What lies behind the row may be written. -/
theorem S_beyond {w : World} {base g n cap : Nat} {ok : Nat → Prop} {xs : List S34} (h : Kd.S k34 34 w base ok (.slice (some ⟨g, 0, none⟩) n cap) xs) (seg : List Value) (hs : n * 4 + seg.length ≤ cap * 4) :
    Kd.S k34 34 (w.setCells g (n * 4) seg) base ok (.slice (some ⟨g, 0, none⟩) n cap) xs ∧ w.grownBy (w.setCells g (n * 4) seg) (some g) := by
  have hg := grown_setCells4 w g (n * 4) seg
  refine ⟨?_, hg⟩
  obtain ⟨f, rows, hrl, hraw, hok, hM⟩ := raw_of_S h
  have hn := (Kd.R_reads' hraw).1
  obtain ⟨h0, inner, ho, hr⟩ := hraw
  refine S_of_raw (okr := fun k => some k = (Value.slice (some ⟨g, 0, none⟩) n cap).ownBlock) f hok ?_ hrl (fun j x c hx hc => Kd.M_step (hM j x c hx hc) (fun k hk hlt => hg.block k hlt (fun e => hk.1.2 (by rw [e]; rfl))))
  rcases ho.2 with ⟨hv, _⟩ | ⟨g2, cap2, cur2, hv, hb2, hh2, hnc2, hm2, hsz2, htk2⟩
  · cases hv
  injection hv with hva hvn hvc
  injection hva with hva
  injection hva with hvg
  subst hvg hvc
  have hsz : cap * 4 ≤ cur2.size := hsz2
  obtain ⟨cur', c1, c2, c3⟩ := setCells_row seg (n * 4) w cur2 hh2 (by omega)
  refine ⟨h0, inner, ⟨ho.1, .inr ⟨g, cap, cur', by rw [← hvn], hb2, c1, hnc2, hm2, by rw [c2]; exact hsz2, ?_⟩⟩, hr⟩
  rw [← htk2, c3, ← hvn]
  show (cur2.toList.take (n * 4) ++ seg ++ cur2.toList.drop (n * 4 + seg.length)).take (n * 4) = cur2.toList.take (n * 4)
  rw [List.append_assoc, List.take_append_of_le_length (by rw [List.length_take, Array.length_toList]; omega), List.take_take, Nat.min_self]
theorem S_room {w : World} {base g n cap : Nat} {ok : Nat → Prop} {xs : List S34} (h : Kd.S k34 34 w base ok (.slice (some ⟨g, 0, none⟩) n cap) xs) (j : Nat) (hj : j < cap * 4) :
    (w.cell? ⟨g, j, none⟩).isSome = true ∧ w.frozen? ⟨g, j, none⟩ = false := by
  obtain ⟨inner, ho⟩ := Kd.S_own h
  rcases ho.2 with ⟨hv, _⟩ | ⟨g2, cap2, cur2, hv, hb2, hh2, hnc2, hm2, hsz2, htk2⟩
  · cases hv
  injection hv with hva hvn hvc
  injection hva with hva
  injection hva with hvg
  subst hvg hvc
  have hsz : cap * 4 ≤ cur2.size := hsz2
  refine ⟨?_, blk_frozen hh2 j⟩
  rw [blk_cell hh2 j, Array.getElem?_eq_getElem (by omega)]; rfl
theorem items_erase (A : Option Addr) (c : Nat) (xs : List S34) (i : Nat) (hi : i < xs.length) (w : World) (base : Nat) (ok : Nat → Prop) (hS : Kd.S k34 34 w base ok (.slice A xs.length c) xs) :
    Calls Try.prog 105 #[.slice A xs.length c, .int .i64 (i : Int), .int .i64 ((i : Int) + 1)] w fun e w' => ∃ v' : Value, e = .returned v' ∧ Kd.S k34 34 w' base ok v' (xs.eraseIdx i) ∧ w.grownBy w' (Value.slice A xs.length c).ownBlock ∧ v'.ownBlock = (Value.slice A xs.length c).ownBlock := by
  have hu34 := Try.underlying34
  obtain ⟨g, cap, ev, hbg, hgl, _⟩ := Kd.S_form hS (by omega)
  have e2 : A = some ⟨g, 0, none⟩ ∧ c = cap := by
    injection ev with ea en ec
    exact ⟨ea, ec⟩
  obtain ⟨rfl, rfl⟩ := e2
  obtain ⟨_, hcap, hC⟩ := Kd.S_reads' hS
  have hlen := hC.2.1
  obtain ⟨n, hn⟩ : ∃ n, xs.length = n := ⟨_, rfl⟩
  have hrl : (xs.eraseIdx i).length = n - 1 := by rw [List.length_eraseIdx_of_lt hi, hn]
  rw [hn] at hi hS hcap hlen ⊢
  obtain ⟨ti, hti, hz⟩ := Option.map_eq_some_iff.1 info34
  simp only [Prod.mk.injEq] at hz
  have hb34 : base ≤ w.heap.size := by omega
  have HB34 := Aside0.mk hb34
  have HS := Aside0.mk hS
  have HI := Aside0.mk hi
  have HRL := Aside0.mk hrl
  have HCAP := Aside0.mk hcap
  have HLEN := Aside0.mk hlen
  obtain ⟨V, hcutV⟩ : ∃ V, ∀ W : World, (Instr.slice 25 (.slice (some ⟨g, 0, none⟩) n c) (some (.int .i64 (i : Int))) (some (.int .i64 ((i : Int) + 1))) (some (.int .i64 (n : Int)))).run Try.prog W = .ok V W := by
    refine ⟨sliced (some ⟨g, 0, none⟩) (i : Int).toNat ((i : Int) + 1).toNat (n : Int).toNat 4, fun W => ?_⟩
    have hel : Try.prog.elem 25 = 34 := by kernel_rfl
    have hzz : (Go.sizeOf 34).run Try.prog W = .ok 4 W := by kernel_rfl
    rw [run_slice_lhm W 25 _ _ _ (by rw [hel]; exact Try.underlying25) .i64 .i64 .i64 _ _ _ (by omega) (by omega) (by omega) (by omega), hel, hzz]
    rfl
  have hcut1 := cut_to (P := Try.prog) 25 34 .i64 Try.underlying25 hti (some ⟨g, 0, none⟩) n c (i : Int) (by omega) (by omega) hcap
  rw [Int.toNat_natCast] at hcut1
  have hcut2 := cut_from (P := Try.prog) 25 34 .i64 Try.underlying25 hti 4 hz.2.1 (some ⟨g, 0, none⟩) n c ((i : Int) + 1) (by omega) (by omega)
  rw [show ((i : Int) + 1).toNat = i + 1 by omega] at hcut2
  generalize hA2 : (if c = i + 1 then some (⟨g, 0, none⟩ : Addr) else (some (⟨g, 0, none⟩ : Addr)).map (·.add ((i + 1) * 4))) = A2 at hcut2
  have HA2 := Aside0.mk hA2
  have hcut3 : ∀ W : World, (Instr.slice 25 (.slice (some ⟨g, 0, none⟩) (n - 1) c) (some (.int .i64 ((n - 1 : Nat) : Int))) (some (.int .i64 (n : Int))) none).run Try.prog W = .ok (.slice (some ⟨g, (n - 1) * 4, none⟩) 1 (c - (n - 1))) W := by
    intro W
    have hel : Try.prog.elem 25 = 34 := by kernel_rfl
    have hzz : (Go.sizeOf 34).run Try.prog W = .ok 4 W := by kernel_rfl
    rw [run_slice_lh W 25 _ _ _ (by rw [hel]; exact Try.underlying25) .i64 .i64 _ _ (by omega) (by omega) (by omega), hel, hzz]
    have e3 : ¬ c = n - 1 := by omega
    have e4 : (n - (n - 1)) = 1 := by omega
    simp [Result.andThen, sliced, e3, e4, add_plain]
  have hne : ((i : Int) == (i : Int) + 1) = false := beq_eq_false_iff_ne.2 (by omega)
  have hnn : n - 1 ≤ c := by omega
  clear hS hC hcap hA2 hti hz ev hn hrl
  go_enter Try.func105, Try.ntmps105
  go_wp2
  clear hcutV hne hi hlen hbg hgl hnn hb34
  go_region_law ((refine Kd.S_delete_step k34 (w0 := w) base (by rfl) (.tmp 22) (.tmp 25) 25 34 rfl Try.underlying25 (by kernel_rfl) (g := g) (n := n) (c := c) (k := i) rfl rfl HA2.out.symm rfl (by (with_reducible repeat (first | apply Kd.S_drewN | apply Kd.S_drew)); exact HS.out) HI.out (by repeat (first | exact Below.refl _ _ | apply pw_below_drewN | apply below_drew1)) HB34.out ?_; intro w2 hs2 hb2 hg2; have HS2 := Aside0.mk hs2; have HB2 := Aside0.mk hb2; have HG2 := Aside0.mk hg2; clear hs2 hb2 hg2))
  have hi1 := HI.out
  have hcp := HCAP.out
  have hrun := fun ty => run_clear4 w2 ty g ((n - 1) * 4) 1 (c - (n - 1)) (by omega) (fun t ht => (S_room HS2.out _ (by omega)).1) (fun t ht => (S_room HS2.out _ (by omega)).2)
  have hsl := zeros4_length 1
  generalize zeros4 1 = seg at hrun hsl
  obtain ⟨hs3, hg3⟩ := S_beyond HS2.out seg (by rw [hsl]; omega)
  have HS3 := Aside0.mk hs3
  have HG3 := Aside0.mk (grown_trans HG2.out hg3)
  clear hs3 hg3 hsl hi1 hcp
  generalize w2.setCells g ((n - 1) * 4) seg = wz at hrun HS3 HG3
  go_wp2
  go_ret
  have hl : (n : Nat) - 1 = (xs.eraseIdx i).length := HRL.out.symm
  exact ⟨_, rfl, HS3.out, grown_below (by repeat (first | exact Below.refl _ _ | apply pw_below_drewN | apply below_drew1)) HG3.out, rfl⟩
end Go.Proofs.Ytlalkldjpniakaa.P
/- A variable of four cells written whole: its block is told. -/
namespace Go.Proofs.Ytlalkldjpniakaa.P
open Go.RowKit Go.Proofs.YtlalkldjpniakaaW.PrintWords Go.Proofs.YtlalkldjpniakaaW.PrintLast Go.Proofs.YtlalkldjpniakaaW.PrintMore
set_option linter.unusedVariables false
set_option linter.unusedSimpArgs false
set_option maxHeartbeats 8000000
set_option maxRecDepth 100000
theorem box_put3 {ops : Array Oper} {rest : List Oper} {o : Oper} {a : Act} {Q : Exit → Act → World → Prop} {W : World} (hN : o.dst = none) (hgd : o.guard = none) (p x : Operand) (ho : o.op = .store 34 p x) {g : Nat} {a0 a1 a2 a3 b0 b1 b2 b3 : Value}
    (haddr : a.eval p = .pointer (some ⟨g, 0, none⟩)) (hx : a.eval x = .agg #[b0, b1, b2, b3]) (hb : W.heap[g]? = some (.cells #[a0, a1, a2, a3] 34 (0, 0)))
    (h1 : ∀ u ∈ [b0, b1, b2, b3], u.oneCell' = true) (hc : (Value.agg #[b0, b1, b2, b3]).cells.toList = [b0, b1, b2, b3])
    (h : ∀ w1, W.grownBy w1 (some g) → w1.heap[g]? = some (.cells #[b0, b1, b2, b3] 34 (0, 0)) → wpList Try.prog ops Q rest a w1) : wpList Try.prog ops Q (o :: rest) a W := by
  obtain ⟨cur', c1, c2, c3⟩ := setCells_row [b0, b1, b2, b3] 0 W #[a0, a1, a2, a3] hb (by simp)
  have hcur : cur' = #[b0, b1, b2, b3] := by
    apply Array.toList_inj.1
    rw [c3]; rfl
  subst hcur
  have hrun : (Instr.storeAt 34 (.pointer (some ⟨g, 0, none⟩)) (.agg #[b0, b1, b2, b3])).run Try.prog W = .ok () (W.setCells g 0 [b0, b1, b2, b3]) :=
    run_store_run 34 _ _ hb hc (by kernel_rfl) (by simp) h1
  refine wpList_plain hgd fun K hK => ?_
  unfold Oper.wp execOp
  simp only [ho, haddr, hx, Sem.run_bind, Sem.run_pure, Result.andThen_ok, hrun]
  show K (a.put o.dst undef) _
  rw [hN]
  exact hK a _ (h _ (grown_setCells4 W g 0 _) c1)
end Go.Proofs.Ytlalkldjpniakaa.P
namespace Go.Proofs.Ytlalkldjpniakaa.P
open Go.RowKit Go.Proofs.YtlalkldjpniakaaW.PrintWords Go.Proofs.YtlalkldjpniakaaW.PrintLast Go.Proofs.YtlalkldjpniakaaW.PrintMore
attribute [local go_sem] zcm zcn zdd zde zbw zbx zco zcp   -- for this text's walks alone
set_option linter.unusedVariables false
set_option linter.unusedSimpArgs false
set_option maxHeartbeats 8000000
set_option maxRecDepth 100000

def impl_Take.f (k : Nat) (l0 : List (S34)) (a1 : ByteArray) : Option (ByteArray × Int × Int × List Int × List (S34) × Bool) := (impl_cloneItems.f k l0).bind fun t => if idxI (fun x => x.f0.toList == a1.toList) l0 < 0 then some (⟨#[]⟩, 0, 0, [], t, false) else if (idxI (fun x => x.f0.toList == a1.toList) l0).toNat < t.length then (impl_cloneItem.f (rd_T34 l0 (idxI (fun x => x.f0.toList == a1.toList) l0)).f0 (rd_T34 l0 (idxI (fun x => x.f0.toList == a1.toList) l0)).f1 (rd_T34 l0 (idxI (fun x => x.f0.toList == a1.toList) l0)).f2 (rd_T34 l0 (idxI (fun x => x.f0.toList == a1.toList) l0)).f3).bind fun u => some (u.1, u.2.1, u.2.2.1, u.2.2.2, t.eraseIdx (idxI (fun x => x.f0.toList == a1.toList) l0).toNat, true) else none
theorem impl_Take.mono : ∀ a0 a1 k, LeO (impl_Take.f k a0 a1) (impl_Take.f (k + 1) a0 a1) := by
 intro a0 a1 k
 unfold impl_Take.f
 exact LeO.bind (impl_cloneItems.mono _ _) (fun _ => LeO.refl _)
theorem impl_Take.calls (k : Nat) (A0 : Option Addr) (c0 : Nat) (l0 : List (S34)) (a1 : ByteArray) (r1 : ByteArray) (r2 : Int) (r3 : Int) (r4 : List Int) (r5 : List (S34)) (r6 : Bool) (w : World) (hr0 : Kd.C k34 w A0 l0.length l0) (hc0 : l0.length ≤ c0) (h : impl_Take.f k l0 a1 = some (r1, r2, r3, r4, r5, r6)) :
  Calls Try.prog 45 #[.slice A0 l0.length c0, .string a1] w fun e w' => ∃ v3_ v4_ : Value, e = .returned (.tuple #[.agg #[.string r1, .int .i64 r2, .int .i64 r3, v3_], v4_, .bool r6]) ∧ Kd.R (Kd.int .u8) 5 w' w.heap.size (fun _ => True) v3_ r4 ∧ Kd.S k34 34 w' w.heap.size (fun k_ => some k_ ≠ (v3_ : Value).ownBlock) v4_ r5 ∧ Below w.heap.size w w' := by
 have hu34 := Try.underlying34
 have eg : ∀ args w, (callFunc 103 args).run Try.prog w = .ok (.enter 103 args) w := enters_of Try.func103 (by kernel_rfl) rfl
 unfold impl_Take.f at h
 replace h := zce.1 h
 obtain ⟨t, ht, h⟩ := h
 have HR := Aside0.mk hr0
 have HC := Aside0.mk hc0
 have F := Aside0.mk ht
 clear ht
 rcases idxI_cases (fun x => x.f0.toList == a1.toList) l0 with ⟨hix, _⟩ | ⟨kk, hkk, hix, _, _⟩
 ·rw [hix, if_pos (by omega)] at h
  have h := Option.some.inj h
  simp only [zcj] at h
  obtain ⟨rfl, rfl, rfl, rfl, rfl, rfl⟩ := h
  have HIX := Aside0.mk hix
  clear hr0 hc0 hix
  go_enter Try.func45, Try.ntmps45
  go_wp2_with (first | (refine jgd 4 ?_; refine bx 4 (#[.string (⟨#[]⟩ : ByteArray), .int .i64 0, .int .i64 0, .slice none 0 0]) 34 ?_; intro gb hgb w1 hbox hb; have BK1 := Aside0.mk hbox; have HT1 := Aside0.mk ((hb.block _ (by simp)).trans (zgc w (.cells #[.string a1] 9 (0, 0)))); have HB1 := Aside0.mk (zab ((zbk _ w).alloc (zaf _) _) hb); have HGB := Aside0.mk (show w.heap.size ≤ gb by rw [hgb]; simp); have HGL := Aside0.mk ((Array.getElem?_eq_some_iff.1 hbox).1); clear hbox hb hgb) | (go_at_call 96; have hcl := impl_cloneItems.calls k _ c0 l0 t w1 (zaz HR.out HB1.out) HC.out F.out; (try rw [HN.out] at hcl); refine hcl.mono ?_; clear hcl; rintro e w2 ⟨v1, rfl, ho, hb2⟩; have HS2 := Aside0.mk ho; have HB2 := Aside0.mk (zab HB1.out hb2); have BK2 := Aside0.mk ((hb2.block _ HGL.out).trans BK1.out); have HT2 := Aside0.mk ((hb2.block _ (Array.getElem?_eq_some_iff.1 HT1.out).1).trans HT1.out); have HBASE := Aside0.mk HB1.out.size; have H12 := Aside0.mk hb2.size; clear ho hb2; obtain ⟨A1, c1, e1⟩ := zbm (Kd.S_R HS2.out); subst e1) | (go_at_call 102; have hix := items_index (fun x => x.f0.toList == a1.toList) _ _ w.heap.size _ (take_pred a1 w.heap.size) eg _ c0 l0 w2 (zaz HR.out HB2.out) HC.out HT2.out; rw [HIX.out] at hix; (try rw [HN.out] at hix); refine hix.mono ?_; clear hix; rintro e w3 ⟨rfl, hb3⟩; have HB3 := Aside0.mk (zab HB2.out hb3); (try replace h0 := zbj HB3.out h0); (try replace h1 := zbj HB3.out h1); (try replace h2 := zbj HB3.out h2); (try replace h3 := zbj HB3.out h3); have BK3 := Aside0.mk ((hb3.block _ (Array.getElem?_eq_some_iff.1 BK2.out).1).trans BK2.out); have HS3 := Aside0.mk (zdy HS2.out hb3); have HGLE := Aside0.mk (zeb H12.out hb3.size); clear hb3) | ((with_reducible refine zdp (t := 34) (p := 4) rfl ?_); refine box_put3 rfl rfl (.tmp 4) (.tmp 16) rfl rfl rfl BK3.out (by intro u hu; simp only [zcu, zca, zeq] at hu; rcases hu with rfl | rfl | rfl | rfl <;> rfl) rfl ?_; intro w4 hg4 hbw; have BW4 := Aside0.mk hbw; have HB4 := Aside0.mk (zcg HB3.out (some gb) HB3.out.size hg4 (fun k_ e => by injection e with e; rw [← e]; exact HGB.out)); have HS4 := Aside0.mk (Kd.S_grown (zfv HS3.out) hg4 (fun k_ hk_ e => by injection e with e; have h1 := hk_.2.1; have h2 := HGL.out; omega)); clear hg4 hbw))
  refine zdx (zfd rfl _ _ gb 34 #[.string (⟨#[]⟩ : ByteArray), .int .i64 0, .int .i64 0, .slice none 0 0] (0, 0) _ rfl BW4.out Try.underlying34 rfl (by kernel_rfl)) rfl ?_
  refine ⟨.slice none 0 0, .slice A1 _ c1, rfl, zfz _ _ _ _ _, ?_, HB4.out⟩
  exact zeg (zcx HS4.out (fun k_ hk_ e_ => by simp [Value.ownBlock] at e_)) HBASE.out
 ·rw [hix, if_neg (by omega), zge] at h
  by_cases hlt : kk < t.length
  ·rw [if_pos hlt] at h
   replace h := zce.1 h
   obtain ⟨u, hu, h⟩ := h
   have h := Option.some.inj h
   obtain ⟨u1, u2, u3, u4⟩ := u
   simp only [zcj] at h
   obtain ⟨rfl, rfl, rfl, rfl, rfl, rfl⟩ := h
   obtain ⟨ad, A3, c3, rfl, h0, h1, h2, h3, hl3, hi3⟩ := at_T34 hr0 (kk : Int) (by omega) (by omega)
   simp only [zge] at h0 h1 h2 h3
   generalize rd_T34 l0 (kk : Int) = x at h0 h1 h2 h3 hl3 hi3 hu
   have HX3 := Aside0.mk hi3
   have HL3 := Aside0.mk hl3
   have HU := Aside0.mk hu
   have HIX := Aside0.mk hix
   have hkz : ¬ (kk : Int) < 0 := by omega
   have hlen := hr0.2.1
   have hkn : (kk : Int) < (l0.length : Int) := by omega
   have hkp : wrap64 ((kk : Int) + 1) = (kk : Int) + 1 := by unfold wrap64; omega
   have HKP := Aside0.mk hkp
   have HLT := Aside0.mk hlt
   have h0' := h0
   clear hr0 hc0 hix hi3 hl3 hu hlt hkp
   generalize hn : l0.length = n at hkn hlen ⊢
   have HN := Aside0.mk hn
   clear hn
   go_enter Try.func45, Try.ntmps45
   go_wp2_with (first | (refine jgd 4 ?_; refine bx 4 (#[.string (⟨#[]⟩ : ByteArray), .int .i64 0, .int .i64 0, .slice none 0 0]) 34 ?_; intro gb hgb w1 hbox hb; have BK1 := Aside0.mk hbox; have HT1 := Aside0.mk ((hb.block _ (by simp)).trans (zgc w (.cells #[.string a1] 9 (0, 0)))); have HB1 := Aside0.mk (zab ((zbk _ w).alloc (zaf _) _) hb); have HGB := Aside0.mk (show w.heap.size ≤ gb by rw [hgb]; simp); have HGL := Aside0.mk ((Array.getElem?_eq_some_iff.1 hbox).1); clear hbox hb hgb) | (go_at_call 96; have hcl := impl_cloneItems.calls k _ c0 l0 t w1 (zaz HR.out HB1.out) HC.out F.out; (try rw [HN.out] at hcl); refine hcl.mono ?_; clear hcl; rintro e w2 ⟨v1, rfl, ho, hb2⟩; have HS2 := Aside0.mk ho; have HB2 := Aside0.mk (zab HB1.out hb2); have BK2 := Aside0.mk ((hb2.block _ HGL.out).trans BK1.out); have HT2 := Aside0.mk ((hb2.block _ (Array.getElem?_eq_some_iff.1 HT1.out).1).trans HT1.out); have HBASE := Aside0.mk HB1.out.size; have H12 := Aside0.mk hb2.size; clear ho hb2; obtain ⟨A1, c1, e1⟩ := zbm (Kd.S_R HS2.out); subst e1) | (go_at_call 102; have hix := items_index (fun x => x.f0.toList == a1.toList) _ _ w.heap.size _ (take_pred a1 w.heap.size) eg _ c0 l0 w2 (zaz HR.out HB2.out) HC.out HT2.out; rw [HIX.out] at hix; (try rw [HN.out] at hix); refine hix.mono ?_; clear hix; rintro e w3 ⟨rfl, hb3⟩; have HB3 := Aside0.mk (zab HB2.out hb3); (try replace h0 := zbj HB3.out h0); (try replace h1 := zbj HB3.out h1); (try replace h2 := zbj HB3.out h2); (try replace h3 := zbj HB3.out h3); have BK3 := Aside0.mk ((hb3.block _ (Array.getElem?_eq_some_iff.1 BK2.out).1).trans BK2.out); have HS3 := Aside0.mk (zdy HS2.out hb3); have HGLE := Aside0.mk (zeb H12.out hb3.size); clear hb3) | (go_at_call 104; refine (impl_cloneItem.calls x.f0 x.f1 x.f2 A3 c3 x.f3 u1 u2 u3 u4 w3 (zaz HX3.out HB3.out) HL3.out HU.out).mono ?_; rintro e w4 ⟨v4, rfl, ho, hb4⟩; have HB4 := Aside0.mk (zab HB3.out hb4); have BK4 := Aside0.mk ((hb4.block _ (Array.getElem?_eq_some_iff.1 BK3.out).1).trans BK3.out); have HBASE3 := Aside0.mk (zck HGL.out HGLE.out); have HR4 := Aside0.mk (zav (Kd.R_bound (zfe rfl ho)) (fun k_ hk_ => zfj hk_.1 hk_.2.1) : (Kd.int .u8).R 5 w4 w3.heap.size (fun k_ => some k_ = v4.ownBlock ∧ w3.heap.size ≤ k_) v4 u4); have HS4 := Aside0.mk (zcx (zdy (zfv HS3.out) hb4) (fun k_ hk_ => (⟨fun e => by have h1 := zbe ho k_ e.symm; have h2 := hk_.2.2.1; omega, hk_.2.1⟩ : some k_ ≠ v4.ownBlock ∧ w1.heap.size ≤ k_))); clear ho hb4; obtain ⟨A4, c4, e4⟩ := zbm HR4.out; subst e4) | (go_at_call 105; refine (items_erase A1 c1 t kk HLT.out w4 _ _ HS4.out).mono ?_; rintro e w5 ⟨v5, rfl, hs5, hg5, hv5⟩; have HB5 := Aside0.mk (zcg HB4.out _ HB4.out.size hg5 (fun k_ e => zeb HBASE.out (Kd.S_base HS4.out k_ e))); have HS5 := Aside0.mk hs5; have HR5 := Aside0.mk (Kd.R_grown HR4.out hg5 (fun k_ hk_ e => by have h1 := Kd.S_lt HS3.out k_ e.symm; have h2 := hk_.2; omega)); have BK5 := Aside0.mk ((hg5.block _ (Array.getElem?_eq_some_iff.1 BK4.out).1 (fun e => by have h1 := Kd.S_base HS4.out _ e.symm; have h2 := HGL.out; omega)).trans BK4.out); clear hs5 hg5 hv5) | ((with_reducible refine zdp (t := 34) (p := 4) rfl ?_); refine box_put3 rfl rfl (.tmp 4) (.tmp 22) rfl rfl rfl BK5.out (by intro u hu; simp only [zcu, zca, zeq] at hu; rcases hu with rfl | rfl | rfl | rfl <;> rfl) rfl ?_; intro w6 hg6 hbw; have BW6 := Aside0.mk hbw; have HB6 := Aside0.mk (zcg HB5.out (some gb) HB5.out.size hg6 (fun k_ e => by injection e with e; rw [← e]; exact HGB.out)); have HS6 := Aside0.mk (Kd.S_grown HS5.out hg6 (fun k_ hk_ e => by injection e with e; have h1 := hk_.2; have h2 := HGL.out; omega)); have HR6 := Aside0.mk (Kd.R_grown HR5.out hg6 (fun k_ hk_ e => by injection e with e; have h1 := hk_.2; have h2 := HGL.out; have h3 := HBASE3.out; omega)); clear hg6 hbw))
   refine zdx (zfd rfl _ _ gb 34 #[.string u1, .int .i64 u2, .int .i64 u3, .slice A4 u4.length c4] (0, 0) _ rfl BW6.out Try.underlying34 rfl (by kernel_rfl)) rfl ?_
   exact ⟨.slice A4 _ c4, v5, rfl, zbc (zav HR6.out (fun _ _ => trivial)) HB3.out.size, zeg (Kd.S_drop HS6.out) HBASE.out, HB6.out⟩
  ·rw [if_neg hlt] at h
   cases h
def impl_LineOk.f (k : Nat) (a0_0 : Int) (a0_1 : ByteArray) (a0_2 : Int) (a0_3 : Int) (l0_4 : List Int) : Option (Bool) := if a0_0 = 1 then ((impl_itemOf.f a0_0 a0_1 a0_2 a0_3 l0_4).bind fun bt299 => ((impl_ItemOk.f k bt299.1 bt299.2.1 bt299.2.2.1 bt299.2.2.2).bind fun t305 => (some t305))) else (if a0_0 = 2 then ((impl_isRoute.f k a0_1).bind fun t306 => (if t306 = true then (if a0_2 = 0 then (if a0_3 = 0 then (some ((l0_4.length : Int) == 0)) else (some false)) else (some false)) else (some false))) else (if a0_0 = 3 then ((impl_in.f a0_3 0 100000).bind fun t307 => (if t307 = true then (if a0_1.toList = ([] : List UInt8) then (if a0_2 = 0 then (some ((l0_4.length : Int) == 0)) else (some false)) else (some false)) else (some false))) else (some false)))
theorem impl_LineOk.mono : ∀ a0 a1 a2 a3 a4 k, LeO (impl_LineOk.f k a0 a1 a2 a3 a4) (impl_LineOk.f (k + 1) a0 a1 a2 a3 a4) := by
 intro a0 a1 a2 a3 a4 k
 unfold impl_LineOk.f
 have m0 := @impl_ItemOk.mono
 have m1 := @impl_isRoute.mono
 exact mt
theorem impl_LineOk.wk {P : Prop} (h : P := by
 go_enter Try.func36, Try.ntmps36
 go_wp2_with (first | (refine jgd 1 ?_; (try (refine gate_guard (by rfl) ?_; dsimp only)); refine bx 1 (#[.int .i64 a0_0, .string a0_1, .int .i64 a0_2, .int .i64 a0_3, .slice A0_4 l0_4.length c0_4]) 48 ?_; intro gb298 hg w_ hbox hb; have xb_ := below_ofs bq hb; have n_ := jA4 (zab xb_ hb) (hbox) (ge0 hg xb_ : w.heap.size ≤ gb298) (ge0 hg xb_ : w.heap.size ≤ gb298); clear HB; obtain ⟨HB, BK298, GW298, GE298⟩ := n_; clear xb_ hb hbox hg; obtain ⟨c0, c1, c2, c3, c4, z0, z1, z2, z3, z4⟩ := cz5 BK298.out) | (refine jgc 93 ?_; refine jgs 8 Try.func93 #[.agg #[.int .i64 a0_0, .string a0_1, .int .i64 a0_2, .int .i64 a0_3, .slice A0_4 l0_4.length c0_4]] ?_; (with_reducible refine (impl_itemOf.calls a0_0 a0_1 a0_2 a0_3 _ _ l0_4 t299 t300 t301 t302 _ ?side1 ?side2 A3.out).mono ?_); (case side1 => exact jcs HR0_4.out); (case side2 => exact HC0_4.out); rintro e w_ ⟨v303, rfl, ho0, hb⟩; refine ⟨_, rfl, ?_⟩; have n_ := jA3 (zbc ho0 (zak (bs1 GE298.out))) (jbb BK298.out hb) (zab (bs1 GE298.out) hb); clear BK298 HB; obtain ⟨HO304, BK298, HB⟩ := n_; clear hb ho0; obtain ⟨Ao8, co8, eo8⟩ := zbm HO304.out; subst eo8) | (refine jgc 26 ?_; refine jgs 9 Try.func26 #[.agg #[.string t299, .int .i64 t300, .int .i64 t301, .slice Ao8 t302.length co8]] ?_; (with_reducible refine (impl_ItemOk.calls k t299 t300 t301 _ _ t302 t305 _ ?side1 ?side2 A4.out).mono ?_); (case side1 => repeat (first | exact (zbq HO304.out).2.2 | (with_reducible first | apply zcv | apply zdi | apply zdu))); (case side2 => exact (zbq HO304.out).2.1); rintro e w_ ⟨rfl, hb⟩; refine ⟨_, rfl, ?_⟩; have n_ := jA3 (zdj (pR HO304.out) hb) (jbb BK298.out hb) (zab (bs1 GE298.out) hb); clear HO304 BK298 HB; obtain ⟨HO304, BK298, HB⟩ := n_; (try clear hb); (try clear hb2); (try clear hk); (try clear hi)) | (refine jgc 90 ?_; refine jgs 14 Try.func90 #[.string a0_1] ?_; (with_reducible refine (impl_isRoute.calls k a0_1 _ _ A11.out).mono ?_); rintro e w_ ⟨rfl, hb⟩; refine ⟨_, rfl, ?_⟩; have n_ := jA2 (jbb BK298.out hb) (zab (bs1 GE298.out) hb); clear BK298 HB; obtain ⟨BK298, HB⟩ := n_; (try clear hb); (try clear hb2); (try clear hk); (try clear hi); obtain ⟨c0, c1, c2, c3, c4, z0, z1, z2, z3, z4⟩ := cz5 BK298.out) | (refine jgc 91 ?_; refine jgs 35 Try.func91 #[.int .i64 a0_3, .int .i64 0, .int .i64 100000] ?_; (with_reducible refine (impl_in.calls a0_3 0 100000 _ _ A31.out).mono ?_); rintro e w' ⟨rfl, ⟨nd, rfl⟩⟩; refine ⟨_, rfl, ?_⟩) | (refine jgc 91 ?_; refine jgs 35 Try.func91 #[.int .i64 a0_3, .int .i64 0, .int .i64 100000] ?_; (with_reducible refine (impl_in.calls a0_3 0 100000 true _ A31.out).mono ?_); rintro e w' ⟨rfl, ⟨nd, rfl⟩⟩; refine ⟨_, rfl, ?_⟩))
 go_ret
 exact ⟨jex, (bs1 GE298.out)⟩) : P := h
theorem impl_LineOk.calls (k : Nat) (a0_0 : Int) (a0_1 : ByteArray) (a0_2 : Int) (a0_3 : Int) (A0_4 : Option Addr) (c0_4 : Nat) (l0_4 : List Int) (r : Bool) (w : World) (hr0_4 : Kd.C (Kd.int .u8) w A0_4 l0_4.length l0_4) (hc0_4 : l0_4.length ≤ c0_4) (h : impl_LineOk.f k a0_0 a0_1 a0_2 a0_3 l0_4 = some r) :
  Calls Try.prog 36 #[.agg #[.int .i64 a0_0, .string a0_1, .int .i64 a0_2, .int .i64 a0_3, .slice A0_4 l0_4.length c0_4]] w fun e w' => e = .returned (.bool r) ∧ Below w.heap.size w w' := by
 have hu48 := Try.underlying48
 have HR0_4 := Aside0.mk hr0_4
 have HC0_4 := Aside0.mk hc0_4
 clear hr0_4 hc0_4
 have HB := Aside0.mk (zbk w.heap.size w)
 have H : (if a0_0 = 1 then ((impl_itemOf.f a0_0 a0_1 a0_2 a0_3 l0_4).bind fun bt299 => ((impl_ItemOk.f k bt299.1 bt299.2.1 bt299.2.2.1 bt299.2.2.2).bind fun t305 => (some t305))) else (if a0_0 = 2 then ((impl_isRoute.f k a0_1).bind fun t306 => (if t306 = true then (if a0_2 = 0 then (if a0_3 = 0 then (some ((l0_4.length : Int) == 0)) else (some false)) else (some false)) else (some false))) else (if a0_0 = 3 then ((impl_in.f a0_3 0 100000).bind fun t307 => (if t307 = true then (if a0_1.toList = ([] : List UInt8) then (if a0_2 = 0 then (some ((l0_4.length : Int) == 0)) else (some false)) else (some false)) else (some false))) else (some false)))) = some r := h
 clear h
 by_cases c2 : a0_0 = 1
 ·rw [if_pos c2] at H
  have c2b0 := beqT c2
  have c2b1 := zau.mpr c2
  clear c2
  obtain ⟨⟨t299, t300, t301, t302⟩, A3, H⟩ := bnd H
  try dsimp only at H
  obtain ⟨t305, A4, H⟩ := bnd H
  obtain rfl := Option.some.inj H
  exact impl_LineOk.wk
 ·rw [if_neg c2] at H
  have c2b0 := zao.mpr c2
  have c2b1 := zcs.mpr c2
  by_cases c10 : a0_0 = 2
  ·rw [if_pos c10] at H
   have c10b0 := beqT c10
   have c10b1 := zau.mpr c10
   clear c10
   obtain ⟨t306, A11, H⟩ := bnd H
   by_cases c12 : t306 = true
   ·subst c12
    rw [if_pos rfl] at H
    by_cases c13 : a0_2 = 0
    ·rw [if_pos c13] at H
     have c13b0 := beqT c13
     have c13b1 := zau.mpr c13
     clear c13
     by_cases c14 : a0_3 = 0
     ·rw [if_pos c14] at H
      have c14b0 := beqT c14
      have c14b1 := zau.mpr c14
      clear c14
      obtain rfl := Option.some.inj H
      exact impl_LineOk.wk
     ·rw [if_neg c14] at H
      have c14b0 := zao.mpr c14
      have c14b1 := zcs.mpr c14
      obtain rfl := Option.some.inj H
      exact impl_LineOk.wk
    ·rw [if_neg c13] at H
     have c13b0 := zao.mpr c13
     have c13b1 := zcs.mpr c13
     obtain rfl := Option.some.inj H
     exact impl_LineOk.wk
   ·replace c12 := zbn.mpr c12
    subst c12
    rw [if_neg (show ¬ (false = true) by decide)] at H
    obtain rfl := Option.some.inj H
    exact impl_LineOk.wk
  ·rw [if_neg c10] at H
   have c10b0 := zao.mpr c10
   have c10b1 := zcs.mpr c10
   by_cases c30 : a0_0 = 3
   ·rw [if_pos c30] at H
    have c30b0 := beqT c30
    have c30b1 := zau.mpr c30
    clear c30
    obtain ⟨t307, A31, H⟩ := bnd H
    by_cases c32 : t307 = true
    ·subst c32
     rw [if_pos rfl] at H
     by_cases c33 : a0_1.toList = ([] : List UInt8)
     ·rw [if_pos c33] at H
      have c33b0 := beqT c33
      have c33b1 := zau.mpr c33
      clear c33
      by_cases c34 : a0_2 = 0
      ·rw [if_pos c34] at H
       have c34b0 := beqT c34
       have c34b1 := zau.mpr c34
       clear c34
       obtain rfl := Option.some.inj H
       exact impl_LineOk.wk
      ·rw [if_neg c34] at H
       have c34b0 := zao.mpr c34
       have c34b1 := zcs.mpr c34
       obtain rfl := Option.some.inj H
       exact impl_LineOk.wk
     ·rw [if_neg c33] at H
      have c33b0 := zao.mpr c33
      have c33b1 := zcs.mpr c33
      obtain rfl := Option.some.inj H
      exact impl_LineOk.wk
    ·replace c32 := zbn.mpr c32
     subst c32
     rw [if_neg (show ¬ (false = true) by decide)] at H
     obtain rfl := Option.some.inj H
     exact impl_LineOk.wk
   ·rw [if_neg c30] at H
    have c30b0 := zao.mpr c30
    have c30b1 := zcs.mpr c30
    obtain rfl := Option.some.inj H
    exact impl_LineOk.wk
def bytes_Join.f (l0 : List (List Int)) (l1 : List Int) : Option (List Int) := if l1.length = 0 ∧ l0.flatten.length ≤ 140737488355328 ∧ l0.length ≤ 140737488355328 then some l0.flatten else none
structure bytes_Join.Buf (w0 wr : World) (N : Nat) (acc : List Int) : Prop where
 below : Below w0.heap.size w0 wr
 blk : ∃ cur, wr.heap[w0.heap.size]? = some (.cells cur 5 (0, 0)) ∧ N ≤ cur.size ∧ cur.toList.take acc.length = acc.map (Value.int .u8)
 fits : acc.length ≤ N
theorem bytes_Join.start (w : World) (cs : Array Value) (N q : Nat) (hN : N ≤ cs.size) : bytes_Join.Buf w ((w.alloc (.cells cs 5)).drewN q) N [] :=
 ⟨pw_below_drewN (below_alloc (zbk _ _) _) q, ⟨cs, by show (w.alloc (.cells cs 5)).heap[w.heap.size]? = _; exact zgc w _, hN, by simp⟩, by simp⟩
def bytes_Join.tailJ (h N bp : Nat) : Value := .slice (some (if N = bp then ⟨h, 0, none⟩ else ⟨h, bp, none⟩)) (N - bp) (N - bp)
theorem bytes_Join.copied (w0 wr : World) (N : Nat) (acc l : List Int) (p : Option Addr) (cap : Nat) (hb : bytes_Join.Buf w0 wr N acc) (hv : Kd.C (Kd.int .u8) w0 p l.length l) (hfit : acc.length + l.length ≤ N) :
  ∃ w1, (Builtin.copy_ #[29, 29] 3 #[bytes_Join.tailJ w0.heap.size N acc.length, .slice p l.length cap]).run Try.prog wr = .ok (.int .i64 (l.length : Int)) w1 ∧ bytes_Join.Buf w0 w1 N (acc ++ l) := by
 have hu : Try.prog.underlying 29 = some (.slice 5) := Try.underlying29
 have hs : (Try.prog.info? 5).map (·.size) = some 1 := by kernel_rfl
 rcases Nat.eq_zero_or_pos l.length with h0 | h0
 ·have hl : l = [] := List.eq_nil_of_length_eq_zero h0
  subst hl
  exact ⟨wr, run_copy_none (P := Try.prog) wr 29 29 3 5 _ p _ _ 0 cap hu hs (by simp), by simpa using hb⟩
 ·obtain ⟨ad, rfl, hcell⟩ := hv.2.2 h0
  have hne : ¬ N = acc.length := by omega
  obtain ⟨cur, hg, hN, htake⟩ := hb.blk
  have hcells : ∀ j u, (l.map (Value.int .u8))[j]? = some u → wr.cell? (ad.add j) = some u := by
   intro j u hj
   rw [List.getElem?_map] at hj
   obtain ⟨x, hx, rfl⟩ := Option.map_eq_some_iff.1 hj
   obtain ⟨c, hc1, hc2, hc3⟩ := hcell j x hx
   have h3 := hc3 0 (.int .u8 x) (by rw [hc2]; rfl)
   rw [show j * (Kd.int .u8).sz + 0 = j from by show j * 1 + 0 = j; omega] at h3
   exact zbj hb.below h3
  have hfr : ∀ j, wr.frozen? ⟨w0.heap.size, j, none⟩ = false := fun j => frozen_of_row wr w0.heap.size j cur 5 hg
  have hr := run_copy_cells (P := Try.prog) wr 29 29 3 5 w0.heap.size acc.length (N - acc.length) (N - acc.length) ad l.length cap (l.map (Value.int .u8)) hu hs (by rw [List.length_map]; exact (Nat.min_eq_left (by omega)).symm) hcells
   (fun j hj => by rw [List.length_map] at hj; rw [cell_of_row wr w0.heap.size _ cur 5 (0, 0) hg, Array.getElem?_eq_getElem (by omega)]; rfl) (fun j _ => hfr _) (fun u hu1 => by obtain ⟨x, _, rfl⟩ := List.mem_map.1 hu1; rfl)
  rw [List.length_map] at hr
  obtain ⟨cur1, h3, h4, h5⟩ := setCells_row (l.map (Value.int .u8)) acc.length wr cur hg (by rw [List.length_map]; omega)
  refine ⟨_, by unfold bytes_Join.tailJ; rw [if_neg hne]; exact hr, ⟨Lib.below_setCells w0.heap.size (zaf _) _ _ hb.below, ⟨cur1, h3, by omega, ?_⟩, by rw [List.length_append]; exact hfit⟩⟩
  rw [h5, htake, List.length_append, List.map_append]
  have hlen : acc.length + l.length = (acc.map (Value.int .u8) ++ l.map (Value.int .u8)).length := by simp
  rw [hlen]
  exact List.take_left
theorem bytes_Join.part {w : World} {ad : Addr} {ls : List (List Int)} {i : Nat} {x : List Int} (hx : ls[i]? = some x)
  (h : ∀ j p, ls[j]? = some p → ∃ c, c.length = (Kd.slice 5 (Kd.int .u8)).sz ∧ (Kd.slice 5 (Kd.int .u8)).K w p c ∧ ∀ i u, c[i]? = some u → w.cell? (ad.add (j * (Kd.slice 5 (Kd.int .u8)).sz + i)) = some u) :
  ∃ A c, w.cell? (ad.add i) = some (.slice A x.length c) ∧ x.length ≤ c ∧ Kd.C (Kd.int .u8) w A x.length x := by
 obtain ⟨c, _, ⟨A, c1, rfl, hl, hC⟩, hcell⟩ := h i x hx
 have h3 := hcell 0 _ rfl
 rw [show i * (Kd.slice 5 (Kd.int .u8)).sz + 0 = i from by show i * 1 + 0 = i; omega] at h3
 exact ⟨A, c1, h3, hl, hC⟩
theorem bytes_Join.sum_step (ls : List (List Int)) (i : Nat) (x : List Int) (hx : ls[i]? = some x) : (ls.take (i + 1)).flatten = (ls.take i).flatten ++ x := by
 have hi : i < ls.length := (List.getElem?_eq_some_iff.1 hx).1
 have he : ls[i] = x := (List.getElem?_eq_some_iff.1 hx).2
 rw [List.take_succ_eq_append_getElem hi, List.flatten_append, he]
 simp
theorem bytes_Join.sum_le (ls : List (List Int)) (i : Nat) : (ls.take i).flatten.length ≤ ls.flatten.length := by
 conv => rhs; rw [← List.take_append_drop i ls]
 rw [List.flatten_append, List.length_append]
 omega
set_option maxRecDepth 1000000 in
theorem bytes_Join.many (ad : Addr) (c0 : Nat) (l0 : List (List Int)) (A1 : Option Addr) (c1 : Nat) (w : World) (hcell : ∀ j p, l0[j]? = some p → ∃ c, c.length = (Kd.slice 5 (Kd.int .u8)).sz ∧ (Kd.slice 5 (Kd.int .u8)).K w p c ∧ ∀ i u, c[i]? = some u → w.cell? (ad.add (j * (Kd.slice 5 (Kd.int .u8)).sz + i)) = some u)
  (n : Nat) (hn : l0.length = n) (h2 : 2 ≤ n) (hc0 : n ≤ c0) (hT : l0.flatten.length ≤ 140737488355328) (hn47 : n ≤ 140737488355328) :
  Calls Try.prog 138 #[.slice (some ad) n c0, .slice A1 0 c1] w fun e w' => ∃ v0_ : Value, e = .returned (v0_) ∧ Kd.R (Kd.int .u8) 5 w' w.heap.size (fun _ => True) v0_ l0.flatten ∧ Below w.heap.size w w' := by
 have PA := Aside0.mk hcell
 clear hcell
 have f0 : ((n : Int) == 0) = false := zao.2 (by omega)
 have f1 : ((n : Int) == 1) = false := zao.2 (by omega)
 have HNH := Aside0.mk hn
 clear hn
 have u22 : ∀ w, Sem.run Try.prog (underlying 29) w = .ok (TypeDesc.slice 5) w := run_underlying Try.underlying29
 go_enter Try.func138, Try.ntmps138
 go_wp2
 go_loopg [5, 44] n (fun g s5 s44 wr => w = wr ∧ ∃ i : Nat, i ≤ n ∧ g = n - i ∧ s44 = .int .i64 i ∧ s5 = .int .i64 (((l0.take i).flatten.length : Nat) : Int))
 case atStart => exact ⟨rfl, 0, Nat.zero_le _, rfl, rfl, by simp⟩
 case round =>
  obtain ⟨rfl, i, hi, rfl, rfl, rfl⟩ := hrel
  by_cases hlt : i < n
  ·obtain ⟨x, hx⟩ : ∃ x, l0[i]? = some x := ⟨l0[i]'(by rw [HNH.out]; exact hlt), List.getElem?_eq_getElem _⟩
   obtain ⟨A, c, hcl, _, _⟩ := bytes_Join.part hx PA.out
   have hs1 := zed List.length (bytes_Join.sum_step l0 i x hx)
   rw [List.length_append] at hs1
   have hs2 := bytes_Join.sum_le l0 (i + 1)
   have HS := Aside0.mk hs1
   generalize (l0.take i).flatten.length = acc at hs1 HS ⊢
   have hb : ¬ (9223372036854775807 - (acc : Int) < (x.length : Int)) := by omega
   have hb2 : (acc : Int) + (x.length : Int) ≤ 140737488355328 := by omega
   have hb3 : (0 : Int) ≤ (acc : Int) := by omega
   clear hs1 hs2
   go_wp2
   go_roundg (n - (i + 1))
   case measure => omega
   case rel => exact ⟨rfl, i + 1, by omega, rfl, by go_num, by rw [HS.out]; first | rfl | (congr 1; push_cast; omega)⟩
  ·obtain rfl : n = i := by omega
   rw [show l0.take n = l0 by rw [← HNH.out, List.take_length]]
   obtain ⟨T, hTT⟩ : ∃ T, l0.flatten.length = T := ⟨_, rfl⟩
   rw [hTT] at hT ⊢
   have HT := Aside0.mk hTT
   clear hTT
   obtain ⟨cs, hrunM, hle, _⟩ := Lib.run_makeNoZero (P := Try.prog) w #[3] 29 5 Try.underlying29 T (by omega)
   have hcall : (callFunc 150 #[.int .i64 (T : Int)]).run Try.prog w = .ok (.value (.slice (some ⟨w.heap.size, 0, none⟩) T cs.size)) ((w.alloc (.cells cs 5)).drewN 2) := by
    rw [run_callFunc_extern Try.func150 (by kernel_rfl) (by kernel_rfl) (by kernel_rfl) (e := Extern.BytealgMakeNoZero.makeNoZero #[3] #[29]) (by kernel_rfl), hrunM]
    rfl
   clear hrunM
   have i0 : (0 : Int) ≤ (T : Int) := by omega
   have i1 : (T : Int) ≤ (cs.size : Int) := by omega
   have B0 := bytes_Join.start w cs T 2 hle
   obtain ⟨x0, hx0⟩ : ∃ x, l0[0]? = some x := ⟨l0[0]'(by rw [HNH.out]; omega), List.getElem?_eq_getElem _⟩
   obtain ⟨A, c, hcl, _, hC⟩ := bytes_Join.part hx0 PA.out
   have hs1 := bytes_Join.sum_step l0 0 x0 hx0
   rw [List.take_zero, List.flatten_nil, List.nil_append] at hs1
   have hs2 := bytes_Join.sum_le l0 (0 + 1)
   rw [hs1, HT.out] at hs2
   obtain ⟨w1, hr1, B1⟩ := bytes_Join.copied w _ T [] x0 A c B0 hC (by simpa using hs2)
   rw [show bytes_Join.tailJ w.heap.size T ([] : List Int).length = .slice (some ⟨w.heap.size, 0, none⟩) T T by unfold bytes_Join.tailJ; split <;> rfl] at hr1
   rw [List.nil_append] at B1
   have hc0 : ((w.alloc (.cells cs 5)).drewN 2).cell? ad = some (.slice A x0.length c) := by
    rw [Addr.add_zero'] at hcl
    exact zbj B0.below hcl
   obtain ⟨ad1, had1⟩ : ∃ a : Addr, a = ad.add 1 := ⟨_, rfl⟩
   have hcut : ∀ W : World, (Instr.slice 129 (.slice (some ad) n c0) (some (.int .i64 1)) none none).run Try.prog W = .ok (.slice (some ad1) (n - 1) (c0 - 1)) W := by
    intro W
    rw [had1]
    have ht : Try.prog.underlying 129 = some (.slice (Try.prog.elem 129)) := by kernel_rfl
    have he : Try.prog.elem 129 = 29 := by kernel_rfl
    have hz : (Go.sizeOf 29).run Try.prog W = .ok 1 W := by kernel_rfl
    rw [run_slice_l W 129 _ _ _ ht .i64 _ (by omega) (by omega), he, hz]
    have h9 : ¬ c0 = 1 := by omega
    simp [Result.andThen, sliced, h9]
   have HAD := Aside0.mk had1
   clear had1
   have hnn : ((n : Int) - 1) = ((n - 1 : Nat) : Int) := by omega
   go_wp2_with (at_builtin; refine Lib.wpList_copy_run _ rfl _ _ 29 29 rfl _ _ rfl rfl hr1 ?_)
   have HB1 : Aside0 (bytes_Join.Buf w w1 T x0) := ⟨B1⟩
   have HX0 := Aside0.mk hs1
   clear B1 B0 hr1 hcall hc0 hcl hs1 hs2
   go_loopg [9, 72] (n - 1) (fun g2 s9 s72 wr => ∃ (j : Nat) (acc : List Int), j ≤ n - 1 ∧ n - 1 - j ≤ g2 ∧ s72 = .int .i64 j ∧ s9 = .int .i64 acc.length ∧ Aside0 (bytes_Join.Buf w wr T acc) ∧ Aside0 (acc = (l0.take (1 + j)).flatten))
   case atStart => exact ⟨0, x0, Nat.zero_le _, by omega, rfl, rfl, HB1, ⟨HX0.out.symm⟩⟩
   case round =>
    obtain ⟨j, acc, hj, hg2, rfl, rfl, HB, HA⟩ := hrel
    by_cases hjn : j < n - 1
    ·have hjz : (j : Int) < ((n - 1 : Nat) : Int) := by omega
     obtain ⟨x, hx⟩ : ∃ x, l0[1 + j]? = some x := ⟨l0[1 + j]'(by rw [HNH.out]; omega), List.getElem?_eq_getElem _⟩
     obtain ⟨A2, c2, hcl, _, hC2⟩ := bytes_Join.part hx PA.out
     have hst := bytes_Join.sum_step l0 (1 + j) x hx
     have hle2 := bytes_Join.sum_le l0 (1 + j + 1)
     rw [hst, ← HA.out, List.length_append, HT.out] at hle2
     have hcw : wr.cell? (ad1.add j) = some (.slice A2 x.length c2) := by
      rw [HAD.out, Addr.add_add]
      exact zbj HB.out.below hcl
     have hsl : ∀ W : World, (Instr.slice 29 (.slice (some ⟨w.heap.size, 0, none⟩) T T) (some (.int .i64 (acc.length : Int))) none none).run Try.prog W = .ok (bytes_Join.tailJ w.heap.size T acc.length) W := by
      intro W
      unfold bytes_Join.tailJ
      have ht : Try.prog.underlying 29 = some (.slice (Try.prog.elem 29)) := by kernel_rfl
      have he : Try.prog.elem 29 = 5 := by kernel_rfl
      have hz : (Go.sizeOf 5).run Try.prog W = .ok 1 W := by kernel_rfl
      rw [run_slice_l W 29 _ _ _ ht .i64 _ (by omega) (by omega), he, hz]
      by_cases h9 : T = acc.length
      ·simp [Result.andThen, sliced, h9]
      ·simp [Result.andThen, sliced, h9, add_plain]
     have hb0 : (0 : Int) ≤ (acc.length : Int) := by omega
     have hb1 : (acc.length : Int) + (x.length : Int) ≤ (T : Int) := by omega
     obtain ⟨w2, hr2, B2⟩ := bytes_Join.copied w wr T acc [] A1 c1 HB.out ⟨rfl, Nat.zero_le _, fun h => absurd h (by simp)⟩ (by simp; omega)
     rw [List.append_nil] at B2
     obtain ⟨w3, hr3, B3⟩ := bytes_Join.copied w w2 T acc x A2 c2 B2 hC2 (by omega)
     have HB3 : Aside0 (bytes_Join.Buf w w3 T (acc ++ x)) := ⟨B3⟩
     have HS := Aside0.mk hst
     simp only [List.length_nil, Int.natCast_zero] at hr2
     clear B2 B3 hst hle2 hcl hC2
     go_wp2_with (at_builtin; first | refine Lib.wpList_copy_run _ rfl _ _ 29 29 rfl _ _ rfl rfl hr2 ?_ | refine Lib.wpList_copy_run _ rfl _ _ 29 29 rfl _ _ rfl rfl hr3 ?_)
     go_roundg (n - 1 - (j + 1))
     case measure => omega
     case rel => exact ⟨j + 1, acc ++ x, by omega, zaf _, by go_num, by rw [List.length_append]; first | rfl | (congr 1; push_cast; rfl), HB3, ⟨by rw [HA.out, ← HS.out]; rfl⟩⟩
    ·obtain rfl : j = n - 1 := by omega
     have hjz : ¬ (((n - 1 : Nat) : Int) < ((n - 1 : Nat) : Int)) := by omega
     go_wp2
     go_ret
     have hacc : acc = l0.flatten := by
      rw [HA.out, show 1 + (n - 1) = l0.length by rw [HNH.out]; omega, List.take_length]
     have hTl : T = acc.length := by rw [hacc, HT.out]
     obtain ⟨cur, hg, hN, htk⟩ := HB.out.blk
     rw [← hacc]
     exact ⟨_, rfl, Kd.R_of_own ⟨by rw [encs, List.length_map, Nat.mul_one], .inr ⟨w.heap.size, T, cur, by rw [hTl]; rfl, zaf _, hg, by omega, by unfold maxLen; omega, by omega, by rw [Nat.mul_one]; exact htk⟩⟩ (fun _ _ => trivial), HB.out.below⟩
theorem bytes_Join.calls (A0 : Option Addr) (c0 : Nat) (l0 : List (List Int)) (A1 : Option Addr) (c1 : Nat) (l1 : List Int) (r : List Int) (w : World) (hr0 : Kd.C (Kd.slice 5 (Kd.int .u8)) w A0 l0.length l0) (hc0 : l0.length ≤ c0) (hr1 : Kd.C (Kd.int .u8) w A1 l1.length l1) (hc1 : l1.length ≤ c1) (h : bytes_Join.f l0 l1 = some r) :
  Calls Try.prog 138 #[.slice A0 l0.length c0, .slice A1 l1.length c1] w fun e w' => ∃ v0_ : Value, e = .returned (v0_) ∧ Kd.R (Kd.int .u8) 5 w' w.heap.size (fun _ => True) v0_ r ∧ Below w.heap.size w w' := by
 unfold bytes_Join.f at h
 by_cases c3 : l1.length = 0 ∧ l0.flatten.length ≤ 140737488355328 ∧ l0.length ≤ 140737488355328
 ·rw [if_pos c3] at h
  obtain rfl := Option.some.inj h
  obtain ⟨h1, hT, hn47⟩ := c3
  rw [h1]
  clear h
  match l0, hr0, hc0, hT, hn47 with
  | [], _, _, _, _ =>
   go_enter Try.func138, Try.ntmps138
   go_wp2
   go_ret
   refine ⟨_, rfl, ⟨fun k hk => trivial, [], ⟨rfl, .inr ⟨w.heap.size, 0, #[], rfl, zaf _, zgc w _, zaf _, Nat.zero_le _, Nat.zero_le _, rfl⟩⟩, Reps.none _ _⟩, (zbk _ _).alloc (zaf _) _⟩
  | [x], hr0, hc0, hT, _ =>
   obtain ⟨ad, rfl, hcell⟩ := hr0.2.2 (by simp)
   obtain ⟨A, c, hcl, hl, hC⟩ := bytes_Join.part (i := 0) (x := x) rfl hcell
   rw [Addr.add_zero'] at hcl
   have HB := Aside0.mk (zbk w.heap.size w)
   have HR0 := Aside0.mk hC
   have hxl : x.length ≤ 140737488355328 := by simpa using hT
   have LMc3 := Aside0.mk hxl
   clear hcell hC hr0 hc0 hT hxl
   go_enter Try.func138, Try.ntmps138
   go_wp2_with (((with_reducible refine zcc (b := .append) (xs := #[.const (.slice none 0 0), .tmp 21]) rfl ?_); at_builtin; refine zef (Kd.int .u8) (w0 := w) w.heap.size rfl (.const (.slice none 0 0)) (.tmp 21) 29 5 (.int .u8 0) 1 rfl Try.underlying29 info5 rfl (by decide) (by omega) (.slice none 0 0) ([] : List Int) x _ _ _ (fun _ => True) (fun _ => False) rfl rfl ?aO ?aR (fun _ _ h => h) (fun _ h => h.elim) ?aF ?aB ?aS ?aL ?_; (case aR => exact HR0.out); (case aB => exact HB.out); (case aF => exact (fun _ _ => trivial)); (case aO => exact zfz _ _ _ _ _); (case aS => exact zaf _); (case aL => have := LMc3.out; simp; omega); intro v300 w10 ho hb hg hat; have n0_ := Aside0.mk (hb); have n1_ := Aside0.mk (ho); clear HB; have HB := n0_; have HO301 := n1_; clear n0_ n1_; clear ho hb hg hat))
   go_ret
   exact ⟨_, rfl, by simpa using HO301.out, HB.out⟩
  | x :: y :: r, hr0, hc0, hT, hn47 =>
   obtain ⟨ad, rfl, hcell⟩ := hr0.2.2 (by simp)
   exact bytes_Join.many ad c0 (x :: y :: r) A1 c1 w hcell _ rfl (by simp) hc0 hT hn47
 ·rw [if_neg c3] at h
  cases h
def impl_joined.f (l0 : List (List Int)) : Option (List Int) := (bytes_Join.f l0 ([] : List Int)).bind fun t534 => (some t534)
theorem impl_joined.calls (A0 : Option Addr) (c0 : Nat) (l0 : List (List Int)) (r : List Int) (w : World) (hr0 : Kd.C (Kd.slice 5 (Kd.int .u8)) w A0 l0.length l0) (hc0 : l0.length ≤ c0) (h : impl_joined.f l0 = some r) :
  Calls Try.prog 109 #[.slice A0 l0.length c0] w fun e w' => ∃ v0_ : Value, e = .returned (v0_) ∧ Kd.R (Kd.int .u8) 5 w' w.heap.size (fun _ => True) v0_ r ∧ Below w.heap.size w w' := by
 have HR0 := Aside0.mk hr0
 have HC0 := Aside0.mk hc0
 clear hr0 hc0
 have HB := Aside0.mk (zbk w.heap.size w)
 have H : ((bytes_Join.f l0 ([] : List Int)).bind fun t534 => (some t534)) = some r := h
 clear h
 obtain ⟨t534, A2, H⟩ := bnd H
 obtain rfl := Option.some.inj H
 go_enter Try.func109, Try.ntmps109
 go_wp2_with (first | (refine jgc 138 ?_; refine jgs 4 Try.func138 #[.slice A0 l0.length c0, .slice none 0 0] ?_; (refine (bytes_Join.calls _ _ l0 _ _ ([] : List Int) t534 _ ?side1 ?side2 ?side3 ?side4 A2.out).mono ?_); (case side1 => repeat (first | exact HR0.out | (with_reducible first | apply zcv | apply zdi | apply zdu))); (case side2 => exact HC0.out); (case side3 => exact Kd.C_nil _ _); (case side4 => exact zaf _); rintro e w3 ⟨v535, rfl, ho0, hb⟩; refine ⟨_, rfl, ?_⟩; have xb_ := below_ofs bq hb; have n_ := jA2 (zbc ho0 (zak xb_)) (zab xb_ hb); clear HB; obtain ⟨HO536, HB⟩ := n_; clear xb_ hb ho0))
 go_ret
 exact ⟨_, jex, by (with_reducible repeat (first | apply zbo | apply zbp | apply zbs)); exact HO536.out, bq⟩
end Go.Proofs.Ytlalkldjpniakaa.P
