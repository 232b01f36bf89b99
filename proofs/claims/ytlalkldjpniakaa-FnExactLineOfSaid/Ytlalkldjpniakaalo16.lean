import Derived.Test.Ytlalkldjpniakaalo15
namespace Go.Proofs.Ytlalkldjpniakaa.P
open Go.RowKit Go.Proofs.YtlalkldjpniakaaW.PrintWords Go.Proofs.YtlalkldjpniakaaW.PrintLast Go.Proofs.YtlalkldjpniakaaW.PrintMore
attribute [local go_sem] zdk zdl zeh zei zcz zda zdm zdn   -- for this text's walks alone
set_option linter.unusedVariables false
set_option linter.unusedSimpArgs false

def spec_ItemOk.f (k : Nat) (a0_0 : ByteArray) (a0_1 : Int) (a0_2 : Int) (l0_3 : List Int) : Option (Bool) := (spec_l13Route.f k a0_0).bind fun t174 => (if t174 = true then ((spec_l1In.f a0_1 0 9).bind fun t175 => (if t175 = true then ((spec_l1In.f a0_2 0 100000).bind fun t176 => (if t176 = true then (some (decide ((l0_3.length : Int) ≤ 1560))) else (some false))) else (some false))) else (some false))
theorem spec_ItemOk.mono : ∀ a0 a1 a2 a3 k, LeO (spec_ItemOk.f k a0 a1 a2 a3) (spec_ItemOk.f (k + 1) a0 a1 a2 a3) := by
 intro a0 a1 a2 a3 k
 unfold spec_ItemOk.f
 repeat' first
   | (with_reducible exact spec_l13Route.mono _ _)
   | (with_reducible exact zdd _)
   | (with_reducible exact zde _)
   | (with_reducible refine zdx ?_ ?_)
   | (with_reducible refine zdf ?_ (fun _ => ?_))
set_option maxHeartbeats 8000000 in
set_option maxRecDepth 100000 in
theorem spec_ItemOk.calls (k : Nat) (a0_0 : ByteArray) (a0_1 : Int) (a0_2 : Int) (A0_3 : Option Addr) (c0_3 : Nat) (l0_3 : List Int) (r : Bool) (w : World) (hr0_3 : Kd.C (Kd.int .u8) w A0_3 l0_3.length l0_3) (hc0_3 : l0_3.length ≤ c0_3) (h : spec_ItemOk.f k a0_0 a0_1 a0_2 l0_3 = some r) :
  Calls Try.prog 24 #[.agg #[.string a0_0, .int .i64 a0_1, .int .i64 a0_2, .slice A0_3 l0_3.length c0_3]] w fun e w' => e = .returned (.bool r) ∧ Below w.heap.size w w' := by
 have hu34 := Try.underlying34
 have HR0_3 := Aside0.mk hr0_3
 have HC0_3 := Aside0.mk hc0_3
 clear hr0_3 hc0_3
 have HB := Aside0.mk (zbz w.heap.size w)
 have H : ((spec_l13Route.f k a0_0).bind fun t174 => (if t174 = true then ((spec_l1In.f a0_1 0 9).bind fun t175 => (if t175 = true then ((spec_l1In.f a0_2 0 100000).bind fun t176 => (if t176 = true then (some (decide ((l0_3.length : Int) ≤ 1560))) else (some false))) else (some false))) else (some false))) = some r := h
 clear h
 replace H := zaq.mp H
 obtain ⟨t174, A20, H⟩ := H
 try dsimp only at H
 have A2 := Aside0.mk A20
 clear A20
 by_cases c3 : t174 = true
 ·subst c3
  have H1 : ((spec_l1In.f a0_1 0 9).bind fun t175 => (if t175 = true then ((spec_l1In.f a0_2 0 100000).bind fun t176 => (if t176 = true then (some (decide ((l0_3.length : Int) ≤ 1560))) else (some false))) else (some false))) = some r := by rw [if_pos rfl] at H; exact H
  clear H
  have H := H1
  clear H1
  replace H := zaq.mp H
  obtain ⟨t175, A40, H⟩ := H
  try dsimp only at H
  have A4 := Aside0.mk A40
  clear A40
  by_cases c5 : t175 = true
  ·subst c5
   have H1 : ((spec_l1In.f a0_2 0 100000).bind fun t176 => (if t176 = true then (some (decide ((l0_3.length : Int) ≤ 1560))) else (some false))) = some r := by rw [if_pos rfl] at H; exact H
   clear H
   have H := H1
   clear H1
   replace H := zaq.mp H
   obtain ⟨t176, A60, H⟩ := H
   try dsimp only at H
   have A6 := Aside0.mk A60
   clear A60
   by_cases c7 : t176 = true
   ·subst c7
    have H1 : (some (decide ((l0_3.length : Int) ≤ 1560))) = some r := by rw [if_pos rfl] at H; exact H
    clear H
    have H := H1
    clear H1
    obtain rfl := Option.some.inj H
    go_enter Try.func24, Try.ntmps24
    go_wp2_with (first | ((with_reducible refine zbu (N := 1) rfl ?_); (try (refine zec (by rfl) ?_; dsimp only)); refine zcb ?hg (N := 1) ?hd (cs := #[.string a0_0, .int .i64 a0_1, .int .i64 a0_2, .slice A0_3 l0_3.length c0_3]) (t := 34) ?hr ?_; (case hd => rfl); (case hg => rfl); (case hr => first | (go_simp; done) | (go_simp; rfl)); intro gb173 hg w8 hbox hb; have xb_ := below_ofs (by repeat (first | (with_reducible first | exact HB.out | apply zad | apply zaa | apply zac) | exact HB.out)) hb; have n0_ := Aside0.mk (zat xb_ hb); have n1_ := Aside0.mk (hbox); have n2_ := Aside0.mk ((by rw [hg]; exact (zan xb_) : w.heap.size ≤ gb173)); have n3_ := Aside0.mk ((by rw [hg]; exact (zan xb_) : w.heap.size ≤ gb173)); clear HB; have HB := n0_; have BK173 := n1_; have GW173 := n2_; have GE173 := n3_; clear n0_ n1_ n2_ n3_; clear xb_ hb hbox hg; have hcz9_0 : w8.cell? ⟨gb173, 0, none⟩ = some (.string a0_0) := (zaf BK173.out 0).trans rfl; have hcz9_1 : w8.cell? ⟨gb173, 1, none⟩ = some (.int .i64 a0_1) := (zaf BK173.out 1).trans rfl; have hcz9_2 : w8.cell? ⟨gb173, 2, none⟩ = some (.int .i64 a0_2) := (zaf BK173.out 2).trans rfl; have hcz9_3 : w8.cell? ⟨gb173, 3, none⟩ = some (.slice A0_3 l0_3.length c0_3) := (zaf BK173.out 3).trans rfl; have hfz9_0 := zab BK173.out 0; have hfz9_1 := zab BK173.out 1; have hfz9_2 := zab BK173.out 2; have hfz9_3 := zab BK173.out 3) | ((with_reducible refine zbl (f := 88) rfl ?_); refine goesL_ (some 5) rfl rfl Try.func88 (by kernel_rfl) rfl #[.string a0_0] rfl (by (try simp only [zav, zbd, zbh]); first | done | rfl) ?_; (with_reducible refine (spec_l13Route.calls k a0_0 true _ A2.out).mono ?_); rintro e w10 ⟨rfl, hb⟩; refine ⟨_, rfl, ?_⟩; have n0_ := Aside0.mk (zbq (g := gb173) (o := .cells #[.string a0_0, .int .i64 a0_1, .int .i64 a0_2, .slice A0_3 l0_3.length c0_3] 34 (0, 0)) (by (with_reducible repeat (first | refine zar ?_ _ | refine zaw ?_ | refine zas ?_ _)); exact BK173.out) hb); have n1_ := Aside0.mk (zat (by repeat (first | (with_reducible first | exact HB.out | apply zad | apply zaa | apply zac | refine zal ?_ GE173.out) | exact HB.out)) hb); clear BK173 HB; have BK173 := n0_; have HB := n1_; clear n0_ n1_; (try clear hb); (try clear hb2); (try clear hk); (try clear hi); have hcz11_0 : w10.cell? ⟨gb173, 0, none⟩ = some (.string a0_0) := (zaf BK173.out 0).trans rfl; have hcz11_1 : w10.cell? ⟨gb173, 1, none⟩ = some (.int .i64 a0_1) := (zaf BK173.out 1).trans rfl; have hcz11_2 : w10.cell? ⟨gb173, 2, none⟩ = some (.int .i64 a0_2) := (zaf BK173.out 2).trans rfl; have hcz11_3 : w10.cell? ⟨gb173, 3, none⟩ = some (.slice A0_3 l0_3.length c0_3) := (zaf BK173.out 3).trans rfl; have hfz11_0 := zab BK173.out 0; have hfz11_1 := zab BK173.out 1; have hfz11_2 := zab BK173.out 2; have hfz11_3 := zab BK173.out 3) | (go_at_call 89; (with_reducible refine (spec_l1In.calls a0_1 0 9 true _ A4.out).mono ?_); rintro e w' ⟨rfl, ⟨nd, rfl⟩⟩) | (go_at_call 89; (with_reducible refine (spec_l1In.calls a0_2 0 100000 true _ A6.out).mono ?_); rintro e w' ⟨rfl, ⟨nd, rfl⟩⟩))
    go_ret
    exact ⟨by first | rfl | (simp [zaz, zba] <;> rfl) | (simp [*, zaz, zba] <;> rfl), by repeat (first | (with_reducible first | exact HB.out | apply zad | apply zaa | apply zac | refine zal ?_ GE173.out) | exact HB.out)⟩
   ·replace c7 := zcn.mpr c7
    subst c7
    have H1 : (some false) = some r := by rw [if_neg (show ¬ (false = true) by decide)] at H; exact H
    clear H
    have H := H1
    clear H1
    obtain rfl := Option.some.inj H
    go_enter Try.func24, Try.ntmps24
    go_wp2_with (first | ((with_reducible refine zbu (N := 1) rfl ?_); (try (refine zec (by rfl) ?_; dsimp only)); refine zcb ?hg (N := 1) ?hd (cs := #[.string a0_0, .int .i64 a0_1, .int .i64 a0_2, .slice A0_3 l0_3.length c0_3]) (t := 34) ?hr ?_; (case hd => rfl); (case hg => rfl); (case hr => first | (go_simp; done) | (go_simp; rfl)); intro gb173 hg w12 hbox hb; have xb_ := below_ofs (by repeat (first | (with_reducible first | exact HB.out | apply zad | apply zaa | apply zac) | exact HB.out)) hb; have n0_ := Aside0.mk (zat xb_ hb); have n1_ := Aside0.mk (hbox); have n2_ := Aside0.mk ((by rw [hg]; exact (zan xb_) : w.heap.size ≤ gb173)); have n3_ := Aside0.mk ((by rw [hg]; exact (zan xb_) : w.heap.size ≤ gb173)); clear HB; have HB := n0_; have BK173 := n1_; have GW173 := n2_; have GE173 := n3_; clear n0_ n1_ n2_ n3_; clear xb_ hb hbox hg; have hcz13_0 : w12.cell? ⟨gb173, 0, none⟩ = some (.string a0_0) := (zaf BK173.out 0).trans rfl; have hcz13_1 : w12.cell? ⟨gb173, 1, none⟩ = some (.int .i64 a0_1) := (zaf BK173.out 1).trans rfl; have hcz13_2 : w12.cell? ⟨gb173, 2, none⟩ = some (.int .i64 a0_2) := (zaf BK173.out 2).trans rfl; have hcz13_3 : w12.cell? ⟨gb173, 3, none⟩ = some (.slice A0_3 l0_3.length c0_3) := (zaf BK173.out 3).trans rfl; have hfz13_0 := zab BK173.out 0; have hfz13_1 := zab BK173.out 1; have hfz13_2 := zab BK173.out 2; have hfz13_3 := zab BK173.out 3) | ((with_reducible refine zbl (f := 88) rfl ?_); refine goesL_ (some 5) rfl rfl Try.func88 (by kernel_rfl) rfl #[.string a0_0] rfl (by (try simp only [zav, zbd, zbh]); first | done | rfl) ?_; (with_reducible refine (spec_l13Route.calls k a0_0 true _ A2.out).mono ?_); rintro e w14 ⟨rfl, hb⟩; refine ⟨_, rfl, ?_⟩; have n0_ := Aside0.mk (zbq (g := gb173) (o := .cells #[.string a0_0, .int .i64 a0_1, .int .i64 a0_2, .slice A0_3 l0_3.length c0_3] 34 (0, 0)) (by (with_reducible repeat (first | refine zar ?_ _ | refine zaw ?_ | refine zas ?_ _)); exact BK173.out) hb); have n1_ := Aside0.mk (zat (by repeat (first | (with_reducible first | exact HB.out | apply zad | apply zaa | apply zac | refine zal ?_ GE173.out) | exact HB.out)) hb); clear BK173 HB; have BK173 := n0_; have HB := n1_; clear n0_ n1_; (try clear hb); (try clear hb2); (try clear hk); (try clear hi); have hcz15_0 : w14.cell? ⟨gb173, 0, none⟩ = some (.string a0_0) := (zaf BK173.out 0).trans rfl; have hcz15_1 : w14.cell? ⟨gb173, 1, none⟩ = some (.int .i64 a0_1) := (zaf BK173.out 1).trans rfl; have hcz15_2 : w14.cell? ⟨gb173, 2, none⟩ = some (.int .i64 a0_2) := (zaf BK173.out 2).trans rfl; have hcz15_3 : w14.cell? ⟨gb173, 3, none⟩ = some (.slice A0_3 l0_3.length c0_3) := (zaf BK173.out 3).trans rfl; have hfz15_0 := zab BK173.out 0; have hfz15_1 := zab BK173.out 1; have hfz15_2 := zab BK173.out 2; have hfz15_3 := zab BK173.out 3) | (go_at_call 89; (with_reducible refine (spec_l1In.calls a0_1 0 9 true _ A4.out).mono ?_); rintro e w' ⟨rfl, ⟨nd, rfl⟩⟩) | (go_at_call 89; (with_reducible refine (spec_l1In.calls a0_2 0 100000 false _ A6.out).mono ?_); rintro e w' ⟨rfl, ⟨nd, rfl⟩⟩))
    go_ret
    exact ⟨by first | rfl | (simp [zaz, zba] <;> rfl) | (simp [*, zaz, zba] <;> rfl), by repeat (first | (with_reducible first | exact HB.out | apply zad | apply zaa | apply zac | refine zal ?_ GE173.out) | exact HB.out)⟩
  ·replace c5 := zcn.mpr c5
   subst c5
   have H1 : (some false) = some r := by rw [if_neg (show ¬ (false = true) by decide)] at H; exact H
   clear H
   have H := H1
   clear H1
   obtain rfl := Option.some.inj H
   go_enter Try.func24, Try.ntmps24
   go_wp2_with (first | ((with_reducible refine zbu (N := 1) rfl ?_); (try (refine zec (by rfl) ?_; dsimp only)); refine zcb ?hg (N := 1) ?hd (cs := #[.string a0_0, .int .i64 a0_1, .int .i64 a0_2, .slice A0_3 l0_3.length c0_3]) (t := 34) ?hr ?_; (case hd => rfl); (case hg => rfl); (case hr => first | (go_simp; done) | (go_simp; rfl)); intro gb173 hg w16 hbox hb; have xb_ := below_ofs (by repeat (first | (with_reducible first | exact HB.out | apply zad | apply zaa | apply zac) | exact HB.out)) hb; have n0_ := Aside0.mk (zat xb_ hb); have n1_ := Aside0.mk (hbox); have n2_ := Aside0.mk ((by rw [hg]; exact (zan xb_) : w.heap.size ≤ gb173)); have n3_ := Aside0.mk ((by rw [hg]; exact (zan xb_) : w.heap.size ≤ gb173)); clear HB; have HB := n0_; have BK173 := n1_; have GW173 := n2_; have GE173 := n3_; clear n0_ n1_ n2_ n3_; clear xb_ hb hbox hg; have hcz17_0 : w16.cell? ⟨gb173, 0, none⟩ = some (.string a0_0) := (zaf BK173.out 0).trans rfl; have hcz17_1 : w16.cell? ⟨gb173, 1, none⟩ = some (.int .i64 a0_1) := (zaf BK173.out 1).trans rfl; have hcz17_2 : w16.cell? ⟨gb173, 2, none⟩ = some (.int .i64 a0_2) := (zaf BK173.out 2).trans rfl; have hcz17_3 : w16.cell? ⟨gb173, 3, none⟩ = some (.slice A0_3 l0_3.length c0_3) := (zaf BK173.out 3).trans rfl; have hfz17_0 := zab BK173.out 0; have hfz17_1 := zab BK173.out 1; have hfz17_2 := zab BK173.out 2; have hfz17_3 := zab BK173.out 3) | ((with_reducible refine zbl (f := 88) rfl ?_); refine goesL_ (some 5) rfl rfl Try.func88 (by kernel_rfl) rfl #[.string a0_0] rfl (by (try simp only [zav, zbd, zbh]); first | done | rfl) ?_; (with_reducible refine (spec_l13Route.calls k a0_0 true _ A2.out).mono ?_); rintro e w18 ⟨rfl, hb⟩; refine ⟨_, rfl, ?_⟩; have n0_ := Aside0.mk (zbq (g := gb173) (o := .cells #[.string a0_0, .int .i64 a0_1, .int .i64 a0_2, .slice A0_3 l0_3.length c0_3] 34 (0, 0)) (by (with_reducible repeat (first | refine zar ?_ _ | refine zaw ?_ | refine zas ?_ _)); exact BK173.out) hb); have n1_ := Aside0.mk (zat (by repeat (first | (with_reducible first | exact HB.out | apply zad | apply zaa | apply zac | refine zal ?_ GE173.out) | exact HB.out)) hb); clear BK173 HB; have BK173 := n0_; have HB := n1_; clear n0_ n1_; (try clear hb); (try clear hb2); (try clear hk); (try clear hi); have hcz19_0 : w18.cell? ⟨gb173, 0, none⟩ = some (.string a0_0) := (zaf BK173.out 0).trans rfl; have hcz19_1 : w18.cell? ⟨gb173, 1, none⟩ = some (.int .i64 a0_1) := (zaf BK173.out 1).trans rfl; have hcz19_2 : w18.cell? ⟨gb173, 2, none⟩ = some (.int .i64 a0_2) := (zaf BK173.out 2).trans rfl; have hcz19_3 : w18.cell? ⟨gb173, 3, none⟩ = some (.slice A0_3 l0_3.length c0_3) := (zaf BK173.out 3).trans rfl; have hfz19_0 := zab BK173.out 0; have hfz19_1 := zab BK173.out 1; have hfz19_2 := zab BK173.out 2; have hfz19_3 := zab BK173.out 3) | (go_at_call 89; (with_reducible refine (spec_l1In.calls a0_1 0 9 false _ A4.out).mono ?_); rintro e w' ⟨rfl, ⟨nd, rfl⟩⟩))
   go_ret
   exact ⟨by first | rfl | (simp [zaz, zba] <;> rfl) | (simp [*, zaz, zba] <;> rfl), by repeat (first | (with_reducible first | exact HB.out | apply zad | apply zaa | apply zac | refine zal ?_ GE173.out) | exact HB.out)⟩
 ·replace c3 := zcn.mpr c3
  subst c3
  have H1 : (some false) = some r := by rw [if_neg (show ¬ (false = true) by decide)] at H; exact H
  clear H
  have H := H1
  clear H1
  obtain rfl := Option.some.inj H
  go_enter Try.func24, Try.ntmps24
  go_wp2_with (first | ((with_reducible refine zbu (N := 1) rfl ?_); (try (refine zec (by rfl) ?_; dsimp only)); refine zcb ?hg (N := 1) ?hd (cs := #[.string a0_0, .int .i64 a0_1, .int .i64 a0_2, .slice A0_3 l0_3.length c0_3]) (t := 34) ?hr ?_; (case hd => rfl); (case hg => rfl); (case hr => first | (go_simp; done) | (go_simp; rfl)); intro gb173 hg w20 hbox hb; have xb_ := below_ofs (by repeat (first | (with_reducible first | exact HB.out | apply zad | apply zaa | apply zac) | exact HB.out)) hb; have n0_ := Aside0.mk (zat xb_ hb); have n1_ := Aside0.mk (hbox); have n2_ := Aside0.mk ((by rw [hg]; exact (zan xb_) : w.heap.size ≤ gb173)); have n3_ := Aside0.mk ((by rw [hg]; exact (zan xb_) : w.heap.size ≤ gb173)); clear HB; have HB := n0_; have BK173 := n1_; have GW173 := n2_; have GE173 := n3_; clear n0_ n1_ n2_ n3_; clear xb_ hb hbox hg; have hcz21_0 : w20.cell? ⟨gb173, 0, none⟩ = some (.string a0_0) := (zaf BK173.out 0).trans rfl; have hcz21_1 : w20.cell? ⟨gb173, 1, none⟩ = some (.int .i64 a0_1) := (zaf BK173.out 1).trans rfl; have hcz21_2 : w20.cell? ⟨gb173, 2, none⟩ = some (.int .i64 a0_2) := (zaf BK173.out 2).trans rfl; have hcz21_3 : w20.cell? ⟨gb173, 3, none⟩ = some (.slice A0_3 l0_3.length c0_3) := (zaf BK173.out 3).trans rfl; have hfz21_0 := zab BK173.out 0; have hfz21_1 := zab BK173.out 1; have hfz21_2 := zab BK173.out 2; have hfz21_3 := zab BK173.out 3) | ((with_reducible refine zbl (f := 88) rfl ?_); refine goesL_ (some 5) rfl rfl Try.func88 (by kernel_rfl) rfl #[.string a0_0] rfl (by (try simp only [zav, zbd, zbh]); first | done | rfl) ?_; (with_reducible refine (spec_l13Route.calls k a0_0 false _ A2.out).mono ?_); rintro e w22 ⟨rfl, hb⟩; refine ⟨_, rfl, ?_⟩; have n0_ := Aside0.mk (zbq (g := gb173) (o := .cells #[.string a0_0, .int .i64 a0_1, .int .i64 a0_2, .slice A0_3 l0_3.length c0_3] 34 (0, 0)) (by (with_reducible repeat (first | refine zar ?_ _ | refine zaw ?_ | refine zas ?_ _)); exact BK173.out) hb); have n1_ := Aside0.mk (zat (by repeat (first | (with_reducible first | exact HB.out | apply zad | apply zaa | apply zac | refine zal ?_ GE173.out) | exact HB.out)) hb); clear BK173 HB; have BK173 := n0_; have HB := n1_; clear n0_ n1_; (try clear hb); (try clear hb2); (try clear hk); (try clear hi)))
  go_ret
  exact ⟨by first | rfl | (simp [zaz, zba] <;> rfl) | (simp [*, zaz, zba] <;> rfl), by repeat (first | (with_reducible first | exact HB.out | apply zad | apply zaa | apply zac | refine zal ?_ GE173.out) | exact HB.out)⟩
end Go.Proofs.Ytlalkldjpniakaa.P
