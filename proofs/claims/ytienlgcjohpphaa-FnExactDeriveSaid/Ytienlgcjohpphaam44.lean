import Derived.Test.Ytienlgcjohpphaam41
import Derived.Test.Ytienlgcjohpphaam42
import Derived.Test.Ytienlgcjohpphaam43
namespace Go.Proofs.Ytienlgcjohpphaa.P
open Go.RowKit Go.Proofs.YtienlgcjohpphaaW.PrintWords Go.Proofs.YtienlgcjohpphaaW.PrintLast Go.Proofs.YtienlgcjohpphaaW.PrintMore
attribute [local go_sem] zcz zda zdp zdq zcs zct zdb zdc   -- for this text's walks alone
set_option linter.unusedVariables false
set_option linter.unusedSimpArgs false

def spec_Derive.f (k : Nat) (l0 : List Int) (l1 : List Int) (l2 : List Int) (a3 : Int) : Option (List Int) := (spec_Extract.f k l0 l1).bind fun t1073 => ((spec_Expand.f k t1073 l2 a3).bind fun t1076 => (some t1076))
theorem spec_Derive.mono : ∀ a0 a1 a2 a3 k, LeO (spec_Derive.f k a0 a1 a2 a3) (spec_Derive.f (k + 1) a0 a1 a2 a3) := by
 intro a0 a1 a2 a3 k
 unfold spec_Derive.f
 repeat' first
   | (with_reducible exact spec_Expand.mono _ _ _ _)
   | (with_reducible exact spec_Extract.mono _ _ _)
   | (with_reducible exact zcj _)
   | (with_reducible exact zby _)
   | (with_reducible refine zcb ?_ ?_)
   | (with_reducible refine zbx ?_ (fun _ => ?_))
   | exact spec_Expand.mono _ _ _ _
   | exact spec_Extract.mono _ _ _
   | exact zby _
   | refine zcb ?_ ?_
   | refine zbx ?_ (fun _ => ?_)
set_option maxHeartbeats 8000000 in
set_option maxRecDepth 100000 in
theorem spec_Derive.calls (k : Nat) (A0 : Option Addr) (c0 : Nat) (l0 : List Int) (A1 : Option Addr) (c1 : Nat) (l1 : List Int) (A2 : Option Addr) (c2 : Nat) (l2 : List Int) (a3 : Int) (r : List Int) (w : World) (hr0 : Kd.C (Kd.int .u8) w A0 l0.length l0) (hc0 : l0.length ≤ c0) (hr1 : Kd.C (Kd.int .u8) w A1 l1.length l1) (hc1 : l1.length ≤ c1) (hr2 : Kd.C (Kd.int .u8) w A2 l2.length l2) (hc2 : l2.length ≤ c2) (h : spec_Derive.f k l0 l1 l2 a3 = some r) :
  Calls Try.prog 45 #[.slice A0 l0.length c0, .slice A1 l1.length c1, .slice A2 l2.length c2, .int .i64 a3] w fun e w' => ∃ v0_ : Value, e = .returned (v0_) ∧ Kd.R (Kd.int .u8) 5 w' w.heap.size (fun _ => True) v0_ r ∧ Below w.heap.size w w' := by
 have HR0 := Aside0.mk hr0
 have HC0 := Aside0.mk hc0
 clear hr0 hc0
 have HR1 := Aside0.mk hr1
 have HC1 := Aside0.mk hc1
 clear hr1 hc1
 have HR2 := Aside0.mk hr2
 have HC2 := Aside0.mk hc2
 clear hr2 hc2
 have HB := Aside0.mk (zca w.heap.size w)
 have H : ((spec_Extract.f k l0 l1).bind fun t1073 => ((spec_Expand.f k t1073 l2 a3).bind fun t1076 => (some t1076))) = some r := h
 clear h
 replace H := zas.mp H
 obtain ⟨t1073, A50, H⟩ := H
 replace H : ((spec_Expand.f k t1073 l2 a3).bind fun t1076 => (some t1076)) = some r := H
 have A5 := Aside0.mk A50
 clear A50
 replace H := zas.mp H
 obtain ⟨t1076, A60, H⟩ := H
 replace H : (some t1076) = some r := H
 have A6 := Aside0.mk A60
 clear A60
 obtain rfl := Option.some.inj H
 go_enter Try.func45, Try.ntmps45
 go_wp2_with (first | ((with_reducible refine zax (f := 39) rfl ?_); refine goesL_ (some 11) rfl rfl Try.func39 (by kernel_rfl) rfl #[.slice A0 l0.length c0, .slice A1 l1.length c1] rfl (by (try simp only [zal, zar, zat]); first | done | rfl | (simp only [zae, zad]; rfl) | (simp only [zae, zad]; rw [zao (zaw.mpr (zba (by assumption)))])) ?_; (with_reducible refine (spec_Extract.calls k _ _ l0 _ _ l1 t1073 _ ?side1 ?side2 ?side3 ?side4 A5.out).mono ?_); (case side1 => repeat (first | exact HR0.out | (with_reducible refine zau ?_ _) | (with_reducible refine zav ?_ _) | (with_reducible refine zaz ?_))); (case side2 => exact HC0.out); (case side3 => repeat (first | exact HR1.out | (with_reducible refine zau ?_ _) | (with_reducible refine zav ?_ _) | (with_reducible refine zaz ?_))); (case side4 => exact HC1.out); rintro e w7 ⟨v1074, rfl, ho0, hb⟩; refine ⟨_, rfl, ?_⟩; have n0_ := Aside0.mk (zbh ho0 (zbd (by repeat (first | (with_reducible first | exact HB.out | apply zah | apply zaf | apply zag) | exact HB.out)))); have n1_ := Aside0.mk (zbf (by repeat (first | (with_reducible first | exact HB.out | apply zah | apply zaf | apply zag) | exact HB.out)) hb); clear HB; have HO1075 := n0_; have HB := n1_; clear n0_ n1_; (try clear hb); (try clear hb2); (try clear hk); (try clear hi); (try clear ho0); obtain ⟨Ao8, co8, eo8⟩ := zbi HO1075.out; subst eo8) | ((with_reducible refine zax (f := 43) rfl ?_); refine goesL_ (some 14) rfl rfl Try.func43 (by kernel_rfl) rfl #[.slice Ao8 t1073.length co8, .slice A2 l2.length c2, .int .i64 a3] rfl (by (try simp only [zal, zar, zat]); first | done | rfl | (simp only [zae, zad]; rfl) | (simp only [zae, zad]; rw [zao (zaw.mpr (zba (by assumption)))])) ?_; (with_reducible refine (spec_Expand.calls k _ _ t1073 _ _ l2 a3 t1076 _ ?side1 ?side2 ?side3 ?side4 A6.out).mono ?_); (case side1 => repeat (first | exact (zak HO1075.out).2.2 | (with_reducible refine zau ?_ _) | (with_reducible refine zav ?_ _) | (with_reducible refine zaz ?_))); (case side2 => exact (zak HO1075.out).2.1); (case side3 => repeat (first | exact (zbr HR2.out HB.out) | (with_reducible refine zau ?_ _) | (with_reducible refine zav ?_ _) | (with_reducible refine zaz ?_))); (case side4 => exact HC2.out); rintro e w9 ⟨v1077, rfl, ho0, hb⟩; refine ⟨_, rfl, ?_⟩; have n0_ := Aside0.mk (zaj (by (with_reducible repeat (first | apply zaa | apply zab | apply zac)); exact HO1075.out) (zap ho0) hb); have n1_ := Aside0.mk (zbh (zaq ho0 (zay (by (with_reducible repeat (first | apply zaa | apply zab | apply zac)); exact HO1075.out))) (zbd (by repeat (first | (with_reducible first | exact HB.out | apply zah | apply zaf | apply zag) | exact HB.out)))); have n2_ := Aside0.mk (zbf (by repeat (first | (with_reducible first | exact HB.out | apply zah | apply zaf | apply zag) | exact HB.out)) hb); clear HO1075; clear HB; have HO1075 := n0_; have HO1078 := n1_; have HB := n2_; clear n0_ n1_ n2_; (try clear hb); (try clear hb2); (try clear hk); (try clear hi); (try clear ho0)))
 go_ret
 exact ⟨_, by first | rfl | (simp [zbn, zbo] <;> rfl) | (simp [*, zbn, zbo] <;> rfl), by (with_reducible repeat (first | apply zaa | apply zab | apply zac)); exact zbm HO1078.out (fun _ hk => zcf), by repeat (first | (with_reducible first | exact HB.out | apply zah | apply zaf | apply zag) | exact HB.out)⟩
def impl_Derive.f (k : Nat) (l0 : List Int) (l1 : List Int) (l2 : List Int) (a3 : Int) : Option (List Int) := (impl_Extract.f k l0 l1).bind fun t1079 => ((impl_Expand.f k t1079 l2 a3).bind fun t1082 => (some t1082))
theorem impl_Derive.mono : ∀ a0 a1 a2 a3 k, LeO (impl_Derive.f k a0 a1 a2 a3) (impl_Derive.f (k + 1) a0 a1 a2 a3) := by
 intro a0 a1 a2 a3 k
 unfold impl_Derive.f
 repeat' first
   | (with_reducible exact impl_Expand.mono _ _ _ _)
   | (with_reducible exact impl_Extract.mono _ _ _)
   | (with_reducible exact zcj _)
   | (with_reducible exact zby _)
   | (with_reducible refine zcb ?_ ?_)
   | (with_reducible refine zbx ?_ (fun _ => ?_))
   | exact impl_Expand.mono _ _ _ _
   | exact impl_Extract.mono _ _ _
   | exact zby _
   | refine zcb ?_ ?_
   | refine zbx ?_ (fun _ => ?_)
set_option maxHeartbeats 8000000 in
set_option maxRecDepth 100000 in
theorem impl_Derive.calls (k : Nat) (A0 : Option Addr) (c0 : Nat) (l0 : List Int) (A1 : Option Addr) (c1 : Nat) (l1 : List Int) (A2 : Option Addr) (c2 : Nat) (l2 : List Int) (a3 : Int) (r : List Int) (w : World) (hr0 : Kd.C (Kd.int .u8) w A0 l0.length l0) (hc0 : l0.length ≤ c0) (hr1 : Kd.C (Kd.int .u8) w A1 l1.length l1) (hc1 : l1.length ≤ c1) (hr2 : Kd.C (Kd.int .u8) w A2 l2.length l2) (hc2 : l2.length ≤ c2) (h : impl_Derive.f k l0 l1 l2 a3 = some r) :
  Calls Try.prog 46 #[.slice A0 l0.length c0, .slice A1 l1.length c1, .slice A2 l2.length c2, .int .i64 a3] w fun e w' => ∃ v0_ : Value, e = .returned (v0_) ∧ Kd.R (Kd.int .u8) 5 w' w.heap.size (fun _ => True) v0_ r ∧ Below w.heap.size w w' := by
 have HR0 := Aside0.mk hr0
 have HC0 := Aside0.mk hc0
 clear hr0 hc0
 have HR1 := Aside0.mk hr1
 have HC1 := Aside0.mk hc1
 clear hr1 hc1
 have HR2 := Aside0.mk hr2
 have HC2 := Aside0.mk hc2
 clear hr2 hc2
 have HB := Aside0.mk (zca w.heap.size w)
 have H : ((impl_Extract.f k l0 l1).bind fun t1079 => ((impl_Expand.f k t1079 l2 a3).bind fun t1082 => (some t1082))) = some r := h
 clear h
 replace H := zas.mp H
 obtain ⟨t1079, A50, H⟩ := H
 replace H : ((impl_Expand.f k t1079 l2 a3).bind fun t1082 => (some t1082)) = some r := H
 have A5 := Aside0.mk A50
 clear A50
 replace H := zas.mp H
 obtain ⟨t1082, A60, H⟩ := H
 replace H : (some t1082) = some r := H
 have A6 := Aside0.mk A60
 clear A60
 obtain rfl := Option.some.inj H
 go_enter Try.func46, Try.ntmps46
 go_wp2_with (first | ((with_reducible refine zax (f := 40) rfl ?_); refine goesL_ (some 11) rfl rfl Try.func40 (by kernel_rfl) rfl #[.slice A0 l0.length c0, .slice A1 l1.length c1] rfl (by (try simp only [zal, zar, zat]); first | done | rfl | (simp only [zae, zad]; rfl) | (simp only [zae, zad]; rw [zao (zaw.mpr (zba (by assumption)))])) ?_; (with_reducible refine (impl_Extract.calls k _ _ l0 _ _ l1 t1079 _ ?side1 ?side2 ?side3 ?side4 A5.out).mono ?_); (case side1 => repeat (first | exact HR0.out | (with_reducible refine zau ?_ _) | (with_reducible refine zav ?_ _) | (with_reducible refine zaz ?_))); (case side2 => exact HC0.out); (case side3 => repeat (first | exact HR1.out | (with_reducible refine zau ?_ _) | (with_reducible refine zav ?_ _) | (with_reducible refine zaz ?_))); (case side4 => exact HC1.out); rintro e w7 ⟨v1080, rfl, ho0, hb⟩; refine ⟨_, rfl, ?_⟩; have n0_ := Aside0.mk (zbh ho0 (zbd (by repeat (first | (with_reducible first | exact HB.out | apply zah | apply zaf | apply zag) | exact HB.out)))); have n1_ := Aside0.mk (zbf (by repeat (first | (with_reducible first | exact HB.out | apply zah | apply zaf | apply zag) | exact HB.out)) hb); clear HB; have HO1081 := n0_; have HB := n1_; clear n0_ n1_; (try clear hb); (try clear hb2); (try clear hk); (try clear hi); (try clear ho0); obtain ⟨Ao8, co8, eo8⟩ := zbi HO1081.out; subst eo8) | ((with_reducible refine zax (f := 44) rfl ?_); refine goesL_ (some 14) rfl rfl Try.func44 (by kernel_rfl) rfl #[.slice Ao8 t1079.length co8, .slice A2 l2.length c2, .int .i64 a3] rfl (by (try simp only [zal, zar, zat]); first | done | rfl | (simp only [zae, zad]; rfl) | (simp only [zae, zad]; rw [zao (zaw.mpr (zba (by assumption)))])) ?_; (with_reducible refine (impl_Expand.calls k _ _ t1079 (fun k_ => k_ < w.heap.size) _ _ l2 a3 t1082 _ ?side1 ?side2 ?side3 A6.out).mono ?_); (case side1 => repeat (first | exact (zak HO1081.out).2.2 | (with_reducible refine zau ?_ _) | (with_reducible refine zav ?_ _) | (with_reducible refine zaz ?_))); (case side2 => exact (zak HO1081.out).2.1); (case side3 => exact Kd.V_mk HC2.out (Kd.F_below (Kd.C_F (Kd.heap_int .u8) HR2.out) (by repeat (first | (with_reducible first | exact HB.out | apply zah | apply zaf | apply zag) | exact HB.out)))); rintro e w9 ⟨v1083, rfl, ho0, hb⟩; refine ⟨_, rfl, ?_⟩; have n0_ := Aside0.mk (zaj (by (with_reducible repeat (first | apply zaa | apply zab | apply zac)); exact HO1081.out) (zap ho0) hb); have n1_ := Aside0.mk (zbh (zaq (zbm (ok' := fun k_ => True) ho0 (fun _ hk_ => zcf)) (zay (by (with_reducible repeat (first | apply zaa | apply zab | apply zac)); exact HO1081.out))) (zbd (by repeat (first | (with_reducible first | exact HB.out | apply zah | apply zaf | apply zag) | exact HB.out)))); have n2_ := Aside0.mk (zbf (by repeat (first | (with_reducible first | exact HB.out | apply zah | apply zaf | apply zag) | exact HB.out)) hb); clear HO1081; clear HB; have HO1081 := n0_; have HO1084 := n1_; have HB := n2_; clear n0_ n1_ n2_; (try clear hb); (try clear hb2); (try clear hk); (try clear hi); (try clear ho0)))
 go_ret
 exact ⟨_, by first | rfl | (simp [zbn, zbo] <;> rfl) | (simp [*, zbn, zbo] <;> rfl), by (with_reducible repeat (first | apply zaa | apply zab | apply zac)); exact zbm HO1084.out (fun _ hk => zcf), by repeat (first | (with_reducible first | exact HB.out | apply zah | apply zaf | apply zag) | exact HB.out)⟩
end Go.Proofs.Ytienlgcjohpphaa.P
