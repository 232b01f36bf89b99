import Derived.Test.YtienlgcjohpphaaM28
import Derived.Test.YtienlgcjohpphaaM29
import Derived.Test.YtienlgcjohpphaaM30
namespace Go.Proofs.Ytienlgcjohpphaa.P
open Go.RowKit Go.Proofs.YtienlgcjohpphaaW.PrintWords Go.Proofs.YtienlgcjohpphaaW.PrintLast Go.Proofs.YtienlgcjohpphaaW.PrintMore
attribute [local go_sem] zdd zde zdy zdz zcb zcc zdf zdg   -- for this text's walks alone
set_option linter.unusedVariables false
set_option linter.unusedSimpArgs false

def spec_Derive.f (k : Nat) (l0 : List Int) (l1 : List Int) (l2 : List Int) (a3 : Int) : Option (List Int) := (spec_Extract.f k l0 l1).bind fun t1055 => ((spec_Expand.f k t1055 l2 a3).bind fun t1058 => (some t1058))
theorem spec_Derive.mono : ∀ a0 a1 a2 a3 k, LeO (spec_Derive.f k a0 a1 a2 a3) (spec_Derive.f (k + 1) a0 a1 a2 a3) := by
 intro a0 a1 a2 a3 k
 unfold spec_Derive.f
 repeat' first
   | (with_reducible exact spec_Expand.mono _ _ _ _)
   | (with_reducible exact spec_Extract.mono _ _ _)
   | (with_reducible exact zcf _)
   | (with_reducible exact zcj _)
   | (with_reducible refine zdp ?_ ?_)
   | (with_reducible refine zcg ?_ (fun _ => ?_))
set_option maxHeartbeats 8000000 in
set_option maxRecDepth 100000 in
theorem spec_Derive.calls (k : Nat) (A0 : Option Addr) (c0 : Nat) (l0 : List Int) (A1 : Option Addr) (c1 : Nat) (l1 : List Int) (A2 : Option Addr) (c2 : Nat) (l2 : List Int) (a3 : Int) (r : List Int) (w : World) (hr0 : Kd.C (Kd.int .u8) w A0 l0.length l0) (hc0 : l0.length ≤ c0) (hr1 : Kd.C (Kd.int .u8) w A1 l1.length l1) (hc1 : l1.length ≤ c1) (hr2 : Kd.C (Kd.int .u8) w A2 l2.length l2) (hc2 : l2.length ≤ c2) (h : spec_Derive.f k l0 l1 l2 a3 = some r) :
  Calls Try.prog 45 #[.slice A0 l0.length c0, .slice A1 l1.length c1, .slice A2 l2.length c2, .int .i64 a3] w fun e w' => ∃ v0_ : Value, e = .returned (v0_) ∧ Kd.R (Kd.int .u8) 5 w' w.heap.size (fun _ => True) v0_ r ∧ Below w.heap.size w w' := by
 have HR0 := Aside0.mk hr0
 have HC0 := Aside0.mk hc0
 clear hr0 hc0
 have HR1 := Aside0.mk hr1
 have HC1 := Aside0.mk hc1
 clear hr1 hc1
 have HR2 := Aside0.mk hr2
 have HC2 := Aside0.mk hc2
 clear hr2 hc2
 have HB := Aside0.mk (zbq w.heap.size w)
 have H : ((spec_Extract.f k l0 l1).bind fun t1055 => ((spec_Expand.f k t1055 l2 a3).bind fun t1058 => (some t1058))) = some r := h
 clear h
 replace H := zaj.mp H
 obtain ⟨t1055, A50, H⟩ := H
 try dsimp only at H
 have A5 := Aside0.mk A50
 clear A50
 replace H := zaj.mp H
 obtain ⟨t1058, A60, H⟩ := H
 try dsimp only at H
 have A6 := Aside0.mk A60
 clear A60
 obtain rfl := Option.some.inj H
 go_enter Try.func45, Try.ntmps45
 go_wp2_with (first | ((with_reducible refine zbc (f := 39) rfl ?_); refine goesL_ (some 11) rfl rfl Try.func39 (by kernel_rfl) rfl #[.slice A0 l0.length c0, .slice A1 l1.length c1] rfl (by (try simp only [zap, zau, zav]); first | done | rfl) ?_; (with_reducible refine (spec_Extract.calls k _ _ l0 _ _ l1 t1055 _ ?side1 ?side2 ?side3 ?side4 A5.out).mono ?_); (case side1 => repeat (first | exact HR0.out | (with_reducible first | apply zba | apply zbb | apply zbg))); (case side2 => exact HC0.out); (case side3 => repeat (first | exact HR1.out | (with_reducible first | apply zba | apply zbb | apply zbg))); (case side4 => exact HC1.out); rintro e w7 ⟨v1056, rfl, ho0, hb⟩; refine ⟨_, rfl, ?_⟩; have xb_ := below_ofs (by repeat (first | (with_reducible first | exact HB.out | apply zai | apply zad | apply zah) | exact HB.out)) hb; have n0_ := Aside0.mk (zbj ho0 (zax xb_)); have n1_ := Aside0.mk (zbf xb_ hb); clear HB; have HO1057 := n0_; have HB := n1_; clear n0_ n1_; clear xb_ hb ho0; obtain ⟨Ao8, co8, eo8⟩ := zbm HO1057.out; subst eo8) | ((with_reducible refine zbc (f := 43) rfl ?_); refine goesL_ (some 14) rfl rfl Try.func43 (by kernel_rfl) rfl #[.slice Ao8 t1055.length co8, .slice A2 l2.length c2, .int .i64 a3] rfl (by (try simp only [zap, zau, zav]); first | done | rfl) ?_; (with_reducible refine (spec_Expand.calls k _ _ t1055 _ _ l2 a3 t1058 _ ?side1 ?side2 ?side3 ?side4 A6.out).mono ?_); (case side1 => repeat (first | exact (zao HO1057.out).2.2 | (with_reducible first | apply zba | apply zbb | apply zbg))); (case side2 => exact (zao HO1057.out).2.1); (case side3 => repeat (first | exact (zey HR2.out HB.out) | (with_reducible first | apply zba | apply zbb | apply zbg))); (case side4 => exact HC2.out); rintro e w9 ⟨v1059, rfl, ho0, hb⟩; refine ⟨_, rfl, ?_⟩; have xb_ := below_ofs (by repeat (first | (with_reducible first | exact HB.out | apply zai | apply zad | apply zah) | exact HB.out)) hb; have qHO1057 := Kd.R_ofs (by (with_reducible repeat (first | apply zab | apply zac | apply zae)); exact HO1057.out) hb; have n0_ := Aside0.mk (zak qHO1057 (zal ho0) hb); have n1_ := Aside0.mk (zbj (zam ho0 (zat qHO1057)) (zax xb_)); have n2_ := Aside0.mk (zbf xb_ hb); clear qHO1057 HO1057; clear HB; have HO1057 := n0_; have HO1060 := n1_; have HB := n2_; clear n0_ n1_ n2_; clear xb_ hb ho0))
 go_ret
 exact ⟨_, by first | rfl | (simp [zbk, zbl] <;> rfl) | (simp [*, zbk, zbl] <;> rfl), by (with_reducible repeat (first | apply zab | apply zac | apply zae)); exact zbe HO1060.out (fun _ hk => zbw), by repeat (first | (with_reducible first | exact HB.out | apply zai | apply zad | apply zah) | exact HB.out)⟩
def impl_Derive.f (k : Nat) (l0 : List Int) (l1 : List Int) (l2 : List Int) (a3 : Int) : Option (List Int) := (impl_Extract.f k l0 l1).bind fun t1061 => ((impl_Expand.f k t1061 l2 a3).bind fun t1064 => (some t1064))
theorem impl_Derive.mono : ∀ a0 a1 a2 a3 k, LeO (impl_Derive.f k a0 a1 a2 a3) (impl_Derive.f (k + 1) a0 a1 a2 a3) := by
 intro a0 a1 a2 a3 k
 unfold impl_Derive.f
 repeat' first
   | (with_reducible exact impl_Expand.mono _ _ _ _)
   | (with_reducible exact impl_Extract.mono _ _ _)
   | (with_reducible exact zcf _)
   | (with_reducible exact zcj _)
   | (with_reducible refine zdp ?_ ?_)
   | (with_reducible refine zcg ?_ (fun _ => ?_))
set_option maxHeartbeats 8000000 in
set_option maxRecDepth 100000 in
theorem impl_Derive.calls (k : Nat) (A0 : Option Addr) (c0 : Nat) (l0 : List Int) (A1 : Option Addr) (c1 : Nat) (l1 : List Int) (A2 : Option Addr) (c2 : Nat) (l2 : List Int) (a3 : Int) (r : List Int) (w : World) (hr0 : Kd.C (Kd.int .u8) w A0 l0.length l0) (hc0 : l0.length ≤ c0) (hr1 : Kd.C (Kd.int .u8) w A1 l1.length l1) (hc1 : l1.length ≤ c1) (hr2 : Kd.C (Kd.int .u8) w A2 l2.length l2) (hc2 : l2.length ≤ c2) (h : impl_Derive.f k l0 l1 l2 a3 = some r) :
  Calls Try.prog 46 #[.slice A0 l0.length c0, .slice A1 l1.length c1, .slice A2 l2.length c2, .int .i64 a3] w fun e w' => ∃ v0_ : Value, e = .returned (v0_) ∧ Kd.R (Kd.int .u8) 5 w' w.heap.size (fun _ => True) v0_ r ∧ Below w.heap.size w w' := by
 have HR0 := Aside0.mk hr0
 have HC0 := Aside0.mk hc0
 clear hr0 hc0
 have HR1 := Aside0.mk hr1
 have HC1 := Aside0.mk hc1
 clear hr1 hc1
 have HR2 := Aside0.mk hr2
 have HC2 := Aside0.mk hc2
 clear hr2 hc2
 have HB := Aside0.mk (zbq w.heap.size w)
 have H : ((impl_Extract.f k l0 l1).bind fun t1061 => ((impl_Expand.f k t1061 l2 a3).bind fun t1064 => (some t1064))) = some r := h
 clear h
 replace H := zaj.mp H
 obtain ⟨t1061, A50, H⟩ := H
 try dsimp only at H
 have A5 := Aside0.mk A50
 clear A50
 replace H := zaj.mp H
 obtain ⟨t1064, A60, H⟩ := H
 try dsimp only at H
 have A6 := Aside0.mk A60
 clear A60
 obtain rfl := Option.some.inj H
 go_enter Try.func46, Try.ntmps46
 go_wp2_with (first | ((with_reducible refine zbc (f := 40) rfl ?_); refine goesL_ (some 11) rfl rfl Try.func40 (by kernel_rfl) rfl #[.slice A0 l0.length c0, .slice A1 l1.length c1] rfl (by (try simp only [zap, zau, zav]); first | done | rfl) ?_; (with_reducible refine (impl_Extract.calls k _ _ l0 _ _ l1 t1061 _ ?side1 ?side2 ?side3 ?side4 A5.out).mono ?_); (case side1 => repeat (first | exact HR0.out | (with_reducible first | apply zba | apply zbb | apply zbg))); (case side2 => exact HC0.out); (case side3 => repeat (first | exact HR1.out | (with_reducible first | apply zba | apply zbb | apply zbg))); (case side4 => exact HC1.out); rintro e w7 ⟨v1062, rfl, ho0, hb⟩; refine ⟨_, rfl, ?_⟩; have xb_ := below_ofs (by repeat (first | (with_reducible first | exact HB.out | apply zai | apply zad | apply zah) | exact HB.out)) hb; have n0_ := Aside0.mk (zbj ho0 (zax xb_)); have n1_ := Aside0.mk (zbf xb_ hb); clear HB; have HO1063 := n0_; have HB := n1_; clear n0_ n1_; clear xb_ hb ho0; obtain ⟨Ao8, co8, eo8⟩ := zbm HO1063.out; subst eo8) | ((with_reducible refine zbc (f := 44) rfl ?_); refine goesL_ (some 14) rfl rfl Try.func44 (by kernel_rfl) rfl #[.slice Ao8 t1061.length co8, .slice A2 l2.length c2, .int .i64 a3] rfl (by (try simp only [zap, zau, zav]); first | done | rfl) ?_; (with_reducible refine (impl_Expand.calls k _ _ t1061 (fun k_ => k_ < w.heap.size) _ _ l2 a3 t1064 _ ?side1 ?side2 ?side3 A6.out).mono ?_); (case side1 => repeat (first | exact (zao HO1063.out).2.2 | (with_reducible first | apply zba | apply zbb | apply zbg))); (case side2 => exact (zao HO1063.out).2.1); (case side3 => exact Kd.V_mk HC2.out (Kd.F_below (Kd.C_F (Kd.heap_int .u8) HR2.out) (by repeat (first | (with_reducible first | exact HB.out | apply zai | apply zad | apply zah) | exact HB.out)))); rintro e w9 ⟨v1065, rfl, ho0, hb⟩; refine ⟨_, rfl, ?_⟩; have xb_ := below_ofs (by repeat (first | (with_reducible first | exact HB.out | apply zai | apply zad | apply zah) | exact HB.out)) hb; have qHO1063 := Kd.R_ofs (by (with_reducible repeat (first | apply zab | apply zac | apply zae)); exact HO1063.out) hb; have n0_ := Aside0.mk (zak qHO1063 (zal ho0) hb); have n1_ := Aside0.mk (zbj (zam (zbe (ok' := fun k_ => True) ho0 (fun _ hk_ => zbw)) (zat qHO1063)) (zax xb_)); have n2_ := Aside0.mk (zbf xb_ hb); clear qHO1063 HO1063; clear HB; have HO1063 := n0_; have HO1066 := n1_; have HB := n2_; clear n0_ n1_ n2_; clear xb_ hb ho0))
 go_ret
 exact ⟨_, by first | rfl | (simp [zbk, zbl] <;> rfl) | (simp [*, zbk, zbl] <;> rfl), by (with_reducible repeat (first | apply zab | apply zac | apply zae)); exact zbe HO1066.out (fun _ hk => zbw), by repeat (first | (with_reducible first | exact HB.out | apply zai | apply zad | apply zah) | exact HB.out)⟩
end Go.Proofs.Ytienlgcjohpphaa.P
