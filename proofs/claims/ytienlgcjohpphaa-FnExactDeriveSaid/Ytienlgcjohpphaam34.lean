import Derived.Test.Ytienlgcjohpphaam32
import Derived.Test.Ytienlgcjohpphaam33
namespace Go.Proofs.Ytienlgcjohpphaa.P
open Go.RowKit Go.Proofs.YtienlgcjohpphaaW.PrintWords Go.Proofs.YtienlgcjohpphaaW.PrintLast Go.Proofs.YtienlgcjohpphaaW.PrintMore
attribute [local go_sem] zcz zda zdp zdq zcs zct zdb zdc   -- for this text's walks alone
set_option linter.unusedVariables false
set_option linter.unusedSimpArgs false

def impl_xorAll.f (k : Nat) (l0 : List Int) (a1 : Int) : Option (List Int) := (bytes_Repeat.f (([a1] : List Int)) (l0.length : Int)).bind fun t787 => ((impl_Xor.f k l0 t787).bind fun t790 => (some t790))
theorem impl_xorAll.mono : ∀ a0 a1 k, LeO (impl_xorAll.f k a0 a1) (impl_xorAll.f (k + 1) a0 a1) := by
 intro a0 a1 k
 unfold impl_xorAll.f
 repeat' first
   | (with_reducible exact impl_Xor.mono _ _ _)
   | (with_reducible exact zcj _)
   | (with_reducible exact zby _)
   | (with_reducible refine zcb ?_ ?_)
   | (with_reducible refine zbx ?_ (fun _ => ?_))
   | exact impl_Xor.mono _ _ _
   | exact zby _
   | refine zcb ?_ ?_
   | refine zbx ?_ (fun _ => ?_)
set_option maxHeartbeats 8000000 in
set_option maxRecDepth 100000 in
theorem impl_xorAll.calls (k : Nat) (A0 : Option Addr) (c0 : Nat) (l0 : List Int) (a1 : Int) (r : List Int) (w : World) (hr0 : Kd.C (Kd.int .u8) w A0 l0.length l0) (hc0 : l0.length ≤ c0) (h : impl_xorAll.f k l0 a1 = some r) :
  Calls Try.prog 88 #[.slice A0 l0.length c0, .int .u8 a1] w fun e w' => ∃ v0_ : Value, e = .returned (v0_) ∧ Kd.R (Kd.int .u8) 5 w' w.heap.size (fun _ => True) v0_ r ∧ Below w.heap.size w w' := by
 have HR0 := Aside0.mk hr0
 have HC0 := Aside0.mk hc0
 clear hr0 hc0
 have HB := Aside0.mk (zca w.heap.size w)
 have H : ((bytes_Repeat.f (([a1] : List Int)) (l0.length : Int)).bind fun t787 => ((impl_Xor.f k l0 t787).bind fun t790 => (some t790))) = some r := h
 clear h
 obtain ⟨y784, hy784⟩ : ∃ y_ : List Int, y_ = (([a1] : List Int)) := ⟨_, rfl⟩
 replace H : ((bytes_Repeat.f y784 (l0.length : Int)).bind fun t787 => ((impl_Xor.f k l0 t787).bind fun t790 => (some t790))) = some r := by first | (rw [hy784]; with_reducible exact H) | (have H2_ := (zbe _ _).symm.trans H; rw [hy784]; with_reducible exact H2_) | (have H2_ := (zbe _ _).symm.trans H; with_reducible exact H2_) | with_reducible exact H | (rw [hy784]; exact H) | exact H
 have Ny784 := Aside0.mk hy784
 clear hy784
 replace H := zas.mp H
 obtain ⟨t787, A30, H⟩ := H
 replace H : ((impl_Xor.f k l0 t787).bind fun t790 => (some t790)) = some r := H
 have A3 := Aside0.mk A30
 clear A30
 replace H := zas.mp H
 obtain ⟨t790, A40, H⟩ := H
 replace H : (some t790) = some r := H
 have A4 := Aside0.mk A40
 clear A40
 obtain rfl := Option.some.inj H
 go_enter Try.func88, Try.ntmps88
 go_wp2_with (first | ((with_reducible refine zdh (N := 7) rfl ?_); refine zdy (Kd.int .u8) _ 5 ?hg (N := 7) ?hd (xs := ([a1] : List Int)) (inner := [.int .u8 a1]) (ok := fun _ => True) (okp := fun _ => True) ?hr ?hp (fun _ hk => hk) zcf (zca _ _) (zbu _) (by simp) ?_; (case hd => rfl); (case hg => rfl); (case hr => first | (go_simp; done) | (go_simp; rfl)); (case hp => exact (zbv (show Kd.M (Kd.int .u8) _ _ _ a1 [.int .u8 a1] from rfl) (zdf _ _))); intro v785 w5 ho6 hb hg_ hnew_; clear hg_ hnew_; (first | rw [← Ny784.out] at ho6 | (simp only [Int.reduceToNat] at ho6; rw [← Ny784.out] at ho6)); have n0_ := Aside0.mk (zbh ho6 (zbd (by repeat (first | (with_reducible first | exact HB.out | apply zah | apply zaf | apply zag) | exact HB.out)))); have n1_ := Aside0.mk (zbf (by repeat (first | (with_reducible first | exact HB.out | apply zah | apply zaf | apply zag) | exact HB.out)) hb); clear HB; have HO786 := n0_; have HB := n1_; clear n0_ n1_; clear hb ho6; obtain ⟨Ao7, co7, eo7⟩ := zbi HO786.out; subst eo7) | ((with_reducible refine zax (f := 112) rfl ?_); refine goesL_ (some 10) rfl rfl Try.func112 (by kernel_rfl) rfl #[.slice Ao7 y784.length co7, .int .i64 (l0.length : Int)] rfl (by (try simp only [zal, zar, zat]); first | done | rfl | (simp only [zae, zad]; rfl) | (simp only [zae, zad]; rw [zao (zaw.mpr (zba (by assumption)))])) ?_; (with_reducible refine (bytes_Repeat.calls _ _ y784 (l0.length : Int) t787 _ ?side1 ?side2 A3.out).mono ?_); (case side1 => repeat (first | exact (zak HO786.out).2.2 | (with_reducible refine zau ?_ _) | (with_reducible refine zav ?_ _) | (with_reducible refine zaz ?_))); (case side2 => exact (zak HO786.out).2.1); rintro e w8 ⟨v788, rfl, ho0, hb⟩; refine ⟨_, rfl, ?_⟩; have n0_ := Aside0.mk (zaj (by (with_reducible repeat (first | apply zaa | apply zab | apply zac)); exact HO786.out) (zap ho0) hb); have n1_ := Aside0.mk (zbh (zaq ho0 (zay (by (with_reducible repeat (first | apply zaa | apply zab | apply zac)); exact HO786.out))) (zbd (by repeat (first | (with_reducible first | exact HB.out | apply zah | apply zaf | apply zag) | exact HB.out)))); have n2_ := Aside0.mk (zbf (by repeat (first | (with_reducible first | exact HB.out | apply zah | apply zaf | apply zag) | exact HB.out)) hb); clear HO786; clear HB; have HO786 := n0_; have HO789 := n1_; have HB := n2_; clear n0_ n1_ n2_; (try clear hb); (try clear hb2); (try clear hk); (try clear hi); (try clear ho0); obtain ⟨Ao9, co9, eo9⟩ := zbi HO789.out; subst eo9) | ((with_reducible refine zax (f := 111) rfl ?_); refine goesL_ (some 11) rfl rfl Try.func111 (by kernel_rfl) rfl #[.slice A0 l0.length c0, .slice Ao9 t787.length co9] rfl (by (try simp only [zal, zar, zat]); first | done | rfl | (simp only [zae, zad]; rfl) | (simp only [zae, zad]; rw [zao (zaw.mpr (zba (by assumption)))])) ?_; (with_reducible refine (impl_Xor.calls k _ _ l0 _ _ t787 t790 _ ?side1 ?side2 ?side3 ?side4 A4.out).mono ?_); (case side1 => repeat (first | exact (zbr HR0.out HB.out) | (with_reducible refine zau ?_ _) | (with_reducible refine zav ?_ _) | (with_reducible refine zaz ?_))); (case side2 => exact HC0.out); (case side3 => repeat (first | exact (zak HO789.out).2.2 | (with_reducible refine zau ?_ _) | (with_reducible refine zav ?_ _) | (with_reducible refine zaz ?_))); (case side4 => exact (zak HO789.out).2.1); rintro e w10 ⟨v791, rfl, ho0, hb⟩; refine ⟨_, rfl, ?_⟩; have n0_ := Aside0.mk (zaj (by (with_reducible repeat (first | apply zaa | apply zab | apply zac)); exact HO786.out) (zap ho0) hb); have n1_ := Aside0.mk (zaj (by (with_reducible repeat (first | apply zaa | apply zab | apply zac)); exact HO789.out) (zap ho0) hb); have n2_ := Aside0.mk (zbh (zaq (zaq ho0 (zay (by (with_reducible repeat (first | apply zaa | apply zab | apply zac)); exact HO786.out))) (zay (by (with_reducible repeat (first | apply zaa | apply zab | apply zac)); exact HO789.out))) (zbd (by repeat (first | (with_reducible first | exact HB.out | apply zah | apply zaf | apply zag) | exact HB.out)))); have n3_ := Aside0.mk (zbf (by repeat (first | (with_reducible first | exact HB.out | apply zah | apply zaf | apply zag) | exact HB.out)) hb); clear HO786; clear HO789; clear HB; have HO786 := n0_; have HO789 := n1_; have HO792 := n2_; have HB := n3_; clear n0_ n1_ n2_ n3_; (try clear hb); (try clear hb2); (try clear hk); (try clear hi); (try clear ho0)))
 go_ret
 exact ⟨_, by first | rfl | (simp [zbn, zbo] <;> rfl) | (simp [*, zbn, zbo] <;> rfl), by (with_reducible repeat (first | apply zaa | apply zab | apply zac)); exact zbm HO792.out (fun _ hk => zcf), by repeat (first | (with_reducible first | exact HB.out | apply zah | apply zaf | apply zag) | exact HB.out)⟩
end Go.Proofs.Ytienlgcjohpphaa.P
