import Derived.Test.Ytienlgcjohpphaas21
import Derived.Test.Ytienlgcjohpphaas20
namespace Go.Proofs.Ytienlgcjohpphaa.P
open Go.RowKit Go.Proofs.YtienlgcjohpphaaW.PrintWords Go.Proofs.YtienlgcjohpphaaW.PrintLast Go.Proofs.YtienlgcjohpphaaW.PrintMore
attribute [local go_sem] zcx zcy zdl zdm zcm zcn zcz zda   -- for this text's walks alone
set_option linter.unusedVariables false
set_option linter.unusedSimpArgs false

def impl_Great.f (k : Nat) (a0 : Int) (a1 : Int) : Option (List Int) := (impl_Little.f k a0 a1).bind fun t431 => ((impl_turned.f k t431).bind fun t434 => (some t434))
theorem impl_Great.mono : ∀ a0 a1 k, LeO (impl_Great.f k a0 a1) (impl_Great.f (k + 1) a0 a1) := by
 intro a0 a1 k
 unfold impl_Great.f
 repeat' first
   | (with_reducible exact impl_Little.mono _ _ _)
   | (with_reducible exact impl_turned.mono _ _)
   | (with_reducible exact zck _)
   | (with_reducible exact zbs _)
   | (with_reducible refine zby ?_ ?_)
   | (with_reducible refine zbq ?_ (fun _ => ?_))
   | exact impl_Little.mono _ _ _
   | exact impl_turned.mono _ _
   | exact zbs _
   | refine zby ?_ ?_
   | refine zbq ?_ (fun _ => ?_)
set_option maxHeartbeats 8000000 in
set_option maxRecDepth 100000 in
theorem impl_Great.calls (k : Nat) (a0 : Int) (a1 : Int) (r : List Int) (w : World) (h : impl_Great.f k a0 a1 = some r) :
  Calls Try.prog 80 #[.int .i64 a0, .int .i64 a1] w fun e w' => ∃ v0_ : Value, e = .returned (v0_) ∧ Kd.R (Kd.int .u8) 5 w' w.heap.size (fun _ => True) v0_ r ∧ Below w.heap.size w w' := by
 have HB := Aside0.mk (zbu w.heap.size w)
 have H : ((impl_Little.f k a0 a1).bind fun t431 => ((impl_turned.f k t431).bind fun t434 => (some t434))) = some r := h
 clear h
 replace H := zal.mp H
 obtain ⟨t431, A30, H⟩ := H
 replace H : ((impl_turned.f k t431).bind fun t434 => (some t434)) = some r := H
 have A3 := Aside0.mk A30
 clear A30
 replace H := zal.mp H
 obtain ⟨t434, A40, H⟩ := H
 replace H : (some t434) = some r := H
 have A4 := Aside0.mk A40
 clear A40
 obtain rfl := Option.some.inj H
 go_enter Try.func80, Try.ntmps80
 go_wp2_with (first | ((with_reducible refine zax (f := 87) rfl ?_); refine goesL_ (some 7) rfl rfl Try.func87 (by kernel_rfl) rfl #[.int .i64 a0, .int .i64 a1] rfl (by (try simp only [zan, zar, zav]); first | done | rfl | (simp only [zah, zag]; rfl) | (simp only [zah, zag]; rw [zat (zay.mpr (zbg (by assumption)))])) ?_; (with_reducible refine (impl_Little.calls k a0 a1 t431 _ A3.out).mono ?_); rintro e w5 ⟨v432, rfl, ho0, hb⟩; refine ⟨_, rfl, ?_⟩; have n0_ := Aside0.mk (zbm ho0 (zba (by repeat (first | (with_reducible first | exact HB.out | apply zaf | apply zab | apply zae) | exact HB.out)))); have n1_ := Aside0.mk (zbb (by repeat (first | (with_reducible first | exact HB.out | apply zaf | apply zab | apply zae) | exact HB.out)) hb); clear HB; have HO433 := n0_; have HB := n1_; clear n0_ n1_; (try clear hb); (try clear hb2); (try clear hk); (try clear hi); (try clear ho0); obtain ⟨Ao6, co6, eo6⟩ := zbr HO433.out; subst eo6) | ((with_reducible refine zax (f := 106) rfl ?_); refine goesL_ (some 8) rfl rfl Try.func106 (by kernel_rfl) rfl #[.slice Ao6 t431.length co6] rfl (by (try simp only [zan, zar, zav]); first | done | rfl | (simp only [zah, zag]; rfl) | (simp only [zah, zag]; rw [zat (zay.mpr (zbg (by assumption)))])) ?_; (with_reducible refine (impl_turned.calls k _ _ t431 t434 _ ?side1 ?side2 A4.out).mono ?_); (case side1 => repeat (first | exact (zas HO433.out).2.2 | (with_reducible refine zbe ?_ _) | (with_reducible refine zbf ?_ _) | (with_reducible refine zbl ?_))); (case side2 => exact (zas HO433.out).2.1); rintro e w7 ⟨v435, rfl, ho0, hb⟩; refine ⟨_, rfl, ?_⟩; have n0_ := Aside0.mk (zbj (by (with_reducible repeat (first | apply zai | apply zaj | apply zak)); exact HO433.out) (zbt ho0) hb); have n1_ := Aside0.mk (zbm (zbv ho0 (zcb (by (with_reducible repeat (first | apply zai | apply zaj | apply zak)); exact HO433.out))) (zba (by repeat (first | (with_reducible first | exact HB.out | apply zaf | apply zab | apply zae) | exact HB.out)))); have n2_ := Aside0.mk (zbb (by repeat (first | (with_reducible first | exact HB.out | apply zaf | apply zab | apply zae) | exact HB.out)) hb); clear HO433; clear HB; have HO433 := n0_; have HO436 := n1_; have HB := n2_; clear n0_ n1_ n2_; (try clear hb); (try clear hb2); (try clear hk); (try clear hi); (try clear ho0)))
 go_ret
 exact ⟨_, by first | rfl | (simp [zbn, zbo] <;> rfl) | (simp [*, zbn, zbo] <;> rfl), by (with_reducible repeat (first | apply zai | apply zaj | apply zak)); exact zbx HO436.out (fun _ hk => zcc), by repeat (first | (with_reducible first | exact HB.out | apply zaf | apply zab | apply zae) | exact HB.out)⟩
def impl_named.f (k : Nat) (a0 : ByteArray) (a1 : Int) : Option (List Int) := if a0.size ≤ 1000 then ((impl_Great.f k a1 2).bind fun t1 => ((impl_joined.f (([bytesOf a0, t1] : List (List Int)))).bind fun t2 => (some t2))) else none
theorem impl_named.mono : ∀ a0 a1 k, LeO (impl_named.f k a0 a1) (impl_named.f (k + 1) a0 a1) := by
 intro a0 a1 k
 unfold impl_named.f
 repeat' first
   | (with_reducible exact impl_Great.mono _ _ _)
   | (with_reducible exact zck _)
   | (with_reducible exact zbs _)
   | (with_reducible refine zby ?_ ?_)
   | (with_reducible refine zbq ?_ (fun _ => ?_))
   | exact impl_Great.mono _ _ _
   | exact zbs _
   | refine zby ?_ ?_
   | refine zbq ?_ (fun _ => ?_)
set_option maxHeartbeats 8000000 in
set_option maxRecDepth 100000 in
theorem impl_named.calls (k : Nat) (a0 : ByteArray) (a1 : Int) (r : List Int) (w : World) (h : impl_named.f k a0 a1 = some r) :
  Calls Try.prog 93 #[.string a0, .int .i64 a1] w fun e w' => ∃ v0_ : Value, e = .returned (v0_) ∧ Kd.R (Kd.int .u8) 5 w' w.heap.size (fun _ => True) v0_ r ∧ Below w.heap.size w w' := by
 unfold impl_named.f at h
 rcases Nat.lt_or_ge 1000 a0.size with hq | hsz
 ·rw [if_neg (by omega)] at h; cases h
 rw [if_pos hsz] at h
 have hlen : (bytesOf a0).length = a0.size := bytesOf_length a0
 have hcap : a0.size ≤ grownCap w a0.size 0 5 := grownCap_ge w a0.size 0 5
 obtain ⟨y1, hy1⟩ : ∃ y_ : List Int, y_ = bytesOf a0 := ⟨_, rfl⟩
 have hC : Kd.C (Kd.int .u8) (Lib.bytesWorld w 5 a0) (some ⟨w.heap.size, 0, none⟩) (bytesOf a0).length (bytesOf a0) := Kd.C_of_reads (readsInt_of.1 (by rw [hlen]; exact bytes_reads w 5 a0 (by omega)))
 have hV : Kd.V (Kd.int .u8) 5 (Lib.bytesWorld w 5 a0) w.heap.size (fun _ => True) (.slice (some ⟨w.heap.size, 0, none⟩) (bytesOf a0).length (grownCap w a0.size 0 5)) (bytesOf a0) := zeo (by rw [hlen]; exact hcap) (zdz (Kd.C_F (Kd.heap_int .u8) hC) (fun _ _ => zcc))
 rw [← hy1] at hV
 have hB0 : Below w.heap.size w (Lib.bytesWorld w 5 a0) := bytes_below (zbu _ _) (zbh _) _ _
 have kb : (convert 9 23 (.string a0)).run Try.prog w = .ok (.slice (some ⟨w.heap.size, 0, none⟩) y1.length (grownCap w a0.size 0 5)) (Lib.bytesWorld w 5 a0) := by
  rw [hy1, hlen]; exact print_bytes (u := .string) 9 23 5 (by kernel_rfl) (by kernel_rfl) (by kernel_rfl) a0 w
 have HO1 := Aside0.mk hV
 have HB := Aside0.mk hB0
 have HY := Aside0.mk hy1
 have H : ((impl_Great.f k a1 2).bind fun t1 => ((impl_joined.f (([y1, t1] : List (List Int)))).bind fun t2 => (some t2))) = some r := by rw [hy1]; exact h
 clear hV hB0 h hC hlen hcap hy1 hsz
 replace H := zal.mp H
 obtain ⟨t1, A30, H⟩ := H
 have A3 := Aside0.mk A30
 clear A30
 obtain ⟨y2, hy2⟩ : ∃ y_ : List (List Int), y_ = (([y1, t1] : List (List Int))) := ⟨_, rfl⟩
 replace H : ((impl_joined.f y2).bind fun t2 => (some t2)) = some r := by rw [hy2]; exact H
 have Ny2 := Aside0.mk hy2
 clear hy2
 replace H := zal.mp H
 obtain ⟨t2, A40, H⟩ := H
 have A4 := Aside0.mk A40
 clear A40
 obtain rfl := Option.some.inj H
 clear H
 go_enter Try.func93, Try.ntmps93
 go_wp2_with (first | ((with_reducible refine zax (f := 80) rfl ?_); refine goesL_ (some 8) rfl rfl Try.func80 (by kernel_rfl) rfl #[.int .i64 a1, .int .i64 2] rfl (by (try simp only [zan, zar, zav]); first | done | rfl) ?_; (with_reducible refine (impl_Great.calls k a1 2 t1 _ A3.out).mono ?_); rintro e w7 ⟨v7, rfl, ho0, hb⟩; refine ⟨_, rfl, ?_⟩; have n0_ := Aside0.mk (Kd.V_mono (ok' := fun _ => True) (Kd.V_elder' (by (with_reducible repeat (first | apply zce | apply zcf | apply zcj)); exact HO1.out) (zbt ho0) hb) (fun _ _ => zcc)); have n2_ := Aside0.mk (zbm (Kd.R_newM (M := fun k_ => (w.heap.size ≤ k_)) ho0 (zba (by repeat (first | (with_reducible first | exact HB.out | apply zaf | apply zab | apply zae) | exact HB.out))) (fun k_ h_ => h_)) (zba (by repeat (first | (with_reducible first | exact HB.out | apply zaf | apply zab | apply zae) | exact HB.out)))); have n3_ := Aside0.mk (zbb (by repeat (first | (with_reducible first | exact HB.out | apply zaf | apply zab | apply zae) | exact HB.out)) hb); clear HO1; clear HB; have HO1 := n0_; have HO2 := n2_; have HB := n3_; clear n0_ n2_ n3_; clear ho0 hb; obtain ⟨Ao9, co9, eo9⟩ := zbr HO2.out; subst eo9) | ((with_reducible refine zdc (N := 9) rfl ?_); refine Kd.N_lit (Kd.slice 5 (Kd.int .u8)) _ 23 ?hg (N' := 9) ?hd (xs := ([y1, t1] : List (List Int))) (inner := [.slice (some ⟨w.heap.size, 0, none⟩) y1.length (grownCap w a0.size 0 5), .slice Ao9 t1.length co9]) (ok := (fun _ => True)) (okp := (fun _ => True)) ?hr ?hp (fun _ hk => hk) zcc (zbu _ _) (zbh _) (by simp) ?_; (case hd => rfl); (case hg => rfl); (case hr => first | (go_simp; done) | (go_simp; rfl)); (case hp => exact (zbi (show Kd.FK (Kd.slice 5 (Kd.int .u8)) _ _ y1 [.slice (some ⟨w.heap.size, 0, none⟩) y1.length (grownCap w a0.size 0 5)] from (zdq (zcl HO1.out).2.1 (Kd.V_F (Kd.V_mono (ok' := (fun _ => True)) (HO1.out) (fun _ _ => zcc))))) (zbi (show Kd.FK (Kd.slice 5 (Kd.int .u8)) _ _ t1 [.slice Ao9 t1.length co9] from (zdq (zas (zbx (ok' := (fun _ => True)) (HO2.out) (fun _ _ => zcc))).2.1 (Kd.R_F (zbx (ok' := (fun _ => True)) (HO2.out) (fun _ _ => zcc))))) (zcv _ _)))); intro v10 w10 ho11 hb hg_ hnew_; clear hg_ hnew_; (first | rw [← Ny2.out] at ho11 | (simp only [Int.reduceToNat] at ho11; rw [← Ny2.out] at ho11)); have n1_ := Aside0.mk (Kd.N_lower ho11 (zba (by repeat (first | (with_reducible first | exact HB.out | apply zaf | apply zab | apply zae) | exact HB.out)))); have n2_ := Aside0.mk (zbb (by repeat (first | (with_reducible first | exact HB.out | apply zaf | apply zab | apply zae) | exact HB.out)) hb); clear HO1; clear HB; clear HO2; have HO3 := n1_; have HB := n2_; clear n1_ n2_; clear hb ho11; obtain ⟨Ao12, co12, eo12⟩ := Kd.N_slice HO3.out; subst eo12) | ((with_reducible refine zax (f := 79) rfl ?_); refine goesL_ (some 10) rfl rfl Try.func79 (by kernel_rfl) rfl #[.slice Ao12 y2.length co12] rfl (by (try simp only [zan, zar, zav]); first | done | rfl) ?_; (with_reducible refine (impl_joined.calls _ _ y2 t2 _ ?side1 ?side2 A4.out).mono ?_); (case side1 => repeat (first | exact (zee HO3.out).2.2 | (with_reducible refine zbe ?_ _) | (with_reducible refine zbf ?_ _) | (with_reducible refine zbl ?_))); (case side2 => exact (zee HO3.out).2.1); rintro e w13 ⟨v13, rfl, ho0, hb⟩; refine ⟨_, rfl, ?_⟩; have n2_ := Aside0.mk (zbm ho0 (zba (by repeat (first | (with_reducible first | exact HB.out | apply zaf | apply zab | apply zae) | exact HB.out)))); have n3_ := Aside0.mk (zbb (by repeat (first | (with_reducible first | exact HB.out | apply zaf | apply zab | apply zae) | exact HB.out)) hb); clear HO3; clear HB; have HO4 := n2_; have HB := n3_; clear n2_ n3_; clear ho0 hb))
 go_ret
 exact ⟨_, rfl, by (with_reducible repeat (first | apply zai | apply zaj | apply zak)); exact zbx HO4.out (fun _ _ => zcc), by repeat (first | (with_reducible first | exact HB.out | apply zaf | apply zab | apply zae) | exact HB.out)⟩
def impl_Word.f (a0 : Int) : Option (Int) := some (Go.bits .and .i64 a0 4294967295)
set_option maxHeartbeats 8000000 in
set_option maxRecDepth 100000 in
theorem impl_Word.calls (a0 : Int) (r : Int) (w : World) (h : impl_Word.f a0 = some r) :
  Calls Try.prog 71 #[.int .i64 a0] w fun e w' => e = .returned (.int .i64 r) ∧ Drawn0 w w' := by
 have H : (some (Go.bits .and .i64 a0 4294967295)) = some r := h
 clear h
 obtain rfl := Option.some.inj H
 go_enter Try.func71, Try.ntmps71
 go_wp2
 go_ret
 exact ⟨by first | rfl | (simp; done) | (simp [*]; done), by repeat (first | exact Drawn0.refl _ | apply Drawn0.step)⟩
end Go.Proofs.Ytienlgcjohpphaa.P
