import Derived.Test.Ytdineaebljpfaaan36
namespace Go.Proofs.Ytdineaebljpfaaa.P
open Go.RowKit Go.Proofs.YtdineaebljpfaaaW.PrintWords Go.Proofs.YtdineaebljpfaaaW.PrintLast Go.Proofs.YtdineaebljpfaaaW.PrintMore
attribute [local go_sem] zcu zcv zdf zdg zci zcj zcw zcx   -- for this text's walks alone
set_option linter.unusedVariables false
set_option linter.unusedSimpArgs false

def spec_l2DrawNum.f (s0_0 : List Int) (s0_1 : Int) (s0_2 : Int) : Option (Int × Int × Int) := (spec_l1PickInt.f s0_0 s0_1 s0_2 (([0, 1, 305419896, 4294967295, 4294967296, (-1), 9223372036854775807] : List Int))).bind fun bt697 => (some (bt697.1, bt697.2.1, bt697.2.2))
set_option maxHeartbeats 8000000 in
set_option maxRecDepth 100000 in
theorem spec_l2DrawNum.calls (g : Nat) (s0_0 : List Int) (s0_1 : Int) (s0_2 : Int) (r1 : Int) (r2 : Int) (r3 : Int) (w0 w : World) (hI : IsS74 w0 w g s0_0 s0_1 s0_2) (hB : Below w0.heap.size w0 w) (h : spec_l2DrawNum.f s0_0 s0_1 s0_2 = some (r1, r2, r3)) :
  Calls Try.prog 57 #[.pointer (some ⟨g, 0, none⟩)] w fun e w' => e = .returned (.int .i64 r1) ∧ IsS74 w0 w' g s0_0 r2 r3 ∧ Below w0.heap.size w0 w' ∧ KeepBut w w' g none := by
 have HI0 := Aside0.mk hI
 have HK := Aside0.mk (KeepBut.refl w g none)
 have HL := Aside0.mk hB.size
 clear hI
 have HW0 := Aside0.mk hB.size
 have HB := Aside0.mk hB
 clear hB
 have H : ((spec_l1PickInt.f s0_0 s0_1 s0_2 (([0, 1, 305419896, 4294967295, 4294967296, (-1), 9223372036854775807] : List Int))).bind fun bt697 => (some (bt697.1, bt697.2.1, bt697.2.2))) = some (r1, r2, r3) := h
 clear h
 obtain ⟨y694, hy694⟩ : ∃ y_ : List Int, y_ = (([0, 1, 305419896, 4294967295, 4294967296, (-1), 9223372036854775807] : List Int)) := ⟨_, rfl⟩
 replace H : ((spec_l1PickInt.f s0_0 s0_1 s0_2 y694).bind fun bt697 => (some (bt697.1, bt697.2.1, bt697.2.2))) = some (r1, r2, r3) := by first | (rw [hy694]; with_reducible first | exact H | exact bind_ofs H) | (with_reducible first | exact H | exact bind_ofs H) | (rw [hy694]; exact H) | exact H
 have Ny694 := Aside0.mk hy694
 clear hy694
 replace H := zam.mp H
 obtain ⟨⟨t697, t698, t699⟩, A20, H⟩ := H
 try dsimp only at H
 have A2 := Aside0.mk A20
 clear A20
 simp only [zcp, zdb] at H
 obtain ⟨rfl, rfl, rfl⟩ := H
 go_enter Try.func57, Try.ntmps57
 go_wp2_with (first | ((with_reducible refine zds (N := 4) rfl ?_); refine zec (Kd.int .i64) _ 3 ?hg (N := 4) ?hd (xs := ([0, 1, 305419896, 4294967295, 4294967296, (-1), 9223372036854775807] : List Int)) (inner := [.int .i64 0, .int .i64 1, .int .i64 305419896, .int .i64 4294967295, .int .i64 4294967296, .int .i64 (-1), .int .i64 9223372036854775807]) (ok := fun _ => True) (okp := fun _ => True) ?hr ?hp (fun _ hk => hk) trivial (zbx _ _) (zbp _) (by simp) ?_; (case hd => rfl); (case hg => rfl); (case hr => first | (go_simp; done) | (go_simp; rfl)); (case hp => exact (zdy (show Kd.M (Kd.int .i64) _ _ _ 0 [.int .i64 0] from rfl) (zdy (show Kd.M (Kd.int .i64) _ _ _ 1 [.int .i64 1] from rfl) (zdy (show Kd.M (Kd.int .i64) _ _ _ 305419896 [.int .i64 305419896] from rfl) (zdy (show Kd.M (Kd.int .i64) _ _ _ 4294967295 [.int .i64 4294967295] from rfl) (zdy (show Kd.M (Kd.int .i64) _ _ _ 4294967296 [.int .i64 4294967296] from rfl) (zdy (show Kd.M (Kd.int .i64) _ _ _ (-1) [.int .i64 (-1)] from rfl) (zdy (show Kd.M (Kd.int .i64) _ _ _ 9223372036854775807 [.int .i64 9223372036854775807] from rfl) (zdp _ _))))))))); intro v695 w3 ho4 hb hg_ hnew_; clear hg_ hnew_; (first | rw [← Ny694.out] at ho4 | (simp only [Int.reduceToNat] at ho4; rw [← Ny694.out] at ho4)); have n0_ := Aside0.mk (zbc ho4 (keep_size (w := w) (g := g) (row := none) (by repeat (first | (with_reducible first | exact HK.out | apply zbw | apply zce | apply zcn | apply zcf) | exact HK.out)))); have n1_ := Aside0.mk (IsS74.below (by repeat (first | (with_reducible first | exact HI0.out | apply IsS74.alloc | apply IsS74.drewN | apply IsS74.drew | apply IsS74.set_1 | apply IsS74.set_2) | exact HI0.out)) hb); have n2_ := Aside0.mk (zcy (by repeat (first | (with_reducible first | exact HK.out | apply zbw | apply zce | apply zcn | apply zcf) | exact HK.out)) (KeepBut.of_below hb g none) (.inl rfl)); have n3_ := Aside0.mk (zbb (by repeat (first | (with_reducible first | exact HB.out | apply zaj | apply zad | apply zai | refine zbs ?_ (IsS74.ge HI0.out)) | exact HB.out)) hb); clear HI0 HK HB; have HO696 := n0_; have HI0 := n1_; have HK := n2_; have HB := n3_; clear n0_ n1_ n2_ n3_; clear hb ho4; obtain ⟨Ao5, co5, eo5⟩ := zbe HO696.out; subst eo5) | ((with_reducible refine zau (f := 72) rfl ?_); refine goesL_ (some 5) rfl rfl Try.func72 (by kernel_rfl) rfl #[.pointer (some ⟨g, 0, none⟩), .slice Ao5 y694.length co5] rfl (by (try simp only [zal, zaq, zar]); first | done | rfl) ?_; (with_reducible refine (spec_l1PickInt.calls g s0_0 s0_1 s0_2 _ _ y694 t697 t698 t699 w0 _ ?side1 ?side2 ?side3 ?side4 ?side5 A2.out).mono ?_); (case side1 => repeat (first | (with_reducible first | exact HI0.out | apply IsS74.alloc | apply IsS74.drewN | apply IsS74.drew | apply IsS74.set_1 | apply IsS74.set_2) | exact HI0.out)); (case side2 => repeat (first | (with_reducible first | exact HB.out | apply zaj | apply zad | apply zai | refine zbs ?_ (IsS74.ge HI0.out)) | exact HB.out)); (case side3 => repeat (first | exact (zaf HO696.out).2.2 | (with_reducible first | apply zas | apply zat | apply zaw))); (case side4 => exact (zaf HO696.out).2.1); (case side5 => exact far_slice (IsS74.own_ne HI0.out HO696.out (by decide))); rintro e w6 ⟨rfl, hi, hb, hk⟩; refine ⟨_, rfl, ?_⟩; have n0_ := Aside0.mk (zbm (zei (IsS74.apart (show IsS74 w0 _ g s0_0 s0_1 s0_2 from by repeat (first | (with_reducible first | exact HI0.out | apply IsS74.alloc | apply IsS74.drewN | apply IsS74.drew | apply IsS74.set_1 | apply IsS74.set_2) | exact HI0.out)) (by (with_reducible repeat (first | apply zab | apply zac | apply zae)); exact HO696.out) (by decide)) hk (fun _ h => h.2)) (fun _ h => h.1)); have n1_ := Aside0.mk (zcy (by repeat (first | (with_reducible first | exact HK.out | apply zbw | apply zce | apply zcn | apply zcf) | exact HK.out)) hk (.inl rfl)); have n2_ := Aside0.mk (hb); have n3_ := Aside0.mk (hi); clear HO696 HK HB HI0; have HO696 := n0_; have HK := n1_; have HB := n2_; have HI0 := n3_; clear n0_ n1_ n2_ n3_; (try clear hb); (try clear hb2); (try clear hk); (try clear hi)))
 go_ret
 exact ⟨by first | rfl | (simp [zbj, zbk] <;> rfl) | (simp [*, zbj, zbk] <;> rfl), by repeat (first | (with_reducible first | exact HI0.out | apply IsS74.alloc | apply IsS74.drewN | apply IsS74.drew | apply IsS74.set_1 | apply IsS74.set_2) | exact HI0.out), by repeat (first | (with_reducible first | exact HB.out | apply zaj | apply zad | apply zai | refine zbs ?_ (IsS74.ge HI0.out)) | exact HB.out), by repeat (first | (with_reducible first | exact HK.out | apply zbw | apply zce | apply zcn | apply zcf) | exact HK.out)⟩
end Go.Proofs.Ytdineaebljpfaaa.P
