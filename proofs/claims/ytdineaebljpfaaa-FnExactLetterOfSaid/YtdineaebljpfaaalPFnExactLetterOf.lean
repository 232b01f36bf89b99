import Derived.Test.Ytdineaebljpfaaal11
import Derived.Test.Ytdineaebljpfaaal13
import Derived.Test.Ytdineaebljpfaaal16
namespace Go.Proofs.Ytdineaebljpfaaa.P
open Go.RowKit Go.Proofs.YtdineaebljpfaaaW.PrintWords Go.Proofs.YtdineaebljpfaaaW.PrintLast Go.Proofs.YtdineaebljpfaaaW.PrintMore
attribute [local go_sem] max2_int min2_int max_two min_two zeq zer max_four min_four   -- for this text's walks alone
set_option linter.unusedVariables false
set_option linter.unusedSimpArgs false

mutual
def laws_FnExactLetterOf.j0 : Nat → List Int → Bool → List Int → Bool → Bool → Int → List Int → List Int → Int → List Int → List Int → Option (Bool)
 | 0, _, _, _, _, _, _, _, _, _, _, _ => none
 | k + 1, x0, x4, x5, x7, x37, x186000, x186001, x186002, x198000, x198001, x198002 => if x37 = true then (some false) else ((laws_toByteS.f k x0).bind fun t199 => ((laws_eqByteS.f k x5 t199).bind fun t202 => (if t202 = true then ((laws_markByteS.f k x5 1).bind fun bt203 => (if bt203.1 < 0 then (laws_FnExactLetterOf.j1 k x0 x4 true x186000 x186001 x186002 x198000 x198001 x198002) else ((laws_eqLetter.f k x198000 x198001 x198002 x186000 x186001 x186002).bind fun t205 => (if t205 = true then (laws_FnExactLetterOf.j1 k x0 x4 (x7 != x4) x186000 x186001 x186002 x198000 x198001 x198002) else (laws_FnExactLetterOf.j1 k x0 x4 true x186000 x186001 x186002 x198000 x198001 x198002))))) else (some false))))
def laws_FnExactLetterOf.j1 : Nat → List Int → Bool → Bool → Int → List Int → List Int → Int → List Int → List Int → Option (Bool)
 | 0, _, _, _, _, _, _, _, _, _ => none
 | k + 1, x0, x4, x58, x186000, x186001, x186002, x198000, x198001, x198002 => if x58 = true then (some false) else ((laws_markLetter.f k x198000 x198001 x198002 1).bind fun bt206 => ((laws_heldLetter.f k x198000 bt206.2.1 bt206.2.2 1).bind fun t209 => (if t209 < 0 then (some false) else (if t209 = bt206.1 then ((laws_toByteS.f k x0).bind fun t210 => ((impl_LetterOf.f k t210).bind fun bt213 => ((laws_eqLetter.f k bt213.1 bt213.2.1 bt213.2.2.1 x186000 x186001 x186002).bind fun t222 => (if t222 = true then (laws_FnExactLetterOf.j2 k bt206.1 (bt213.2.2.2 != x4) x198000 bt206.2.1 bt206.2.2) else (laws_FnExactLetterOf.j2 k bt206.1 true x198000 bt206.2.1 bt206.2.2))))) else (some false)))))
def laws_FnExactLetterOf.j2 : Nat → Int → Bool → Int → List Int → List Int → Option (Bool)
 | 0, _, _, _, _, _ => none
 | k + 1, x9, x84, x198000, x198001, x198002 => if x84 = true then (some false) else ((laws_heldLetter.f k x198000 x198001 x198002 1).bind fun t223 => (if t223 < 0 then (some false) else (if t223 = x9 then (some true) else (some false))))
end
def laws_FnExactLetterOf.f (k : Nat) (l0 : List Int) : Option (Bool) := if (l0.length : Int) > 1048576 then (some true) else ((laws_toByteS.f k l0).bind fun t174 => ((spec_LetterOf.f t174).bind fun bt177 => ((laws_toByteS.f k l0).bind fun t186 => ((impl_LetterOf.f k t186).bind fun bt189 => ((laws_eqLetter.f k bt189.1 bt189.2.1 bt189.2.2.1 bt177.1 bt177.2.1 bt177.2.2.1).bind fun t198 => (if t198 = true then (laws_FnExactLetterOf.j0 k l0 bt177.2.2.2 t186 bt189.2.2.2 (bt189.2.2.2 != bt177.2.2.2) bt177.1 bt177.2.1 bt177.2.2.1 bt189.1 bt189.2.1 bt189.2.2.1) else (laws_FnExactLetterOf.j0 k l0 bt177.2.2.2 t186 bt189.2.2.2 true bt177.1 bt177.2.1 bt177.2.2.1 bt189.1 bt189.2.1 bt189.2.2.1)))))))
theorem laws_FnExactLetterOf.mono_l : ∀ k, (∀ y0 y1 y2 y3 y4 y5 y6 y7 y8 y9 y10, LeO (laws_FnExactLetterOf.j0 k y0 y1 y2 y3 y4 y5 y6 y7 y8 y9 y10) (laws_FnExactLetterOf.j0 (k + 1) y0 y1 y2 y3 y4 y5 y6 y7 y8 y9 y10)) ∧ (∀ y0 y1 y2 y3 y4 y5 y6 y7 y8, LeO (laws_FnExactLetterOf.j1 k y0 y1 y2 y3 y4 y5 y6 y7 y8) (laws_FnExactLetterOf.j1 (k + 1) y0 y1 y2 y3 y4 y5 y6 y7 y8)) ∧ (∀ y0 y1 y2 y3 y4, LeO (laws_FnExactLetterOf.j2 k y0 y1 y2 y3 y4) (laws_FnExactLetterOf.j2 (k + 1) y0 y1 y2 y3 y4))
 | 0 => ⟨fun _ _ _ _ _ _ _ _ _ _ _ r h => by simp [laws_FnExactLetterOf.j0] at h, fun _ _ _ _ _ _ _ _ _ r h => by simp [laws_FnExactLetterOf.j1] at h, fun _ _ _ _ _ r h => by simp [laws_FnExactLetterOf.j2] at h⟩
 | k + 1 => by
  obtain ⟨ih0, ih1, ih2⟩ := laws_FnExactLetterOf.mono_l k
  refine ⟨?_, ?_, ?_⟩
  ·intro y0 y1 y2 y3 y4 y5 y6 y7 y8 y9 y10
   unfold laws_FnExactLetterOf.j0
   repeat' first
   | (with_reducible exact ih0 _ _ _ _ _ _ _ _ _ _ _)
   | (with_reducible exact ih1 _ _ _ _ _ _ _ _ _)
   | (with_reducible exact ih2 _ _ _ _ _)
   | (with_reducible exact impl_LetterOf.mono _ _)
   | (with_reducible exact laws_eqByteS.mono _ _ _)
   | (with_reducible exact laws_eqLetter.mono _ _ _ _ _ _ _)
   | (with_reducible exact laws_heldLetter.mono _ _ _ _ _)
   | (with_reducible exact laws_markByteS.mono _ _ _)
   | (with_reducible exact laws_markLetter.mono _ _ _ _ _)
   | (with_reducible exact laws_toByteS.mono _ _)
   | (with_reducible exact LeO.refl _)
   | (with_reducible exact LeO.none _)
   | (with_reducible refine LeO.ite ?_ ?_)
   | (with_reducible refine LeO.bind ?_ (fun _ => ?_))
   | exact ih0 _ _ _ _ _ _ _ _ _ _ _
   | exact ih1 _ _ _ _ _ _ _ _ _
   | exact ih2 _ _ _ _ _
  ·intro y0 y1 y2 y3 y4 y5 y6 y7 y8
   unfold laws_FnExactLetterOf.j1
   repeat' first
   | (with_reducible exact ih0 _ _ _ _ _ _ _ _ _ _ _)
   | (with_reducible exact ih1 _ _ _ _ _ _ _ _ _)
   | (with_reducible exact ih2 _ _ _ _ _)
   | (with_reducible exact impl_LetterOf.mono _ _)
   | (with_reducible exact laws_eqByteS.mono _ _ _)
   | (with_reducible exact laws_eqLetter.mono _ _ _ _ _ _ _)
   | (with_reducible exact laws_heldLetter.mono _ _ _ _ _)
   | (with_reducible exact laws_markByteS.mono _ _ _)
   | (with_reducible exact laws_markLetter.mono _ _ _ _ _)
   | (with_reducible exact laws_toByteS.mono _ _)
   | (with_reducible exact LeO.refl _)
   | (with_reducible exact LeO.none _)
   | (with_reducible refine LeO.ite ?_ ?_)
   | (with_reducible refine LeO.bind ?_ (fun _ => ?_))
   | exact ih0 _ _ _ _ _ _ _ _ _ _ _
   | exact ih1 _ _ _ _ _ _ _ _ _
   | exact ih2 _ _ _ _ _
  ·intro y0 y1 y2 y3 y4
   unfold laws_FnExactLetterOf.j2
   repeat' first
   | (with_reducible exact ih0 _ _ _ _ _ _ _ _ _ _ _)
   | (with_reducible exact ih1 _ _ _ _ _ _ _ _ _)
   | (with_reducible exact ih2 _ _ _ _ _)
   | (with_reducible exact impl_LetterOf.mono _ _)
   | (with_reducible exact laws_eqByteS.mono _ _ _)
   | (with_reducible exact laws_eqLetter.mono _ _ _ _ _ _ _)
   | (with_reducible exact laws_heldLetter.mono _ _ _ _ _)
   | (with_reducible exact laws_markByteS.mono _ _ _)
   | (with_reducible exact laws_markLetter.mono _ _ _ _ _)
   | (with_reducible exact laws_toByteS.mono _ _)
   | (with_reducible exact LeO.refl _)
   | (with_reducible exact LeO.none _)
   | (with_reducible refine LeO.ite ?_ ?_)
   | (with_reducible refine LeO.bind ?_ (fun _ => ?_))
   | exact ih0 _ _ _ _ _ _ _ _ _ _ _
   | exact ih1 _ _ _ _ _ _ _ _ _
   | exact ih2 _ _ _ _ _
theorem laws_FnExactLetterOf.mono : ∀ a0 k, LeO (laws_FnExactLetterOf.f k a0) (laws_FnExactLetterOf.f (k + 1) a0) := by
 intro a0 k
 obtain ⟨ih0, ih1, ih2⟩ := laws_FnExactLetterOf.mono_l k
 unfold laws_FnExactLetterOf.f
 repeat' first
   | (with_reducible exact ih0 _ _ _ _ _ _ _ _ _ _ _)
   | (with_reducible exact ih1 _ _ _ _ _ _ _ _ _)
   | (with_reducible exact ih2 _ _ _ _ _)
   | (with_reducible exact impl_LetterOf.mono _ _)
   | (with_reducible exact laws_eqByteS.mono _ _ _)
   | (with_reducible exact laws_eqLetter.mono _ _ _ _ _ _ _)
   | (with_reducible exact laws_heldLetter.mono _ _ _ _ _)
   | (with_reducible exact laws_markByteS.mono _ _ _)
   | (with_reducible exact laws_markLetter.mono _ _ _ _ _)
   | (with_reducible exact laws_toByteS.mono _ _)
   | (with_reducible exact LeO.refl _)
   | (with_reducible exact LeO.none _)
   | (with_reducible refine LeO.ite ?_ ?_)
   | (with_reducible refine LeO.bind ?_ (fun _ => ?_))
   | exact ih0 _ _ _ _ _ _ _ _ _ _ _
   | exact ih1 _ _ _ _ _ _ _ _ _
   | exact ih2 _ _ _ _ _
set_option maxHeartbeats 8000000 in
set_option maxRecDepth 100000 in
theorem laws_FnExactLetterOf.calls (k : Nat) (A0 : Option Addr) (c0 : Nat) (l0 : List Int) (r : Bool) (w : World) (hr0 : Kd.C (Kd.int .u8) w A0 l0.length l0) (hc0 : l0.length ≤ c0) (h : laws_FnExactLetterOf.f k l0 = some r) :
  Calls Try.prog 3 #[.slice A0 l0.length c0] w fun e w' => e = .returned (.bool r) ∧ Below w.heap.size w w' := by
 have hu24 := Try.underlying24
 have HR0 := Aside0.mk hr0
 have HC0 := Aside0.mk hc0
 clear hr0 hc0
 have HB := Aside0.mk (zcq w.heap.size w)
 have H : (if (l0.length : Int) > 1048576 then (some true) else ((laws_toByteS.f k l0).bind fun t174 => ((spec_LetterOf.f t174).bind fun bt177 => ((laws_toByteS.f k l0).bind fun t186 => ((impl_LetterOf.f k t186).bind fun bt189 => ((laws_eqLetter.f k bt189.1 bt189.2.1 bt189.2.2.1 bt177.1 bt177.2.1 bt177.2.2.1).bind fun t198 => (if t198 = true then (laws_FnExactLetterOf.j0 k l0 bt177.2.2.2 t186 bt189.2.2.2 (bt189.2.2.2 != bt177.2.2.2) bt177.1 bt177.2.1 bt177.2.2.1 bt189.1 bt189.2.1 bt189.2.2.1) else (laws_FnExactLetterOf.j0 k l0 bt177.2.2.2 t186 bt189.2.2.2 true bt177.1 bt177.2.1 bt177.2.2.1 bt189.1 bt189.2.1 bt189.2.2.1)))))))) = some r := h
 clear h
 by_cases c2 : (l0.length : Int) > 1048576
 ·rw [if_pos c2] at H
  have c2b0 : decide (1048576 < (l0.length : Int)) = true := zbo c2
  have c2b1 : decide (1048576 < l0.length) = true := zbo (by omega)
  clear c2
  obtain rfl := Option.some.inj H
  go_enter Try.func3, Try.ntmps3
  go_wp2
  go_ret
  exact ⟨by first | rfl | (simp [zcd, zce] <;> rfl) | (simp [*, zcd, zce] <;> rfl), by repeat (first | (with_reducible first | exact HB.out | apply zah | apply zab | apply zaf) | exact HB.out)⟩
 ·rw [if_neg c2] at H
  have c2b0 : decide (1048576 < (l0.length : Int)) = false := zcv c2
  have c2b1 : decide (1048576 < l0.length) = false := zcv (by omega)
  clear c2
  replace H := zbm.mp H
  obtain ⟨t174, A30, H⟩ := H
  try dsimp only at H
  have A3 := Aside0.mk A30
  clear A30
  replace H := zbm.mp H
  obtain ⟨⟨t177, t178, t181, t184⟩, A40, H⟩ := H
  try dsimp only at H
  have A4 := Aside0.mk A40
  clear A40
  replace H := zbm.mp H
  obtain ⟨t186, A50, H⟩ := H
  try dsimp only at H
  have A5 := Aside0.mk A50
  clear A50
  replace H := zbm.mp H
  obtain ⟨⟨t189, t190, t193, t196⟩, A60, H⟩ := H
  try dsimp only at H
  have A6 := Aside0.mk A60
  clear A60
  have HC7 := Aside0.mk H
  clear H
  go_enter Try.func3, Try.ntmps3
  go_upto_region 6 with (first | ((with_reducible refine zcl (f := 10) rfl ?_); refine goesL_ (some 18) rfl rfl Try.func10 (by kernel_rfl) rfl #[.slice A0 l0.length c0] rfl (by (try simp only [zbg, zbs, zbt]); first | done | rfl) ?_; (with_reducible refine (laws_toByteS.calls k _ _ l0 t174 _ ?side1 ?side2 A3.out).mono ?_); (case side1 => repeat (first | exact HR0.out | (with_reducible first | apply zbu | apply zbv | apply zca))); (case side2 => exact HC0.out); rintro e w8 ⟨v175, rfl, ho0, hb⟩; refine ⟨_, rfl, ?_⟩; have xb_ := below_ofs (by repeat (first | (with_reducible first | exact HB.out | apply zah | apply zab | apply zaf) | exact HB.out)) hb; have n0_ := Aside0.mk (zdd ho0 (zat xb_)); have n1_ := Aside0.mk (zbh xb_ hb); clear HB; have HO176 := n0_; have HB := n1_; clear n0_ n1_; clear xb_ hb ho0; obtain ⟨Ao9, co9, eo9⟩ := zcz HO176.out; subst eo9) | ((with_reducible refine zcl (f := 9) rfl ?_); refine goesL_ (some 19) rfl rfl Try.func9 (by kernel_rfl) rfl #[.slice Ao9 t174.length co9] rfl (by (try simp only [zbg, zbs, zbt]); first | done | rfl) ?_; (with_reducible refine (spec_LetterOf.calls _ _ t174 t177 t178 t181 t184 _ ?side1 ?side2 A4.out).mono ?_); (case side1 => repeat (first | exact (zba HO176.out).2.2 | (with_reducible first | apply zbu | apply zbv | apply zca))); (case side2 => exact (zba HO176.out).2.1); rintro e w10 ⟨v179, v182, rfl, ho0, ho1, hb⟩; refine ⟨_, rfl, ?_⟩; have xb_ := below_ofs (by repeat (first | (with_reducible first | exact HB.out | apply zah | apply zab | apply zaf) | exact HB.out)) hb; have n0_ := Aside0.mk (zaz (zeh (zeh (Kd.R_old (by (with_reducible repeat (first | apply zam | apply zan | apply zaq)); exact HO176.out) hb) (zbl ho0)) (zbl ho1)) (fun _ h_ => h_.1)); have n1_ := Aside0.mk (zdd (zcr ho0 (zdf (by (with_reducible repeat (first | apply zam | apply zan | apply zaq)); exact HO176.out))) (zat xb_)); have n2_ := Aside0.mk (zdd (zcr ho1 (zdf (by (with_reducible repeat (first | apply zam | apply zan | apply zaq)); exact HO176.out))) (zat xb_)); have n3_ := Aside0.mk (zbh xb_ hb); clear HO176 HB; have HO176 := n0_; have HO180 := n1_; have HO183 := n2_; have HB := n3_; clear n0_ n1_ n2_ n3_; clear xb_ hb ho0; (try clear ho1)) | ((with_reducible refine zef (N := 3) rfl ?_); refine zdw ?hg (N := 3) ?hd (cs := #[.int .i64 0, .slice none 0 0, .slice none 0 0]) (t := 24) ?hr ?_; (case hd => rfl); (case hg => rfl); (case hr => first | (go_simp; done) | (go_simp; rfl)); intro gb185 hg w11 hbox hb; have xb_ := below_ofs (by repeat (first | (with_reducible first | exact HB.out | apply zah | apply zab | apply zaf) | exact HB.out)) hb; have n0_ := Aside0.mk (zbe (by (with_reducible repeat (first | apply zam | apply zan | apply zaq)); exact HO176.out) hb); have n1_ := Aside0.mk (zbe (by (with_reducible repeat (first | apply zam | apply zan | apply zaq)); exact HO180.out) hb); have n2_ := Aside0.mk (zbe (by (with_reducible repeat (first | apply zam | apply zan | apply zaq)); exact HO183.out) hb); have n3_ := Aside0.mk (zbh xb_ hb); have n4_ := Aside0.mk (hbox); have n5_ := Aside0.mk ((by rw [hg]; exact (zat xb_) : w.heap.size ≤ gb185)); have n6_ := Aside0.mk ((by rw [hg]; exact (zat xb_) : w.heap.size ≤ gb185)); clear HO176 HO180 HO183 HB; have HO176 := n0_; have HO180 := n1_; have HO183 := n2_; have HB := n3_; have BK185 := n4_; have GW185 := n5_; have GE185 := n6_; clear n0_ n1_ n2_ n3_ n4_ n5_ n6_; clear xb_ hb hbox hg; have hcz12_0 : w11.cell? ⟨gb185, 0, none⟩ = some (.int .i64 0) := (zbc BK185.out 0).trans rfl; have hcz12_1 : w11.cell? ⟨gb185, 1, none⟩ = some (.slice none 0 0) := (zbc BK185.out 1).trans rfl; have hcz12_2 : w11.cell? ⟨gb185, 2, none⟩ = some (.slice none 0 0) := (zbc BK185.out 2).trans rfl; have hfz12_0 := zau BK185.out 0; have hfz12_1 := zau BK185.out 1; have hfz12_2 := zau BK185.out 2; obtain ⟨Ao13, co13, eo13⟩ := zcz HO180.out; subst eo13; obtain ⟨Ao14, co14, eo14⟩ := zcz HO183.out; subst eo14) | ((with_reducible refine zcl (f := 10) rfl ?_); refine goesL_ (some 23) rfl rfl Try.func10 (by kernel_rfl) rfl #[.slice A0 l0.length c0] rfl (by (try simp only [zbg, zbs, zbt]); first | done | rfl) ?_; (with_reducible refine (laws_toByteS.calls k _ _ l0 t186 _ ?side1 ?side2 A5.out).mono ?_); (case side1 => exact zde HR0.out (by repeat (first | (with_reducible first | exact HB.out | apply zah | apply zab | apply zaf | refine zag ?_ GE185.out) | exact HB.out))); (case side2 => exact HC0.out); rintro e w15 ⟨v187, rfl, ho0, hb⟩; refine ⟨_, rfl, ?_⟩; have n0_ := Aside0.mk (zdh (by (with_reducible repeat (first | apply zam | apply zan | apply zaq)); exact (zaz (zax (p := ⟨gb185, 2, none⟩) (zax (p := ⟨gb185, 1, none⟩) (zax (p := ⟨gb185, 0, none⟩) (zbw HO176.out BK185.out (by decide)) (fun _ hk => hk.2) (.int .i64 t177)) (fun _ hk => hk.2) (.slice Ao13 t178.length co13)) (fun _ hk => hk.2) (.slice Ao14 t181.length co14)) (fun _ h_ => h_.1))) (zbl ho0) hb); have n1_ := Aside0.mk (zdh (by (with_reducible repeat (first | apply zam | apply zan | apply zaq)); exact (zaz (zax (p := ⟨gb185, 2, none⟩) (zax (p := ⟨gb185, 1, none⟩) (zax (p := ⟨gb185, 0, none⟩) (zbw HO180.out BK185.out (by decide)) (fun _ hk => hk.2) (.int .i64 t177)) (fun _ hk => hk.2) (.slice Ao13 t178.length co13)) (fun _ hk => hk.2) (.slice Ao14 t181.length co14)) (fun _ h_ => h_.1))) (zbl ho0) hb); have n2_ := Aside0.mk (zdh (by (with_reducible repeat (first | apply zam | apply zan | apply zaq)); exact (zaz (zax (p := ⟨gb185, 2, none⟩) (zax (p := ⟨gb185, 1, none⟩) (zax (p := ⟨gb185, 0, none⟩) (zbw HO183.out BK185.out (by decide)) (fun _ hk => hk.2) (.int .i64 t177)) (fun _ hk => hk.2) (.slice Ao13 t178.length co13)) (fun _ hk => hk.2) (.slice Ao14 t181.length co14)) (fun _ h_ => h_.1))) (zbl ho0) hb); have n3_ := Aside0.mk (zdd (zcr (zcr (zcr ho0 (zdf (by (with_reducible repeat (first | apply zam | apply zan | apply zaq)); exact (zaz (zax (p := ⟨gb185, 2, none⟩) (zax (p := ⟨gb185, 1, none⟩) (zax (p := ⟨gb185, 0, none⟩) (zbw HO176.out BK185.out (by decide)) (fun _ hk => hk.2) (.int .i64 t177)) (fun _ hk => hk.2) (.slice Ao13 t178.length co13)) (fun _ hk => hk.2) (.slice Ao14 t181.length co14)) (fun _ h_ => h_.1))))) (zdf (by (with_reducible repeat (first | apply zam | apply zan | apply zaq)); exact (zaz (zax (p := ⟨gb185, 2, none⟩) (zax (p := ⟨gb185, 1, none⟩) (zax (p := ⟨gb185, 0, none⟩) (zbw HO180.out BK185.out (by decide)) (fun _ hk => hk.2) (.int .i64 t177)) (fun _ hk => hk.2) (.slice Ao13 t178.length co13)) (fun _ hk => hk.2) (.slice Ao14 t181.length co14)) (fun _ h_ => h_.1))))) (zdf (by (with_reducible repeat (first | apply zam | apply zan | apply zaq)); exact (zaz (zax (p := ⟨gb185, 2, none⟩) (zax (p := ⟨gb185, 1, none⟩) (zax (p := ⟨gb185, 0, none⟩) (zbw HO183.out BK185.out (by decide)) (fun _ hk => hk.2) (.int .i64 t177)) (fun _ hk => hk.2) (.slice Ao13 t178.length co13)) (fun _ hk => hk.2) (.slice Ao14 t181.length co14)) (fun _ h_ => h_.1))))) (zat (by repeat (first | (with_reducible first | exact HB.out | apply zah | apply zab | apply zaf | refine zag ?_ GE185.out) | exact HB.out)))); have n4_ := Aside0.mk (zbf (g := gb185) (o := .cells #[.int .i64 t177, .slice Ao13 t178.length co13, .slice Ao14 t181.length co14] 24 (0, 0)) (by (with_reducible repeat (first | refine zai ?_ _ | refine zao ?_ | refine zaj ?_ _)); refine zdl (cs := #[.int .i64 t177, .slice Ao13 t178.length co13, .slice none 0 0]) ?_ 2 _ rfl; (with_reducible repeat (first | refine zai ?_ _ | refine zao ?_ | refine zaj ?_ _)); refine zdl (cs := #[.int .i64 t177, .slice none 0 0, .slice none 0 0]) ?_ 1 _ rfl; (with_reducible repeat (first | refine zai ?_ _ | refine zao ?_ | refine zaj ?_ _)); refine zdl (cs := #[.int .i64 0, .slice none 0 0, .slice none 0 0]) ?_ 0 _ rfl; (with_reducible repeat (first | refine zai ?_ _ | refine zao ?_ | refine zaj ?_ _)); exact BK185.out) hb); have n5_ := Aside0.mk (zbh (by repeat (first | (with_reducible first | exact HB.out | apply zah | apply zab | apply zaf | refine zag ?_ GE185.out) | exact HB.out)) hb); clear HO176 HO180 HO183 BK185 HB; have HO176 := n0_; have HO180 := n1_; have HO183 := n2_; have HO188 := n3_; have BK185 := n4_; have HB := n5_; clear n0_ n1_ n2_ n3_ n4_ n5_; clear hb ho0; obtain ⟨Ao16, co16, eo16⟩ := zcz HO188.out; subst eo16) | ((with_reducible refine zcl (f := 11) rfl ?_); refine goesL_ (some 26) rfl rfl Try.func11 (by kernel_rfl) rfl #[.slice Ao16 t186.length co16] rfl (by (try simp only [zbg, zbs, zbt]); first | done | rfl) ?_; (with_reducible refine (impl_LetterOf.calls k (fun k_ => some k_ = (.slice Ao16 t186.length co16 : Value).ownBlock) _ _ t186 t189 t190 t193 t196 _ ?side1 A6.out).mono ?_); (case side1 => exact Kd.R_V (Kd.R_tight rfl (zbw (HO188.out) BK185.out (by decide)))); rintro e w17 ⟨v191, v194, rfl, ho0, ho1, hb⟩; refine ⟨_, rfl, ?_⟩; have n0_ := Aside0.mk (zaz (zeh (zeh (Kd.R_old (by (with_reducible repeat (first | apply zam | apply zan | apply zaq)); exact HO176.out) hb) (zbl ho0)) (zbl ho1)) (fun _ h_ => h_.1)); have n1_ := Aside0.mk (zaz (zeh (zeh (Kd.R_old (by (with_reducible repeat (first | apply zam | apply zan | apply zaq)); exact HO180.out) hb) (zbl ho0)) (zbl ho1)) (fun _ h_ => h_.1)); have n2_ := Aside0.mk (zaz (zeh (zeh (Kd.R_old (by (with_reducible repeat (first | apply zam | apply zan | apply zaq)); exact HO183.out) hb) (zbl ho0)) (zbl ho1)) (fun _ h_ => h_.1)); have n3_ := Aside0.mk (zaz (zeh (zeh (Kd.R_old (by (with_reducible repeat (first | apply zam | apply zan | apply zaq)); exact HO188.out) hb) (zbl ho0)) (zbl ho1)) (fun _ h_ => h_.1)); have n4_ := Aside0.mk (zdd (zcr (zcr (zcr (zcr (zaz (ok' := fun k_ => some k_ ≠ (v194 : Value).ownBlock) ho0 (fun _ hk_ => hk_.2)) (zdf (by (with_reducible repeat (first | apply zam | apply zan | apply zaq)); exact HO176.out))) (zdf (by (with_reducible repeat (first | apply zam | apply zan | apply zaq)); exact HO180.out))) (zdf (by (with_reducible repeat (first | apply zam | apply zan | apply zaq)); exact HO183.out))) (zdf (by (with_reducible repeat (first | apply zam | apply zan | apply zaq)); exact HO188.out))) (zat (by repeat (first | (with_reducible first | exact HB.out | apply zah | apply zab | apply zaf | refine zag ?_ GE185.out) | exact HB.out)))); have n5_ := Aside0.mk (zdd (zcr (zcr (zcr (zcr (zaz (ok' := fun k_ => some k_ ≠ (v191 : Value).ownBlock) ho1 (fun _ hk_ => hk_.2)) (zdf (by (with_reducible repeat (first | apply zam | apply zan | apply zaq)); exact HO176.out))) (zdf (by (with_reducible repeat (first | apply zam | apply zan | apply zaq)); exact HO180.out))) (zdf (by (with_reducible repeat (first | apply zam | apply zan | apply zaq)); exact HO183.out))) (zdf (by (with_reducible repeat (first | apply zam | apply zan | apply zaq)); exact HO188.out))) (zat (by repeat (first | (with_reducible first | exact HB.out | apply zah | apply zab | apply zaf | refine zag ?_ GE185.out) | exact HB.out)))); have n6_ := Aside0.mk (zbf (g := gb185) (o := .cells #[.int .i64 t177, .slice Ao13 t178.length co13, .slice Ao14 t181.length co14] 24 (0, 0)) (by (with_reducible repeat (first | refine zai ?_ _ | refine zao ?_ | refine zaj ?_ _)); exact BK185.out) hb); have n7_ := Aside0.mk (zbh (by repeat (first | (with_reducible first | exact HB.out | apply zah | apply zab | apply zaf | refine zag ?_ GE185.out) | exact HB.out)) hb); clear HO176 HO180 HO183 HO188 BK185 HB; have HO176 := n0_; have HO180 := n1_; have HO183 := n2_; have HO188 := n3_; have HO192 := n4_; have HO195 := n5_; have BK185 := n6_; have HB := n7_; clear n0_ n1_ n2_ n3_ n4_ n5_ n6_ n7_; clear hb ho0; (try clear ho1)) | ((with_reducible refine zef (N := 6) rfl ?_); refine zdw ?hg (N := 6) ?hd (cs := #[.int .i64 0, .slice none 0 0, .slice none 0 0]) (t := 24) ?hr ?_; (case hd => rfl); (case hg => rfl); (case hr => first | (go_simp; done) | (go_simp; rfl)); intro gb197 hg w18 hbox hb; have n0_ := Aside0.mk (zbe (by (with_reducible repeat (first | apply zam | apply zan | apply zaq)); exact HO176.out) hb); have n1_ := Aside0.mk (zbe (by (with_reducible repeat (first | apply zam | apply zan | apply zaq)); exact HO180.out) hb); have n2_ := Aside0.mk (zbe (by (with_reducible repeat (first | apply zam | apply zan | apply zaq)); exact HO183.out) hb); have n3_ := Aside0.mk (zbe (by (with_reducible repeat (first | apply zam | apply zan | apply zaq)); exact HO188.out) hb); have n4_ := Aside0.mk (zbe (by (with_reducible repeat (first | apply zam | apply zan | apply zaq)); exact HO192.out) hb); have n5_ := Aside0.mk (zbe (by (with_reducible repeat (first | apply zam | apply zan | apply zaq)); exact HO195.out) hb); have n6_ := Aside0.mk (zbf (g := gb185) (o := .cells #[.int .i64 t177, .slice Ao13 t178.length co13, .slice Ao14 t181.length co14] 24 (0, 0)) (by (with_reducible repeat (first | refine zai ?_ _ | refine zao ?_ | refine zaj ?_ _)); exact BK185.out) hb); have n7_ := Aside0.mk (zbh (by repeat (first | (with_reducible first | exact HB.out | apply zah | apply zab | apply zaf | refine zag ?_ GE185.out) | exact HB.out)) hb); have n8_ := Aside0.mk (hbox); have n9_ := Aside0.mk ((by rw [hg]; exact (zat (by repeat (first | (with_reducible first | exact HB.out | apply zah | apply zab | apply zaf | refine zag ?_ GE185.out) | exact HB.out))) : w.heap.size ≤ gb197)); have n10_ := Aside0.mk ((by rw [hg]; exact (zat (by repeat (first | (with_reducible first | exact HB.out | apply zah | apply zab | apply zaf | refine zag ?_ GE185.out) | exact HB.out))) : w.heap.size ≤ gb197)); have n11_ := Aside0.mk ((by rw [hg]; exact zcb (blk_lt (g := gb185) (o := .cells #[.int .i64 t177, .slice Ao13 t178.length co13, .slice Ao14 t181.length co14] 24 (0, 0)) (by (with_reducible repeat (first | refine zai ?_ _ | refine zao ?_ | refine zaj ?_ _)); exact BK185.out)) : gb185 ≠ gb197)); have n12_ := Aside0.mk ((by rw [hg]; exact zdj (blk_lt (g := gb185) (o := .cells #[.int .i64 t177, .slice Ao13 t178.length co13, .slice Ao14 t181.length co14] 24 (0, 0)) (by (with_reducible repeat (first | refine zai ?_ _ | refine zao ?_ | refine zaj ?_ _)); exact BK185.out)) : gb197 ≠ gb185)); clear HO176 HO180 HO183 HO188 HO192 HO195 BK185 HB; have HO176 := n0_; have HO180 := n1_; have HO183 := n2_; have HO188 := n3_; have HO192 := n4_; have HO195 := n5_; have BK185 := n6_; have HB := n7_; have BK197 := n8_; have GW197 := n9_; have GE197 := n10_; have NB185_197 := n11_; have NB197_185 := n12_; clear n0_ n1_ n2_ n3_ n4_ n5_ n6_ n7_ n8_ n9_ n10_ n11_ n12_; clear hb hbox hg; have hnb19 := NB197_185.out; have hnc19 := NB185_197.out; have hcz20_0 : w18.cell? ⟨gb197, 0, none⟩ = some (.int .i64 0) := (zbc BK197.out 0).trans rfl; have hcz20_1 : w18.cell? ⟨gb197, 1, none⟩ = some (.slice none 0 0) := (zbc BK197.out 1).trans rfl; have hcz20_2 : w18.cell? ⟨gb197, 2, none⟩ = some (.slice none 0 0) := (zbc BK197.out 2).trans rfl; have hfz20_0 := zau BK197.out 0; have hfz20_1 := zau BK197.out 1; have hfz20_2 := zau BK197.out 2; obtain ⟨Ao21, co21, eo21⟩ := zcz HO192.out; subst eo21; obtain ⟨Ao22, co22, eo22⟩ := zcz HO195.out; subst eo22))
  (try simp only [Act.put, zaa, zac, zad])
  go_cut [37] (fun v37 wc => ∃ (kq : Nat) (x37_6 : Bool), v37 = .bool x37_6 ∧ Aside0 (laws_FnExactLetterOf.j0 kq l0 t184 t186 t196 x37_6 t177 t178 t181 t189 t190 t193 = some r) ∧ Aside0 (kq ≤ k) ∧ Aside0 (Kd.R (Kd.int .u8) 5 wc w.heap.size (fun k_ => some k_ ≠ ((.slice Ao13 t178.length co13) : Value).ownBlock ∧ some k_ ≠ ((.slice Ao14 t181.length co14) : Value).ownBlock ∧ some k_ ≠ ((.slice Ao21 t190.length co21) : Value).ownBlock ∧ some k_ ≠ ((.slice Ao22 t193.length co22) : Value).ownBlock) (.slice Ao16 t186.length co16) t186) ∧ Aside0 (Kd.R (Kd.int .u8) 5 wc w.heap.size (fun k_ => some k_ ≠ ((.slice Ao16 t186.length co16) : Value).ownBlock ∧ some k_ ≠ ((.slice Ao14 t181.length co14) : Value).ownBlock ∧ some k_ ≠ ((.slice Ao21 t190.length co21) : Value).ownBlock ∧ some k_ ≠ ((.slice Ao22 t193.length co22) : Value).ownBlock) (.slice Ao13 t178.length co13) t178) ∧ Aside0 (Kd.R (Kd.int .u8) 5 wc w.heap.size (fun k_ => some k_ ≠ ((.slice Ao16 t186.length co16) : Value).ownBlock ∧ some k_ ≠ ((.slice Ao13 t178.length co13) : Value).ownBlock ∧ some k_ ≠ ((.slice Ao21 t190.length co21) : Value).ownBlock ∧ some k_ ≠ ((.slice Ao22 t193.length co22) : Value).ownBlock) (.slice Ao14 t181.length co14) t181) ∧ Aside0 (Kd.R (Kd.int .u8) 5 wc w.heap.size (fun k_ => some k_ ≠ ((.slice Ao16 t186.length co16) : Value).ownBlock ∧ some k_ ≠ ((.slice Ao13 t178.length co13) : Value).ownBlock ∧ some k_ ≠ ((.slice Ao14 t181.length co14) : Value).ownBlock ∧ some k_ ≠ ((.slice Ao22 t193.length co22) : Value).ownBlock) (.slice Ao21 t190.length co21) t190) ∧ Aside0 (Kd.R (Kd.int .u8) 5 wc w.heap.size (fun k_ => some k_ ≠ ((.slice Ao16 t186.length co16) : Value).ownBlock ∧ some k_ ≠ ((.slice Ao13 t178.length co13) : Value).ownBlock ∧ some k_ ≠ ((.slice Ao14 t181.length co14) : Value).ownBlock ∧ some k_ ≠ ((.slice Ao21 t190.length co21) : Value).ownBlock) (.slice Ao22 t193.length co22) t193) ∧ Aside0 (wc.heap[gb185]? = some (.cells #[.int .i64 t177, (.slice Ao13 t178.length co13), (.slice Ao14 t181.length co14)] 24 (0, 0))) ∧ Aside0 (wc.heap[gb197]? = some (.cells #[.int .i64 t189, (.slice Ao21 t190.length co21), (.slice Ao22 t193.length co22)] 24 (0, 0))) ∧ Aside0 (Below w.heap.size w wc))
  case first =>
   have H := HC7.out
   clear HC7
   replace H := zbm.mp H
   obtain ⟨t198, A230, H⟩ := H
   try dsimp only at H
   have A23 := Aside0.mk A230
   clear A230
   by_cases c24 : t198 = true
   ·subst c24
    have H1 : (laws_FnExactLetterOf.j0 k l0 t184 t186 t196 (t196 != t184) t177 t178 t181 t189 t190 t193) = some r := by rw [if_pos rfl] at H; exact H
    clear H
    have H := H1
    clear H1
    have H' := Aside0.mk H
    clear H
    have hnb25 := NB197_185.out
    have hnc25 := NB185_197.out
    have hcz26_0 : w18.cell? ⟨gb197, 0, none⟩ = some (.int .i64 0) := (zbc BK197.out 0).trans rfl
    have hcz26_1 : w18.cell? ⟨gb197, 1, none⟩ = some (.slice none 0 0) := (zbc BK197.out 1).trans rfl
    have hcz26_2 : w18.cell? ⟨gb197, 2, none⟩ = some (.slice none 0 0) := (zbc BK197.out 2).trans rfl
    have hfz26_0 := zau BK197.out 0
    have hfz26_1 := zau BK197.out 1
    have hfz26_2 := zau BK197.out 2
    have hcz27_0 : w18.cell? ⟨gb185, 0, none⟩ = some (.int .i64 t177) := (zbc BK185.out 0).trans rfl
    have hcz27_1 : w18.cell? ⟨gb185, 1, none⟩ = some (.slice Ao13 t178.length co13) := (zbc BK185.out 1).trans rfl
    have hcz27_2 : w18.cell? ⟨gb185, 2, none⟩ = some (.slice Ao14 t181.length co14) := (zbc BK185.out 2).trans rfl
    have hfz27_0 := zau BK185.out 0
    have hfz27_1 := zau BK185.out 1
    have hfz27_2 := zau BK185.out 2
    go_wp2_with (first | ((with_reducible refine zcl (f := 12) rfl ?_); refine goesL_ (some 31) rfl rfl Try.func12 (by kernel_rfl) rfl #[.agg #[.int .i64 t189, .slice Ao21 t190.length co21, .slice Ao22 t193.length co22], .agg #[.int .i64 t177, .slice Ao13 t178.length co13, .slice Ao14 t181.length co14]] rfl (by (try simp only [zbg, zbs, zbt]); first | done | rfl) ?_; (with_reducible refine (laws_eqLetter.calls k t189 _ _ t190 _ _ t193 t177 _ _ t178 _ _ t181 true _ ?side1 ?side2 ?side3 ?side4 ?side5 ?side6 ?side7 ?side8 A23.out).mono ?_); (case side1 => refine (zba (e := 5) (base := w.heap.size) (ok := fun k_ => ((((some k_ ≠ (.slice Ao22 t193.length co22 : Value).ownBlock ∧ some k_ ≠ (.slice Ao9 t174.length co9 : Value).ownBlock) ∧ some k_ ≠ (.slice Ao13 t178.length co13 : Value).ownBlock) ∧ some k_ ≠ (.slice Ao14 t181.length co14 : Value).ownBlock) ∧ some k_ ≠ (.slice Ao16 t186.length co16 : Value).ownBlock)) (n := t190.length) (c := co21) ?_).2.2; exact (by (with_reducible repeat (first | apply zam | apply zan | apply zaq)); exact (zaz (zax (p := ⟨gb197, 2, none⟩) (zax (p := ⟨gb197, 1, none⟩) (zax (p := ⟨gb197, 0, none⟩) (zbw HO192.out BK197.out (by decide)) (fun _ hk => hk.2) (.int .i64 t189)) (fun _ hk => hk.2) (.slice Ao21 t190.length co21)) (fun _ hk => hk.2) (.slice Ao22 t193.length co22)) (fun _ h_ => h_.1)))); (case side2 => exact (zba HO192.out).2.1); (case side3 => refine (zba (e := 5) (base := w.heap.size) (ok := fun k_ => ((((some k_ ≠ (.slice Ao21 t190.length co21 : Value).ownBlock ∧ some k_ ≠ (.slice Ao9 t174.length co9 : Value).ownBlock) ∧ some k_ ≠ (.slice Ao13 t178.length co13 : Value).ownBlock) ∧ some k_ ≠ (.slice Ao14 t181.length co14 : Value).ownBlock) ∧ some k_ ≠ (.slice Ao16 t186.length co16 : Value).ownBlock)) (n := t193.length) (c := co22) ?_).2.2; exact (by (with_reducible repeat (first | apply zam | apply zan | apply zaq)); exact (zaz (zax (p := ⟨gb197, 2, none⟩) (zax (p := ⟨gb197, 1, none⟩) (zax (p := ⟨gb197, 0, none⟩) (zbw HO195.out BK197.out (by decide)) (fun _ hk => hk.2) (.int .i64 t189)) (fun _ hk => hk.2) (.slice Ao21 t190.length co21)) (fun _ hk => hk.2) (.slice Ao22 t193.length co22)) (fun _ h_ => h_.1)))); (case side4 => exact (zba HO195.out).2.1); (case side5 => refine (zba (e := 5) (base := w.heap.size) (ok := fun k_ => ((((some k_ ≠ (.slice Ao14 t181.length co14 : Value).ownBlock ∧ some k_ ≠ (.slice Ao9 t174.length co9 : Value).ownBlock) ∧ some k_ ≠ (.slice Ao16 t186.length co16 : Value).ownBlock) ∧ some k_ ≠ (.slice Ao21 t190.length co21 : Value).ownBlock) ∧ some k_ ≠ (.slice Ao22 t193.length co22 : Value).ownBlock)) (n := t178.length) (c := co13) ?_).2.2; exact (by (with_reducible repeat (first | apply zam | apply zan | apply zaq)); exact (zaz (zax (p := ⟨gb197, 2, none⟩) (zax (p := ⟨gb197, 1, none⟩) (zax (p := ⟨gb197, 0, none⟩) (zbw HO180.out BK197.out (by decide)) (fun _ hk => hk.2) (.int .i64 t189)) (fun _ hk => hk.2) (.slice Ao21 t190.length co21)) (fun _ hk => hk.2) (.slice Ao22 t193.length co22)) (fun _ h_ => h_.1)))); (case side6 => exact (zba HO180.out).2.1); (case side7 => refine (zba (e := 5) (base := w.heap.size) (ok := fun k_ => ((((some k_ ≠ (.slice Ao13 t178.length co13 : Value).ownBlock ∧ some k_ ≠ (.slice Ao9 t174.length co9 : Value).ownBlock) ∧ some k_ ≠ (.slice Ao16 t186.length co16 : Value).ownBlock) ∧ some k_ ≠ (.slice Ao21 t190.length co21 : Value).ownBlock) ∧ some k_ ≠ (.slice Ao22 t193.length co22 : Value).ownBlock)) (n := t181.length) (c := co14) ?_).2.2; exact (by (with_reducible repeat (first | apply zam | apply zan | apply zaq)); exact (zaz (zax (p := ⟨gb197, 2, none⟩) (zax (p := ⟨gb197, 1, none⟩) (zax (p := ⟨gb197, 0, none⟩) (zbw HO183.out BK197.out (by decide)) (fun _ hk => hk.2) (.int .i64 t189)) (fun _ hk => hk.2) (.slice Ao21 t190.length co21)) (fun _ hk => hk.2) (.slice Ao22 t193.length co22)) (fun _ h_ => h_.1)))); (case side8 => exact (zba HO183.out).2.1); rintro e w28 ⟨rfl, hb⟩; refine ⟨_, rfl, ?_⟩; have n0_ := Aside0.mk (zbe (by (with_reducible repeat (first | apply zam | apply zan | apply zaq)); exact (zaz (zax (p := ⟨gb197, 2, none⟩) (zax (p := ⟨gb197, 1, none⟩) (zax (p := ⟨gb197, 0, none⟩) (zbw HO176.out BK197.out (by decide)) (fun _ hk => hk.2) (.int .i64 t189)) (fun _ hk => hk.2) (.slice Ao21 t190.length co21)) (fun _ hk => hk.2) (.slice Ao22 t193.length co22)) (fun _ h_ => h_.1))) hb); have n1_ := Aside0.mk (zbe (by (with_reducible repeat (first | apply zam | apply zan | apply zaq)); exact (zaz (zax (p := ⟨gb197, 2, none⟩) (zax (p := ⟨gb197, 1, none⟩) (zax (p := ⟨gb197, 0, none⟩) (zbw HO180.out BK197.out (by decide)) (fun _ hk => hk.2) (.int .i64 t189)) (fun _ hk => hk.2) (.slice Ao21 t190.length co21)) (fun _ hk => hk.2) (.slice Ao22 t193.length co22)) (fun _ h_ => h_.1))) hb); have n2_ := Aside0.mk (zbe (by (with_reducible repeat (first | apply zam | apply zan | apply zaq)); exact (zaz (zax (p := ⟨gb197, 2, none⟩) (zax (p := ⟨gb197, 1, none⟩) (zax (p := ⟨gb197, 0, none⟩) (zbw HO183.out BK197.out (by decide)) (fun _ hk => hk.2) (.int .i64 t189)) (fun _ hk => hk.2) (.slice Ao21 t190.length co21)) (fun _ hk => hk.2) (.slice Ao22 t193.length co22)) (fun _ h_ => h_.1))) hb); have n3_ := Aside0.mk (zbe (by (with_reducible repeat (first | apply zam | apply zan | apply zaq)); exact (zaz (zax (p := ⟨gb197, 2, none⟩) (zax (p := ⟨gb197, 1, none⟩) (zax (p := ⟨gb197, 0, none⟩) (zbw HO188.out BK197.out (by decide)) (fun _ hk => hk.2) (.int .i64 t189)) (fun _ hk => hk.2) (.slice Ao21 t190.length co21)) (fun _ hk => hk.2) (.slice Ao22 t193.length co22)) (fun _ h_ => h_.1))) hb); have n4_ := Aside0.mk (zbe (by (with_reducible repeat (first | apply zam | apply zan | apply zaq)); exact (zaz (zax (p := ⟨gb197, 2, none⟩) (zax (p := ⟨gb197, 1, none⟩) (zax (p := ⟨gb197, 0, none⟩) (zbw HO192.out BK197.out (by decide)) (fun _ hk => hk.2) (.int .i64 t189)) (fun _ hk => hk.2) (.slice Ao21 t190.length co21)) (fun _ hk => hk.2) (.slice Ao22 t193.length co22)) (fun _ h_ => h_.1))) hb); have n5_ := Aside0.mk (zbe (by (with_reducible repeat (first | apply zam | apply zan | apply zaq)); exact (zaz (zax (p := ⟨gb197, 2, none⟩) (zax (p := ⟨gb197, 1, none⟩) (zax (p := ⟨gb197, 0, none⟩) (zbw HO195.out BK197.out (by decide)) (fun _ hk => hk.2) (.int .i64 t189)) (fun _ hk => hk.2) (.slice Ao21 t190.length co21)) (fun _ hk => hk.2) (.slice Ao22 t193.length co22)) (fun _ h_ => h_.1))) hb); have n6_ := Aside0.mk (zbf (g := gb185) (o := .cells #[.int .i64 t177, .slice Ao13 t178.length co13, .slice Ao14 t181.length co14] 24 (0, 0)) (by (with_reducible repeat (first | refine zai ?_ _ | refine zao ?_ | refine zaj ?_ _)); refine zet ?_ NB185_197.out _; (with_reducible repeat (first | refine zai ?_ _ | refine zao ?_ | refine zaj ?_ _)); refine zet ?_ NB185_197.out _; (with_reducible repeat (first | refine zai ?_ _ | refine zao ?_ | refine zaj ?_ _)); refine zet ?_ NB185_197.out _; (with_reducible repeat (first | refine zai ?_ _ | refine zao ?_ | refine zaj ?_ _)); exact BK185.out) hb); have n7_ := Aside0.mk (zbf (g := gb197) (o := .cells #[.int .i64 t189, .slice Ao21 t190.length co21, .slice Ao22 t193.length co22] 24 (0, 0)) (by (with_reducible repeat (first | refine zai ?_ _ | refine zao ?_ | refine zaj ?_ _)); refine zdl (cs := #[.int .i64 t189, .slice Ao21 t190.length co21, .slice none 0 0]) ?_ 2 _ rfl; (with_reducible repeat (first | refine zai ?_ _ | refine zao ?_ | refine zaj ?_ _)); refine zdl (cs := #[.int .i64 t189, .slice none 0 0, .slice none 0 0]) ?_ 1 _ rfl; (with_reducible repeat (first | refine zai ?_ _ | refine zao ?_ | refine zaj ?_ _)); refine zdl (cs := #[.int .i64 0, .slice none 0 0, .slice none 0 0]) ?_ 0 _ rfl; (with_reducible repeat (first | refine zai ?_ _ | refine zao ?_ | refine zaj ?_ _)); exact BK197.out) hb); have n8_ := Aside0.mk (zbh (by repeat (first | (with_reducible first | exact HB.out | apply zah | apply zab | apply zaf | refine zag ?_ GE185.out | refine zag ?_ GE197.out) | exact HB.out)) hb); clear HO176 HO180 HO183 HO188 HO192 HO195 BK185 BK197 HB; have HO176 := n0_; have HO180 := n1_; have HO183 := n2_; have HO188 := n3_; have HO192 := n4_; have HO195 := n5_; have BK185 := n6_; have BK197 := n7_; have HB := n8_; clear n0_ n1_ n2_ n3_ n4_ n5_ n6_ n7_ n8_; (try clear hb); (try clear hb2); (try clear hk); (try clear hi)))
    go_meet
    case rel => exact ⟨_, ((t196 != t184)), (by first | rfl | (simp; done) | (simp [*]; done)), H', ⟨by first | omega | exact zbq _⟩, ⟨by (with_reducible repeat (first | apply zam | apply zan | apply zaq)); exact zaz HO188.out (fun _ hk => ⟨hk.1.1.1.2, ⟨hk.1.1.2, ⟨hk.1.2, hk.2⟩⟩⟩)⟩, ⟨by (with_reducible repeat (first | apply zam | apply zan | apply zaq)); exact zaz HO180.out (fun _ hk => ⟨hk.1.1.2, ⟨hk.1.1.1.1, ⟨hk.1.2, hk.2⟩⟩⟩)⟩, ⟨by (with_reducible repeat (first | apply zam | apply zan | apply zaq)); exact zaz HO183.out (fun _ hk => ⟨hk.1.1.2, ⟨hk.1.1.1.1, ⟨hk.1.2, hk.2⟩⟩⟩)⟩, ⟨by (with_reducible repeat (first | apply zam | apply zan | apply zaq)); exact zaz HO192.out (fun _ hk => ⟨hk.2, ⟨hk.1.1.2, ⟨hk.1.2, hk.1.1.1.1⟩⟩⟩)⟩, ⟨by (with_reducible repeat (first | apply zam | apply zan | apply zaq)); exact zaz HO195.out (fun _ hk => ⟨hk.2, ⟨hk.1.1.2, ⟨hk.1.2, hk.1.1.1.1⟩⟩⟩)⟩, ⟨by (with_reducible repeat (first | refine zai ?_ _ | refine zao ?_ | refine zaj ?_ _)); exact BK185.out⟩, ⟨by (with_reducible repeat (first | refine zai ?_ _ | refine zao ?_ | refine zaj ?_ _)); exact BK197.out⟩, ⟨by repeat (first | (with_reducible first | exact HB.out | apply zah | apply zab | apply zaf | refine zag ?_ GE185.out | refine zag ?_ GE197.out) | exact HB.out)⟩⟩
   ·replace c24 := zdk.mpr c24
    subst c24
    have H1 : (laws_FnExactLetterOf.j0 k l0 t184 t186 t196 true t177 t178 t181 t189 t190 t193) = some r := by rw [if_neg (show ¬ (false = true) by decide)] at H; exact H
    clear H
    have H := H1
    clear H1
    have H' := Aside0.mk H
    clear H
    have hnb29 := NB197_185.out
    have hnc29 := NB185_197.out
    have hcz30_0 : w18.cell? ⟨gb197, 0, none⟩ = some (.int .i64 0) := (zbc BK197.out 0).trans rfl
    have hcz30_1 : w18.cell? ⟨gb197, 1, none⟩ = some (.slice none 0 0) := (zbc BK197.out 1).trans rfl
    have hcz30_2 : w18.cell? ⟨gb197, 2, none⟩ = some (.slice none 0 0) := (zbc BK197.out 2).trans rfl
    have hfz30_0 := zau BK197.out 0
    have hfz30_1 := zau BK197.out 1
    have hfz30_2 := zau BK197.out 2
    have hcz31_0 : w18.cell? ⟨gb185, 0, none⟩ = some (.int .i64 t177) := (zbc BK185.out 0).trans rfl
    have hcz31_1 : w18.cell? ⟨gb185, 1, none⟩ = some (.slice Ao13 t178.length co13) := (zbc BK185.out 1).trans rfl
    have hcz31_2 : w18.cell? ⟨gb185, 2, none⟩ = some (.slice Ao14 t181.length co14) := (zbc BK185.out 2).trans rfl
    have hfz31_0 := zau BK185.out 0
    have hfz31_1 := zau BK185.out 1
    have hfz31_2 := zau BK185.out 2
    go_wp2_with (first | ((with_reducible refine zcl (f := 12) rfl ?_); refine goesL_ (some 31) rfl rfl Try.func12 (by kernel_rfl) rfl #[.agg #[.int .i64 t189, .slice Ao21 t190.length co21, .slice Ao22 t193.length co22], .agg #[.int .i64 t177, .slice Ao13 t178.length co13, .slice Ao14 t181.length co14]] rfl (by (try simp only [zbg, zbs, zbt]); first | done | rfl) ?_; (with_reducible refine (laws_eqLetter.calls k t189 _ _ t190 _ _ t193 t177 _ _ t178 _ _ t181 false _ ?side1 ?side2 ?side3 ?side4 ?side5 ?side6 ?side7 ?side8 A23.out).mono ?_); (case side1 => refine (zba (e := 5) (base := w.heap.size) (ok := fun k_ => ((((some k_ ≠ (.slice Ao22 t193.length co22 : Value).ownBlock ∧ some k_ ≠ (.slice Ao9 t174.length co9 : Value).ownBlock) ∧ some k_ ≠ (.slice Ao13 t178.length co13 : Value).ownBlock) ∧ some k_ ≠ (.slice Ao14 t181.length co14 : Value).ownBlock) ∧ some k_ ≠ (.slice Ao16 t186.length co16 : Value).ownBlock)) (n := t190.length) (c := co21) ?_).2.2; exact (by (with_reducible repeat (first | apply zam | apply zan | apply zaq)); exact (zaz (zax (p := ⟨gb197, 2, none⟩) (zax (p := ⟨gb197, 1, none⟩) (zax (p := ⟨gb197, 0, none⟩) (zbw HO192.out BK197.out (by decide)) (fun _ hk => hk.2) (.int .i64 t189)) (fun _ hk => hk.2) (.slice Ao21 t190.length co21)) (fun _ hk => hk.2) (.slice Ao22 t193.length co22)) (fun _ h_ => h_.1)))); (case side2 => exact (zba HO192.out).2.1); (case side3 => refine (zba (e := 5) (base := w.heap.size) (ok := fun k_ => ((((some k_ ≠ (.slice Ao21 t190.length co21 : Value).ownBlock ∧ some k_ ≠ (.slice Ao9 t174.length co9 : Value).ownBlock) ∧ some k_ ≠ (.slice Ao13 t178.length co13 : Value).ownBlock) ∧ some k_ ≠ (.slice Ao14 t181.length co14 : Value).ownBlock) ∧ some k_ ≠ (.slice Ao16 t186.length co16 : Value).ownBlock)) (n := t193.length) (c := co22) ?_).2.2; exact (by (with_reducible repeat (first | apply zam | apply zan | apply zaq)); exact (zaz (zax (p := ⟨gb197, 2, none⟩) (zax (p := ⟨gb197, 1, none⟩) (zax (p := ⟨gb197, 0, none⟩) (zbw HO195.out BK197.out (by decide)) (fun _ hk => hk.2) (.int .i64 t189)) (fun _ hk => hk.2) (.slice Ao21 t190.length co21)) (fun _ hk => hk.2) (.slice Ao22 t193.length co22)) (fun _ h_ => h_.1)))); (case side4 => exact (zba HO195.out).2.1); (case side5 => refine (zba (e := 5) (base := w.heap.size) (ok := fun k_ => ((((some k_ ≠ (.slice Ao14 t181.length co14 : Value).ownBlock ∧ some k_ ≠ (.slice Ao9 t174.length co9 : Value).ownBlock) ∧ some k_ ≠ (.slice Ao16 t186.length co16 : Value).ownBlock) ∧ some k_ ≠ (.slice Ao21 t190.length co21 : Value).ownBlock) ∧ some k_ ≠ (.slice Ao22 t193.length co22 : Value).ownBlock)) (n := t178.length) (c := co13) ?_).2.2; exact (by (with_reducible repeat (first | apply zam | apply zan | apply zaq)); exact (zaz (zax (p := ⟨gb197, 2, none⟩) (zax (p := ⟨gb197, 1, none⟩) (zax (p := ⟨gb197, 0, none⟩) (zbw HO180.out BK197.out (by decide)) (fun _ hk => hk.2) (.int .i64 t189)) (fun _ hk => hk.2) (.slice Ao21 t190.length co21)) (fun _ hk => hk.2) (.slice Ao22 t193.length co22)) (fun _ h_ => h_.1)))); (case side6 => exact (zba HO180.out).2.1); (case side7 => refine (zba (e := 5) (base := w.heap.size) (ok := fun k_ => ((((some k_ ≠ (.slice Ao13 t178.length co13 : Value).ownBlock ∧ some k_ ≠ (.slice Ao9 t174.length co9 : Value).ownBlock) ∧ some k_ ≠ (.slice Ao16 t186.length co16 : Value).ownBlock) ∧ some k_ ≠ (.slice Ao21 t190.length co21 : Value).ownBlock) ∧ some k_ ≠ (.slice Ao22 t193.length co22 : Value).ownBlock)) (n := t181.length) (c := co14) ?_).2.2; exact (by (with_reducible repeat (first | apply zam | apply zan | apply zaq)); exact (zaz (zax (p := ⟨gb197, 2, none⟩) (zax (p := ⟨gb197, 1, none⟩) (zax (p := ⟨gb197, 0, none⟩) (zbw HO183.out BK197.out (by decide)) (fun _ hk => hk.2) (.int .i64 t189)) (fun _ hk => hk.2) (.slice Ao21 t190.length co21)) (fun _ hk => hk.2) (.slice Ao22 t193.length co22)) (fun _ h_ => h_.1)))); (case side8 => exact (zba HO183.out).2.1); rintro e w32 ⟨rfl, hb⟩; refine ⟨_, rfl, ?_⟩; have n0_ := Aside0.mk (zbe (by (with_reducible repeat (first | apply zam | apply zan | apply zaq)); exact (zaz (zax (p := ⟨gb197, 2, none⟩) (zax (p := ⟨gb197, 1, none⟩) (zax (p := ⟨gb197, 0, none⟩) (zbw HO176.out BK197.out (by decide)) (fun _ hk => hk.2) (.int .i64 t189)) (fun _ hk => hk.2) (.slice Ao21 t190.length co21)) (fun _ hk => hk.2) (.slice Ao22 t193.length co22)) (fun _ h_ => h_.1))) hb); have n1_ := Aside0.mk (zbe (by (with_reducible repeat (first | apply zam | apply zan | apply zaq)); exact (zaz (zax (p := ⟨gb197, 2, none⟩) (zax (p := ⟨gb197, 1, none⟩) (zax (p := ⟨gb197, 0, none⟩) (zbw HO180.out BK197.out (by decide)) (fun _ hk => hk.2) (.int .i64 t189)) (fun _ hk => hk.2) (.slice Ao21 t190.length co21)) (fun _ hk => hk.2) (.slice Ao22 t193.length co22)) (fun _ h_ => h_.1))) hb); have n2_ := Aside0.mk (zbe (by (with_reducible repeat (first | apply zam | apply zan | apply zaq)); exact (zaz (zax (p := ⟨gb197, 2, none⟩) (zax (p := ⟨gb197, 1, none⟩) (zax (p := ⟨gb197, 0, none⟩) (zbw HO183.out BK197.out (by decide)) (fun _ hk => hk.2) (.int .i64 t189)) (fun _ hk => hk.2) (.slice Ao21 t190.length co21)) (fun _ hk => hk.2) (.slice Ao22 t193.length co22)) (fun _ h_ => h_.1))) hb); have n3_ := Aside0.mk (zbe (by (with_reducible repeat (first | apply zam | apply zan | apply zaq)); exact (zaz (zax (p := ⟨gb197, 2, none⟩) (zax (p := ⟨gb197, 1, none⟩) (zax (p := ⟨gb197, 0, none⟩) (zbw HO188.out BK197.out (by decide)) (fun _ hk => hk.2) (.int .i64 t189)) (fun _ hk => hk.2) (.slice Ao21 t190.length co21)) (fun _ hk => hk.2) (.slice Ao22 t193.length co22)) (fun _ h_ => h_.1))) hb); have n4_ := Aside0.mk (zbe (by (with_reducible repeat (first | apply zam | apply zan | apply zaq)); exact (zaz (zax (p := ⟨gb197, 2, none⟩) (zax (p := ⟨gb197, 1, none⟩) (zax (p := ⟨gb197, 0, none⟩) (zbw HO192.out BK197.out (by decide)) (fun _ hk => hk.2) (.int .i64 t189)) (fun _ hk => hk.2) (.slice Ao21 t190.length co21)) (fun _ hk => hk.2) (.slice Ao22 t193.length co22)) (fun _ h_ => h_.1))) hb); have n5_ := Aside0.mk (zbe (by (with_reducible repeat (first | apply zam | apply zan | apply zaq)); exact (zaz (zax (p := ⟨gb197, 2, none⟩) (zax (p := ⟨gb197, 1, none⟩) (zax (p := ⟨gb197, 0, none⟩) (zbw HO195.out BK197.out (by decide)) (fun _ hk => hk.2) (.int .i64 t189)) (fun _ hk => hk.2) (.slice Ao21 t190.length co21)) (fun _ hk => hk.2) (.slice Ao22 t193.length co22)) (fun _ h_ => h_.1))) hb); have n6_ := Aside0.mk (zbf (g := gb185) (o := .cells #[.int .i64 t177, .slice Ao13 t178.length co13, .slice Ao14 t181.length co14] 24 (0, 0)) (by (with_reducible repeat (first | refine zai ?_ _ | refine zao ?_ | refine zaj ?_ _)); refine zet ?_ NB185_197.out _; (with_reducible repeat (first | refine zai ?_ _ | refine zao ?_ | refine zaj ?_ _)); refine zet ?_ NB185_197.out _; (with_reducible repeat (first | refine zai ?_ _ | refine zao ?_ | refine zaj ?_ _)); refine zet ?_ NB185_197.out _; (with_reducible repeat (first | refine zai ?_ _ | refine zao ?_ | refine zaj ?_ _)); exact BK185.out) hb); have n7_ := Aside0.mk (zbf (g := gb197) (o := .cells #[.int .i64 t189, .slice Ao21 t190.length co21, .slice Ao22 t193.length co22] 24 (0, 0)) (by (with_reducible repeat (first | refine zai ?_ _ | refine zao ?_ | refine zaj ?_ _)); refine zdl (cs := #[.int .i64 t189, .slice Ao21 t190.length co21, .slice none 0 0]) ?_ 2 _ rfl; (with_reducible repeat (first | refine zai ?_ _ | refine zao ?_ | refine zaj ?_ _)); refine zdl (cs := #[.int .i64 t189, .slice none 0 0, .slice none 0 0]) ?_ 1 _ rfl; (with_reducible repeat (first | refine zai ?_ _ | refine zao ?_ | refine zaj ?_ _)); refine zdl (cs := #[.int .i64 0, .slice none 0 0, .slice none 0 0]) ?_ 0 _ rfl; (with_reducible repeat (first | refine zai ?_ _ | refine zao ?_ | refine zaj ?_ _)); exact BK197.out) hb); have n8_ := Aside0.mk (zbh (by repeat (first | (with_reducible first | exact HB.out | apply zah | apply zab | apply zaf | refine zag ?_ GE185.out | refine zag ?_ GE197.out) | exact HB.out)) hb); clear HO176 HO180 HO183 HO188 HO192 HO195 BK185 BK197 HB; have HO176 := n0_; have HO180 := n1_; have HO183 := n2_; have HO188 := n3_; have HO192 := n4_; have HO195 := n5_; have BK185 := n6_; have BK197 := n7_; have HB := n8_; clear n0_ n1_ n2_ n3_ n4_ n5_ n6_ n7_ n8_; (try clear hb); (try clear hb2); (try clear hk); (try clear hi)))
    go_meet
    case rel => exact ⟨_, (true), (by first | rfl | (simp; done) | (simp [*]; done)), H', ⟨by first | omega | exact zbq _⟩, ⟨by (with_reducible repeat (first | apply zam | apply zan | apply zaq)); exact zaz HO188.out (fun _ hk => ⟨hk.1.1.1.2, ⟨hk.1.1.2, ⟨hk.1.2, hk.2⟩⟩⟩)⟩, ⟨by (with_reducible repeat (first | apply zam | apply zan | apply zaq)); exact zaz HO180.out (fun _ hk => ⟨hk.1.1.2, ⟨hk.1.1.1.1, ⟨hk.1.2, hk.2⟩⟩⟩)⟩, ⟨by (with_reducible repeat (first | apply zam | apply zan | apply zaq)); exact zaz HO183.out (fun _ hk => ⟨hk.1.1.2, ⟨hk.1.1.1.1, ⟨hk.1.2, hk.2⟩⟩⟩)⟩, ⟨by (with_reducible repeat (first | apply zam | apply zan | apply zaq)); exact zaz HO192.out (fun _ hk => ⟨hk.2, ⟨hk.1.1.2, ⟨hk.1.2, hk.1.1.1.1⟩⟩⟩)⟩, ⟨by (with_reducible repeat (first | apply zam | apply zan | apply zaq)); exact zaz HO195.out (fun _ hk => ⟨hk.2, ⟨hk.1.1.2, ⟨hk.1.2, hk.1.1.1.1⟩⟩⟩)⟩, ⟨by (with_reducible repeat (first | refine zai ?_ _ | refine zao ?_ | refine zaj ?_ _)); exact BK185.out⟩, ⟨by (with_reducible repeat (first | refine zai ?_ _ | refine zao ?_ | refine zaj ?_ _)); exact BK197.out⟩, ⟨by repeat (first | (with_reducible first | exact HB.out | apply zah | apply zab | apply zaf | refine zag ?_ GE185.out | refine zag ?_ GE197.out) | exact HB.out)⟩⟩
  case rest =>
   clear HC7
   try clear c1
   try clear c2
   try clear c2b0
   try clear c2b1
   try clear p2
   try clear c3
   try clear c9
   try clear c10
   try clear c11
   try clear c12
   try clear c19
   try clear c24
   try clear c25
   try clear c29
   try clear hcz12_0
   try clear hcz12_1
   try clear hcz12_2
   try clear hcz20_0
   try clear hcz20_1
   try clear hcz20_2
   try clear hcz26_0
   try clear hcz26_1
   try clear hcz26_2
   try clear hcz27_0
   try clear hcz27_1
   try clear hcz27_2
   try clear hcz30_0
   try clear hcz30_1
   try clear hcz30_2
   try clear hcz31_0
   try clear hcz31_1
   try clear hcz31_2
   try clear hfz12_0
   try clear hfz12_1
   try clear hfz12_2
   try clear hfz20_0
   try clear hfz20_1
   try clear hfz20_2
   try clear hfz26_0
   try clear hfz26_1
   try clear hfz26_2
   try clear hfz27_0
   try clear hfz27_1
   try clear hfz27_2
   try clear hfz30_0
   try clear hfz30_1
   try clear hfz30_2
   try clear hfz31_0
   try clear hfz31_1
   try clear hfz31_2
   obtain ⟨kq, x37_6, rfl, HA, HJ6, HO_5, HO_186001, HO_186002, HO_198001, HO_198002, BK185, BK197, HB⟩ := hcut
   cases kq with
   | zero => exact absurd HA.out (by simp [laws_FnExactLetterOf.j0])
   | succ kj6 =>
    have H := HA.out
    clear HA
    simp only [laws_FnExactLetterOf.j0] at H
    by_cases c33 : x37_6 = true
    ·subst c33
     have H1 : (some false) = some r := by rw [if_pos rfl] at H; exact H
     clear H
     have H := H1
     clear H1
     obtain rfl := Option.some.inj H
     go_wp2
     go_ret
     exact ⟨by first | rfl | (simp [zcd, zce] <;> rfl) | (simp [*, zcd, zce] <;> rfl), by repeat (first | (with_reducible first | exact HB.out | apply zah | apply zab | apply zaf | refine zag ?_ GE185.out | refine zag ?_ GE197.out) | exact HB.out)⟩
    ·replace c33 := zdk.mpr c33
     subst c33
     have H1 : ((laws_toByteS.f kj6 l0).bind fun t199 => ((laws_eqByteS.f kj6 t186 t199).bind fun t202 => (if t202 = true then ((laws_markByteS.f kj6 t186 1).bind fun bt203 => (if bt203.1 < 0 then (laws_FnExactLetterOf.j1 kj6 l0 t184 true t177 t178 t181 t189 t190 t193) else ((laws_eqLetter.f kj6 t189 t190 t193 t177 t178 t181).bind fun t205 => (if t205 = true then (laws_FnExactLetterOf.j1 kj6 l0 t184 (t196 != t184) t177 t178 t181 t189 t190 t193) else (laws_FnExactLetterOf.j1 kj6 l0 t184 true t177 t178 t181 t189 t190 t193))))) else (some false)))) = some r := by rw [if_neg (show ¬ (false = true) by decide)] at H; exact H
     clear H
     have H := H1
     clear H1
     replace H := zbm.mp H
     obtain ⟨t199, A340, H⟩ := H
     try dsimp only at H
     have A34 := Aside0.mk A340
     clear A340
     replace H := zbm.mp H
     obtain ⟨t202, A350, H⟩ := H
     try dsimp only at H
     have A35 := Aside0.mk A350
     clear A350
     by_cases c36 : t202 = true
     ·subst c36
      have H1 : ((laws_markByteS.f kj6 t186 1).bind fun bt203 => (if bt203.1 < 0 then (laws_FnExactLetterOf.j1 kj6 l0 t184 true t177 t178 t181 t189 t190 t193) else ((laws_eqLetter.f kj6 t189 t190 t193 t177 t178 t181).bind fun t205 => (if t205 = true then (laws_FnExactLetterOf.j1 kj6 l0 t184 (t196 != t184) t177 t178 t181 t189 t190 t193) else (laws_FnExactLetterOf.j1 kj6 l0 t184 true t177 t178 t181 t189 t190 t193))))) = some r := by rw [if_pos rfl] at H; exact H
      clear H
      have H := H1
      clear H1
      replace H := zbm.mp H
      obtain ⟨⟨t203, t204⟩, A370, H⟩ := H
      try dsimp only at H
      have A37 := Aside0.mk A370
      clear A370
      have HC38 := Aside0.mk H
      clear H
      go_upto_region 12 with (first | ((with_reducible refine zcl (f := 10) rfl ?_); refine goesL_ (some 40) rfl rfl Try.func10 (by kernel_rfl) rfl #[.slice A0 l0.length c0] rfl (by (try simp only [zbg, zbs, zbt]); first | done | rfl) ?_; (with_reducible refine (laws_toByteS.calls kj6 _ _ l0 t199 _ ?side1 ?side2 A34.out).mono ?_); (case side1 => repeat (first | exact (zde HR0.out HB.out) | (with_reducible first | apply zbu | apply zbv | apply zca))); (case side2 => exact HC0.out); rintro e w39 ⟨v200, rfl, ho0, hb⟩; refine ⟨_, rfl, ?_⟩; have qHO_5 := Kd.R_ofs (by (with_reducible repeat (first | apply zam | apply zan | apply zaq)); exact HO_5.out) hb; have n0_ := Aside0.mk (zdh qHO_5 (zbl ho0) hb); have qHO_186001 := Kd.R_ofs (by (with_reducible repeat (first | apply zam | apply zan | apply zaq)); exact HO_186001.out) hb; have n1_ := Aside0.mk (zdh qHO_186001 (zbl ho0) hb); have qHO_186002 := Kd.R_ofs (by (with_reducible repeat (first | apply zam | apply zan | apply zaq)); exact HO_186002.out) hb; have n2_ := Aside0.mk (zdh qHO_186002 (zbl ho0) hb); have qHO_198001 := Kd.R_ofs (by (with_reducible repeat (first | apply zam | apply zan | apply zaq)); exact HO_198001.out) hb; have n3_ := Aside0.mk (zdh qHO_198001 (zbl ho0) hb); have qHO_198002 := Kd.R_ofs (by (with_reducible repeat (first | apply zam | apply zan | apply zaq)); exact HO_198002.out) hb; have n4_ := Aside0.mk (zdh qHO_198002 (zbl ho0) hb); have n5_ := Aside0.mk (zdd (zcr (zcr (zcr (zcr (zcr ho0 (zdf qHO_5)) (zdf qHO_186001)) (zdf qHO_186002)) (zdf qHO_198001)) (zdf qHO_198002)) (zat (by repeat (first | (with_reducible first | exact HB.out | apply zah | apply zab | apply zaf | refine zag ?_ GE185.out | refine zag ?_ GE197.out) | exact HB.out)))); have n6_ := Aside0.mk (zbf (g := gb185) (o := .cells #[.int .i64 t177, .slice Ao13 t178.length co13, .slice Ao14 t181.length co14] 24 (0, 0)) (by (with_reducible repeat (first | refine zai ?_ _ | refine zao ?_ | refine zaj ?_ _)); exact BK185.out) hb); have n7_ := Aside0.mk (zbf (g := gb197) (o := .cells #[.int .i64 t189, .slice Ao21 t190.length co21, .slice Ao22 t193.length co22] 24 (0, 0)) (by (with_reducible repeat (first | refine zai ?_ _ | refine zao ?_ | refine zaj ?_ _)); exact BK197.out) hb); have n8_ := Aside0.mk (zbh (by repeat (first | (with_reducible first | exact HB.out | apply zah | apply zab | apply zaf | refine zag ?_ GE185.out | refine zag ?_ GE197.out) | exact HB.out)) hb); clear qHO_186001 HO_5; clear qHO_186002 HO_186001; clear qHO_198001 HO_186002; clear qHO_198002 HO_198001; clear qHO_5 HO_198002; clear BK185 BK197 HB; have HO_5 := n0_; have HO_186001 := n1_; have HO_186002 := n2_; have HO_198001 := n3_; have HO_198002 := n4_; have HO201 := n5_; have BK185 := n6_; have BK197 := n7_; have HB := n8_; clear n0_ n1_ n2_ n3_ n4_ n5_ n6_ n7_ n8_; clear hb ho0; obtain ⟨Ao40, co40, eo40⟩ := zcz HO201.out; subst eo40) | ((with_reducible refine zcl (f := 13) rfl ?_); refine goesL_ (some 41) rfl rfl Try.func13 (by kernel_rfl) rfl #[.slice Ao16 t186.length co16, .slice Ao40 t199.length co40] rfl (by (try simp only [zbg, zbs, zbt]); first | done | rfl) ?_; (with_reducible refine (laws_eqByteS.calls kj6 _ _ t186 _ _ t199 true _ ?side1 ?side2 ?side3 ?side4 A35.out).mono ?_); (case side1 => repeat (first | exact (zba HO_5.out).2.2 | (with_reducible first | apply zbu | apply zbv | apply zca))); (case side2 => exact (zba HO_5.out).2.1); (case side3 => repeat (first | exact (zba HO201.out).2.2 | (with_reducible first | apply zbu | apply zbv | apply zca))); (case side4 => exact (zba HO201.out).2.1); rintro e w' ⟨rfl, ⟨nd, rfl⟩⟩; refine ⟨_, rfl, ?_⟩) | ((with_reducible refine zcl (f := 14) rfl ?_); refine goesL_ (some 45) rfl rfl Try.func14 (by kernel_rfl) rfl #[.slice Ao16 t186.length co16, .int .i64 1] rfl (by (try simp only [zbg, zbs, zbt]); first | done | rfl) ?_; (with_reducible refine (laws_markByteS.calls kj6 (fun k_ => some k_ = (.slice Ao16 t186.length co16 : Value).ownBlock) (.slice Ao16 t186.length co16) t186 1 t203 t204 w _ ?side1 ?side2 A37.out).mono ?_); (case side1 => repeat (first | (with_reducible first | exact HB.out | apply zah | apply zab | apply zaf | refine zag ?_ GE185.out | refine zag ?_ GE197.out) | exact HB.out)); (case side2 => exact Kd.R_tight rfl HO_5.out); rintro e w41 ⟨rfl, hy0, hb, hkp⟩; refine ⟨_, rfl, ?_⟩; have n0_ := Aside0.mk (Kd.R_reok rfl hy0 (fun k_ e_ => HO_5.out.1 k_ e_)); have n1_ := Aside0.mk (zaz (ok' := fun k_ => some k_ ≠ (.slice Ao16 t186.length co16 : Value).ownBlock ∧ some k_ ≠ (.slice Ao14 t181.length co14 : Value).ownBlock ∧ some k_ ≠ (.slice Ao21 t190.length co21 : Value).ownBlock ∧ some k_ ≠ (.slice Ao22 t193.length co22 : Value).ownBlock ∧ some k_ ≠ (.slice Ao40 t199.length co40 : Value).ownBlock) (zeu (HO_186001.out) hkp (fun k_ hk_ hs_ => (hk_.1.1) hs_)) (fun k_ hk_ => ⟨hk_.1.1.1, hk_.1.1.2.1, hk_.1.1.2.2.1, hk_.1.1.2.2.2, hk_.1.2⟩)); have n2_ := Aside0.mk (zaz (ok' := fun k_ => some k_ ≠ (.slice Ao16 t186.length co16 : Value).ownBlock ∧ some k_ ≠ (.slice Ao13 t178.length co13 : Value).ownBlock ∧ some k_ ≠ (.slice Ao21 t190.length co21 : Value).ownBlock ∧ some k_ ≠ (.slice Ao22 t193.length co22 : Value).ownBlock ∧ some k_ ≠ (.slice Ao40 t199.length co40 : Value).ownBlock) (zeu (HO_186002.out) hkp (fun k_ hk_ hs_ => (hk_.1.1) hs_)) (fun k_ hk_ => ⟨hk_.1.1.1, hk_.1.1.2.1, hk_.1.1.2.2.1, hk_.1.1.2.2.2, hk_.1.2⟩)); have n3_ := Aside0.mk (zaz (ok' := fun k_ => some k_ ≠ (.slice Ao16 t186.length co16 : Value).ownBlock ∧ some k_ ≠ (.slice Ao13 t178.length co13 : Value).ownBlock ∧ some k_ ≠ (.slice Ao14 t181.length co14 : Value).ownBlock ∧ some k_ ≠ (.slice Ao22 t193.length co22 : Value).ownBlock ∧ some k_ ≠ (.slice Ao40 t199.length co40 : Value).ownBlock) (zeu (HO_198001.out) hkp (fun k_ hk_ hs_ => (hk_.1.1) hs_)) (fun k_ hk_ => ⟨hk_.1.1.1, hk_.1.1.2.1, hk_.1.1.2.2.1, hk_.1.1.2.2.2, hk_.1.2⟩)); have n4_ := Aside0.mk (zaz (ok' := fun k_ => some k_ ≠ (.slice Ao16 t186.length co16 : Value).ownBlock ∧ some k_ ≠ (.slice Ao13 t178.length co13 : Value).ownBlock ∧ some k_ ≠ (.slice Ao14 t181.length co14 : Value).ownBlock ∧ some k_ ≠ (.slice Ao21 t190.length co21 : Value).ownBlock ∧ some k_ ≠ (.slice Ao40 t199.length co40 : Value).ownBlock) (zeu (HO_198002.out) hkp (fun k_ hk_ hs_ => (hk_.1.1) hs_)) (fun k_ hk_ => ⟨hk_.1.1.1, hk_.1.1.2.1, hk_.1.1.2.2.1, hk_.1.1.2.2.2, hk_.1.2⟩)); have n5_ := Aside0.mk (blk_kept (by (with_reducible repeat (first | refine zai ?_ _ | refine zao ?_ | refine zaj ?_ _)); exact BK185.out) hkp (fun hs_ => (fun e_ => (Kd.R_ne HO_5.out BK185.out (by decide)) e_) hs_)); have n6_ := Aside0.mk (blk_kept (by (with_reducible repeat (first | refine zai ?_ _ | refine zao ?_ | refine zaj ?_ _)); exact BK197.out) hkp (fun hs_ => (fun e_ => (Kd.R_ne HO_5.out BK197.out (by decide)) e_) hs_)); have n7_ := Aside0.mk (zaz (ok' := fun k_ => some k_ ≠ (.slice Ao16 t186.length co16 : Value).ownBlock ∧ some k_ ≠ (.slice Ao13 t178.length co13 : Value).ownBlock ∧ some k_ ≠ (.slice Ao14 t181.length co14 : Value).ownBlock ∧ some k_ ≠ (.slice Ao21 t190.length co21 : Value).ownBlock ∧ some k_ ≠ (.slice Ao22 t193.length co22 : Value).ownBlock) (zeu (HO201.out) hkp (fun k_ hk_ hs_ => (hk_.1.1.1.1.2) hs_)) (fun k_ hk_ => ⟨hk_.1.1.1.1.1.2, hk_.1.1.1.1.2, hk_.1.1.1.2, hk_.1.1.2, hk_.1.2⟩)); have n8_ := Aside0.mk (hb); clear HO_5 HO_186001 HO_186002 HO_198001 HO_198002 BK185 BK197 HO201 HB; have HO_5 := n0_; have HO_186001 := n1_; have HO_186002 := n2_; have HO_198001 := n3_; have HO_198002 := n4_; have BK185 := n5_; have BK197 := n6_; have HO201 := n7_; have HB := n8_; clear n0_ n1_ n2_ n3_ n4_ n5_ n6_ n7_ n8_; (try clear hb); (try clear hkp); (try clear hy0)))
      (try simp only [Act.put, zaa, zac, zad])
      go_cut [58] (fun v58 wc => ∃ (kq : Nat) (x58_37 : Bool), v58 = .bool x58_37 ∧ Aside0 (laws_FnExactLetterOf.j1 kq l0 t184 x58_37 t177 t178 t181 t189 t190 t193 = some r) ∧ Aside0 (kq ≤ kj6) ∧ Aside0 (Kd.R (Kd.int .u8) 5 wc w.heap.size (fun k_ => some k_ ≠ ((.slice Ao14 t181.length co14) : Value).ownBlock ∧ some k_ ≠ ((.slice Ao21 t190.length co21) : Value).ownBlock ∧ some k_ ≠ ((.slice Ao22 t193.length co22) : Value).ownBlock) (.slice Ao13 t178.length co13) t178) ∧ Aside0 (Kd.R (Kd.int .u8) 5 wc w.heap.size (fun k_ => some k_ ≠ ((.slice Ao13 t178.length co13) : Value).ownBlock ∧ some k_ ≠ ((.slice Ao21 t190.length co21) : Value).ownBlock ∧ some k_ ≠ ((.slice Ao22 t193.length co22) : Value).ownBlock) (.slice Ao14 t181.length co14) t181) ∧ Aside0 (Kd.R (Kd.int .u8) 5 wc w.heap.size (fun k_ => some k_ ≠ ((.slice Ao13 t178.length co13) : Value).ownBlock ∧ some k_ ≠ ((.slice Ao14 t181.length co14) : Value).ownBlock ∧ some k_ ≠ ((.slice Ao22 t193.length co22) : Value).ownBlock) (.slice Ao21 t190.length co21) t190) ∧ Aside0 (Kd.R (Kd.int .u8) 5 wc w.heap.size (fun k_ => some k_ ≠ ((.slice Ao13 t178.length co13) : Value).ownBlock ∧ some k_ ≠ ((.slice Ao14 t181.length co14) : Value).ownBlock ∧ some k_ ≠ ((.slice Ao21 t190.length co21) : Value).ownBlock) (.slice Ao22 t193.length co22) t193) ∧ Aside0 (wc.heap[gb185]? = some (.cells #[.int .i64 t177, (.slice Ao13 t178.length co13), (.slice Ao14 t181.length co14)] 24 (0, 0))) ∧ Aside0 (wc.heap[gb197]? = some (.cells #[.int .i64 t189, (.slice Ao21 t190.length co21), (.slice Ao22 t193.length co22)] 24 (0, 0))) ∧ Aside0 (Below w.heap.size w wc))
      case first =>
       have H := HC38.out
       clear HC38
       by_cases c42 : t203 < 0
       ·rw [if_pos c42] at H
        have c42b0 : decide (t203 < 0) = true := zbo c42
        clear c42
        (first | rw [c42b0] | (simp only [i64_w, i32_w]; rw [c42b0]) | skip)
        have H' := Aside0.mk H
        clear H
        go_wp2
        go_meet
        case rel => exact ⟨_, (true), (by first | rfl | (simp; done) | (simp [*]; done)), H', ⟨by have := HJ6.out; first | omega | exact zbq _⟩, ⟨by (with_reducible repeat (first | apply zam | apply zan | apply zaq)); exact zaz HO_186001.out (fun _ hk => ⟨hk.2.1, ⟨hk.2.2.1, hk.2.2.2.1⟩⟩)⟩, ⟨by (with_reducible repeat (first | apply zam | apply zan | apply zaq)); exact zaz HO_186002.out (fun _ hk => ⟨hk.2.1, ⟨hk.2.2.1, hk.2.2.2.1⟩⟩)⟩, ⟨by (with_reducible repeat (first | apply zam | apply zan | apply zaq)); exact zaz HO_198001.out (fun _ hk => ⟨hk.2.1, ⟨hk.2.2.1, hk.2.2.2.1⟩⟩)⟩, ⟨by (with_reducible repeat (first | apply zam | apply zan | apply zaq)); exact zaz HO_198002.out (fun _ hk => ⟨hk.2.1, ⟨hk.2.2.1, hk.2.2.2.1⟩⟩)⟩, ⟨by (with_reducible repeat (first | refine zai ?_ _ | refine zao ?_ | refine zaj ?_ _)); exact BK185.out⟩, ⟨by (with_reducible repeat (first | refine zai ?_ _ | refine zao ?_ | refine zaj ?_ _)); exact BK197.out⟩, ⟨by repeat (first | (with_reducible first | exact HB.out | apply zah | apply zab | apply zaf | refine zag ?_ GE185.out | refine zag ?_ GE197.out) | exact HB.out)⟩⟩
       ·rw [if_neg c42] at H
        have c42b0 : decide (t203 < 0) = false := zcv c42
        clear c42
        (first | rw [c42b0] | (simp only [i64_w, i32_w]; rw [c42b0]) | skip)
        replace H := zbm.mp H
        obtain ⟨t205, A430, H⟩ := H
        try dsimp only at H
        have A43 := Aside0.mk A430
        clear A430
        by_cases c44 : t205 = true
        ·subst c44
         have H1 : (laws_FnExactLetterOf.j1 kj6 l0 t184 (t196 != t184) t177 t178 t181 t189 t190 t193) = some r := by rw [if_pos rfl] at H; exact H
         clear H
         have H := H1
         clear H1
         have H' := Aside0.mk H
         clear H
         have hnb45 := NB197_185.out
         have hnc45 := NB185_197.out
         have hcz46_0 : w41.cell? ⟨gb197, 0, none⟩ = some (.int .i64 t189) := (zbc BK197.out 0).trans rfl
         have hcz46_1 : w41.cell? ⟨gb197, 1, none⟩ = some (.slice Ao21 t190.length co21) := (zbc BK197.out 1).trans rfl
         have hcz46_2 : w41.cell? ⟨gb197, 2, none⟩ = some (.slice Ao22 t193.length co22) := (zbc BK197.out 2).trans rfl
         have hfz46_0 := zau BK197.out 0
         have hfz46_1 := zau BK197.out 1
         have hfz46_2 := zau BK197.out 2
         have hcz47_0 : w41.cell? ⟨gb185, 0, none⟩ = some (.int .i64 t177) := (zbc BK185.out 0).trans rfl
         have hcz47_1 : w41.cell? ⟨gb185, 1, none⟩ = some (.slice Ao13 t178.length co13) := (zbc BK185.out 1).trans rfl
         have hcz47_2 : w41.cell? ⟨gb185, 2, none⟩ = some (.slice Ao14 t181.length co14) := (zbc BK185.out 2).trans rfl
         have hfz47_0 := zau BK185.out 0
         have hfz47_1 := zau BK185.out 1
         have hfz47_2 := zau BK185.out 2
         go_wp2_with (first | (go_at_call 12; (with_reducible refine (laws_eqLetter.calls kj6 t189 _ _ t190 _ _ t193 t177 _ _ t178 _ _ t181 true _ ?side1 ?side2 ?side3 ?side4 ?side5 ?side6 ?side7 ?side8 A43.out).mono ?_); (case side1 => repeat (first | exact (zba HO_198001.out).2.2 | (with_reducible first | apply zbu | apply zbv | apply zca))); (case side2 => exact (zba HO_198001.out).2.1); (case side3 => repeat (first | exact (zba HO_198002.out).2.2 | (with_reducible first | apply zbu | apply zbv | apply zca))); (case side4 => exact (zba HO_198002.out).2.1); (case side5 => repeat (first | exact (zba HO_186001.out).2.2 | (with_reducible first | apply zbu | apply zbv | apply zca))); (case side6 => exact (zba HO_186001.out).2.1); (case side7 => repeat (first | exact (zba HO_186002.out).2.2 | (with_reducible first | apply zbu | apply zbv | apply zca))); (case side8 => exact (zba HO_186002.out).2.1); rintro e w48 ⟨rfl, hb⟩; have n0_ := Aside0.mk (zbe (by (with_reducible repeat (first | apply zam | apply zan | apply zaq)); exact HO_5.out) hb); have n1_ := Aside0.mk (zbe (by (with_reducible repeat (first | apply zam | apply zan | apply zaq)); exact HO_186001.out) hb); have n2_ := Aside0.mk (zbe (by (with_reducible repeat (first | apply zam | apply zan | apply zaq)); exact HO_186002.out) hb); have n3_ := Aside0.mk (zbe (by (with_reducible repeat (first | apply zam | apply zan | apply zaq)); exact HO_198001.out) hb); have n4_ := Aside0.mk (zbe (by (with_reducible repeat (first | apply zam | apply zan | apply zaq)); exact HO_198002.out) hb); have n5_ := Aside0.mk (zbe (by (with_reducible repeat (first | apply zam | apply zan | apply zaq)); exact HO201.out) hb); have n6_ := Aside0.mk (zbf (g := gb185) (o := .cells #[.int .i64 t177, .slice Ao13 t178.length co13, .slice Ao14 t181.length co14] 24 (0, 0)) (by (with_reducible repeat (first | refine zai ?_ _ | refine zao ?_ | refine zaj ?_ _)); exact BK185.out) hb); have n7_ := Aside0.mk (zbf (g := gb197) (o := .cells #[.int .i64 t189, .slice Ao21 t190.length co21, .slice Ao22 t193.length co22] 24 (0, 0)) (by (with_reducible repeat (first | refine zai ?_ _ | refine zao ?_ | refine zaj ?_ _)); exact BK197.out) hb); have n8_ := Aside0.mk (zbh (by repeat (first | (with_reducible first | exact HB.out | apply zah | apply zab | apply zaf | refine zag ?_ GE185.out | refine zag ?_ GE197.out) | exact HB.out)) hb); clear HO_5 HO_186001 HO_186002 HO_198001 HO_198002 HO201 BK185 BK197 HB; have HO_5 := n0_; have HO_186001 := n1_; have HO_186002 := n2_; have HO_198001 := n3_; have HO_198002 := n4_; have HO201 := n5_; have BK185 := n6_; have BK197 := n7_; have HB := n8_; clear n0_ n1_ n2_ n3_ n4_ n5_ n6_ n7_ n8_; (try clear hb); (try clear hb2); (try clear hk); (try clear hi)))
         go_meet
         case rel => exact ⟨_, ((t196 != t184)), (by first | rfl | (simp; done) | (simp [*]; done)), H', ⟨by have := HJ6.out; first | omega | exact zbq _⟩, ⟨by (with_reducible repeat (first | apply zam | apply zan | apply zaq)); exact zaz HO_186001.out (fun _ hk => ⟨hk.2.1, ⟨hk.2.2.1, hk.2.2.2.1⟩⟩)⟩, ⟨by (with_reducible repeat (first | apply zam | apply zan | apply zaq)); exact zaz HO_186002.out (fun _ hk => ⟨hk.2.1, ⟨hk.2.2.1, hk.2.2.2.1⟩⟩)⟩, ⟨by (with_reducible repeat (first | apply zam | apply zan | apply zaq)); exact zaz HO_198001.out (fun _ hk => ⟨hk.2.1, ⟨hk.2.2.1, hk.2.2.2.1⟩⟩)⟩, ⟨by (with_reducible repeat (first | apply zam | apply zan | apply zaq)); exact zaz HO_198002.out (fun _ hk => ⟨hk.2.1, ⟨hk.2.2.1, hk.2.2.2.1⟩⟩)⟩, ⟨by (with_reducible repeat (first | refine zai ?_ _ | refine zao ?_ | refine zaj ?_ _)); exact BK185.out⟩, ⟨by (with_reducible repeat (first | refine zai ?_ _ | refine zao ?_ | refine zaj ?_ _)); exact BK197.out⟩, ⟨by repeat (first | (with_reducible first | exact HB.out | apply zah | apply zab | apply zaf | refine zag ?_ GE185.out | refine zag ?_ GE197.out) | exact HB.out)⟩⟩
        ·replace c44 := zdk.mpr c44
         subst c44
         have H1 : (laws_FnExactLetterOf.j1 kj6 l0 t184 true t177 t178 t181 t189 t190 t193) = some r := by rw [if_neg (show ¬ (false = true) by decide)] at H; exact H
         clear H
         have H := H1
         clear H1
         have H' := Aside0.mk H
         clear H
         have hnb49 := NB197_185.out
         have hnc49 := NB185_197.out
         have hcz50_0 : w41.cell? ⟨gb197, 0, none⟩ = some (.int .i64 t189) := (zbc BK197.out 0).trans rfl
         have hcz50_1 : w41.cell? ⟨gb197, 1, none⟩ = some (.slice Ao21 t190.length co21) := (zbc BK197.out 1).trans rfl
         have hcz50_2 : w41.cell? ⟨gb197, 2, none⟩ = some (.slice Ao22 t193.length co22) := (zbc BK197.out 2).trans rfl
         have hfz50_0 := zau BK197.out 0
         have hfz50_1 := zau BK197.out 1
         have hfz50_2 := zau BK197.out 2
         have hcz51_0 : w41.cell? ⟨gb185, 0, none⟩ = some (.int .i64 t177) := (zbc BK185.out 0).trans rfl
         have hcz51_1 : w41.cell? ⟨gb185, 1, none⟩ = some (.slice Ao13 t178.length co13) := (zbc BK185.out 1).trans rfl
         have hcz51_2 : w41.cell? ⟨gb185, 2, none⟩ = some (.slice Ao14 t181.length co14) := (zbc BK185.out 2).trans rfl
         have hfz51_0 := zau BK185.out 0
         have hfz51_1 := zau BK185.out 1
         have hfz51_2 := zau BK185.out 2
         go_wp2_with (first | (go_at_call 12; (with_reducible refine (laws_eqLetter.calls kj6 t189 _ _ t190 _ _ t193 t177 _ _ t178 _ _ t181 false _ ?side1 ?side2 ?side3 ?side4 ?side5 ?side6 ?side7 ?side8 A43.out).mono ?_); (case side1 => repeat (first | exact (zba HO_198001.out).2.2 | (with_reducible first | apply zbu | apply zbv | apply zca))); (case side2 => exact (zba HO_198001.out).2.1); (case side3 => repeat (first | exact (zba HO_198002.out).2.2 | (with_reducible first | apply zbu | apply zbv | apply zca))); (case side4 => exact (zba HO_198002.out).2.1); (case side5 => repeat (first | exact (zba HO_186001.out).2.2 | (with_reducible first | apply zbu | apply zbv | apply zca))); (case side6 => exact (zba HO_186001.out).2.1); (case side7 => repeat (first | exact (zba HO_186002.out).2.2 | (with_reducible first | apply zbu | apply zbv | apply zca))); (case side8 => exact (zba HO_186002.out).2.1); rintro e w52 ⟨rfl, hb⟩; have n0_ := Aside0.mk (zbe (by (with_reducible repeat (first | apply zam | apply zan | apply zaq)); exact HO_5.out) hb); have n1_ := Aside0.mk (zbe (by (with_reducible repeat (first | apply zam | apply zan | apply zaq)); exact HO_186001.out) hb); have n2_ := Aside0.mk (zbe (by (with_reducible repeat (first | apply zam | apply zan | apply zaq)); exact HO_186002.out) hb); have n3_ := Aside0.mk (zbe (by (with_reducible repeat (first | apply zam | apply zan | apply zaq)); exact HO_198001.out) hb); have n4_ := Aside0.mk (zbe (by (with_reducible repeat (first | apply zam | apply zan | apply zaq)); exact HO_198002.out) hb); have n5_ := Aside0.mk (zbe (by (with_reducible repeat (first | apply zam | apply zan | apply zaq)); exact HO201.out) hb); have n6_ := Aside0.mk (zbf (g := gb185) (o := .cells #[.int .i64 t177, .slice Ao13 t178.length co13, .slice Ao14 t181.length co14] 24 (0, 0)) (by (with_reducible repeat (first | refine zai ?_ _ | refine zao ?_ | refine zaj ?_ _)); exact BK185.out) hb); have n7_ := Aside0.mk (zbf (g := gb197) (o := .cells #[.int .i64 t189, .slice Ao21 t190.length co21, .slice Ao22 t193.length co22] 24 (0, 0)) (by (with_reducible repeat (first | refine zai ?_ _ | refine zao ?_ | refine zaj ?_ _)); exact BK197.out) hb); have n8_ := Aside0.mk (zbh (by repeat (first | (with_reducible first | exact HB.out | apply zah | apply zab | apply zaf | refine zag ?_ GE185.out | refine zag ?_ GE197.out) | exact HB.out)) hb); clear HO_5 HO_186001 HO_186002 HO_198001 HO_198002 HO201 BK185 BK197 HB; have HO_5 := n0_; have HO_186001 := n1_; have HO_186002 := n2_; have HO_198001 := n3_; have HO_198002 := n4_; have HO201 := n5_; have BK185 := n6_; have BK197 := n7_; have HB := n8_; clear n0_ n1_ n2_ n3_ n4_ n5_ n6_ n7_ n8_; (try clear hb); (try clear hb2); (try clear hk); (try clear hi)))
         go_meet
         case rel => exact ⟨_, (true), (by first | rfl | (simp; done) | (simp [*]; done)), H', ⟨by have := HJ6.out; first | omega | exact zbq _⟩, ⟨by (with_reducible repeat (first | apply zam | apply zan | apply zaq)); exact zaz HO_186001.out (fun _ hk => ⟨hk.2.1, ⟨hk.2.2.1, hk.2.2.2.1⟩⟩)⟩, ⟨by (with_reducible repeat (first | apply zam | apply zan | apply zaq)); exact zaz HO_186002.out (fun _ hk => ⟨hk.2.1, ⟨hk.2.2.1, hk.2.2.2.1⟩⟩)⟩, ⟨by (with_reducible repeat (first | apply zam | apply zan | apply zaq)); exact zaz HO_198001.out (fun _ hk => ⟨hk.2.1, ⟨hk.2.2.1, hk.2.2.2.1⟩⟩)⟩, ⟨by (with_reducible repeat (first | apply zam | apply zan | apply zaq)); exact zaz HO_198002.out (fun _ hk => ⟨hk.2.1, ⟨hk.2.2.1, hk.2.2.2.1⟩⟩)⟩, ⟨by (with_reducible repeat (first | refine zai ?_ _ | refine zao ?_ | refine zaj ?_ _)); exact BK185.out⟩, ⟨by (with_reducible repeat (first | refine zai ?_ _ | refine zao ?_ | refine zaj ?_ _)); exact BK197.out⟩, ⟨by repeat (first | (with_reducible first | exact HB.out | apply zah | apply zab | apply zaf | refine zag ?_ GE185.out | refine zag ?_ GE197.out) | exact HB.out)⟩⟩
      case rest =>
       clear HC38
       try clear c1
       try clear c2
       try clear c2b0
       try clear c2b1
       try clear p2
       try clear c3
       try clear c4
       try clear c9
       try clear c10
       try clear c11
       try clear c12
       try clear c13
       try clear c14
       try clear c19
       try clear c24
       try clear c25
       try clear c29
       try clear c33
       try clear c36
       try clear c42
       try clear c42b0
       try clear c44
       try clear c45
       try clear c49
       try clear hcz12_0
       try clear hcz12_1
       try clear hcz12_2
       try clear hcz20_0
       try clear hcz20_1
       try clear hcz20_2
       try clear hcz26_0
       try clear hcz26_1
       try clear hcz26_2
       try clear hcz27_0
       try clear hcz27_1
       try clear hcz27_2
       try clear hcz30_0
       try clear hcz30_1
       try clear hcz30_2
       try clear hcz31_0
       try clear hcz31_1
       try clear hcz31_2
       try clear hcz46_0
       try clear hcz46_1
       try clear hcz46_2
       try clear hcz47_0
       try clear hcz47_1
       try clear hcz47_2
       try clear hcz50_0
       try clear hcz50_1
       try clear hcz50_2
       try clear hcz51_0
       try clear hcz51_1
       try clear hcz51_2
       try clear hfz12_0
       try clear hfz12_1
       try clear hfz12_2
       try clear hfz20_0
       try clear hfz20_1
       try clear hfz20_2
       try clear hfz26_0
       try clear hfz26_1
       try clear hfz26_2
       try clear hfz27_0
       try clear hfz27_1
       try clear hfz27_2
       try clear hfz30_0
       try clear hfz30_1
       try clear hfz30_2
       try clear hfz31_0
       try clear hfz31_1
       try clear hfz31_2
       try clear hfz46_0
       try clear hfz46_1
       try clear hfz46_2
       try clear hfz47_0
       try clear hfz47_1
       try clear hfz47_2
       try clear hfz50_0
       try clear hfz50_1
       try clear hfz50_2
       try clear hfz51_0
       try clear hfz51_1
       try clear hfz51_2
       try clear p2
       obtain ⟨kq, x58_37, rfl, HA, HJ37, HO_186001, HO_186002, HO_198001, HO_198002, BK185, BK197, HB⟩ := hcut
       cases kq with
       | zero => exact absurd HA.out (by simp [laws_FnExactLetterOf.j1])
       | succ kj37 =>
        have H := HA.out
        clear HA
        simp only [laws_FnExactLetterOf.j1] at H
        by_cases c53 : x58_37 = true
        ·subst c53
         have H1 : (some false) = some r := by rw [if_pos rfl] at H; exact H
         clear H
         have H := H1
         clear H1
         obtain rfl := Option.some.inj H
         go_wp2
         go_ret
         exact ⟨by first | rfl | (simp [zcd, zce] <;> rfl) | (simp [*, zcd, zce] <;> rfl), by repeat (first | (with_reducible first | exact HB.out | apply zah | apply zab | apply zaf | refine zag ?_ GE185.out | refine zag ?_ GE197.out) | exact HB.out)⟩
        ·replace c53 := zdk.mpr c53
         subst c53
         have H1 : ((laws_markLetter.f kj37 t189 t190 t193 1).bind fun bt206 => ((laws_heldLetter.f kj37 t189 bt206.2.1 bt206.2.2 1).bind fun t209 => (if t209 < 0 then (some false) else (if t209 = bt206.1 then ((laws_toByteS.f kj37 l0).bind fun t210 => ((impl_LetterOf.f kj37 t210).bind fun bt213 => ((laws_eqLetter.f kj37 bt213.1 bt213.2.1 bt213.2.2.1 t177 t178 t181).bind fun t222 => (if t222 = true then (laws_FnExactLetterOf.j2 kj37 bt206.1 (bt213.2.2.2 != t184) t189 bt206.2.1 bt206.2.2) else (laws_FnExactLetterOf.j2 kj37 bt206.1 true t189 bt206.2.1 bt206.2.2))))) else (some false))))) = some r := by rw [if_neg (show ¬ (false = true) by decide)] at H; exact H
         clear H
         have H := H1
         clear H1
         replace H := zbm.mp H
         obtain ⟨⟨t206, t207, t208⟩, A540, H⟩ := H
         try dsimp only at H
         have A54 := Aside0.mk A540
         clear A540
         replace H := zbm.mp H
         obtain ⟨t209, A550, H⟩ := H
         try dsimp only at H
         have A55 := Aside0.mk A550
         clear A550
         by_cases c56 : t209 < 0
         ·rw [if_pos c56] at H
          have c56b0 : decide (t209 < 0) = true := zbo c56
          clear c56
          obtain rfl := Option.some.inj H
          have hnb57 := NB197_185.out
          have hnc57 := NB185_197.out
          have hcz58_0 : wc.cell? ⟨gb197, 0, none⟩ = some (.int .i64 t189) := (zbc BK197.out 0).trans rfl
          have hcz58_1 : wc.cell? ⟨gb197, 1, none⟩ = some (.slice Ao21 t190.length co21) := (zbc BK197.out 1).trans rfl
          have hcz58_2 : wc.cell? ⟨gb197, 2, none⟩ = some (.slice Ao22 t193.length co22) := (zbc BK197.out 2).trans rfl
          have hfz58_0 := zau BK197.out 0
          have hfz58_1 := zau BK197.out 1
          have hfz58_2 := zau BK197.out 2
          go_wp2_with (first | ((with_reducible refine zcl (f := 15) rfl ?_); refine goesL_ (some 61) rfl rfl Try.func15 (by kernel_rfl) rfl #[.agg #[.int .i64 t189, .slice Ao21 t190.length co21, .slice Ao22 t193.length co22], .int .i64 1] rfl (by (try simp only [zbg, zbs, zbt]); first | done | rfl) ?_; (with_reducible refine (laws_markLetter.calls kj37 t189 (fun k_ => some k_ = (.slice Ao21 t190.length co21 : Value).ownBlock) (.slice Ao21 t190.length co21) t190 (fun k_ => some k_ = (.slice Ao22 t193.length co22 : Value).ownBlock) (.slice Ao22 t193.length co22) t193 1 t206 t207 t208 w _ ?side1 ?side2 ?side3 ?side4 ?side5 A54.out).mono ?_); (case side1 => repeat (first | (with_reducible first | exact HB.out | apply zah | apply zab | apply zaf | refine zag ?_ GE185.out | refine zag ?_ GE197.out) | exact HB.out)); (case side2 => exact Kd.R_tight rfl HO_198001.out); (case side3 => exact fun k_ e_ => (HO_198001.out.1 k_ e_.symm).2.2); (case side4 => exact Kd.R_tight rfl HO_198002.out); (case side5 => exact fun k_ e_ => (HO_198002.out.1 k_ e_.symm).2.2); rintro e w59 ⟨rfl, hy0, hy1, hb, hkp⟩; refine ⟨_, rfl, ?_⟩; have n0_ := Aside0.mk (zaz (ok' := fun k_ => some k_ ≠ (.slice Ao14 t181.length co14 : Value).ownBlock ∧ some k_ ≠ (.slice Ao21 t190.length co21 : Value).ownBlock ∧ some k_ ≠ (.slice Ao22 t193.length co22 : Value).ownBlock) (zeu (HO_186001.out) hkp (fun k_ hk_ hs_ => Or.elim hs_ (fun e_ => (hk_.2.1) e_) (fun e_ => (hk_.2.2) e_))) (fun k_ hk_ => ⟨hk_.1.1, hk_.1.2.1, hk_.1.2.2⟩)); have n1_ := Aside0.mk (zaz (ok' := fun k_ => some k_ ≠ (.slice Ao13 t178.length co13 : Value).ownBlock ∧ some k_ ≠ (.slice Ao21 t190.length co21 : Value).ownBlock ∧ some k_ ≠ (.slice Ao22 t193.length co22 : Value).ownBlock) (zeu (HO_186002.out) hkp (fun k_ hk_ hs_ => Or.elim hs_ (fun e_ => (hk_.2.1) e_) (fun e_ => (hk_.2.2) e_))) (fun k_ hk_ => ⟨hk_.1.1, hk_.1.2.1, hk_.1.2.2⟩)); have n2_ := Aside0.mk (Kd.R_reok rfl hy0 (fun k_ e_ => HO_198001.out.1 k_ e_)); have n3_ := Aside0.mk (Kd.R_reok rfl hy1 (fun k_ e_ => HO_198002.out.1 k_ e_)); have n4_ := Aside0.mk (blk_kept (by (with_reducible repeat (first | refine zai ?_ _ | refine zao ?_ | refine zaj ?_ _)); exact BK185.out) hkp (fun hs_ => Or.elim hs_ (fun e_ => (fun e_ => (Kd.R_ne HO_198001.out BK185.out (by decide)) e_) e_) (fun e_ => (fun e_ => (Kd.R_ne HO_198002.out BK185.out (by decide)) e_) e_))); have n5_ := Aside0.mk (blk_kept (by (with_reducible repeat (first | refine zai ?_ _ | refine zao ?_ | refine zaj ?_ _)); exact BK197.out) hkp (fun hs_ => Or.elim hs_ (fun e_ => (fun e_ => (Kd.R_ne HO_198001.out BK197.out (by decide)) e_) e_) (fun e_ => (fun e_ => (Kd.R_ne HO_198002.out BK197.out (by decide)) e_) e_))); have n6_ := Aside0.mk (hb); clear HO_186001 HO_186002 HO_198001 HO_198002 BK185 BK197 HB; have HO_186001 := n0_; have HO_186002 := n1_; have HO_198001 := n2_; have HO_198002 := n3_; have BK185 := n4_; have BK197 := n5_; have HB := n6_; clear n0_ n1_ n2_ n3_ n4_ n5_ n6_; (try clear hb); (try clear hkp); (try clear hy0); (try clear hy1); have hcz60_0 : w59.cell? ⟨gb197, 0, none⟩ = some (.int .i64 t189) := (zbc BK197.out 0).trans rfl; have hcz60_1 : w59.cell? ⟨gb197, 1, none⟩ = some (.slice Ao21 t190.length co21) := (zbc BK197.out 1).trans rfl; have hcz60_2 : w59.cell? ⟨gb197, 2, none⟩ = some (.slice Ao22 t193.length co22) := (zbc BK197.out 2).trans rfl; have hfz60_0 := zau BK197.out 0; have hfz60_1 := zau BK197.out 1; have hfz60_2 := zau BK197.out 2) | ((with_reducible refine zcl (f := 16) rfl ?_); refine goesL_ (some 64) rfl rfl Try.func16 (by kernel_rfl) rfl #[.agg #[.int .i64 t189, .slice Ao21 t207.length co21, .slice Ao22 t208.length co22], .int .i64 1] rfl (by (try simp only [zbg, zbs, zbt]); first | done | (rw [show t207.length = t190.length from (zba HO_198001.out).1.symm, show t208.length = t193.length from (zba HO_198002.out).1.symm] <;> rfl) | rfl | (simp only [zbn, zbr]; rfl)) ?_; (with_reducible refine (laws_heldLetter.calls kj37 t189 _ _ t207 _ _ t208 1 t209 _ ?side1 ?side2 ?side3 ?side4 A55.out).mono ?_); (case side1 => repeat (first | exact (zba HO_198001.out).2.2 | (with_reducible first | apply zbu | apply zbv | apply zca))); (case side2 => rw [show t207.length = t190.length from (zba HO_198001.out).1.symm]; exact (zba HO_198001.out).2.1); (case side3 => repeat (first | exact (zba HO_198002.out).2.2 | (with_reducible first | apply zbu | apply zbv | apply zca))); (case side4 => rw [show t208.length = t193.length from (zba HO_198002.out).1.symm]; exact (zba HO_198002.out).2.1); rintro e w61 ⟨rfl, hb⟩; refine ⟨_, rfl, ?_⟩; have n0_ := Aside0.mk (zbe (by (with_reducible repeat (first | apply zam | apply zan | apply zaq)); exact HO_186001.out) hb); have n1_ := Aside0.mk (zbe (by (with_reducible repeat (first | apply zam | apply zan | apply zaq)); exact HO_186002.out) hb); have n2_ := Aside0.mk (zbe (by (with_reducible repeat (first | apply zam | apply zan | apply zaq)); exact HO_198001.out) hb); have n3_ := Aside0.mk (zbe (by (with_reducible repeat (first | apply zam | apply zan | apply zaq)); exact HO_198002.out) hb); have n4_ := Aside0.mk (zbf (g := gb185) (o := .cells #[.int .i64 t177, .slice Ao13 t178.length co13, .slice Ao14 t181.length co14] 24 (0, 0)) (by (with_reducible repeat (first | refine zai ?_ _ | refine zao ?_ | refine zaj ?_ _)); exact BK185.out) hb); have n5_ := Aside0.mk (zbf (g := gb197) (o := .cells #[.int .i64 t189, .slice Ao21 t190.length co21, .slice Ao22 t193.length co22] 24 (0, 0)) (by (with_reducible repeat (first | refine zai ?_ _ | refine zao ?_ | refine zaj ?_ _)); exact BK197.out) hb); have n6_ := Aside0.mk (zbh (by repeat (first | (with_reducible first | exact HB.out | apply zah | apply zab | apply zaf | refine zag ?_ GE185.out | refine zag ?_ GE197.out) | exact HB.out)) hb); clear HO_186001 HO_186002 HO_198001 HO_198002 BK185 BK197 HB; have HO_186001 := n0_; have HO_186002 := n1_; have HO_198001 := n2_; have HO_198002 := n3_; have BK185 := n4_; have BK197 := n5_; have HB := n6_; clear n0_ n1_ n2_ n3_ n4_ n5_ n6_; (try clear hb); (try clear hb2); (try clear hk); (try clear hi)))
          go_ret
          exact ⟨by first | rfl | (simp [zcd, zce] <;> rfl) | (simp [*, zcd, zce] <;> rfl), by repeat (first | (with_reducible first | exact HB.out | apply zah | apply zab | apply zaf | refine zag ?_ GE185.out | refine zag ?_ GE197.out) | exact HB.out)⟩
         ·rw [if_neg c56] at H
          have c56b0 : decide (t209 < 0) = false := zcv c56
          clear c56
          by_cases c62 : t209 = t206
          ·rw [if_pos c62] at H
           have c62b0 : (t209 == t206) = true := beq_iff_eq.mpr c62
           have c62b1 : (t209 != t206) = false := zed.mpr c62
           clear c62
           replace H := zbm.mp H
           obtain ⟨t210, A630, H⟩ := H
           try dsimp only at H
           have A63 := Aside0.mk A630
           clear A630
           replace H := zbm.mp H
           obtain ⟨⟨t213, t214, t217, t220⟩, A640, H⟩ := H
           try dsimp only at H
           have A64 := Aside0.mk A640
           clear A640
           have HC65 := Aside0.mk H
           clear H
           have hnb66 := NB197_185.out
           have hnc66 := NB185_197.out
           have hcz67_0 : wc.cell? ⟨gb197, 0, none⟩ = some (.int .i64 t189) := (zbc BK197.out 0).trans rfl
           have hcz67_1 : wc.cell? ⟨gb197, 1, none⟩ = some (.slice Ao21 t190.length co21) := (zbc BK197.out 1).trans rfl
           have hcz67_2 : wc.cell? ⟨gb197, 2, none⟩ = some (.slice Ao22 t193.length co22) := (zbc BK197.out 2).trans rfl
           have hfz67_0 := zau BK197.out 0
           have hfz67_1 := zau BK197.out 1
           have hfz67_2 := zau BK197.out 2
           go_upto_region 23 with (first | ((with_reducible refine zcl (f := 15) rfl ?_); refine goesL_ (some 61) rfl rfl Try.func15 (by kernel_rfl) rfl #[.agg #[.int .i64 t189, .slice Ao21 t190.length co21, .slice Ao22 t193.length co22], .int .i64 1] rfl (by (try simp only [zbg, zbs, zbt]); first | done | rfl) ?_; (with_reducible refine (laws_markLetter.calls kj37 t189 (fun k_ => some k_ = (.slice Ao21 t190.length co21 : Value).ownBlock) (.slice Ao21 t190.length co21) t190 (fun k_ => some k_ = (.slice Ao22 t193.length co22 : Value).ownBlock) (.slice Ao22 t193.length co22) t193 1 t206 t207 t208 w _ ?side1 ?side2 ?side3 ?side4 ?side5 A54.out).mono ?_); (case side1 => repeat (first | (with_reducible first | exact HB.out | apply zah | apply zab | apply zaf | refine zag ?_ GE185.out | refine zag ?_ GE197.out) | exact HB.out)); (case side2 => exact Kd.R_tight rfl HO_198001.out); (case side3 => exact fun k_ e_ => (HO_198001.out.1 k_ e_.symm).2.2); (case side4 => exact Kd.R_tight rfl HO_198002.out); (case side5 => exact fun k_ e_ => (HO_198002.out.1 k_ e_.symm).2.2); rintro e w68 ⟨rfl, hy0, hy1, hb, hkp⟩; refine ⟨_, rfl, ?_⟩; have n0_ := Aside0.mk (zaz (ok' := fun k_ => some k_ ≠ (.slice Ao14 t181.length co14 : Value).ownBlock ∧ some k_ ≠ (.slice Ao21 t190.length co21 : Value).ownBlock ∧ some k_ ≠ (.slice Ao22 t193.length co22 : Value).ownBlock) (zeu (HO_186001.out) hkp (fun k_ hk_ hs_ => Or.elim hs_ (fun e_ => (hk_.2.1) e_) (fun e_ => (hk_.2.2) e_))) (fun k_ hk_ => ⟨hk_.1.1, hk_.1.2.1, hk_.1.2.2⟩)); have n1_ := Aside0.mk (zaz (ok' := fun k_ => some k_ ≠ (.slice Ao13 t178.length co13 : Value).ownBlock ∧ some k_ ≠ (.slice Ao21 t190.length co21 : Value).ownBlock ∧ some k_ ≠ (.slice Ao22 t193.length co22 : Value).ownBlock) (zeu (HO_186002.out) hkp (fun k_ hk_ hs_ => Or.elim hs_ (fun e_ => (hk_.2.1) e_) (fun e_ => (hk_.2.2) e_))) (fun k_ hk_ => ⟨hk_.1.1, hk_.1.2.1, hk_.1.2.2⟩)); have n2_ := Aside0.mk (Kd.R_reok rfl hy0 (fun k_ e_ => HO_198001.out.1 k_ e_)); have n3_ := Aside0.mk (Kd.R_reok rfl hy1 (fun k_ e_ => HO_198002.out.1 k_ e_)); have n4_ := Aside0.mk (blk_kept (by (with_reducible repeat (first | refine zai ?_ _ | refine zao ?_ | refine zaj ?_ _)); exact BK185.out) hkp (fun hs_ => Or.elim hs_ (fun e_ => (fun e_ => (Kd.R_ne HO_198001.out BK185.out (by decide)) e_) e_) (fun e_ => (fun e_ => (Kd.R_ne HO_198002.out BK185.out (by decide)) e_) e_))); have n5_ := Aside0.mk (blk_kept (by (with_reducible repeat (first | refine zai ?_ _ | refine zao ?_ | refine zaj ?_ _)); exact BK197.out) hkp (fun hs_ => Or.elim hs_ (fun e_ => (fun e_ => (Kd.R_ne HO_198001.out BK197.out (by decide)) e_) e_) (fun e_ => (fun e_ => (Kd.R_ne HO_198002.out BK197.out (by decide)) e_) e_))); have n6_ := Aside0.mk (hb); clear HO_186001 HO_186002 HO_198001 HO_198002 BK185 BK197 HB; have HO_186001 := n0_; have HO_186002 := n1_; have HO_198001 := n2_; have HO_198002 := n3_; have BK185 := n4_; have BK197 := n5_; have HB := n6_; clear n0_ n1_ n2_ n3_ n4_ n5_ n6_; (try clear hb); (try clear hkp); (try clear hy0); (try clear hy1); have hcz69_0 : w68.cell? ⟨gb197, 0, none⟩ = some (.int .i64 t189) := (zbc BK197.out 0).trans rfl; have hcz69_1 : w68.cell? ⟨gb197, 1, none⟩ = some (.slice Ao21 t190.length co21) := (zbc BK197.out 1).trans rfl; have hcz69_2 : w68.cell? ⟨gb197, 2, none⟩ = some (.slice Ao22 t193.length co22) := (zbc BK197.out 2).trans rfl; have hfz69_0 := zau BK197.out 0; have hfz69_1 := zau BK197.out 1; have hfz69_2 := zau BK197.out 2) | ((with_reducible refine zcl (f := 16) rfl ?_); refine goesL_ (some 64) rfl rfl Try.func16 (by kernel_rfl) rfl #[.agg #[.int .i64 t189, .slice Ao21 t207.length co21, .slice Ao22 t208.length co22], .int .i64 1] rfl (by (try simp only [zbg, zbs, zbt]); first | done | (rw [show t207.length = t190.length from (zba HO_198001.out).1.symm, show t208.length = t193.length from (zba HO_198002.out).1.symm] <;> rfl) | rfl | (simp only [zbn, zbr]; rfl)) ?_; (with_reducible refine (laws_heldLetter.calls kj37 t189 _ _ t207 _ _ t208 1 t209 _ ?side1 ?side2 ?side3 ?side4 A55.out).mono ?_); (case side1 => repeat (first | exact (zba HO_198001.out).2.2 | (with_reducible first | apply zbu | apply zbv | apply zca))); (case side2 => rw [show t207.length = t190.length from (zba HO_198001.out).1.symm]; exact (zba HO_198001.out).2.1); (case side3 => repeat (first | exact (zba HO_198002.out).2.2 | (with_reducible first | apply zbu | apply zbv | apply zca))); (case side4 => rw [show t208.length = t193.length from (zba HO_198002.out).1.symm]; exact (zba HO_198002.out).2.1); rintro e w70 ⟨rfl, hb⟩; refine ⟨_, rfl, ?_⟩; have n0_ := Aside0.mk (zbe (by (with_reducible repeat (first | apply zam | apply zan | apply zaq)); exact HO_186001.out) hb); have n1_ := Aside0.mk (zbe (by (with_reducible repeat (first | apply zam | apply zan | apply zaq)); exact HO_186002.out) hb); have n2_ := Aside0.mk (zbe (by (with_reducible repeat (first | apply zam | apply zan | apply zaq)); exact HO_198001.out) hb); have n3_ := Aside0.mk (zbe (by (with_reducible repeat (first | apply zam | apply zan | apply zaq)); exact HO_198002.out) hb); have n4_ := Aside0.mk (zbf (g := gb185) (o := .cells #[.int .i64 t177, .slice Ao13 t178.length co13, .slice Ao14 t181.length co14] 24 (0, 0)) (by (with_reducible repeat (first | refine zai ?_ _ | refine zao ?_ | refine zaj ?_ _)); exact BK185.out) hb); have n5_ := Aside0.mk (zbf (g := gb197) (o := .cells #[.int .i64 t189, .slice Ao21 t190.length co21, .slice Ao22 t193.length co22] 24 (0, 0)) (by (with_reducible repeat (first | refine zai ?_ _ | refine zao ?_ | refine zaj ?_ _)); exact BK197.out) hb); have n6_ := Aside0.mk (zbh (by repeat (first | (with_reducible first | exact HB.out | apply zah | apply zab | apply zaf | refine zag ?_ GE185.out | refine zag ?_ GE197.out) | exact HB.out)) hb); clear HO_186001 HO_186002 HO_198001 HO_198002 BK185 BK197 HB; have HO_186001 := n0_; have HO_186002 := n1_; have HO_198001 := n2_; have HO_198002 := n3_; have BK185 := n4_; have BK197 := n5_; have HB := n6_; clear n0_ n1_ n2_ n3_ n4_ n5_ n6_; (try clear hb); (try clear hb2); (try clear hk); (try clear hi)) | ((with_reducible refine zcl (f := 10) rfl ?_); refine goesL_ (some 72) rfl rfl Try.func10 (by kernel_rfl) rfl #[.slice A0 l0.length c0] rfl (by (try simp only [zbg, zbs, zbt]); first | done | rfl) ?_; (with_reducible refine (laws_toByteS.calls kj37 _ _ l0 t210 _ ?side1 ?side2 A63.out).mono ?_); (case side1 => repeat (first | exact (zde HR0.out HB.out) | (with_reducible first | apply zbu | apply zbv | apply zca))); (case side2 => exact HC0.out); rintro e w71 ⟨v211, rfl, ho0, hb⟩; refine ⟨_, rfl, ?_⟩; have qHO_186001 := Kd.R_ofs (by (with_reducible repeat (first | apply zam | apply zan | apply zaq)); exact HO_186001.out) hb; have n0_ := Aside0.mk (zdh qHO_186001 (zbl ho0) hb); have qHO_186002 := Kd.R_ofs (by (with_reducible repeat (first | apply zam | apply zan | apply zaq)); exact HO_186002.out) hb; have n1_ := Aside0.mk (zdh qHO_186002 (zbl ho0) hb); have qHO_198001 := Kd.R_ofs (by (with_reducible repeat (first | apply zam | apply zan | apply zaq)); exact HO_198001.out) hb; have n2_ := Aside0.mk (zdh qHO_198001 (zbl ho0) hb); have qHO_198002 := Kd.R_ofs (by (with_reducible repeat (first | apply zam | apply zan | apply zaq)); exact HO_198002.out) hb; have n3_ := Aside0.mk (zdh qHO_198002 (zbl ho0) hb); have n4_ := Aside0.mk (zdd (zcr (zcr (zcr (zcr ho0 (zdf qHO_186001)) (zdf qHO_186002)) (zdf qHO_198001)) (zdf qHO_198002)) (zat (by repeat (first | (with_reducible first | exact HB.out | apply zah | apply zab | apply zaf | refine zag ?_ GE185.out | refine zag ?_ GE197.out) | exact HB.out)))); have n5_ := Aside0.mk (zbf (g := gb185) (o := .cells #[.int .i64 t177, .slice Ao13 t178.length co13, .slice Ao14 t181.length co14] 24 (0, 0)) (by (with_reducible repeat (first | refine zai ?_ _ | refine zao ?_ | refine zaj ?_ _)); exact BK185.out) hb); have n6_ := Aside0.mk (zbf (g := gb197) (o := .cells #[.int .i64 t189, .slice Ao21 t190.length co21, .slice Ao22 t193.length co22] 24 (0, 0)) (by (with_reducible repeat (first | refine zai ?_ _ | refine zao ?_ | refine zaj ?_ _)); exact BK197.out) hb); have n7_ := Aside0.mk (zbh (by repeat (first | (with_reducible first | exact HB.out | apply zah | apply zab | apply zaf | refine zag ?_ GE185.out | refine zag ?_ GE197.out) | exact HB.out)) hb); clear qHO_186001 HO_186001; clear qHO_186002 HO_186002; clear qHO_198001 HO_198001; clear qHO_198002 HO_198002; clear BK185 BK197 HB; have HO_186001 := n0_; have HO_186002 := n1_; have HO_198001 := n2_; have HO_198002 := n3_; have HO212 := n4_; have BK185 := n5_; have BK197 := n6_; have HB := n7_; clear n0_ n1_ n2_ n3_ n4_ n5_ n6_ n7_; clear hb ho0; obtain ⟨Ao72, co72, eo72⟩ := zcz HO212.out; subst eo72) | ((with_reducible refine zcl (f := 11) rfl ?_); refine goesL_ (some 73) rfl rfl Try.func11 (by kernel_rfl) rfl #[.slice Ao72 t210.length co72] rfl (by (try simp only [zbg, zbs, zbt]); first | done | rfl) ?_; (with_reducible refine (impl_LetterOf.calls kj37 (fun k_ => some k_ = (.slice Ao72 t210.length co72 : Value).ownBlock) _ _ t210 t213 t214 t217 t220 _ ?side1 A64.out).mono ?_); (case side1 => exact Kd.R_V (Kd.R_tight rfl (zbw (zbw (HO212.out) BK185.out (by decide)) BK197.out (by decide)))); rintro e w73 ⟨v215, v218, rfl, ho0, ho1, hb⟩; refine ⟨_, rfl, ?_⟩; have n0_ := Aside0.mk (zaz (zeh (zeh (Kd.R_old (by (with_reducible repeat (first | apply zam | apply zan | apply zaq)); exact HO_186001.out) hb) (zbl ho0)) (zbl ho1)) (fun _ h_ => h_.1)); have n1_ := Aside0.mk (zaz (zeh (zeh (Kd.R_old (by (with_reducible repeat (first | apply zam | apply zan | apply zaq)); exact HO_186002.out) hb) (zbl ho0)) (zbl ho1)) (fun _ h_ => h_.1)); have n2_ := Aside0.mk (zaz (zeh (zeh (Kd.R_old (by (with_reducible repeat (first | apply zam | apply zan | apply zaq)); exact HO_198001.out) hb) (zbl ho0)) (zbl ho1)) (fun _ h_ => h_.1)); have n3_ := Aside0.mk (zaz (zeh (zeh (Kd.R_old (by (with_reducible repeat (first | apply zam | apply zan | apply zaq)); exact HO_198002.out) hb) (zbl ho0)) (zbl ho1)) (fun _ h_ => h_.1)); have n4_ := Aside0.mk (zaz (zeh (zeh (Kd.R_old (by (with_reducible repeat (first | apply zam | apply zan | apply zaq)); exact HO212.out) hb) (zbl ho0)) (zbl ho1)) (fun _ h_ => h_.1)); have n5_ := Aside0.mk (zdd (zcr (zcr (zcr (zcr (zcr (zaz (ok' := fun k_ => some k_ ≠ (v218 : Value).ownBlock) ho0 (fun _ hk_ => hk_.2)) (zdf (by (with_reducible repeat (first | apply zam | apply zan | apply zaq)); exact HO_186001.out))) (zdf (by (with_reducible repeat (first | apply zam | apply zan | apply zaq)); exact HO_186002.out))) (zdf (by (with_reducible repeat (first | apply zam | apply zan | apply zaq)); exact HO_198001.out))) (zdf (by (with_reducible repeat (first | apply zam | apply zan | apply zaq)); exact HO_198002.out))) (zdf (by (with_reducible repeat (first | apply zam | apply zan | apply zaq)); exact HO212.out))) (zat (by repeat (first | (with_reducible first | exact HB.out | apply zah | apply zab | apply zaf | refine zag ?_ GE185.out | refine zag ?_ GE197.out) | exact HB.out)))); have n6_ := Aside0.mk (zdd (zcr (zcr (zcr (zcr (zcr (zaz (ok' := fun k_ => some k_ ≠ (v215 : Value).ownBlock) ho1 (fun _ hk_ => hk_.2)) (zdf (by (with_reducible repeat (first | apply zam | apply zan | apply zaq)); exact HO_186001.out))) (zdf (by (with_reducible repeat (first | apply zam | apply zan | apply zaq)); exact HO_186002.out))) (zdf (by (with_reducible repeat (first | apply zam | apply zan | apply zaq)); exact HO_198001.out))) (zdf (by (with_reducible repeat (first | apply zam | apply zan | apply zaq)); exact HO_198002.out))) (zdf (by (with_reducible repeat (first | apply zam | apply zan | apply zaq)); exact HO212.out))) (zat (by repeat (first | (with_reducible first | exact HB.out | apply zah | apply zab | apply zaf | refine zag ?_ GE185.out | refine zag ?_ GE197.out) | exact HB.out)))); have n7_ := Aside0.mk (zbf (g := gb185) (o := .cells #[.int .i64 t177, .slice Ao13 t178.length co13, .slice Ao14 t181.length co14] 24 (0, 0)) (by (with_reducible repeat (first | refine zai ?_ _ | refine zao ?_ | refine zaj ?_ _)); exact BK185.out) hb); have n8_ := Aside0.mk (zbf (g := gb197) (o := .cells #[.int .i64 t189, .slice Ao21 t190.length co21, .slice Ao22 t193.length co22] 24 (0, 0)) (by (with_reducible repeat (first | refine zai ?_ _ | refine zao ?_ | refine zaj ?_ _)); exact BK197.out) hb); have n9_ := Aside0.mk (zbh (by repeat (first | (with_reducible first | exact HB.out | apply zah | apply zab | apply zaf | refine zag ?_ GE185.out | refine zag ?_ GE197.out) | exact HB.out)) hb); clear HO_186001 HO_186002 HO_198001 HO_198002 HO212 BK185 BK197 HB; have HO_186001 := n0_; have HO_186002 := n1_; have HO_198001 := n2_; have HO_198002 := n3_; have HO212 := n4_; have HO216 := n5_; have HO219 := n6_; have BK185 := n7_; have BK197 := n8_; have HB := n9_; clear n0_ n1_ n2_ n3_ n4_ n5_ n6_ n7_ n8_ n9_; clear hb ho0; (try clear ho1)) | ((with_reducible refine zef (N := 11) rfl ?_); refine zdw ?hg (N := 11) ?hd (cs := #[.int .i64 0, .slice none 0 0, .slice none 0 0]) (t := 24) ?hr ?_; (case hd => rfl); (case hg => rfl); (case hr => first | (go_simp; done) | (go_simp; rfl)); intro gb221 hg w74 hbox hb; have n0_ := Aside0.mk (zbe (by (with_reducible repeat (first | apply zam | apply zan | apply zaq)); exact HO_186001.out) hb); have n1_ := Aside0.mk (zbe (by (with_reducible repeat (first | apply zam | apply zan | apply zaq)); exact HO_186002.out) hb); have n2_ := Aside0.mk (zbe (by (with_reducible repeat (first | apply zam | apply zan | apply zaq)); exact HO_198001.out) hb); have n3_ := Aside0.mk (zbe (by (with_reducible repeat (first | apply zam | apply zan | apply zaq)); exact HO_198002.out) hb); have n4_ := Aside0.mk (zbe (by (with_reducible repeat (first | apply zam | apply zan | apply zaq)); exact HO212.out) hb); have n5_ := Aside0.mk (zbe (by (with_reducible repeat (first | apply zam | apply zan | apply zaq)); exact HO216.out) hb); have n6_ := Aside0.mk (zbe (by (with_reducible repeat (first | apply zam | apply zan | apply zaq)); exact HO219.out) hb); have n7_ := Aside0.mk (zbf (g := gb185) (o := .cells #[.int .i64 t177, .slice Ao13 t178.length co13, .slice Ao14 t181.length co14] 24 (0, 0)) (by (with_reducible repeat (first | refine zai ?_ _ | refine zao ?_ | refine zaj ?_ _)); exact BK185.out) hb); have n8_ := Aside0.mk (zbf (g := gb197) (o := .cells #[.int .i64 t189, .slice Ao21 t190.length co21, .slice Ao22 t193.length co22] 24 (0, 0)) (by (with_reducible repeat (first | refine zai ?_ _ | refine zao ?_ | refine zaj ?_ _)); exact BK197.out) hb); have n9_ := Aside0.mk (zbh (by repeat (first | (with_reducible first | exact HB.out | apply zah | apply zab | apply zaf | refine zag ?_ GE185.out | refine zag ?_ GE197.out) | exact HB.out)) hb); have n10_ := Aside0.mk (hbox); have n11_ := Aside0.mk ((by rw [hg]; exact (zat (by repeat (first | (with_reducible first | exact HB.out | apply zah | apply zab | apply zaf | refine zag ?_ GE185.out | refine zag ?_ GE197.out) | exact HB.out))) : w.heap.size ≤ gb221)); have n12_ := Aside0.mk ((by rw [hg]; exact (zat (by repeat (first | (with_reducible first | exact HB.out | apply zah | apply zab | apply zaf | refine zag ?_ GE185.out | refine zag ?_ GE197.out) | exact HB.out))) : w.heap.size ≤ gb221)); have n13_ := Aside0.mk ((by rw [hg]; exact zcb (blk_lt (g := gb185) (o := .cells #[.int .i64 t177, .slice Ao13 t178.length co13, .slice Ao14 t181.length co14] 24 (0, 0)) (by (with_reducible repeat (first | refine zai ?_ _ | refine zao ?_ | refine zaj ?_ _)); exact BK185.out)) : gb185 ≠ gb221)); have n14_ := Aside0.mk ((by rw [hg]; exact zdj (blk_lt (g := gb185) (o := .cells #[.int .i64 t177, .slice Ao13 t178.length co13, .slice Ao14 t181.length co14] 24 (0, 0)) (by (with_reducible repeat (first | refine zai ?_ _ | refine zao ?_ | refine zaj ?_ _)); exact BK185.out)) : gb221 ≠ gb185)); have n15_ := Aside0.mk ((by rw [hg]; exact zcb (blk_lt (g := gb197) (o := .cells #[.int .i64 t189, .slice Ao21 t190.length co21, .slice Ao22 t193.length co22] 24 (0, 0)) (by (with_reducible repeat (first | refine zai ?_ _ | refine zao ?_ | refine zaj ?_ _)); exact BK197.out)) : gb197 ≠ gb221)); have n16_ := Aside0.mk ((by rw [hg]; exact zdj (blk_lt (g := gb197) (o := .cells #[.int .i64 t189, .slice Ao21 t190.length co21, .slice Ao22 t193.length co22] 24 (0, 0)) (by (with_reducible repeat (first | refine zai ?_ _ | refine zao ?_ | refine zaj ?_ _)); exact BK197.out)) : gb221 ≠ gb197)); clear HO_186001 HO_186002 HO_198001 HO_198002 HO212 HO216 HO219 BK185 BK197 HB; have HO_186001 := n0_; have HO_186002 := n1_; have HO_198001 := n2_; have HO_198002 := n3_; have HO212 := n4_; have HO216 := n5_; have HO219 := n6_; have BK185 := n7_; have BK197 := n8_; have HB := n9_; have BK221 := n10_; have GW221 := n11_; have GE221 := n12_; have NB185_221 := n13_; have NB221_185 := n14_; have NB197_221 := n15_; have NB221_197 := n16_; clear n0_ n1_ n2_ n3_ n4_ n5_ n6_ n7_ n8_ n9_ n10_ n11_ n12_ n13_ n14_ n15_ n16_; clear hb hbox hg; have hnb75 := NB221_185.out; have hnc75 := NB185_221.out; have hnb76 := NB221_197.out; have hnc76 := NB197_221.out; have hcz77_0 : w74.cell? ⟨gb221, 0, none⟩ = some (.int .i64 0) := (zbc BK221.out 0).trans rfl; have hcz77_1 : w74.cell? ⟨gb221, 1, none⟩ = some (.slice none 0 0) := (zbc BK221.out 1).trans rfl; have hcz77_2 : w74.cell? ⟨gb221, 2, none⟩ = some (.slice none 0 0) := (zbc BK221.out 2).trans rfl; have hfz77_0 := zau BK221.out 0; have hfz77_1 := zau BK221.out 1; have hfz77_2 := zau BK221.out 2; obtain ⟨Ao78, co78, eo78⟩ := zcz HO216.out; subst eo78; obtain ⟨Ao79, co79, eo79⟩ := zcz HO219.out; subst eo79))
           (try simp only [Act.put, zaa, zac, zad])
           go_cut [84] (fun v84 wc => ∃ (kq : Nat) (x84_64 : Bool), v84 = .bool x84_64 ∧ Aside0 (laws_FnExactLetterOf.j2 kq t206 x84_64 t189 t207 t208 = some r) ∧ Aside0 (kq ≤ kj37) ∧ Aside0 (Kd.R (Kd.int .u8) 5 wc w.heap.size (fun k_ => some k_ ≠ ((.slice Ao14 t181.length co14) : Value).ownBlock ∧ some k_ ≠ ((.slice Ao21 t190.length co21) : Value).ownBlock ∧ some k_ ≠ ((.slice Ao22 t193.length co22) : Value).ownBlock ∧ some k_ ≠ ((.slice Ao78 t214.length co78) : Value).ownBlock ∧ some k_ ≠ ((.slice Ao79 t217.length co79) : Value).ownBlock) (.slice Ao13 t178.length co13) t178) ∧ Aside0 (Kd.R (Kd.int .u8) 5 wc w.heap.size (fun k_ => some k_ ≠ ((.slice Ao13 t178.length co13) : Value).ownBlock ∧ some k_ ≠ ((.slice Ao21 t190.length co21) : Value).ownBlock ∧ some k_ ≠ ((.slice Ao22 t193.length co22) : Value).ownBlock ∧ some k_ ≠ ((.slice Ao78 t214.length co78) : Value).ownBlock ∧ some k_ ≠ ((.slice Ao79 t217.length co79) : Value).ownBlock) (.slice Ao14 t181.length co14) t181) ∧ Aside0 (Kd.R (Kd.int .u8) 5 wc w.heap.size (fun k_ => some k_ ≠ ((.slice Ao13 t178.length co13) : Value).ownBlock ∧ some k_ ≠ ((.slice Ao14 t181.length co14) : Value).ownBlock ∧ some k_ ≠ ((.slice Ao22 t193.length co22) : Value).ownBlock ∧ some k_ ≠ ((.slice Ao78 t214.length co78) : Value).ownBlock ∧ some k_ ≠ ((.slice Ao79 t217.length co79) : Value).ownBlock) (.slice Ao21 t190.length co21) t207) ∧ Aside0 (Kd.R (Kd.int .u8) 5 wc w.heap.size (fun k_ => some k_ ≠ ((.slice Ao13 t178.length co13) : Value).ownBlock ∧ some k_ ≠ ((.slice Ao14 t181.length co14) : Value).ownBlock ∧ some k_ ≠ ((.slice Ao21 t190.length co21) : Value).ownBlock ∧ some k_ ≠ ((.slice Ao78 t214.length co78) : Value).ownBlock ∧ some k_ ≠ ((.slice Ao79 t217.length co79) : Value).ownBlock) (.slice Ao22 t193.length co22) t208) ∧ Aside0 (Kd.R (Kd.int .u8) 5 wc w.heap.size (fun k_ => some k_ ≠ ((.slice Ao13 t178.length co13) : Value).ownBlock ∧ some k_ ≠ ((.slice Ao14 t181.length co14) : Value).ownBlock ∧ some k_ ≠ ((.slice Ao21 t190.length co21) : Value).ownBlock ∧ some k_ ≠ ((.slice Ao22 t193.length co22) : Value).ownBlock ∧ some k_ ≠ ((.slice Ao79 t217.length co79) : Value).ownBlock) (.slice Ao78 t214.length co78) t214) ∧ Aside0 (Kd.R (Kd.int .u8) 5 wc w.heap.size (fun k_ => some k_ ≠ ((.slice Ao13 t178.length co13) : Value).ownBlock ∧ some k_ ≠ ((.slice Ao14 t181.length co14) : Value).ownBlock ∧ some k_ ≠ ((.slice Ao21 t190.length co21) : Value).ownBlock ∧ some k_ ≠ ((.slice Ao22 t193.length co22) : Value).ownBlock ∧ some k_ ≠ ((.slice Ao78 t214.length co78) : Value).ownBlock) (.slice Ao79 t217.length co79) t217) ∧ Aside0 (wc.heap[gb185]? = some (.cells #[.int .i64 t177, (.slice Ao13 t178.length co13), (.slice Ao14 t181.length co14)] 24 (0, 0))) ∧ Aside0 (wc.heap[gb197]? = some (.cells #[.int .i64 t189, (.slice Ao21 t190.length co21), (.slice Ao22 t193.length co22)] 24 (0, 0))) ∧ Aside0 (wc.heap[gb221]? = some (.cells #[.int .i64 t213, (.slice Ao78 t214.length co78), (.slice Ao79 t217.length co79)] 24 (0, 0))) ∧ Aside0 (Below w.heap.size w wc))
           case first =>
            have H := HC65.out
            clear HC65
            replace H := zbm.mp H
            obtain ⟨t222, A800, H⟩ := H
            try dsimp only at H
            have A80 := Aside0.mk A800
            clear A800
            by_cases c81 : t222 = true
            ·subst c81
             have H1 : (laws_FnExactLetterOf.j2 kj37 t206 (t220 != t184) t189 t207 t208) = some r := by rw [if_pos rfl] at H; exact H
             clear H
             have H := H1
             clear H1
             have H' := Aside0.mk H
             clear H
             have hnb82 := NB221_185.out
             have hnc82 := NB185_221.out
             have hnb83 := NB221_197.out
             have hnc83 := NB197_221.out
             have hcz84_0 : w74.cell? ⟨gb221, 0, none⟩ = some (.int .i64 0) := (zbc BK221.out 0).trans rfl
             have hcz84_1 : w74.cell? ⟨gb221, 1, none⟩ = some (.slice none 0 0) := (zbc BK221.out 1).trans rfl
             have hcz84_2 : w74.cell? ⟨gb221, 2, none⟩ = some (.slice none 0 0) := (zbc BK221.out 2).trans rfl
             have hfz84_0 := zau BK221.out 0
             have hfz84_1 := zau BK221.out 1
             have hfz84_2 := zau BK221.out 2
             have hnb85 := NB185_197.out
             have hnc85 := NB197_185.out
             have hcz86_0 : w74.cell? ⟨gb185, 0, none⟩ = some (.int .i64 t177) := (zbc BK185.out 0).trans rfl
             have hcz86_1 : w74.cell? ⟨gb185, 1, none⟩ = some (.slice Ao13 t178.length co13) := (zbc BK185.out 1).trans rfl
             have hcz86_2 : w74.cell? ⟨gb185, 2, none⟩ = some (.slice Ao14 t181.length co14) := (zbc BK185.out 2).trans rfl
             have hfz86_0 := zau BK185.out 0
             have hfz86_1 := zau BK185.out 1
             have hfz86_2 := zau BK185.out 2
             go_wp2_with (first | ((with_reducible refine zcl (f := 12) rfl ?_); refine goesL_ (some 78) rfl rfl Try.func12 (by kernel_rfl) rfl #[.agg #[.int .i64 t213, .slice Ao78 t214.length co78, .slice Ao79 t217.length co79], .agg #[.int .i64 t177, .slice Ao13 t178.length co13, .slice Ao14 t181.length co14]] rfl (by (try simp only [zbg, zbs, zbt]); first | done | rfl) ?_; (with_reducible refine (laws_eqLetter.calls kj37 t213 _ _ t214 _ _ t217 t177 _ _ t178 _ _ t181 true _ ?side1 ?side2 ?side3 ?side4 ?side5 ?side6 ?side7 ?side8 A80.out).mono ?_); (case side1 => refine (zba (e := 5) (base := w.heap.size) (ok := fun k_ => (((((some k_ ≠ (.slice Ao79 t217.length co79 : Value).ownBlock ∧ some k_ ≠ (.slice Ao13 t178.length co13 : Value).ownBlock) ∧ some k_ ≠ (.slice Ao14 t181.length co14 : Value).ownBlock) ∧ some k_ ≠ (.slice Ao21 t190.length co21 : Value).ownBlock) ∧ some k_ ≠ (.slice Ao22 t193.length co22 : Value).ownBlock) ∧ some k_ ≠ (.slice Ao72 t210.length co72 : Value).ownBlock)) (n := t214.length) (c := co78) ?_).2.2; exact (by (with_reducible repeat (first | apply zam | apply zan | apply zaq)); exact (zaz (zax (p := ⟨gb221, 2, none⟩) (zax (p := ⟨gb221, 1, none⟩) (zax (p := ⟨gb221, 0, none⟩) (zbw HO216.out BK221.out (by decide)) (fun _ hk => hk.2) (.int .i64 t213)) (fun _ hk => hk.2) (.slice Ao78 t214.length co78)) (fun _ hk => hk.2) (.slice Ao79 t217.length co79)) (fun _ h_ => h_.1)))); (case side2 => exact (zba HO216.out).2.1); (case side3 => refine (zba (e := 5) (base := w.heap.size) (ok := fun k_ => (((((some k_ ≠ (.slice Ao78 t214.length co78 : Value).ownBlock ∧ some k_ ≠ (.slice Ao13 t178.length co13 : Value).ownBlock) ∧ some k_ ≠ (.slice Ao14 t181.length co14 : Value).ownBlock) ∧ some k_ ≠ (.slice Ao21 t190.length co21 : Value).ownBlock) ∧ some k_ ≠ (.slice Ao22 t193.length co22 : Value).ownBlock) ∧ some k_ ≠ (.slice Ao72 t210.length co72 : Value).ownBlock)) (n := t217.length) (c := co79) ?_).2.2; exact (by (with_reducible repeat (first | apply zam | apply zan | apply zaq)); exact (zaz (zax (p := ⟨gb221, 2, none⟩) (zax (p := ⟨gb221, 1, none⟩) (zax (p := ⟨gb221, 0, none⟩) (zbw HO219.out BK221.out (by decide)) (fun _ hk => hk.2) (.int .i64 t213)) (fun _ hk => hk.2) (.slice Ao78 t214.length co78)) (fun _ hk => hk.2) (.slice Ao79 t217.length co79)) (fun _ h_ => h_.1)))); (case side4 => exact (zba HO219.out).2.1); (case side5 => refine (zba (e := 5) (base := w.heap.size) (ok := fun k_ => ((((some k_ ≠ (.slice Ao14 t181.length co14 : Value).ownBlock ∧ (some k_ ≠ (.slice Ao21 t190.length co21 : Value).ownBlock ∧ some k_ ≠ (.slice Ao22 t193.length co22 : Value).ownBlock)) ∧ some k_ ≠ (.slice Ao72 t210.length co72 : Value).ownBlock) ∧ some k_ ≠ (.slice Ao78 t214.length co78 : Value).ownBlock) ∧ some k_ ≠ (.slice Ao79 t217.length co79 : Value).ownBlock)) (n := t178.length) (c := co13) ?_).2.2; exact (by (with_reducible repeat (first | apply zam | apply zan | apply zaq)); exact (zaz (zax (p := ⟨gb221, 2, none⟩) (zax (p := ⟨gb221, 1, none⟩) (zax (p := ⟨gb221, 0, none⟩) (zbw HO_186001.out BK221.out (by decide)) (fun _ hk => hk.2) (.int .i64 t213)) (fun _ hk => hk.2) (.slice Ao78 t214.length co78)) (fun _ hk => hk.2) (.slice Ao79 t217.length co79)) (fun _ h_ => h_.1)))); (case side6 => exact (zba HO_186001.out).2.1); (case side7 => refine (zba (e := 5) (base := w.heap.size) (ok := fun k_ => ((((some k_ ≠ (.slice Ao13 t178.length co13 : Value).ownBlock ∧ (some k_ ≠ (.slice Ao21 t190.length co21 : Value).ownBlock ∧ some k_ ≠ (.slice Ao22 t193.length co22 : Value).ownBlock)) ∧ some k_ ≠ (.slice Ao72 t210.length co72 : Value).ownBlock) ∧ some k_ ≠ (.slice Ao78 t214.length co78 : Value).ownBlock) ∧ some k_ ≠ (.slice Ao79 t217.length co79 : Value).ownBlock)) (n := t181.length) (c := co14) ?_).2.2; exact (by (with_reducible repeat (first | apply zam | apply zan | apply zaq)); exact (zaz (zax (p := ⟨gb221, 2, none⟩) (zax (p := ⟨gb221, 1, none⟩) (zax (p := ⟨gb221, 0, none⟩) (zbw HO_186002.out BK221.out (by decide)) (fun _ hk => hk.2) (.int .i64 t213)) (fun _ hk => hk.2) (.slice Ao78 t214.length co78)) (fun _ hk => hk.2) (.slice Ao79 t217.length co79)) (fun _ h_ => h_.1)))); (case side8 => exact (zba HO_186002.out).2.1); rintro e w87 ⟨rfl, hb⟩; refine ⟨_, rfl, ?_⟩; have n0_ := Aside0.mk (zbe (by (with_reducible repeat (first | apply zam | apply zan | apply zaq)); exact (zaz (zax (p := ⟨gb221, 2, none⟩) (zax (p := ⟨gb221, 1, none⟩) (zax (p := ⟨gb221, 0, none⟩) (zbw HO_186001.out BK221.out (by decide)) (fun _ hk => hk.2) (.int .i64 t213)) (fun _ hk => hk.2) (.slice Ao78 t214.length co78)) (fun _ hk => hk.2) (.slice Ao79 t217.length co79)) (fun _ h_ => h_.1))) hb); have n1_ := Aside0.mk (zbe (by (with_reducible repeat (first | apply zam | apply zan | apply zaq)); exact (zaz (zax (p := ⟨gb221, 2, none⟩) (zax (p := ⟨gb221, 1, none⟩) (zax (p := ⟨gb221, 0, none⟩) (zbw HO_186002.out BK221.out (by decide)) (fun _ hk => hk.2) (.int .i64 t213)) (fun _ hk => hk.2) (.slice Ao78 t214.length co78)) (fun _ hk => hk.2) (.slice Ao79 t217.length co79)) (fun _ h_ => h_.1))) hb); have n2_ := Aside0.mk (zbe (by (with_reducible repeat (first | apply zam | apply zan | apply zaq)); exact (zaz (zax (p := ⟨gb221, 2, none⟩) (zax (p := ⟨gb221, 1, none⟩) (zax (p := ⟨gb221, 0, none⟩) (zbw HO_198001.out BK221.out (by decide)) (fun _ hk => hk.2) (.int .i64 t213)) (fun _ hk => hk.2) (.slice Ao78 t214.length co78)) (fun _ hk => hk.2) (.slice Ao79 t217.length co79)) (fun _ h_ => h_.1))) hb); have n3_ := Aside0.mk (zbe (by (with_reducible repeat (first | apply zam | apply zan | apply zaq)); exact (zaz (zax (p := ⟨gb221, 2, none⟩) (zax (p := ⟨gb221, 1, none⟩) (zax (p := ⟨gb221, 0, none⟩) (zbw HO_198002.out BK221.out (by decide)) (fun _ hk => hk.2) (.int .i64 t213)) (fun _ hk => hk.2) (.slice Ao78 t214.length co78)) (fun _ hk => hk.2) (.slice Ao79 t217.length co79)) (fun _ h_ => h_.1))) hb); have n4_ := Aside0.mk (zbe (by (with_reducible repeat (first | apply zam | apply zan | apply zaq)); exact (zaz (zax (p := ⟨gb221, 2, none⟩) (zax (p := ⟨gb221, 1, none⟩) (zax (p := ⟨gb221, 0, none⟩) (zbw HO212.out BK221.out (by decide)) (fun _ hk => hk.2) (.int .i64 t213)) (fun _ hk => hk.2) (.slice Ao78 t214.length co78)) (fun _ hk => hk.2) (.slice Ao79 t217.length co79)) (fun _ h_ => h_.1))) hb); have n5_ := Aside0.mk (zbe (by (with_reducible repeat (first | apply zam | apply zan | apply zaq)); exact (zaz (zax (p := ⟨gb221, 2, none⟩) (zax (p := ⟨gb221, 1, none⟩) (zax (p := ⟨gb221, 0, none⟩) (zbw HO216.out BK221.out (by decide)) (fun _ hk => hk.2) (.int .i64 t213)) (fun _ hk => hk.2) (.slice Ao78 t214.length co78)) (fun _ hk => hk.2) (.slice Ao79 t217.length co79)) (fun _ h_ => h_.1))) hb); have n6_ := Aside0.mk (zbe (by (with_reducible repeat (first | apply zam | apply zan | apply zaq)); exact (zaz (zax (p := ⟨gb221, 2, none⟩) (zax (p := ⟨gb221, 1, none⟩) (zax (p := ⟨gb221, 0, none⟩) (zbw HO219.out BK221.out (by decide)) (fun _ hk => hk.2) (.int .i64 t213)) (fun _ hk => hk.2) (.slice Ao78 t214.length co78)) (fun _ hk => hk.2) (.slice Ao79 t217.length co79)) (fun _ h_ => h_.1))) hb); have n7_ := Aside0.mk (zbf (g := gb185) (o := .cells #[.int .i64 t177, .slice Ao13 t178.length co13, .slice Ao14 t181.length co14] 24 (0, 0)) (by (with_reducible repeat (first | refine zai ?_ _ | refine zao ?_ | refine zaj ?_ _)); refine zet ?_ NB185_221.out _; (with_reducible repeat (first | refine zai ?_ _ | refine zao ?_ | refine zaj ?_ _)); refine zet ?_ NB185_221.out _; (with_reducible repeat (first | refine zai ?_ _ | refine zao ?_ | refine zaj ?_ _)); refine zet ?_ NB185_221.out _; (with_reducible repeat (first | refine zai ?_ _ | refine zao ?_ | refine zaj ?_ _)); exact BK185.out) hb); have n8_ := Aside0.mk (zbf (g := gb197) (o := .cells #[.int .i64 t189, .slice Ao21 t190.length co21, .slice Ao22 t193.length co22] 24 (0, 0)) (by (with_reducible repeat (first | refine zai ?_ _ | refine zao ?_ | refine zaj ?_ _)); refine zet ?_ NB197_221.out _; (with_reducible repeat (first | refine zai ?_ _ | refine zao ?_ | refine zaj ?_ _)); refine zet ?_ NB197_221.out _; (with_reducible repeat (first | refine zai ?_ _ | refine zao ?_ | refine zaj ?_ _)); refine zet ?_ NB197_221.out _; (with_reducible repeat (first | refine zai ?_ _ | refine zao ?_ | refine zaj ?_ _)); exact BK197.out) hb); have n9_ := Aside0.mk (zbf (g := gb221) (o := .cells #[.int .i64 t213, .slice Ao78 t214.length co78, .slice Ao79 t217.length co79] 24 (0, 0)) (by (with_reducible repeat (first | refine zai ?_ _ | refine zao ?_ | refine zaj ?_ _)); refine zdl (cs := #[.int .i64 t213, .slice Ao78 t214.length co78, .slice none 0 0]) ?_ 2 _ rfl; (with_reducible repeat (first | refine zai ?_ _ | refine zao ?_ | refine zaj ?_ _)); refine zdl (cs := #[.int .i64 t213, .slice none 0 0, .slice none 0 0]) ?_ 1 _ rfl; (with_reducible repeat (first | refine zai ?_ _ | refine zao ?_ | refine zaj ?_ _)); refine zdl (cs := #[.int .i64 0, .slice none 0 0, .slice none 0 0]) ?_ 0 _ rfl; (with_reducible repeat (first | refine zai ?_ _ | refine zao ?_ | refine zaj ?_ _)); exact BK221.out) hb); have n10_ := Aside0.mk (zbh (by repeat (first | (with_reducible first | exact HB.out | apply zah | apply zab | apply zaf | refine zag ?_ GE185.out | refine zag ?_ GE197.out | refine zag ?_ GE221.out) | exact HB.out)) hb); clear HO_186001 HO_186002 HO_198001 HO_198002 HO212 HO216 HO219 BK185 BK197 BK221 HB; have HO_186001 := n0_; have HO_186002 := n1_; have HO_198001 := n2_; have HO_198002 := n3_; have HO212 := n4_; have HO216 := n5_; have HO219 := n6_; have BK185 := n7_; have BK197 := n8_; have BK221 := n9_; have HB := n10_; clear n0_ n1_ n2_ n3_ n4_ n5_ n6_ n7_ n8_ n9_ n10_; (try clear hb); (try clear hb2); (try clear hk); (try clear hi)))
             go_meet
             case rel => exact ⟨_, ((t220 != t184)), (by first | rfl | (simp; done) | (simp [*]; done)), H', ⟨by have := HJ6.out; have := HJ37.out; first | omega | exact zbq _⟩, ⟨by (with_reducible repeat (first | apply zam | apply zan | apply zaq)); exact zaz HO_186001.out (fun _ hk => ⟨hk.1.1.1.1, ⟨hk.1.1.1.2.1, ⟨hk.1.1.1.2.2, ⟨hk.1.2, hk.2⟩⟩⟩⟩)⟩, ⟨by (with_reducible repeat (first | apply zam | apply zan | apply zaq)); exact zaz HO_186002.out (fun _ hk => ⟨hk.1.1.1.1, ⟨hk.1.1.1.2.1, ⟨hk.1.1.1.2.2, ⟨hk.1.2, hk.2⟩⟩⟩⟩)⟩, ⟨by (with_reducible repeat (first | apply zam | apply zan | apply zaq)); exact zaz HO_198001.out (fun _ hk => ⟨hk.1.1.1.1, ⟨hk.1.1.1.2.1, ⟨hk.1.1.1.2.2, ⟨hk.1.2, hk.2⟩⟩⟩⟩)⟩, ⟨by (with_reducible repeat (first | apply zam | apply zan | apply zaq)); exact zaz HO_198002.out (fun _ hk => ⟨hk.1.1.1.1, ⟨hk.1.1.1.2.1, ⟨hk.1.1.1.2.2, ⟨hk.1.2, hk.2⟩⟩⟩⟩)⟩, ⟨by (with_reducible repeat (first | apply zam | apply zan | apply zaq)); exact zaz HO216.out (fun _ hk => ⟨hk.1.1.1.1.2, ⟨hk.1.1.1.2, ⟨hk.1.1.2, ⟨hk.1.2, hk.1.1.1.1.1⟩⟩⟩⟩)⟩, ⟨by (with_reducible repeat (first | apply zam | apply zan | apply zaq)); exact zaz HO219.out (fun _ hk => ⟨hk.1.1.1.1.2, ⟨hk.1.1.1.2, ⟨hk.1.1.2, ⟨hk.1.2, hk.1.1.1.1.1⟩⟩⟩⟩)⟩, ⟨by (with_reducible repeat (first | refine zai ?_ _ | refine zao ?_ | refine zaj ?_ _)); exact BK185.out⟩, ⟨by (with_reducible repeat (first | refine zai ?_ _ | refine zao ?_ | refine zaj ?_ _)); exact BK197.out⟩, ⟨by (with_reducible repeat (first | refine zai ?_ _ | refine zao ?_ | refine zaj ?_ _)); exact BK221.out⟩, ⟨by repeat (first | (with_reducible first | exact HB.out | apply zah | apply zab | apply zaf | refine zag ?_ GE185.out | refine zag ?_ GE197.out | refine zag ?_ GE221.out) | exact HB.out)⟩⟩
            ·replace c81 := zdk.mpr c81
             subst c81
             have H1 : (laws_FnExactLetterOf.j2 kj37 t206 true t189 t207 t208) = some r := by rw [if_neg (show ¬ (false = true) by decide)] at H; exact H
             clear H
             have H := H1
             clear H1
             have H' := Aside0.mk H
             clear H
             have hnb88 := NB221_185.out
             have hnc88 := NB185_221.out
             have hnb89 := NB221_197.out
             have hnc89 := NB197_221.out
             have hcz90_0 : w74.cell? ⟨gb221, 0, none⟩ = some (.int .i64 0) := (zbc BK221.out 0).trans rfl
             have hcz90_1 : w74.cell? ⟨gb221, 1, none⟩ = some (.slice none 0 0) := (zbc BK221.out 1).trans rfl
             have hcz90_2 : w74.cell? ⟨gb221, 2, none⟩ = some (.slice none 0 0) := (zbc BK221.out 2).trans rfl
             have hfz90_0 := zau BK221.out 0
             have hfz90_1 := zau BK221.out 1
             have hfz90_2 := zau BK221.out 2
             have hnb91 := NB185_197.out
             have hnc91 := NB197_185.out
             have hcz92_0 : w74.cell? ⟨gb185, 0, none⟩ = some (.int .i64 t177) := (zbc BK185.out 0).trans rfl
             have hcz92_1 : w74.cell? ⟨gb185, 1, none⟩ = some (.slice Ao13 t178.length co13) := (zbc BK185.out 1).trans rfl
             have hcz92_2 : w74.cell? ⟨gb185, 2, none⟩ = some (.slice Ao14 t181.length co14) := (zbc BK185.out 2).trans rfl
             have hfz92_0 := zau BK185.out 0
             have hfz92_1 := zau BK185.out 1
             have hfz92_2 := zau BK185.out 2
             go_wp2_with (first | ((with_reducible refine zcl (f := 12) rfl ?_); refine goesL_ (some 78) rfl rfl Try.func12 (by kernel_rfl) rfl #[.agg #[.int .i64 t213, .slice Ao78 t214.length co78, .slice Ao79 t217.length co79], .agg #[.int .i64 t177, .slice Ao13 t178.length co13, .slice Ao14 t181.length co14]] rfl (by (try simp only [zbg, zbs, zbt]); first | done | rfl) ?_; (with_reducible refine (laws_eqLetter.calls kj37 t213 _ _ t214 _ _ t217 t177 _ _ t178 _ _ t181 false _ ?side1 ?side2 ?side3 ?side4 ?side5 ?side6 ?side7 ?side8 A80.out).mono ?_); (case side1 => refine (zba (e := 5) (base := w.heap.size) (ok := fun k_ => (((((some k_ ≠ (.slice Ao79 t217.length co79 : Value).ownBlock ∧ some k_ ≠ (.slice Ao13 t178.length co13 : Value).ownBlock) ∧ some k_ ≠ (.slice Ao14 t181.length co14 : Value).ownBlock) ∧ some k_ ≠ (.slice Ao21 t190.length co21 : Value).ownBlock) ∧ some k_ ≠ (.slice Ao22 t193.length co22 : Value).ownBlock) ∧ some k_ ≠ (.slice Ao72 t210.length co72 : Value).ownBlock)) (n := t214.length) (c := co78) ?_).2.2; exact (by (with_reducible repeat (first | apply zam | apply zan | apply zaq)); exact (zaz (zax (p := ⟨gb221, 2, none⟩) (zax (p := ⟨gb221, 1, none⟩) (zax (p := ⟨gb221, 0, none⟩) (zbw HO216.out BK221.out (by decide)) (fun _ hk => hk.2) (.int .i64 t213)) (fun _ hk => hk.2) (.slice Ao78 t214.length co78)) (fun _ hk => hk.2) (.slice Ao79 t217.length co79)) (fun _ h_ => h_.1)))); (case side2 => exact (zba HO216.out).2.1); (case side3 => refine (zba (e := 5) (base := w.heap.size) (ok := fun k_ => (((((some k_ ≠ (.slice Ao78 t214.length co78 : Value).ownBlock ∧ some k_ ≠ (.slice Ao13 t178.length co13 : Value).ownBlock) ∧ some k_ ≠ (.slice Ao14 t181.length co14 : Value).ownBlock) ∧ some k_ ≠ (.slice Ao21 t190.length co21 : Value).ownBlock) ∧ some k_ ≠ (.slice Ao22 t193.length co22 : Value).ownBlock) ∧ some k_ ≠ (.slice Ao72 t210.length co72 : Value).ownBlock)) (n := t217.length) (c := co79) ?_).2.2; exact (by (with_reducible repeat (first | apply zam | apply zan | apply zaq)); exact (zaz (zax (p := ⟨gb221, 2, none⟩) (zax (p := ⟨gb221, 1, none⟩) (zax (p := ⟨gb221, 0, none⟩) (zbw HO219.out BK221.out (by decide)) (fun _ hk => hk.2) (.int .i64 t213)) (fun _ hk => hk.2) (.slice Ao78 t214.length co78)) (fun _ hk => hk.2) (.slice Ao79 t217.length co79)) (fun _ h_ => h_.1)))); (case side4 => exact (zba HO219.out).2.1); (case side5 => refine (zba (e := 5) (base := w.heap.size) (ok := fun k_ => ((((some k_ ≠ (.slice Ao14 t181.length co14 : Value).ownBlock ∧ (some k_ ≠ (.slice Ao21 t190.length co21 : Value).ownBlock ∧ some k_ ≠ (.slice Ao22 t193.length co22 : Value).ownBlock)) ∧ some k_ ≠ (.slice Ao72 t210.length co72 : Value).ownBlock) ∧ some k_ ≠ (.slice Ao78 t214.length co78 : Value).ownBlock) ∧ some k_ ≠ (.slice Ao79 t217.length co79 : Value).ownBlock)) (n := t178.length) (c := co13) ?_).2.2; exact (by (with_reducible repeat (first | apply zam | apply zan | apply zaq)); exact (zaz (zax (p := ⟨gb221, 2, none⟩) (zax (p := ⟨gb221, 1, none⟩) (zax (p := ⟨gb221, 0, none⟩) (zbw HO_186001.out BK221.out (by decide)) (fun _ hk => hk.2) (.int .i64 t213)) (fun _ hk => hk.2) (.slice Ao78 t214.length co78)) (fun _ hk => hk.2) (.slice Ao79 t217.length co79)) (fun _ h_ => h_.1)))); (case side6 => exact (zba HO_186001.out).2.1); (case side7 => refine (zba (e := 5) (base := w.heap.size) (ok := fun k_ => ((((some k_ ≠ (.slice Ao13 t178.length co13 : Value).ownBlock ∧ (some k_ ≠ (.slice Ao21 t190.length co21 : Value).ownBlock ∧ some k_ ≠ (.slice Ao22 t193.length co22 : Value).ownBlock)) ∧ some k_ ≠ (.slice Ao72 t210.length co72 : Value).ownBlock) ∧ some k_ ≠ (.slice Ao78 t214.length co78 : Value).ownBlock) ∧ some k_ ≠ (.slice Ao79 t217.length co79 : Value).ownBlock)) (n := t181.length) (c := co14) ?_).2.2; exact (by (with_reducible repeat (first | apply zam | apply zan | apply zaq)); exact (zaz (zax (p := ⟨gb221, 2, none⟩) (zax (p := ⟨gb221, 1, none⟩) (zax (p := ⟨gb221, 0, none⟩) (zbw HO_186002.out BK221.out (by decide)) (fun _ hk => hk.2) (.int .i64 t213)) (fun _ hk => hk.2) (.slice Ao78 t214.length co78)) (fun _ hk => hk.2) (.slice Ao79 t217.length co79)) (fun _ h_ => h_.1)))); (case side8 => exact (zba HO_186002.out).2.1); rintro e w93 ⟨rfl, hb⟩; refine ⟨_, rfl, ?_⟩; have n0_ := Aside0.mk (zbe (by (with_reducible repeat (first | apply zam | apply zan | apply zaq)); exact (zaz (zax (p := ⟨gb221, 2, none⟩) (zax (p := ⟨gb221, 1, none⟩) (zax (p := ⟨gb221, 0, none⟩) (zbw HO_186001.out BK221.out (by decide)) (fun _ hk => hk.2) (.int .i64 t213)) (fun _ hk => hk.2) (.slice Ao78 t214.length co78)) (fun _ hk => hk.2) (.slice Ao79 t217.length co79)) (fun _ h_ => h_.1))) hb); have n1_ := Aside0.mk (zbe (by (with_reducible repeat (first | apply zam | apply zan | apply zaq)); exact (zaz (zax (p := ⟨gb221, 2, none⟩) (zax (p := ⟨gb221, 1, none⟩) (zax (p := ⟨gb221, 0, none⟩) (zbw HO_186002.out BK221.out (by decide)) (fun _ hk => hk.2) (.int .i64 t213)) (fun _ hk => hk.2) (.slice Ao78 t214.length co78)) (fun _ hk => hk.2) (.slice Ao79 t217.length co79)) (fun _ h_ => h_.1))) hb); have n2_ := Aside0.mk (zbe (by (with_reducible repeat (first | apply zam | apply zan | apply zaq)); exact (zaz (zax (p := ⟨gb221, 2, none⟩) (zax (p := ⟨gb221, 1, none⟩) (zax (p := ⟨gb221, 0, none⟩) (zbw HO_198001.out BK221.out (by decide)) (fun _ hk => hk.2) (.int .i64 t213)) (fun _ hk => hk.2) (.slice Ao78 t214.length co78)) (fun _ hk => hk.2) (.slice Ao79 t217.length co79)) (fun _ h_ => h_.1))) hb); have n3_ := Aside0.mk (zbe (by (with_reducible repeat (first | apply zam | apply zan | apply zaq)); exact (zaz (zax (p := ⟨gb221, 2, none⟩) (zax (p := ⟨gb221, 1, none⟩) (zax (p := ⟨gb221, 0, none⟩) (zbw HO_198002.out BK221.out (by decide)) (fun _ hk => hk.2) (.int .i64 t213)) (fun _ hk => hk.2) (.slice Ao78 t214.length co78)) (fun _ hk => hk.2) (.slice Ao79 t217.length co79)) (fun _ h_ => h_.1))) hb); have n4_ := Aside0.mk (zbe (by (with_reducible repeat (first | apply zam | apply zan | apply zaq)); exact (zaz (zax (p := ⟨gb221, 2, none⟩) (zax (p := ⟨gb221, 1, none⟩) (zax (p := ⟨gb221, 0, none⟩) (zbw HO212.out BK221.out (by decide)) (fun _ hk => hk.2) (.int .i64 t213)) (fun _ hk => hk.2) (.slice Ao78 t214.length co78)) (fun _ hk => hk.2) (.slice Ao79 t217.length co79)) (fun _ h_ => h_.1))) hb); have n5_ := Aside0.mk (zbe (by (with_reducible repeat (first | apply zam | apply zan | apply zaq)); exact (zaz (zax (p := ⟨gb221, 2, none⟩) (zax (p := ⟨gb221, 1, none⟩) (zax (p := ⟨gb221, 0, none⟩) (zbw HO216.out BK221.out (by decide)) (fun _ hk => hk.2) (.int .i64 t213)) (fun _ hk => hk.2) (.slice Ao78 t214.length co78)) (fun _ hk => hk.2) (.slice Ao79 t217.length co79)) (fun _ h_ => h_.1))) hb); have n6_ := Aside0.mk (zbe (by (with_reducible repeat (first | apply zam | apply zan | apply zaq)); exact (zaz (zax (p := ⟨gb221, 2, none⟩) (zax (p := ⟨gb221, 1, none⟩) (zax (p := ⟨gb221, 0, none⟩) (zbw HO219.out BK221.out (by decide)) (fun _ hk => hk.2) (.int .i64 t213)) (fun _ hk => hk.2) (.slice Ao78 t214.length co78)) (fun _ hk => hk.2) (.slice Ao79 t217.length co79)) (fun _ h_ => h_.1))) hb); have n7_ := Aside0.mk (zbf (g := gb185) (o := .cells #[.int .i64 t177, .slice Ao13 t178.length co13, .slice Ao14 t181.length co14] 24 (0, 0)) (by (with_reducible repeat (first | refine zai ?_ _ | refine zao ?_ | refine zaj ?_ _)); refine zet ?_ NB185_221.out _; (with_reducible repeat (first | refine zai ?_ _ | refine zao ?_ | refine zaj ?_ _)); refine zet ?_ NB185_221.out _; (with_reducible repeat (first | refine zai ?_ _ | refine zao ?_ | refine zaj ?_ _)); refine zet ?_ NB185_221.out _; (with_reducible repeat (first | refine zai ?_ _ | refine zao ?_ | refine zaj ?_ _)); exact BK185.out) hb); have n8_ := Aside0.mk (zbf (g := gb197) (o := .cells #[.int .i64 t189, .slice Ao21 t190.length co21, .slice Ao22 t193.length co22] 24 (0, 0)) (by (with_reducible repeat (first | refine zai ?_ _ | refine zao ?_ | refine zaj ?_ _)); refine zet ?_ NB197_221.out _; (with_reducible repeat (first | refine zai ?_ _ | refine zao ?_ | refine zaj ?_ _)); refine zet ?_ NB197_221.out _; (with_reducible repeat (first | refine zai ?_ _ | refine zao ?_ | refine zaj ?_ _)); refine zet ?_ NB197_221.out _; (with_reducible repeat (first | refine zai ?_ _ | refine zao ?_ | refine zaj ?_ _)); exact BK197.out) hb); have n9_ := Aside0.mk (zbf (g := gb221) (o := .cells #[.int .i64 t213, .slice Ao78 t214.length co78, .slice Ao79 t217.length co79] 24 (0, 0)) (by (with_reducible repeat (first | refine zai ?_ _ | refine zao ?_ | refine zaj ?_ _)); refine zdl (cs := #[.int .i64 t213, .slice Ao78 t214.length co78, .slice none 0 0]) ?_ 2 _ rfl; (with_reducible repeat (first | refine zai ?_ _ | refine zao ?_ | refine zaj ?_ _)); refine zdl (cs := #[.int .i64 t213, .slice none 0 0, .slice none 0 0]) ?_ 1 _ rfl; (with_reducible repeat (first | refine zai ?_ _ | refine zao ?_ | refine zaj ?_ _)); refine zdl (cs := #[.int .i64 0, .slice none 0 0, .slice none 0 0]) ?_ 0 _ rfl; (with_reducible repeat (first | refine zai ?_ _ | refine zao ?_ | refine zaj ?_ _)); exact BK221.out) hb); have n10_ := Aside0.mk (zbh (by repeat (first | (with_reducible first | exact HB.out | apply zah | apply zab | apply zaf | refine zag ?_ GE185.out | refine zag ?_ GE197.out | refine zag ?_ GE221.out) | exact HB.out)) hb); clear HO_186001 HO_186002 HO_198001 HO_198002 HO212 HO216 HO219 BK185 BK197 BK221 HB; have HO_186001 := n0_; have HO_186002 := n1_; have HO_198001 := n2_; have HO_198002 := n3_; have HO212 := n4_; have HO216 := n5_; have HO219 := n6_; have BK185 := n7_; have BK197 := n8_; have BK221 := n9_; have HB := n10_; clear n0_ n1_ n2_ n3_ n4_ n5_ n6_ n7_ n8_ n9_ n10_; (try clear hb); (try clear hb2); (try clear hk); (try clear hi)))
             go_meet
             case rel => exact ⟨_, (true), (by first | rfl | (simp; done) | (simp [*]; done)), H', ⟨by have := HJ6.out; have := HJ37.out; first | omega | exact zbq _⟩, ⟨by (with_reducible repeat (first | apply zam | apply zan | apply zaq)); exact zaz HO_186001.out (fun _ hk => ⟨hk.1.1.1.1, ⟨hk.1.1.1.2.1, ⟨hk.1.1.1.2.2, ⟨hk.1.2, hk.2⟩⟩⟩⟩)⟩, ⟨by (with_reducible repeat (first | apply zam | apply zan | apply zaq)); exact zaz HO_186002.out (fun _ hk => ⟨hk.1.1.1.1, ⟨hk.1.1.1.2.1, ⟨hk.1.1.1.2.2, ⟨hk.1.2, hk.2⟩⟩⟩⟩)⟩, ⟨by (with_reducible repeat (first | apply zam | apply zan | apply zaq)); exact zaz HO_198001.out (fun _ hk => ⟨hk.1.1.1.1, ⟨hk.1.1.1.2.1, ⟨hk.1.1.1.2.2, ⟨hk.1.2, hk.2⟩⟩⟩⟩)⟩, ⟨by (with_reducible repeat (first | apply zam | apply zan | apply zaq)); exact zaz HO_198002.out (fun _ hk => ⟨hk.1.1.1.1, ⟨hk.1.1.1.2.1, ⟨hk.1.1.1.2.2, ⟨hk.1.2, hk.2⟩⟩⟩⟩)⟩, ⟨by (with_reducible repeat (first | apply zam | apply zan | apply zaq)); exact zaz HO216.out (fun _ hk => ⟨hk.1.1.1.1.2, ⟨hk.1.1.1.2, ⟨hk.1.1.2, ⟨hk.1.2, hk.1.1.1.1.1⟩⟩⟩⟩)⟩, ⟨by (with_reducible repeat (first | apply zam | apply zan | apply zaq)); exact zaz HO219.out (fun _ hk => ⟨hk.1.1.1.1.2, ⟨hk.1.1.1.2, ⟨hk.1.1.2, ⟨hk.1.2, hk.1.1.1.1.1⟩⟩⟩⟩)⟩, ⟨by (with_reducible repeat (first | refine zai ?_ _ | refine zao ?_ | refine zaj ?_ _)); exact BK185.out⟩, ⟨by (with_reducible repeat (first | refine zai ?_ _ | refine zao ?_ | refine zaj ?_ _)); exact BK197.out⟩, ⟨by (with_reducible repeat (first | refine zai ?_ _ | refine zao ?_ | refine zaj ?_ _)); exact BK221.out⟩, ⟨by repeat (first | (with_reducible first | exact HB.out | apply zah | apply zab | apply zaf | refine zag ?_ GE185.out | refine zag ?_ GE197.out | refine zag ?_ GE221.out) | exact HB.out)⟩⟩
           case rest =>
            clear HC65
            try clear c1
            try clear c2
            try clear c2b0
            try clear c2b1
            try clear p2
            try clear c3
            try clear c4
            try clear c5
            try clear c6
            try clear c7
            try clear c8
            try clear c9
            try clear c10
            try clear c11
            try clear c12
            try clear c13
            try clear c14
            try clear c15
            try clear c16
            try clear c19
            try clear c24
            try clear c25
            try clear c29
            try clear c33
            try clear c36
            try clear c42
            try clear c42b0
            try clear c44
            try clear c45
            try clear c49
            try clear c53
            try clear c56
            try clear c56b0
            try clear c57
            try clear c62
            try clear c62b0
            try clear c62b1
            try clear c66
            try clear c75
            try clear c76
            try clear c81
            try clear c82
            try clear c83
            try clear c85
            try clear c88
            try clear c89
            try clear c91
            try clear hcz12_0
            try clear hcz12_1
            try clear hcz12_2
            try clear hcz20_0
            try clear hcz20_1
            try clear hcz20_2
            try clear hcz26_0
            try clear hcz26_1
            try clear hcz26_2
            try clear hcz27_0
            try clear hcz27_1
            try clear hcz27_2
            try clear hcz30_0
            try clear hcz30_1
            try clear hcz30_2
            try clear hcz31_0
            try clear hcz31_1
            try clear hcz31_2
            try clear hcz46_0
            try clear hcz46_1
            try clear hcz46_2
            try clear hcz47_0
            try clear hcz47_1
            try clear hcz47_2
            try clear hcz50_0
            try clear hcz50_1
            try clear hcz50_2
            try clear hcz51_0
            try clear hcz51_1
            try clear hcz51_2
            try clear hcz58_0
            try clear hcz58_1
            try clear hcz58_2
            try clear hcz60_0
            try clear hcz60_1
            try clear hcz60_2
            try clear hcz67_0
            try clear hcz67_1
            try clear hcz67_2
            try clear hcz69_0
            try clear hcz69_1
            try clear hcz69_2
            try clear hcz77_0
            try clear hcz77_1
            try clear hcz77_2
            try clear hcz84_0
            try clear hcz84_1
            try clear hcz84_2
            try clear hcz86_0
            try clear hcz86_1
            try clear hcz86_2
            try clear hcz90_0
            try clear hcz90_1
            try clear hcz90_2
            try clear hcz92_0
            try clear hcz92_1
            try clear hcz92_2
            try clear hfz12_0
            try clear hfz12_1
            try clear hfz12_2
            try clear hfz20_0
            try clear hfz20_1
            try clear hfz20_2
            try clear hfz26_0
            try clear hfz26_1
            try clear hfz26_2
            try clear hfz27_0
            try clear hfz27_1
            try clear hfz27_2
            try clear hfz30_0
            try clear hfz30_1
            try clear hfz30_2
            try clear hfz31_0
            try clear hfz31_1
            try clear hfz31_2
            try clear hfz46_0
            try clear hfz46_1
            try clear hfz46_2
            try clear hfz47_0
            try clear hfz47_1
            try clear hfz47_2
            try clear hfz50_0
            try clear hfz50_1
            try clear hfz50_2
            try clear hfz51_0
            try clear hfz51_1
            try clear hfz51_2
            try clear hfz58_0
            try clear hfz58_1
            try clear hfz58_2
            try clear hfz60_0
            try clear hfz60_1
            try clear hfz60_2
            try clear hfz67_0
            try clear hfz67_1
            try clear hfz67_2
            try clear hfz69_0
            try clear hfz69_1
            try clear hfz69_2
            try clear hfz77_0
            try clear hfz77_1
            try clear hfz77_2
            try clear hfz84_0
            try clear hfz84_1
            try clear hfz84_2
            try clear hfz86_0
            try clear hfz86_1
            try clear hfz86_2
            try clear hfz90_0
            try clear hfz90_1
            try clear hfz90_2
            try clear hfz92_0
            try clear hfz92_1
            try clear hfz92_2
            try clear p2
            obtain ⟨kq, x84_64, rfl, HA, HJ64, HO_186001, HO_186002, HO_198001, HO_198002, HO_222001, HO_222002, BK185, BK197, BK221, HB⟩ := hcut
            have hl198001_64 := (zba HO_198001.out).1
            rw [hl198001_64] at HO_198001
            (try simp only [hl198001_64])
            (try simp only [hl198001_64] at BK185)
            (try simp only [hl198001_64] at BK197)
            (try simp only [hl198001_64] at BK221)
            (try simp only [hl198001_64] at HO_186001)
            (try simp only [hl198001_64] at HO_186002)
            (try simp only [hl198001_64] at HO_198002)
            (try simp only [hl198001_64] at HO_222001)
            (try simp only [hl198001_64] at HO_222002)
            have hl198002_64 := (zba HO_198002.out).1
            rw [hl198002_64] at HO_198002
            (try simp only [hl198002_64])
            (try simp only [hl198002_64] at BK185)
            (try simp only [hl198002_64] at BK197)
            (try simp only [hl198002_64] at BK221)
            (try simp only [hl198002_64] at HO_186001)
            (try simp only [hl198002_64] at HO_186002)
            (try simp only [hl198002_64] at HO_198001)
            (try simp only [hl198002_64] at HO_222001)
            (try simp only [hl198002_64] at HO_222002)
            cases kq with
            | zero => exact absurd HA.out (by simp [laws_FnExactLetterOf.j2])
            | succ kj64 =>
             have H := HA.out
             clear HA
             simp only [laws_FnExactLetterOf.j2] at H
             by_cases c94 : x84_64 = true
             ·subst c94
              have H1 : (some false) = some r := by rw [if_pos rfl] at H; exact H
              clear H
              have H := H1
              clear H1
              obtain rfl := Option.some.inj H
              go_wp2
              go_ret
              exact ⟨by first | rfl | (simp [zcd, zce] <;> rfl) | (simp [*, zcd, zce] <;> rfl), by repeat (first | (with_reducible first | exact HB.out | apply zah | apply zab | apply zaf | refine zag ?_ GE185.out | refine zag ?_ GE197.out | refine zag ?_ GE221.out) | exact HB.out)⟩
             ·replace c94 := zdk.mpr c94
              subst c94
              have H1 : ((laws_heldLetter.f kj64 t189 t207 t208 1).bind fun t223 => (if t223 < 0 then (some false) else (if t223 = t206 then (some true) else (some false)))) = some r := by rw [if_neg (show ¬ (false = true) by decide)] at H; exact H
              clear H
              have H := H1
              clear H1
              replace H := zbm.mp H
              obtain ⟨t223, A950, H⟩ := H
              try dsimp only at H
              have A95 := Aside0.mk A950
              clear A950
              by_cases c96 : t223 < 0
              ·rw [if_pos c96] at H
               have c96b0 : decide (t223 < 0) = true := zbo c96
               clear c96
               obtain rfl := Option.some.inj H
               have hnb97 := NB197_185.out
               have hnc97 := NB185_197.out
               have hnb98 := NB197_221.out
               have hnc98 := NB221_197.out
               have hcz99_0 : wc.cell? ⟨gb197, 0, none⟩ = some (.int .i64 t189) := (zbc BK197.out 0).trans rfl
               have hcz99_1 : wc.cell? ⟨gb197, 1, none⟩ = some (.slice Ao21 t207.length co21) := (zbc BK197.out 1).trans rfl
               have hcz99_2 : wc.cell? ⟨gb197, 2, none⟩ = some (.slice Ao22 t208.length co22) := (zbc BK197.out 2).trans rfl
               have hfz99_0 := zau BK197.out 0
               have hfz99_1 := zau BK197.out 1
               have hfz99_2 := zau BK197.out 2
               go_wp2_with (first | ((with_reducible refine zcl (f := 16) rfl ?_); refine goesL_ (some 87) rfl rfl Try.func16 (by kernel_rfl) rfl #[.agg #[.int .i64 t189, .slice Ao21 t207.length co21, .slice Ao22 t208.length co22], .int .i64 1] rfl (by (try simp only [zbg, zbs, zbt]); first | done | rfl) ?_; (with_reducible refine (laws_heldLetter.calls kj64 t189 _ _ t207 _ _ t208 1 t223 _ ?side1 ?side2 ?side3 ?side4 A95.out).mono ?_); (case side1 => repeat (first | exact (zba HO_198001.out).2.2 | (with_reducible first | apply zbu | apply zbv | apply zca))); (case side2 => exact (zba HO_198001.out).2.1); (case side3 => repeat (first | exact (zba HO_198002.out).2.2 | (with_reducible first | apply zbu | apply zbv | apply zca))); (case side4 => exact (zba HO_198002.out).2.1); rintro e w100 ⟨rfl, hb⟩; refine ⟨_, rfl, ?_⟩; have n0_ := Aside0.mk (zbe (by (with_reducible repeat (first | apply zam | apply zan | apply zaq)); exact HO_186001.out) hb); have n1_ := Aside0.mk (zbe (by (with_reducible repeat (first | apply zam | apply zan | apply zaq)); exact HO_186002.out) hb); have n2_ := Aside0.mk (zbe (by (with_reducible repeat (first | apply zam | apply zan | apply zaq)); exact HO_198001.out) hb); have n3_ := Aside0.mk (zbe (by (with_reducible repeat (first | apply zam | apply zan | apply zaq)); exact HO_198002.out) hb); have n4_ := Aside0.mk (zbe (by (with_reducible repeat (first | apply zam | apply zan | apply zaq)); exact HO_222001.out) hb); have n5_ := Aside0.mk (zbe (by (with_reducible repeat (first | apply zam | apply zan | apply zaq)); exact HO_222002.out) hb); have n6_ := Aside0.mk (zbf (g := gb185) (o := .cells #[.int .i64 t177, .slice Ao13 t178.length co13, .slice Ao14 t181.length co14] 24 (0, 0)) (by (with_reducible repeat (first | refine zai ?_ _ | refine zao ?_ | refine zaj ?_ _)); exact BK185.out) hb); have n7_ := Aside0.mk (zbf (g := gb197) (o := .cells #[.int .i64 t189, .slice Ao21 t207.length co21, .slice Ao22 t208.length co22] 24 (0, 0)) (by (with_reducible repeat (first | refine zai ?_ _ | refine zao ?_ | refine zaj ?_ _)); exact BK197.out) hb); have n8_ := Aside0.mk (zbf (g := gb221) (o := .cells #[.int .i64 t213, .slice Ao78 t214.length co78, .slice Ao79 t217.length co79] 24 (0, 0)) (by (with_reducible repeat (first | refine zai ?_ _ | refine zao ?_ | refine zaj ?_ _)); exact BK221.out) hb); have n9_ := Aside0.mk (zbh (by repeat (first | (with_reducible first | exact HB.out | apply zah | apply zab | apply zaf | refine zag ?_ GE185.out | refine zag ?_ GE197.out | refine zag ?_ GE221.out) | exact HB.out)) hb); clear HO_186001 HO_186002 HO_198001 HO_198002 HO_222001 HO_222002 BK185 BK197 BK221 HB; have HO_186001 := n0_; have HO_186002 := n1_; have HO_198001 := n2_; have HO_198002 := n3_; have HO_222001 := n4_; have HO_222002 := n5_; have BK185 := n6_; have BK197 := n7_; have BK221 := n8_; have HB := n9_; clear n0_ n1_ n2_ n3_ n4_ n5_ n6_ n7_ n8_ n9_; (try clear hb); (try clear hb2); (try clear hk); (try clear hi)))
               go_ret
               exact ⟨by first | rfl | (simp [zcd, zce] <;> rfl) | (simp [*, zcd, zce] <;> rfl), by repeat (first | (with_reducible first | exact HB.out | apply zah | apply zab | apply zaf | refine zag ?_ GE185.out | refine zag ?_ GE197.out | refine zag ?_ GE221.out) | exact HB.out)⟩
              ·rw [if_neg c96] at H
               have c96b0 : decide (t223 < 0) = false := zcv c96
               clear c96
               by_cases c101 : t223 = t206
               ·rw [if_pos c101] at H
                have c101b0 : (t223 == t206) = true := beq_iff_eq.mpr c101
                have c101b1 : (t223 != t206) = false := zed.mpr c101
                clear c101
                obtain rfl := Option.some.inj H
                have hnb102 := NB197_185.out
                have hnc102 := NB185_197.out
                have hnb103 := NB197_221.out
                have hnc103 := NB221_197.out
                have hcz104_0 : wc.cell? ⟨gb197, 0, none⟩ = some (.int .i64 t189) := (zbc BK197.out 0).trans rfl
                have hcz104_1 : wc.cell? ⟨gb197, 1, none⟩ = some (.slice Ao21 t207.length co21) := (zbc BK197.out 1).trans rfl
                have hcz104_2 : wc.cell? ⟨gb197, 2, none⟩ = some (.slice Ao22 t208.length co22) := (zbc BK197.out 2).trans rfl
                have hfz104_0 := zau BK197.out 0
                have hfz104_1 := zau BK197.out 1
                have hfz104_2 := zau BK197.out 2
                go_wp2_with (first | ((with_reducible refine zcl (f := 16) rfl ?_); refine goesL_ (some 87) rfl rfl Try.func16 (by kernel_rfl) rfl #[.agg #[.int .i64 t189, .slice Ao21 t207.length co21, .slice Ao22 t208.length co22], .int .i64 1] rfl (by (try simp only [zbg, zbs, zbt]); first | done | rfl) ?_; (with_reducible refine (laws_heldLetter.calls kj64 t189 _ _ t207 _ _ t208 1 t223 _ ?side1 ?side2 ?side3 ?side4 A95.out).mono ?_); (case side1 => repeat (first | exact (zba HO_198001.out).2.2 | (with_reducible first | apply zbu | apply zbv | apply zca))); (case side2 => exact (zba HO_198001.out).2.1); (case side3 => repeat (first | exact (zba HO_198002.out).2.2 | (with_reducible first | apply zbu | apply zbv | apply zca))); (case side4 => exact (zba HO_198002.out).2.1); rintro e w105 ⟨rfl, hb⟩; refine ⟨_, rfl, ?_⟩; have n0_ := Aside0.mk (zbe (by (with_reducible repeat (first | apply zam | apply zan | apply zaq)); exact HO_186001.out) hb); have n1_ := Aside0.mk (zbe (by (with_reducible repeat (first | apply zam | apply zan | apply zaq)); exact HO_186002.out) hb); have n2_ := Aside0.mk (zbe (by (with_reducible repeat (first | apply zam | apply zan | apply zaq)); exact HO_198001.out) hb); have n3_ := Aside0.mk (zbe (by (with_reducible repeat (first | apply zam | apply zan | apply zaq)); exact HO_198002.out) hb); have n4_ := Aside0.mk (zbe (by (with_reducible repeat (first | apply zam | apply zan | apply zaq)); exact HO_222001.out) hb); have n5_ := Aside0.mk (zbe (by (with_reducible repeat (first | apply zam | apply zan | apply zaq)); exact HO_222002.out) hb); have n6_ := Aside0.mk (zbf (g := gb185) (o := .cells #[.int .i64 t177, .slice Ao13 t178.length co13, .slice Ao14 t181.length co14] 24 (0, 0)) (by (with_reducible repeat (first | refine zai ?_ _ | refine zao ?_ | refine zaj ?_ _)); exact BK185.out) hb); have n7_ := Aside0.mk (zbf (g := gb197) (o := .cells #[.int .i64 t189, .slice Ao21 t207.length co21, .slice Ao22 t208.length co22] 24 (0, 0)) (by (with_reducible repeat (first | refine zai ?_ _ | refine zao ?_ | refine zaj ?_ _)); exact BK197.out) hb); have n8_ := Aside0.mk (zbf (g := gb221) (o := .cells #[.int .i64 t213, .slice Ao78 t214.length co78, .slice Ao79 t217.length co79] 24 (0, 0)) (by (with_reducible repeat (first | refine zai ?_ _ | refine zao ?_ | refine zaj ?_ _)); exact BK221.out) hb); have n9_ := Aside0.mk (zbh (by repeat (first | (with_reducible first | exact HB.out | apply zah | apply zab | apply zaf | refine zag ?_ GE185.out | refine zag ?_ GE197.out | refine zag ?_ GE221.out) | exact HB.out)) hb); clear HO_186001 HO_186002 HO_198001 HO_198002 HO_222001 HO_222002 BK185 BK197 BK221 HB; have HO_186001 := n0_; have HO_186002 := n1_; have HO_198001 := n2_; have HO_198002 := n3_; have HO_222001 := n4_; have HO_222002 := n5_; have BK185 := n6_; have BK197 := n7_; have BK221 := n8_; have HB := n9_; clear n0_ n1_ n2_ n3_ n4_ n5_ n6_ n7_ n8_ n9_; (try clear hb); (try clear hb2); (try clear hk); (try clear hi)))
                go_ret
                exact ⟨by first | rfl | (simp [zcd, zce] <;> rfl) | (simp [*, zcd, zce] <;> rfl), by repeat (first | (with_reducible first | exact HB.out | apply zah | apply zab | apply zaf | refine zag ?_ GE185.out | refine zag ?_ GE197.out | refine zag ?_ GE221.out) | exact HB.out)⟩
               ·rw [if_neg c101] at H
                have c101b0 : (t223 == t206) = false := zdr.mpr c101
                have c101b1 : (t223 != t206) = true := bne_iff_ne.mpr c101
                obtain rfl := Option.some.inj H
                have hnb106 := NB197_185.out
                have hnc106 := NB185_197.out
                have hnb107 := NB197_221.out
                have hnc107 := NB221_197.out
                have hcz108_0 : wc.cell? ⟨gb197, 0, none⟩ = some (.int .i64 t189) := (zbc BK197.out 0).trans rfl
                have hcz108_1 : wc.cell? ⟨gb197, 1, none⟩ = some (.slice Ao21 t207.length co21) := (zbc BK197.out 1).trans rfl
                have hcz108_2 : wc.cell? ⟨gb197, 2, none⟩ = some (.slice Ao22 t208.length co22) := (zbc BK197.out 2).trans rfl
                have hfz108_0 := zau BK197.out 0
                have hfz108_1 := zau BK197.out 1
                have hfz108_2 := zau BK197.out 2
                go_wp2_with (first | ((with_reducible refine zcl (f := 16) rfl ?_); refine goesL_ (some 87) rfl rfl Try.func16 (by kernel_rfl) rfl #[.agg #[.int .i64 t189, .slice Ao21 t207.length co21, .slice Ao22 t208.length co22], .int .i64 1] rfl (by (try simp only [zbg, zbs, zbt]); first | done | rfl) ?_; (with_reducible refine (laws_heldLetter.calls kj64 t189 _ _ t207 _ _ t208 1 t223 _ ?side1 ?side2 ?side3 ?side4 A95.out).mono ?_); (case side1 => repeat (first | exact (zba HO_198001.out).2.2 | (with_reducible first | apply zbu | apply zbv | apply zca))); (case side2 => exact (zba HO_198001.out).2.1); (case side3 => repeat (first | exact (zba HO_198002.out).2.2 | (with_reducible first | apply zbu | apply zbv | apply zca))); (case side4 => exact (zba HO_198002.out).2.1); rintro e w109 ⟨rfl, hb⟩; refine ⟨_, rfl, ?_⟩; have n0_ := Aside0.mk (zbe (by (with_reducible repeat (first | apply zam | apply zan | apply zaq)); exact HO_186001.out) hb); have n1_ := Aside0.mk (zbe (by (with_reducible repeat (first | apply zam | apply zan | apply zaq)); exact HO_186002.out) hb); have n2_ := Aside0.mk (zbe (by (with_reducible repeat (first | apply zam | apply zan | apply zaq)); exact HO_198001.out) hb); have n3_ := Aside0.mk (zbe (by (with_reducible repeat (first | apply zam | apply zan | apply zaq)); exact HO_198002.out) hb); have n4_ := Aside0.mk (zbe (by (with_reducible repeat (first | apply zam | apply zan | apply zaq)); exact HO_222001.out) hb); have n5_ := Aside0.mk (zbe (by (with_reducible repeat (first | apply zam | apply zan | apply zaq)); exact HO_222002.out) hb); have n6_ := Aside0.mk (zbf (g := gb185) (o := .cells #[.int .i64 t177, .slice Ao13 t178.length co13, .slice Ao14 t181.length co14] 24 (0, 0)) (by (with_reducible repeat (first | refine zai ?_ _ | refine zao ?_ | refine zaj ?_ _)); exact BK185.out) hb); have n7_ := Aside0.mk (zbf (g := gb197) (o := .cells #[.int .i64 t189, .slice Ao21 t207.length co21, .slice Ao22 t208.length co22] 24 (0, 0)) (by (with_reducible repeat (first | refine zai ?_ _ | refine zao ?_ | refine zaj ?_ _)); exact BK197.out) hb); have n8_ := Aside0.mk (zbf (g := gb221) (o := .cells #[.int .i64 t213, .slice Ao78 t214.length co78, .slice Ao79 t217.length co79] 24 (0, 0)) (by (with_reducible repeat (first | refine zai ?_ _ | refine zao ?_ | refine zaj ?_ _)); exact BK221.out) hb); have n9_ := Aside0.mk (zbh (by repeat (first | (with_reducible first | exact HB.out | apply zah | apply zab | apply zaf | refine zag ?_ GE185.out | refine zag ?_ GE197.out | refine zag ?_ GE221.out) | exact HB.out)) hb); clear HO_186001 HO_186002 HO_198001 HO_198002 HO_222001 HO_222002 BK185 BK197 BK221 HB; have HO_186001 := n0_; have HO_186002 := n1_; have HO_198001 := n2_; have HO_198002 := n3_; have HO_222001 := n4_; have HO_222002 := n5_; have BK185 := n6_; have BK197 := n7_; have BK221 := n8_; have HB := n9_; clear n0_ n1_ n2_ n3_ n4_ n5_ n6_ n7_ n8_ n9_; (try clear hb); (try clear hb2); (try clear hk); (try clear hi)))
                go_ret
                exact ⟨by first | rfl | (simp [zcd, zce] <;> rfl) | (simp [*, zcd, zce] <;> rfl), by repeat (first | (with_reducible first | exact HB.out | apply zah | apply zab | apply zaf | refine zag ?_ GE185.out | refine zag ?_ GE197.out | refine zag ?_ GE221.out) | exact HB.out)⟩
          ·rw [if_neg c62] at H
           have c62b0 : (t209 == t206) = false := zdr.mpr c62
           have c62b1 : (t209 != t206) = true := bne_iff_ne.mpr c62
           obtain rfl := Option.some.inj H
           have hnb110 := NB197_185.out
           have hnc110 := NB185_197.out
           have hcz111_0 : wc.cell? ⟨gb197, 0, none⟩ = some (.int .i64 t189) := (zbc BK197.out 0).trans rfl
           have hcz111_1 : wc.cell? ⟨gb197, 1, none⟩ = some (.slice Ao21 t190.length co21) := (zbc BK197.out 1).trans rfl
           have hcz111_2 : wc.cell? ⟨gb197, 2, none⟩ = some (.slice Ao22 t193.length co22) := (zbc BK197.out 2).trans rfl
           have hfz111_0 := zau BK197.out 0
           have hfz111_1 := zau BK197.out 1
           have hfz111_2 := zau BK197.out 2
           go_wp2_with (first | ((with_reducible refine zcl (f := 15) rfl ?_); refine goesL_ (some 61) rfl rfl Try.func15 (by kernel_rfl) rfl #[.agg #[.int .i64 t189, .slice Ao21 t190.length co21, .slice Ao22 t193.length co22], .int .i64 1] rfl (by (try simp only [zbg, zbs, zbt]); first | done | rfl) ?_; (with_reducible refine (laws_markLetter.calls kj37 t189 (fun k_ => some k_ = (.slice Ao21 t190.length co21 : Value).ownBlock) (.slice Ao21 t190.length co21) t190 (fun k_ => some k_ = (.slice Ao22 t193.length co22 : Value).ownBlock) (.slice Ao22 t193.length co22) t193 1 t206 t207 t208 w _ ?side1 ?side2 ?side3 ?side4 ?side5 A54.out).mono ?_); (case side1 => repeat (first | (with_reducible first | exact HB.out | apply zah | apply zab | apply zaf | refine zag ?_ GE185.out | refine zag ?_ GE197.out) | exact HB.out)); (case side2 => exact Kd.R_tight rfl HO_198001.out); (case side3 => exact fun k_ e_ => (HO_198001.out.1 k_ e_.symm).2.2); (case side4 => exact Kd.R_tight rfl HO_198002.out); (case side5 => exact fun k_ e_ => (HO_198002.out.1 k_ e_.symm).2.2); rintro e w112 ⟨rfl, hy0, hy1, hb, hkp⟩; refine ⟨_, rfl, ?_⟩; have n0_ := Aside0.mk (zaz (ok' := fun k_ => some k_ ≠ (.slice Ao14 t181.length co14 : Value).ownBlock ∧ some k_ ≠ (.slice Ao21 t190.length co21 : Value).ownBlock ∧ some k_ ≠ (.slice Ao22 t193.length co22 : Value).ownBlock) (zeu (HO_186001.out) hkp (fun k_ hk_ hs_ => Or.elim hs_ (fun e_ => (hk_.2.1) e_) (fun e_ => (hk_.2.2) e_))) (fun k_ hk_ => ⟨hk_.1.1, hk_.1.2.1, hk_.1.2.2⟩)); have n1_ := Aside0.mk (zaz (ok' := fun k_ => some k_ ≠ (.slice Ao13 t178.length co13 : Value).ownBlock ∧ some k_ ≠ (.slice Ao21 t190.length co21 : Value).ownBlock ∧ some k_ ≠ (.slice Ao22 t193.length co22 : Value).ownBlock) (zeu (HO_186002.out) hkp (fun k_ hk_ hs_ => Or.elim hs_ (fun e_ => (hk_.2.1) e_) (fun e_ => (hk_.2.2) e_))) (fun k_ hk_ => ⟨hk_.1.1, hk_.1.2.1, hk_.1.2.2⟩)); have n2_ := Aside0.mk (Kd.R_reok rfl hy0 (fun k_ e_ => HO_198001.out.1 k_ e_)); have n3_ := Aside0.mk (Kd.R_reok rfl hy1 (fun k_ e_ => HO_198002.out.1 k_ e_)); have n4_ := Aside0.mk (blk_kept (by (with_reducible repeat (first | refine zai ?_ _ | refine zao ?_ | refine zaj ?_ _)); exact BK185.out) hkp (fun hs_ => Or.elim hs_ (fun e_ => (fun e_ => (Kd.R_ne HO_198001.out BK185.out (by decide)) e_) e_) (fun e_ => (fun e_ => (Kd.R_ne HO_198002.out BK185.out (by decide)) e_) e_))); have n5_ := Aside0.mk (blk_kept (by (with_reducible repeat (first | refine zai ?_ _ | refine zao ?_ | refine zaj ?_ _)); exact BK197.out) hkp (fun hs_ => Or.elim hs_ (fun e_ => (fun e_ => (Kd.R_ne HO_198001.out BK197.out (by decide)) e_) e_) (fun e_ => (fun e_ => (Kd.R_ne HO_198002.out BK197.out (by decide)) e_) e_))); have n6_ := Aside0.mk (hb); clear HO_186001 HO_186002 HO_198001 HO_198002 BK185 BK197 HB; have HO_186001 := n0_; have HO_186002 := n1_; have HO_198001 := n2_; have HO_198002 := n3_; have BK185 := n4_; have BK197 := n5_; have HB := n6_; clear n0_ n1_ n2_ n3_ n4_ n5_ n6_; (try clear hb); (try clear hkp); (try clear hy0); (try clear hy1); have hcz113_0 : w112.cell? ⟨gb197, 0, none⟩ = some (.int .i64 t189) := (zbc BK197.out 0).trans rfl; have hcz113_1 : w112.cell? ⟨gb197, 1, none⟩ = some (.slice Ao21 t190.length co21) := (zbc BK197.out 1).trans rfl; have hcz113_2 : w112.cell? ⟨gb197, 2, none⟩ = some (.slice Ao22 t193.length co22) := (zbc BK197.out 2).trans rfl; have hfz113_0 := zau BK197.out 0; have hfz113_1 := zau BK197.out 1; have hfz113_2 := zau BK197.out 2) | ((with_reducible refine zcl (f := 16) rfl ?_); refine goesL_ (some 64) rfl rfl Try.func16 (by kernel_rfl) rfl #[.agg #[.int .i64 t189, .slice Ao21 t207.length co21, .slice Ao22 t208.length co22], .int .i64 1] rfl (by (try simp only [zbg, zbs, zbt]); first | done | (rw [show t207.length = t190.length from (zba HO_198001.out).1.symm, show t208.length = t193.length from (zba HO_198002.out).1.symm] <;> rfl) | rfl | (simp only [zbn, zbr]; rfl)) ?_; (with_reducible refine (laws_heldLetter.calls kj37 t189 _ _ t207 _ _ t208 1 t209 _ ?side1 ?side2 ?side3 ?side4 A55.out).mono ?_); (case side1 => repeat (first | exact (zba HO_198001.out).2.2 | (with_reducible first | apply zbu | apply zbv | apply zca))); (case side2 => rw [show t207.length = t190.length from (zba HO_198001.out).1.symm]; exact (zba HO_198001.out).2.1); (case side3 => repeat (first | exact (zba HO_198002.out).2.2 | (with_reducible first | apply zbu | apply zbv | apply zca))); (case side4 => rw [show t208.length = t193.length from (zba HO_198002.out).1.symm]; exact (zba HO_198002.out).2.1); rintro e w114 ⟨rfl, hb⟩; refine ⟨_, rfl, ?_⟩; have n0_ := Aside0.mk (zbe (by (with_reducible repeat (first | apply zam | apply zan | apply zaq)); exact HO_186001.out) hb); have n1_ := Aside0.mk (zbe (by (with_reducible repeat (first | apply zam | apply zan | apply zaq)); exact HO_186002.out) hb); have n2_ := Aside0.mk (zbe (by (with_reducible repeat (first | apply zam | apply zan | apply zaq)); exact HO_198001.out) hb); have n3_ := Aside0.mk (zbe (by (with_reducible repeat (first | apply zam | apply zan | apply zaq)); exact HO_198002.out) hb); have n4_ := Aside0.mk (zbf (g := gb185) (o := .cells #[.int .i64 t177, .slice Ao13 t178.length co13, .slice Ao14 t181.length co14] 24 (0, 0)) (by (with_reducible repeat (first | refine zai ?_ _ | refine zao ?_ | refine zaj ?_ _)); exact BK185.out) hb); have n5_ := Aside0.mk (zbf (g := gb197) (o := .cells #[.int .i64 t189, .slice Ao21 t190.length co21, .slice Ao22 t193.length co22] 24 (0, 0)) (by (with_reducible repeat (first | refine zai ?_ _ | refine zao ?_ | refine zaj ?_ _)); exact BK197.out) hb); have n6_ := Aside0.mk (zbh (by repeat (first | (with_reducible first | exact HB.out | apply zah | apply zab | apply zaf | refine zag ?_ GE185.out | refine zag ?_ GE197.out) | exact HB.out)) hb); clear HO_186001 HO_186002 HO_198001 HO_198002 BK185 BK197 HB; have HO_186001 := n0_; have HO_186002 := n1_; have HO_198001 := n2_; have HO_198002 := n3_; have BK185 := n4_; have BK197 := n5_; have HB := n6_; clear n0_ n1_ n2_ n3_ n4_ n5_ n6_; (try clear hb); (try clear hb2); (try clear hk); (try clear hi)))
           go_ret
           exact ⟨by first | rfl | (simp [zcd, zce] <;> rfl) | (simp [*, zcd, zce] <;> rfl), by repeat (first | (with_reducible first | exact HB.out | apply zah | apply zab | apply zaf | refine zag ?_ GE185.out | refine zag ?_ GE197.out) | exact HB.out)⟩
     ·replace c36 := zdk.mpr c36
      subst c36
      have H1 : (some false) = some r := by rw [if_neg (show ¬ (false = true) by decide)] at H; exact H
      clear H
      have H := H1
      clear H1
      obtain rfl := Option.some.inj H
      go_wp2_with (first | ((with_reducible refine zcl (f := 10) rfl ?_); refine goesL_ (some 40) rfl rfl Try.func10 (by kernel_rfl) rfl #[.slice A0 l0.length c0] rfl (by (try simp only [zbg, zbs, zbt]); first | done | rfl) ?_; (with_reducible refine (laws_toByteS.calls kj6 _ _ l0 t199 _ ?side1 ?side2 A34.out).mono ?_); (case side1 => repeat (first | exact (zde HR0.out HB.out) | (with_reducible first | apply zbu | apply zbv | apply zca))); (case side2 => exact HC0.out); rintro e w115 ⟨v200, rfl, ho0, hb⟩; refine ⟨_, rfl, ?_⟩; have qHO_5 := Kd.R_ofs (by (with_reducible repeat (first | apply zam | apply zan | apply zaq)); exact HO_5.out) hb; have n0_ := Aside0.mk (zdh qHO_5 (zbl ho0) hb); have qHO_186001 := Kd.R_ofs (by (with_reducible repeat (first | apply zam | apply zan | apply zaq)); exact HO_186001.out) hb; have n1_ := Aside0.mk (zdh qHO_186001 (zbl ho0) hb); have qHO_186002 := Kd.R_ofs (by (with_reducible repeat (first | apply zam | apply zan | apply zaq)); exact HO_186002.out) hb; have n2_ := Aside0.mk (zdh qHO_186002 (zbl ho0) hb); have qHO_198001 := Kd.R_ofs (by (with_reducible repeat (first | apply zam | apply zan | apply zaq)); exact HO_198001.out) hb; have n3_ := Aside0.mk (zdh qHO_198001 (zbl ho0) hb); have qHO_198002 := Kd.R_ofs (by (with_reducible repeat (first | apply zam | apply zan | apply zaq)); exact HO_198002.out) hb; have n4_ := Aside0.mk (zdh qHO_198002 (zbl ho0) hb); have n5_ := Aside0.mk (zdd (zcr (zcr (zcr (zcr (zcr ho0 (zdf qHO_5)) (zdf qHO_186001)) (zdf qHO_186002)) (zdf qHO_198001)) (zdf qHO_198002)) (zat (by repeat (first | (with_reducible first | exact HB.out | apply zah | apply zab | apply zaf | refine zag ?_ GE185.out | refine zag ?_ GE197.out) | exact HB.out)))); have n6_ := Aside0.mk (zbf (g := gb185) (o := .cells #[.int .i64 t177, .slice Ao13 t178.length co13, .slice Ao14 t181.length co14] 24 (0, 0)) (by (with_reducible repeat (first | refine zai ?_ _ | refine zao ?_ | refine zaj ?_ _)); exact BK185.out) hb); have n7_ := Aside0.mk (zbf (g := gb197) (o := .cells #[.int .i64 t189, .slice Ao21 t190.length co21, .slice Ao22 t193.length co22] 24 (0, 0)) (by (with_reducible repeat (first | refine zai ?_ _ | refine zao ?_ | refine zaj ?_ _)); exact BK197.out) hb); have n8_ := Aside0.mk (zbh (by repeat (first | (with_reducible first | exact HB.out | apply zah | apply zab | apply zaf | refine zag ?_ GE185.out | refine zag ?_ GE197.out) | exact HB.out)) hb); clear qHO_186001 HO_5; clear qHO_186002 HO_186001; clear qHO_198001 HO_186002; clear qHO_198002 HO_198001; clear qHO_5 HO_198002; clear BK185 BK197 HB; have HO_5 := n0_; have HO_186001 := n1_; have HO_186002 := n2_; have HO_198001 := n3_; have HO_198002 := n4_; have HO201 := n5_; have BK185 := n6_; have BK197 := n7_; have HB := n8_; clear n0_ n1_ n2_ n3_ n4_ n5_ n6_ n7_ n8_; clear hb ho0; obtain ⟨Ao116, co116, eo116⟩ := zcz HO201.out; subst eo116) | ((with_reducible refine zcl (f := 13) rfl ?_); refine goesL_ (some 41) rfl rfl Try.func13 (by kernel_rfl) rfl #[.slice Ao16 t186.length co16, .slice Ao116 t199.length co116] rfl (by (try simp only [zbg, zbs, zbt]); first | done | rfl) ?_; (with_reducible refine (laws_eqByteS.calls kj6 _ _ t186 _ _ t199 false _ ?side1 ?side2 ?side3 ?side4 A35.out).mono ?_); (case side1 => repeat (first | exact (zba HO_5.out).2.2 | (with_reducible first | apply zbu | apply zbv | apply zca))); (case side2 => exact (zba HO_5.out).2.1); (case side3 => repeat (first | exact (zba HO201.out).2.2 | (with_reducible first | apply zbu | apply zbv | apply zca))); (case side4 => exact (zba HO201.out).2.1); rintro e w' ⟨rfl, ⟨nd, rfl⟩⟩; refine ⟨_, rfl, ?_⟩))
      go_ret
      exact ⟨by first | rfl | (simp [zcd, zce] <;> rfl) | (simp [*, zcd, zce] <;> rfl), by repeat (first | (with_reducible first | exact HB.out | apply zah | apply zab | apply zaf | refine zag ?_ GE185.out | refine zag ?_ GE197.out) | exact HB.out)⟩

def laws_FnExactLetterOf.Pure : Prop := ∀ (l0 : List Int), l0.length ≤ maxLen → l0.length * 1 ≤ 140737488351232 → (∀ x ∈ l0, (Lit.int .u8 x).wf = true) → ∃ k, laws_FnExactLetterOf.f k l0 = some true
theorem laws_FnExactLetterOf.walk (P : laws_FnExactLetterOf.Pure) (a0 : Option Addr) (len0 cap0 : Nat) (z0 : List Int) (w : World) (w0 : (a0 = none ∧ len0 = 0 ∧ cap0 = 0 ∧ z0 = []) ∨ ∃ x, a0 = some x ∧ len0 ≤ cap0 ∧ cap0 ≤ maxLen ∧ z0.length = cap0 ∧ (∀ i, i < z0.length → w.cell? (x.add i) = some (.int .u8 (z0.getD i 0))) ∧ ∀ n ∈ z0, (Lit.int .u8 n).wf = true) (y0 : len0 * 1 ≤ 140737488351232) :
  Calls Try.prog 3 #[.slice a0 len0 cap0] w fun e w' => e = .returned (.bool true) ∧ Below w.heap.size w w' := by
 obtain ⟨l0, rfl, hr0, hm0, hw0, hc0⟩ := ReadsInt.ofRowC w0
 obtain ⟨k, h⟩ := P l0 hm0 y0 hw0
 refine (laws_FnExactLetterOf.calls k _ _ l0 true w (Kd.C_of_reads (d := (0 : Int)) (h1 := fun _ => rfl) hr0) hc0 h).mono ?_
 rintro e w' ⟨rfl, hd⟩
 exact ⟨rfl, hd⟩
end Go.Proofs.Ytdineaebljpfaaa.P
/- FnExactLetterOf: of every list of bytes both answers are one; the list is not changed, and no two calls share what is answered. -/
namespace Go.Proofs.Ytdineaebljpfaaa.Pure
open Go.RowKit Go.Proofs.Ytdineaebljpfaaa.P Go.Proofs.Ytdineaebljpfaaa.B Go.Proofs.YtdineaebljpfaaaW.PrintWords Go.Proofs.YtdineaebljpfaaaW.PrintLast Go.Proofs.YtdineaebljpfaaaW.PrintMore
theorem eqL (e : Int) (l m : List Int) (hl : l.length ≤ 2000) (hm : m.length ≤ 2000) (k : Nat) (hk : 2000 < k) : laws_eqLetter.f k e l m e l m = some true := by
  unfold laws_eqLetter.f
  rw [if_pos rfl, eqByteS_same l (by omega) k (by omega), Option.bind_some, if_pos rfl, eqByteS_same m (by omega) k (by omega), Option.bind_some, if_pos rfl]
theorem markL (e : Int) (l m : List Int) (hl : l.length ≤ 2000) (hm : m.length ≤ 2000) (k : Nat) (hk : 2000 < k) : laws_markLetter.f k e l m 1 = some ((1 : Int) + l.length + m.length, marks l.length 1, marks m.length ((1 : Int) + l.length)) := by
  unfold laws_markLetter.f
  rw [markByteS l 1 (by omega) (by omega) (by omega) k (by omega), Option.bind_some, markByteS m ((1 : Int) + l.length) (by omega) (by omega) (by omega) k (by omega)]; rfl
theorem heldL (e : Int) (l m : List Int) (hl : l.length ≤ 2000) (hm : m.length ≤ 2000) (k : Nat) (hk : 2000 < k) : laws_heldLetter.f k e (marks l.length 1) (marks m.length ((1 : Int) + l.length)) 1 = some ((1 : Int) + l.length + m.length) := by
  unfold laws_heldLetter.f
  rw [heldByteS l.length 1 (by omega) (by omega) (by omega) k (by omega), Option.bind_some, if_neg (by omega), heldByteS m.length ((1 : Int) + l.length) (by omega) (by omega) (by omega) k (by omega), Option.bind_some, if_neg (by omega)]
theorem FnExactLetterOf : laws_FnExactLetterOf.Pure := by
  intro a _ _ hw
  have hw8 := wf8 hw
  obtain ⟨k, hk⟩ : ∃ k, k = a.length + 9999 := ⟨_, rfl⟩
  refine ⟨k + 4, ?_⟩
  unfold laws_FnExactLetterOf.f
  by_cases h0 : (a.length : Int) > 1048576
  · rw [if_pos h0]
  · rw [if_neg h0]
    obtain ⟨⟨e, l, m, b⟩, hr⟩ : ∃ r, r = letterL a := ⟨_, rfl⟩
    have hlen := letterL_lengths a
    rw [← hr] at hlen
    have h1 : l.length ≤ 2000 := by have := hlen.1; simp only at this; omega
    have h2 : m.length ≤ 2000 := by have := hlen.2; simp only at this; omega
    have s := specLetterOf a hw8
    have i4 := implLetterOf a hw8 (by omega) (k + 4) (by omega)
    have i2 := implLetterOf a hw8 (by omega) (k + 2) (by omega)
    rw [← hr] at s i4 i2
    have c1 : ¬ ((1 : Int) + (a.length : Int) < 0) := by omega
    have c2 : ¬ ((1 : Int) + (l.length : Int) + (m.length : Int) < 0) := by omega
    simp only [toByteS a (by omega) (k + 4) (by omega), s, i4, eqL e l m h1 h2 (k + 4) (by omega), Option.bind_some, if_true, bne_self_eq_false]
    rw [laws_FnExactLetterOf.j0, if_neg (by decide)]
    simp only [toByteS a (by omega) (k + 3) (by omega), eqByteS_same a (by omega) (k + 3) (by omega), markByteS a 1 (by omega) (by omega) (by omega) (k + 3) (by omega), eqL e l m h1 h2 (k + 3) (by omega), c1, if_false, Option.bind_some, if_true, bne_self_eq_false]
    rw [laws_FnExactLetterOf.j1, if_neg (by decide)]
    simp only [toByteS a (by omega) (k + 2) (by omega), i2, markL e l m h1 h2 (k + 2) (by omega), heldL e l m h1 h2 (k + 2) (by omega), eqL e l m h1 h2 (k + 2) (by omega), c2, if_false, Option.bind_some, if_true, bne_self_eq_false]
    rw [laws_FnExactLetterOf.j2, if_neg (by decide)]
    simp only [heldL e l m h1 h2 (k + 1) (by omega), c2, if_false, Option.bind_some, if_true]
end Go.Proofs.Ytdineaebljpfaaa.Pure
