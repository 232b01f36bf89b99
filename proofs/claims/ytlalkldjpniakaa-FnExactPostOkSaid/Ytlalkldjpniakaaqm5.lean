import Derived.Test.Ytlalkldjpniakaaqm4
import Derived.Deep.RegionLawGrows
namespace Go.Proofs.Ytlalkldjpniakaa.P
open Go.RowKit Go.Proofs.YtlalkldjpniakaaW.PrintWords Go.Proofs.YtlalkldjpniakaaW.PrintLast Go.Proofs.YtlalkldjpniakaaW.PrintMore
attribute [local go_sem] zcm zcn zdd zde zbw zbx zco zcp   -- for this text's walks alone
set_option linter.unusedVariables false
set_option linter.unusedSimpArgs false
set_option maxHeartbeats 8000000
set_option maxRecDepth 100000

def spec_ItemOk.f (k : Nat) (a0_0 : ByteArray) (a0_1 : Int) (a0_2 : Int) (l0_3 : List Int) : Option (Bool) := (spec_l13Route.f k a0_0).bind fun t174 => (if t174 = true then ((spec_l1In.f a0_1 0 9).bind fun t175 => (if t175 = true then ((spec_l1In.f a0_2 0 100000).bind fun t176 => (if t176 = true then (some (decide ((l0_3.length : Int) ≤ 1560))) else (some false))) else (some false))) else (some false))
theorem spec_ItemOk.mono : ∀ a0 a1 a2 a3 k, LeO (spec_ItemOk.f k a0 a1 a2 a3) (spec_ItemOk.f (k + 1) a0 a1 a2 a3) := by
 intro a0 a1 a2 a3 k
 unfold spec_ItemOk.f
 have m0 := @spec_l13Route.mono
 exact mt
theorem spec_ItemOk.wk {P : Prop} (h : P := by
 go_enter Try.func24, Try.ntmps24
 go_wp2_with (first | (refine jgd 1 ?_; (try (refine gate_guard (by rfl) ?_; dsimp only)); refine bx 1 (#[.string a0_0, .int .i64 a0_1, .int .i64 a0_2, .slice A0_3 l0_3.length c0_3]) 34 ?_; intro gb173 hg w_ hbox hb; have xb_ := below_ofs bq hb; have n_ := jA4 (zab xb_ hb) (hbox) (ge0 hg xb_ : w.heap.size ≤ gb173) (ge0 hg xb_ : w.heap.size ≤ gb173); clear HB; obtain ⟨HB, BK173, GW173, GE173⟩ := n_; clear xb_ hb hbox hg; obtain ⟨c0, c1, c2, c3, z0, z1, z2, z3⟩ := cz4 BK173.out) | (refine jgc 88 ?_; refine jgs 5 Try.func88 #[.string a0_0] ?_; (with_reducible refine (spec_l13Route.calls k a0_0 _ _ A2.out).mono ?_); rintro e w_ ⟨rfl, hb⟩; refine ⟨_, rfl, ?_⟩; have n_ := jA2 (jbb BK173.out hb) (zab (bs1 GE173.out) hb); clear BK173 HB; obtain ⟨BK173, HB⟩ := n_; (try clear hb); (try clear hb2); (try clear hk); (try clear hi); obtain ⟨c0, c1, c2, c3, z0, z1, z2, z3⟩ := cz4 BK173.out) | (go_at_call 89; (with_reducible refine (spec_l1In.calls a0_1 0 9 _ _ A4.out).mono ?_); rintro e w' ⟨rfl, ⟨nd, rfl⟩⟩) | (go_at_call 89; (with_reducible refine (spec_l1In.calls a0_2 0 100000 _ _ A6.out).mono ?_); rintro e w' ⟨rfl, ⟨nd, rfl⟩⟩))
 go_ret
 exact ⟨jex, (bs1 GE173.out)⟩) : P := h
theorem spec_ItemOk.calls (k : Nat) (a0_0 : ByteArray) (a0_1 : Int) (a0_2 : Int) (A0_3 : Option Addr) (c0_3 : Nat) (l0_3 : List Int) (r : Bool) (w : World) (hr0_3 : Kd.C (Kd.int .u8) w A0_3 l0_3.length l0_3) (hc0_3 : l0_3.length ≤ c0_3) (h : spec_ItemOk.f k a0_0 a0_1 a0_2 l0_3 = some r) :
  Calls Try.prog 24 #[.agg #[.string a0_0, .int .i64 a0_1, .int .i64 a0_2, .slice A0_3 l0_3.length c0_3]] w fun e w' => e = .returned (.bool r) ∧ Below w.heap.size w w' := by
 have hu34 := Try.underlying34
 have HR0_3 := Aside0.mk hr0_3
 have HC0_3 := Aside0.mk hc0_3
 clear hr0_3 hc0_3
 have HB := Aside0.mk (zbk w.heap.size w)
 have H : ((spec_l13Route.f k a0_0).bind fun t174 => (if t174 = true then ((spec_l1In.f a0_1 0 9).bind fun t175 => (if t175 = true then ((spec_l1In.f a0_2 0 100000).bind fun t176 => (if t176 = true then (some (decide ((l0_3.length : Int) ≤ 1560))) else (some false))) else (some false))) else (some false))) = some r := h
 clear h
 obtain ⟨t174, A2, H⟩ := bnd H
 by_cases c3 : t174 = true
 ·subst c3
  rw [if_pos rfl] at H
  obtain ⟨t175, A4, H⟩ := bnd H
  by_cases c5 : t175 = true
  ·subst c5
   rw [if_pos rfl] at H
   obtain ⟨t176, A6, H⟩ := bnd H
   by_cases c7 : t176 = true
   ·subst c7
    rw [if_pos rfl] at H
    obtain rfl := Option.some.inj H
    exact spec_ItemOk.wk
   ·replace c7 := zbn.mpr c7
    subst c7
    rw [if_neg (show ¬ (false = true) by decide)] at H
    obtain rfl := Option.some.inj H
    exact spec_ItemOk.wk
  ·replace c5 := zbn.mpr c5
   subst c5
   rw [if_neg (show ¬ (false = true) by decide)] at H
   obtain rfl := Option.some.inj H
   exact spec_ItemOk.wk
 ·replace c3 := zbn.mpr c3
  subst c3
  rw [if_neg (show ¬ (false = true) by decide)] at H
  obtain rfl := Option.some.inj H
  exact spec_ItemOk.wk
mutual
def spec_QueueOk.l0 : Nat → List (S34) → Int → Option (Bool)
 | 0, _, _ => none
 | k + 1, x0, x3 => if x3 < (x0.length : Int) then (if 0 ≤ x3 then ((spec_ItemOk.f k ((rd_T34 x0 x3).f0) ((rd_T34 x0 x3).f1) ((rd_T34 x0 x3).f2) ((rd_T34 x0 x3).f3)).bind fun t377 => (if t377 = true then ((spec_Of.f k x0 ((rd_T34 x0 x3).f0)).bind fun t379 => (spec_QueueOk.j1 k x0 x3 (decide (t379 > 4)))) else (spec_QueueOk.j1 k x0 x3 true))) else (none)) else (some (decide ((x0.length : Int) ≤ 10)))
def spec_QueueOk.j1 : Nat → List (S34) → Int → Bool → Option (Bool)
 | 0, _, _, _ => none
 | k + 1, x0, x3, x26 => if x26 = true then (some false) else (spec_QueueOk.l1 k x0 x3 0)
def spec_QueueOk.l1 : Nat → List (S34) → Int → Int → Option (Bool)
 | 0, _, _, _ => none
 | k + 1, x0, x3, x4 => if x4 < x3 then (if 0 ≤ x4 then (if x4 < (x0.length : Int) then (if 0 ≤ x3 then (if x3 < (x0.length : Int) then (if ((rd_T34 x0 x4).f0).toList = ((rd_T34 x0 x3).f0).toList then (if ((rd_T34 x0 x4).f1) = ((rd_T34 x0 x3).f1) then (if ((rd_T34 x0 x3).f1) > 0 then (some false) else (spec_QueueOk.l1 k x0 x3 (wrap64 (x4 + 1)))) else (spec_QueueOk.l1 k x0 x3 (wrap64 (x4 + 1)))) else (spec_QueueOk.l1 k x0 x3 (wrap64 (x4 + 1)))) else (none)) else (none)) else (none)) else (none)) else (spec_QueueOk.l0 k x0 (wrap64 (x3 + 1)))
end
def spec_QueueOk.f (k : Nat) (l0 : List (S34)) : Option (Bool) := spec_QueueOk.l0 k l0 0
theorem spec_QueueOk.mono_l : ∀ k, (∀ y0 y1, LeO (spec_QueueOk.l0 k y0 y1) (spec_QueueOk.l0 (k + 1) y0 y1)) ∧ (∀ y0 y1 y2, LeO (spec_QueueOk.j1 k y0 y1 y2) (spec_QueueOk.j1 (k + 1) y0 y1 y2)) ∧ (∀ y0 y1 y2, LeO (spec_QueueOk.l1 k y0 y1 y2) (spec_QueueOk.l1 (k + 1) y0 y1 y2))
 | 0 => ⟨fun _ _ r h => by simp [spec_QueueOk.l0] at h, fun _ _ _ r h => by simp [spec_QueueOk.j1] at h, fun _ _ _ r h => by simp [spec_QueueOk.l1] at h⟩
 | k + 1 => by
  obtain ⟨ih0, ih1, ih2⟩ := spec_QueueOk.mono_l k
  refine ⟨?_, ?_, ?_⟩
  ·intro y0 y1
   unfold spec_QueueOk.l0
   have m0 := @spec_ItemOk.mono
   have m1 := @spec_Of.mono
   exact mt
  ·intro y0 y1 y2
   unfold spec_QueueOk.j1
   have m0 := @spec_ItemOk.mono
   have m1 := @spec_Of.mono
   exact mt
  ·intro y0 y1 y2
   unfold spec_QueueOk.l1
   have m0 := @spec_ItemOk.mono
   have m1 := @spec_Of.mono
   exact mt
theorem spec_QueueOk.mono : ∀ a0 k, LeO (spec_QueueOk.f k a0) (spec_QueueOk.f (k + 1) a0) := by
 intro a0 k
 obtain ⟨ih0, ih1, ih2⟩ := spec_QueueOk.mono_l k
 unfold spec_QueueOk.f
 have m0 := @spec_ItemOk.mono
 have m1 := @spec_Of.mono
 exact mt
theorem spec_QueueOk.calls (k : Nat) (A0 : Option Addr) (c0 : Nat) (l0 : List (S34)) (r : Bool) (w : World) (hr0 : Kd.C k34 w A0 l0.length l0) (hc0 : l0.length ≤ c0) (h : spec_QueueOk.f k l0 = some r) :
  Calls Try.prog 42 #[.slice A0 l0.length c0] w fun e w' => e = .returned (.bool r) ∧ Below w.heap.size w w' := by
 have hu34 := Try.underlying34
 have HR0 := Aside0.mk hr0
 have HC0 := Aside0.mk hc0
 clear hr0 hc0
 have HB := Aside0.mk (zbk w.heap.size w)
 have H : (spec_QueueOk.l0 k l0 0) = some r := h
 clear h
 have H' := Aside0.mk H
 clear H
 go_enter Try.func42, Try.ntmps42
 go_wp2
 go_loopg [3] k (fun kq v3 w' => ∃ (x3_1 : Int), v3 = .int .i64 x3_1 ∧ Aside0 (spec_QueueOk.l0 kq l0 x3_1 = some r) ∧ Aside0 (kq ≤ k) ∧ Aside0 (Below w.heap.size w w'))
 case atStart => exact ⟨(0), jer, H', ⟨zaf _⟩, ⟨bq⟩⟩
 case round =>
  clear H'
  obtain ⟨x3_1, rfl, HA, HK1, HB⟩ := hrel
  cases gk with
  | zero => exact absurd HA.out (by simp [spec_QueueOk.l0])
  | succ k1 =>
   have H := HA.out
   clear HA
   simp only [spec_QueueOk.l0] at H
   by_cases c2 : x3_1 < (l0.length : Int)
   ·rw [if_pos c2] at H
    have c2b0 := zae c2
    clear c2
    have HC3 := Aside0.mk H
    clear H
    go_upto_region 4 with (fail)
    go_cut [26] (fun v26 wc => ∃ (kq : Nat) (x26_2 : Bool), v26 = .bool x26_2 ∧ Aside0 (spec_QueueOk.j1 kq l0 x3_1 x26_2 = some r) ∧ Aside0 (kq ≤ k1) ∧ Aside0 (Below w.heap.size w wc))
    case first =>
     have H := HC3.out
     clear HC3
     by_cases c4 : 0 ≤ x3_1
     ·rw [if_pos c4] at H
      have c4b0 := zae c4
      clear c4
      (first | rw [c4b0] | (simp only [i64_w, i32_w]; rw [c4b0]) | skip)
      obtain ⟨t377, A5, H⟩ := bnd H
      by_cases c6 : t377 = true
      ·subst c6
       rw [if_pos rfl] at H
       obtain ⟨t379, A7, H⟩ := bnd H
       have H' := Aside0.mk H
       clear H
       obtain ⟨p376, q376, ad376, A376_3, c376_3, e376, hx376_0, hx376_1, hx376_2, hx376_3, HC376_3, HR376_3⟩ := jel HR0.out HB.out x3_1
       cases e376
       go_wp2_with (first | (go_at_call 24; (with_reducible refine (spec_ItemOk.calls k1 ((rd_T34 l0 x3_1).f0) ((rd_T34 l0 x3_1).f1) ((rd_T34 l0 x3_1).f2) _ _ ((rd_T34 l0 x3_1).f3) true _ ?side1 ?side2 A5.out).mono ?_); (case side1 => exact jcs HR376_3.out); (case side2 => exact HC376_3.out); rintro e w8 ⟨rfl, hb⟩; replace HB := Aside0.mk (zab bq hb); (try clear hb); (try clear hb2); (try clear hk); (try clear hi); have p378 : 0 ≤ (x3_1 : Int) := zac jab; have q378 : x3_1 < (l0.length : Int) := zac jab; obtain ⟨ad378, A378_3, c378_3, e378, hx378_0, hx378_1, hx378_2, hx378_3, hl378_3, hi378_3⟩ := at_T34 HR0.out x3_1 p378 q378; obtain rfl : ad376 = ad378 := (by injection e378); replace hx378_0 := jcB HB.out hx378_0; replace hx378_1 := jcB HB.out hx378_1; replace hx378_2 := jcB HB.out hx378_2; replace hx378_3 := jcB HB.out hx378_3; have HR378_3 := Aside0.mk hi378_3; have HC378_3 := Aside0.mk hl378_3; clear hi378_3 hl378_3; replace p378 := zbd p378; replace q378 := zbd q378) | (go_at_call 19; (with_reducible refine (spec_Of.calls k1 _ _ l0 ((rd_T34 l0 x3_1).f0) t379 _ ?side1 ?side2 A7.out).mono ?_); (case side1 => exact jcs HR0.out); (case side2 => exact HC0.out); rintro e w' ⟨rfl, ⟨nd, rfl⟩⟩; (try first | exact ⟨rfl, _, zam _ _ _⟩ | exact ⟨rfl, _, zee (zam _ _ _) (zed (World.drewN _) (zch _ _ _))⟩)))
       go_meet
       case rel => exact ⟨_, (decide (t379 > 4)), jer, H', ⟨by have := HK1.out; first | omega | exact zaf _⟩, ⟨bq⟩⟩
      ·replace c6 := zbn.mpr c6
       subst c6
       rw [if_neg (show ¬ (false = true) by decide)] at H
       have H' := Aside0.mk H
       clear H
       obtain ⟨p376, q376, ad376, A376_3, c376_3, e376, hx376_0, hx376_1, hx376_2, hx376_3, HC376_3, HR376_3⟩ := jel HR0.out HB.out x3_1
       cases e376
       go_wp2_with (first | (go_at_call 24; (with_reducible refine (spec_ItemOk.calls k1 ((rd_T34 l0 x3_1).f0) ((rd_T34 l0 x3_1).f1) ((rd_T34 l0 x3_1).f2) _ _ ((rd_T34 l0 x3_1).f3) false _ ?side1 ?side2 A5.out).mono ?_); (case side1 => exact jcs HR376_3.out); (case side2 => exact HC376_3.out); rintro e w9 ⟨rfl, hb⟩; replace HB := Aside0.mk (zab bq hb); (try clear hb); (try clear hb2); (try clear hk); (try clear hi)))
       go_meet
       case rel => exact ⟨_, (true), jer, H', ⟨by have := HK1.out; first | omega | exact zaf _⟩, ⟨bq⟩⟩
     ·rw [if_neg c4] at H
      exact absurd H (by simp)
    case rest =>
     clear HC3
     try clear c2
     try clear c2b0
     try clear p2
     try clear c3
     try clear p3
     try clear q3
     try clear hx3
     try clear c4
     try clear c4b0
     try clear c6
     try clear hx376_0
     try clear hx376_1
     try clear hx376_2
     try clear hx376_3
     try clear hx378_0
     try clear hx378_1
     try clear hx378_2
     try clear hx378_3
     try clear p376
     try clear p378
     try clear q376
     try clear q378
     obtain ⟨kq, x26_2, rfl, HA, HJ2, HB⟩ := hcut
     cases kq with
     | zero => exact absurd HA.out (by simp [spec_QueueOk.j1])
     | succ kj2 =>
      have H := HA.out
      clear HA
      simp only [spec_QueueOk.j1] at H
      by_cases c10 : x26_2 = true
      ·subst c10
       rw [if_pos rfl] at H
       obtain rfl := Option.some.inj H
       go_wp2
       go_ret
       exact ⟨jex, bq⟩
      ·replace c10 := zbn.mpr c10
       subst c10
       rw [if_neg (show ¬ (false = true) by decide)] at H
       have H' := Aside0.mk H
       clear H
       go_wp2
       go_loopg [4] kj2 (fun kq v4 w' => ∃ (x4_3 : Int), v4 = .int .i64 x4_3 ∧ Aside0 (spec_QueueOk.l1 kq l0 x3_1 x4_3 = some r) ∧ Aside0 (kq ≤ kj2) ∧ Aside0 (Below w.heap.size w w'))
       case atStart => exact ⟨(0), jer, H', ⟨zaf _⟩, ⟨bq⟩⟩
       case round =>
        clear H'
        try clear c1
        try clear c2
        try clear c2b0
        try clear p2
        try clear c3
        try clear p3
        try clear q3
        try clear hx3
        try clear c4
        try clear c4b0
        try clear c6
        try clear c10
        try clear hx376_0
        try clear hx376_1
        try clear hx376_2
        try clear hx376_3
        try clear hx378_0
        try clear hx378_1
        try clear hx378_2
        try clear hx378_3
        try clear p2
        try clear p3
        try clear p376
        try clear p378
        try clear q3
        try clear q376
        try clear q378
        obtain ⟨x4_3, rfl, HA, HK3, HB⟩ := hrel
        cases gk with
        | zero => exact absurd HA.out (by simp [spec_QueueOk.l1])
        | succ k3 =>
         have H := HA.out
         clear HA
         simp only [spec_QueueOk.l1] at H
         by_cases c11 : x4_3 < x3_1
         ·rw [if_pos c11] at H
          have c11b0 := zae c11
          clear c11
          by_cases c12 : 0 ≤ x4_3
          ·rw [if_pos c12] at H
           have c12b0 := zae c12
           clear c12
           by_cases c13 : x4_3 < (l0.length : Int)
           ·rw [if_pos c13] at H
            have c13b0 := zae c13
            clear c13
            by_cases c14 : 0 ≤ x3_1
            ·rw [if_pos c14] at H
             have c14b0 := zae c14
             clear c14
             by_cases c15 : x3_1 < (l0.length : Int)
             ·rw [if_pos c15] at H
              have c15b0 := zae c15
              clear c15
              by_cases c16 : ((rd_T34 l0 x4_3).f0).toList = ((rd_T34 l0 x3_1).f0).toList
              ·rw [if_pos c16] at H
               have c16b0 := beqT c16
               have c16b1 := zau.mpr c16
               clear c16
               by_cases c17 : ((rd_T34 l0 x4_3).f1) = ((rd_T34 l0 x3_1).f1)
               ·rw [if_pos c17] at H
                have c17b0 := beqT c17
                have c17b1 := zau.mpr c17
                clear c17
                by_cases c18 : ((rd_T34 l0 x3_1).f1) > 0
                ·rw [if_pos c18] at H
                 have c18b0 := zae c18
                 clear c18
                 obtain rfl := Option.some.inj H
                 obtain ⟨p380, q380, ad380, A380_3, c380_3, e380, hx380_0, hx380_1, hx380_2, hx380_3, HC380_3, HR380_3⟩ := jel HR0.out HB.out x4_3
                 cases e380
                 obtain ⟨p381, q381, ad381, A381_3, c381_3, e381, hx381_0, hx381_1, hx381_2, hx381_3, HC381_3, HR381_3⟩ := jel HR0.out HB.out x3_1
                 obtain rfl : ad380 = ad381 := (by injection e381)
                 obtain ⟨p382, q382, ad382, A382_3, c382_3, e382, hx382_0, hx382_1, hx382_2, hx382_3, HC382_3, HR382_3⟩ := jel HR0.out HB.out x4_3
                 obtain rfl : ad380 = ad382 := (by injection e382)
                 have ea_ := Option.some.inj (hx380_3.symm.trans hx382_3)
                 injection ea_ with ea_ en_ ec_
                 subst ea_
                 subst ec_
                 clear en_
                 obtain ⟨p383, q383, ad383, A383_3, c383_3, e383, hx383_0, hx383_1, hx383_2, hx383_3, HC383_3, HR383_3⟩ := jel HR0.out HB.out x3_1
                 obtain rfl : ad380 = ad383 := (by injection e383)
                 have ea_ := Option.some.inj (hx381_3.symm.trans hx383_3)
                 injection ea_ with ea_ en_ ec_
                 subst ea_
                 subst ec_
                 clear en_
                 obtain ⟨p384, q384, ad384, A384_3, c384_3, e384, hx384_0, hx384_1, hx384_2, hx384_3, HC384_3, HR384_3⟩ := jel HR0.out HB.out x3_1
                 obtain rfl : ad380 = ad384 := (by injection e384)
                 have ea_ := Option.some.inj (hx381_3.symm.trans hx384_3)
                 injection ea_ with ea_ en_ ec_
                 subst ea_
                 subst ec_
                 clear en_
                 go_wp2
                 repeat (go_quiet (fail); try go_wp2)
                 go_ret
                 exact ⟨jex, bq⟩
                ·rw [if_neg c18] at H
                 have c18b0 := zas c18
                 clear c18
                 have H' := Aside0.mk H
                 clear H
                 obtain ⟨p380, q380, ad380, A380_3, c380_3, e380, hx380_0, hx380_1, hx380_2, hx380_3, HC380_3, HR380_3⟩ := jel HR0.out HB.out x4_3
                 cases e380
                 obtain ⟨p381, q381, ad381, A381_3, c381_3, e381, hx381_0, hx381_1, hx381_2, hx381_3, HC381_3, HR381_3⟩ := jel HR0.out HB.out x3_1
                 obtain rfl : ad380 = ad381 := (by injection e381)
                 obtain ⟨p382, q382, ad382, A382_3, c382_3, e382, hx382_0, hx382_1, hx382_2, hx382_3, HC382_3, HR382_3⟩ := jel HR0.out HB.out x4_3
                 obtain rfl : ad380 = ad382 := (by injection e382)
                 have ea_ := Option.some.inj (hx380_3.symm.trans hx382_3)
                 injection ea_ with ea_ en_ ec_
                 subst ea_
                 subst ec_
                 clear en_
                 obtain ⟨p383, q383, ad383, A383_3, c383_3, e383, hx383_0, hx383_1, hx383_2, hx383_3, HC383_3, HR383_3⟩ := jel HR0.out HB.out x3_1
                 obtain rfl : ad380 = ad383 := (by injection e383)
                 have ea_ := Option.some.inj (hx381_3.symm.trans hx383_3)
                 injection ea_ with ea_ en_ ec_
                 subst ea_
                 subst ec_
                 clear en_
                 obtain ⟨p384, q384, ad384, A384_3, c384_3, e384, hx384_0, hx384_1, hx384_2, hx384_3, HC384_3, HR384_3⟩ := jel HR0.out HB.out x3_1
                 obtain rfl : ad380 = ad384 := (by injection e384)
                 have ea_ := Option.some.inj (hx381_3.symm.trans hx384_3)
                 injection ea_ with ea_ en_ ec_
                 subst ea_
                 subst ec_
                 clear en_
                 go_wp2
                 repeat (go_quiet (fail); try go_wp2)
                 go_roundg k3
                 case measure => have := HK1.out; have := HJ2.out; have := HK3.out; omega
                 case rel => exact ⟨(wrap64 (x4_3 + 1)), jer, H', ⟨by have := HK1.out; have := HJ2.out; have := HK3.out; omega⟩, ⟨bq⟩⟩
               ·rw [if_neg c17] at H
                have c17b0 := zao.mpr c17
                have c17b1 := zcs.mpr c17
                have H' := Aside0.mk H
                clear H
                obtain ⟨p380, q380, ad380, A380_3, c380_3, e380, hx380_0, hx380_1, hx380_2, hx380_3, HC380_3, HR380_3⟩ := jel HR0.out HB.out x4_3
                cases e380
                obtain ⟨p381, q381, ad381, A381_3, c381_3, e381, hx381_0, hx381_1, hx381_2, hx381_3, HC381_3, HR381_3⟩ := jel HR0.out HB.out x3_1
                obtain rfl : ad380 = ad381 := (by injection e381)
                obtain ⟨p382, q382, ad382, A382_3, c382_3, e382, hx382_0, hx382_1, hx382_2, hx382_3, HC382_3, HR382_3⟩ := jel HR0.out HB.out x4_3
                obtain rfl : ad380 = ad382 := (by injection e382)
                have ea_ := Option.some.inj (hx380_3.symm.trans hx382_3)
                injection ea_ with ea_ en_ ec_
                subst ea_
                subst ec_
                clear en_
                obtain ⟨p383, q383, ad383, A383_3, c383_3, e383, hx383_0, hx383_1, hx383_2, hx383_3, HC383_3, HR383_3⟩ := jel HR0.out HB.out x3_1
                obtain rfl : ad380 = ad383 := (by injection e383)
                have ea_ := Option.some.inj (hx381_3.symm.trans hx383_3)
                injection ea_ with ea_ en_ ec_
                subst ea_
                subst ec_
                clear en_
                go_wp2
                repeat (go_quiet (fail); try go_wp2)
                go_roundg k3
                case measure => have := HK1.out; have := HJ2.out; have := HK3.out; omega
                case rel => exact ⟨(wrap64 (x4_3 + 1)), jer, H', ⟨by have := HK1.out; have := HJ2.out; have := HK3.out; omega⟩, ⟨bq⟩⟩
              ·rw [if_neg c16] at H
               have c16b0 := zao.mpr c16
               have c16b1 := zcs.mpr c16
               have H' := Aside0.mk H
               clear H
               obtain ⟨p380, q380, ad380, A380_3, c380_3, e380, hx380_0, hx380_1, hx380_2, hx380_3, HC380_3, HR380_3⟩ := jel HR0.out HB.out x4_3
               cases e380
               obtain ⟨p381, q381, ad381, A381_3, c381_3, e381, hx381_0, hx381_1, hx381_2, hx381_3, HC381_3, HR381_3⟩ := jel HR0.out HB.out x3_1
               obtain rfl : ad380 = ad381 := (by injection e381)
               go_wp2
               repeat (go_quiet (fail); try go_wp2)
               go_roundg k3
               case measure => have := HK1.out; have := HJ2.out; have := HK3.out; omega
               case rel => exact ⟨(wrap64 (x4_3 + 1)), jer, H', ⟨by have := HK1.out; have := HJ2.out; have := HK3.out; omega⟩, ⟨bq⟩⟩
             ·rw [if_neg c15] at H
              exact absurd H (by simp)
            ·rw [if_neg c14] at H
             exact absurd H (by simp)
           ·rw [if_neg c13] at H
            exact absurd H (by simp)
          ·rw [if_neg c12] at H
           exact absurd H (by simp)
         ·rw [if_neg c11] at H
          have c11b0 := zas c11
          clear c11
          have H' := Aside0.mk H
          clear H
          go_wp2
          go_roundg k3
          case measure => have := HK1.out; have := HJ2.out; have := HK3.out; omega
          case rel => exact ⟨(wrap64 (x3_1 + 1)), jer, H', ⟨by have := HK1.out; have := HJ2.out; have := HK3.out; omega⟩, ⟨bq⟩⟩
   ·rw [if_neg c2] at H
    have c2b0 := zas c2
    clear c2
    obtain rfl := Option.some.inj H
    go_wp2
    go_ret
    exact ⟨jex, bq⟩
end Go.Proofs.Ytlalkldjpniakaa.P
/- A region that draws its order, by what each of its operations leaves: one goal for each operation, whatever the order. -/
namespace Go.Proofs.Ytlalkldjpniakaa.P
open Go.RowKit Go.Proofs.YtlalkldjpniakaaW.PrintWords Go.Proofs.YtlalkldjpniakaaW.PrintLast Go.Proofs.YtlalkldjpniakaaW.PrintMore
set_option linter.unusedVariables false
set_option linter.unusedSimpArgs false
set_option maxHeartbeats 8000000
set_option maxRecDepth 100000
theorem grown_setCells5 (w : World) (g o : Nat) (seg : List Value) : w.grownBy (w.setCells g o seg) (some g) := by
  obtain ⟨s1, s2, s3, s4⟩ := setCells_same g seg o w
  exact ⟨s1, s2, s3, Nat.le_of_eq s4.symm, fun k _ hne => setCells_far seg o k (fun e => hne (by rw [e]))⟩
def upd (vals : Nat → Value) (i : Nat) (v : Value) : Nat → Value := fun j => if j = i then v else vals j
theorem upd_same (vals : Nat → Value) (i : Nat) (v : Value) : upd vals i v i = v := if_pos rfl
theorem upd_ne (vals : Nat → Value) {i j : Nat} (v : Value) (h : j ≠ i) : upd vals i v j = vals j := if_neg h
def dstOf (ops : Array Oper) (j : Nat) : Option Nat := (ops[j]?).bind (·.dst)
def depsOf (ops : Array Oper) (j : Nat) : List Nat := ((ops[j]?).map fun o => (o.after.toList.filter (Region.binds .any)).map (·.on)).getD []
/-- Every operation waits for earlier ones; no two write one slot; each slot is there. -/
def regOk (ops : Array Oper) (n : Nat) : Bool :=
  ((List.range ops.size).all fun j => (depsOf ops j).all fun d => decide (d < j)) &&
  ((List.range ops.size).all fun j => match dstOf ops j with | some s => decide (s < n) && (List.range ops.size).all (fun k => decide (k = j) || dstOf ops k != some s) | none => true)
structure RInv (ops : Array Oper) (V : Nat → (Nat → Value) → World → Prop) (G : World → Prop) (cons : Nat → Nat) (a0 : Act) (l : Array Bool) (a : Act) (w : World) (vals : Nat → Value) : Prop where
  dfr : a.defers = a0.defers
  size : a.tmps.size = a0.tmps.size
  frame : ∀ s, (∀ j, j < ops.size → dstOf ops j ≠ some s) → a.tmps[s]? = a0.tmps[s]?
  slots : ∀ j s, l.getD j false = true → dstOf ops j = some s → a.tmps[s]? = some (vals j)
  facts : ∀ j, l.getD j false = true → l.getD (cons j) false = false → V j vals w
  closed : ∀ j, l.getD j false = true → ∀ d ∈ depsOf ops j, l.getD d false = true
  glob : G w
section
variable {P : Program} {id : Nat} {ops : Array Oper} {Q : Exit → Act → World → Prop}
theorem dst_lt {j s : Nat} (h : dstOf ops j = some s) : j < ops.size := by
  rcases Nat.lt_or_ge j ops.size with h1 | h1
  · exact h1
  · unfold dstOf at h
    rw [Array.getElem?_eq_none h1] at h
    cases h
theorem regOk_dst {n j s : Nat} (hk : regOk ops n = true) (h : dstOf ops j = some s) : s < n ∧ ∀ k, k ≠ j → dstOf ops k ≠ some s := by
  unfold regOk at hk
  rw [Bool.and_eq_true] at hk
  have h2 := List.all_eq_true.1 hk.2 j (List.mem_range.2 (dst_lt h))
  rw [h] at h2
  simp only [Bool.and_eq_true, decide_eq_true_eq] at h2
  refine ⟨h2.1, fun k hkj e => ?_⟩
  have h3 := List.all_eq_true.1 h2.2 k (List.mem_range.2 (dst_lt e))
  simp [hkj, e] at h3
theorem regOk_deps {n j d : Nat} (hk : regOk ops n = true) (h : d ∈ depsOf ops j) : d < j := by
  unfold regOk at hk
  rw [Bool.and_eq_true] at hk
  have hj : j < ops.size := by
    rcases Nat.lt_or_ge j ops.size with h1 | h1
    · exact h1
    · unfold depsOf at h
      rw [Array.getElem?_eq_none h1] at h
      simp at h
  have h2 := List.all_eq_true.1 hk.1 j (List.mem_range.2 hj)
  have h3 := List.all_eq_true.1 h2 d h
  simpa using h3
theorem getD_listed {l : Array Bool} {i j : Nat} (hi : i < l.size) : (l.setIfInBounds i true).getD j false = true ↔ j = i ∨ l.getD j false = true := by
  simp only [Array.getD_eq_getD_getElem?]
  by_cases h : j = i
  · subst h
    simp [hi]
  · simp [Array.getElem?_setIfInBounds_ne (Ne.symm h), h]
/-- Region by region: what each operation leaves is told by V; what G tells holds all along; cons j: the operation that uses up what j left (none: the number of operations). -/
theorem region_inv {a0 : Act} {w0 : World} (hm : P.follows .mixedOrders = true) (V : Nat → (Nat → Value) → World → Prop) (G : World → Prop) (cons : Nat → Nat) (hk : regOk ops a0.tmps.size = true)
    (hcong : ∀ j vals vals' w, vals j = vals' j → (∀ d ∈ depsOf ops j, vals d = vals' d) → V j vals w → V j vals' w)
    (h0 : G w0.drew)
    (hstep : ∀ i o, ops[i]? = some o → ∀ (a : Act) (w : World) (vals : Nat → Value), (∀ s, (∀ j, j < ops.size → dstOf ops j ≠ some s) → a.tmps[s]? = a0.tmps[s]?) →
      (∀ d ∈ depsOf ops i, (∀ s, dstOf ops d = some s → a.tmps[s]? = some (vals d)) ∧ ((cons d = i ∨ ops.size ≤ cons d) → V d vals w)) → G w →
      ∀ K : Act → World → Prop, (∀ v w1, V i (upd vals i v) w1 → G w1 → (∀ k, k ≠ i → cons k ≠ i → V k vals w → V k vals w1) → K (a.put o.dst v) w1) → wpOp P ops Q i K a w)
    (hend : ∀ (a : Act) (w : World) (vals : Nat → Value), a.defers = a0.defers → a.tmps.size = a0.tmps.size → (∀ s, (∀ j, j < ops.size → dstOf ops j ≠ some s) → a.tmps[s]? = a0.tmps[s]?) →
      (∀ j s, dstOf ops j = some s → a.tmps[s]? = some (vals j)) → (∀ j, j < ops.size → ops.size ≤ cons j → V j vals w) → G w → Q .normal a w) :
    (Code.region id ops true).wp P Q a0 w0 := by
  refine wp_region_any hm ?_
  have key : ∀ (fuel : Nat) (l : Array Bool) (a : Act) (w : World) (vals : Nat → Value), l.size = ops.size → RInv ops V G cons a0 l a w vals → ((List.range ops.size).filter fun j => !l.getD j false).length ≤ fuel → wpAny P .any ops Q fuel l a w := by
    have hready : ∀ (l : Array Bool), l.size = ops.size → Region.ready .any ops l = [] → ∀ j, j < ops.size → l.getD j false = true := by
      intro l hl hr
      intro j
      induction j using Nat.strongRecOn with
      | ind j ih =>
        intro hj
        cases hb : l.getD j false with
        | true => rfl
        | false =>
          exfalso
          have : j ∈ Region.ready .any ops l := by
            rw [mem_ready]
            refine ⟨?_, ops[j], Array.getElem?_eq_getElem hj, fun e he hbn => ?_⟩
            · simp only [Array.getD_eq_getD_getElem?, Array.getElem?_eq_getElem (show j < l.size by omega), Option.getD_some] at hb ⊢
              exact hb
            · have hd : e.on ∈ depsOf ops j := by
                unfold depsOf
                rw [Array.getElem?_eq_getElem hj]
                simp only [Option.map_some, Option.getD_some]
                exact List.mem_map.2 ⟨e, List.mem_filter.2 ⟨Array.mem_toList_iff.2 he, hbn⟩, rfl⟩
              have hlt := regOk_deps hk hd
              exact ih e.on hlt (by omega)
          rw [hr] at this
          cases this
    have hfin : ∀ (l : Array Bool) (a : Act) (w : World) (vals : Nat → Value), l.size = ops.size → RInv ops V G cons a0 l a w vals → Region.ready .any ops l = [] → Q .normal a w := by
      intro l a w vals hl hI hr
      have hall := hready l hl hr
      refine hend a w vals hI.dfr hI.size hI.frame (fun j s hs => hI.slots j s (hall j (dst_lt hs)) hs) (fun j hj hc => hI.facts j (hall j hj) ?_) hI.glob
      simp only [Array.getD_eq_getD_getElem?, Array.getElem?_eq_none (show l.size ≤ cons j by omega)]
      rfl
    intro fuel
    induction fuel with
    | zero =>
      intro l a w vals hl hI hc
      have hr : Region.ready .any ops l = [] := by
        apply List.eq_nil_iff_forall_not_mem.2
        intro j hj
        have hjr := (mem_ready.1 hj)
        obtain ⟨hun, o, ho, _⟩ := hjr
        have hjl : j < ops.size := (Array.getElem?_eq_some_iff.1 ho).1
        have : j ∈ (List.range ops.size).filter fun j => !l.getD j false := by
          rw [List.mem_filter, List.mem_range]
          refine ⟨hjl, ?_⟩
          simp only [Array.getD_eq_getD_getElem?, Array.getElem?_eq_getElem (show j < l.size by omega), Option.getD_some] at hun ⊢
          simp [hun]
        rw [List.eq_nil_of_length_eq_zero (Nat.le_zero.1 hc)] at this
        cases this
      exact ⟨hr, hfin l a w vals hl hI hr⟩
    | succ fuel ih =>
      intro l a w vals hl hI hc
      refine ⟨hfin l a w vals hl hI, fun i hi => ?_⟩
      obtain ⟨hun, o, ho, hdeps⟩ := mem_ready.1 hi
      have hil : i < ops.size := (Array.getElem?_eq_some_iff.1 ho).1
      have hunl : l.getD i false = false := by
        simp only [Array.getD_eq_getD_getElem?, Array.getElem?_eq_getElem (show i < l.size by omega), Option.getD_some] at hun ⊢
        exact hun
      have hdl : ∀ d ∈ depsOf ops i, l.getD d false = true := by
        intro d hd
        unfold depsOf at hd
        rw [ho] at hd
        simp only [Option.map_some, Option.getD_some] at hd
        obtain ⟨e, he, rfl⟩ := List.mem_map.1 hd
        obtain ⟨he1, he2⟩ := List.mem_filter.1 he
        exact hdeps e (Array.mem_toList_iff.1 he1) he2
      refine hstep i o ho a w vals hI.frame (fun d hd => ⟨fun s hs => hI.slots d s (hdl d hd) hs, fun hcd => hI.facts d (hdl d hd) ?_⟩) hI.glob _ (fun v w1 hv hg hst => ?_)
      · rcases hcd with h | h
        · rw [h]; exact hunl
        · simp only [Array.getD_eq_getD_getElem?, Array.getElem?_eq_none (show l.size ≤ cons d by omega)]
          rfl
      · have hil2 : i < l.size := by omega
        refine ih (l.setIfInBounds i true) (a.put o.dst v) w1 (upd vals i v) (by rw [Array.size_setIfInBounds]; exact hl) ⟨?_, ?_, ?_, ?_, ?_, ?_, hg⟩ ?_
        · cases hd : o.dst with
          | none => exact hI.dfr
          | some d => exact hI.dfr
        · cases hd : o.dst with
          | none => exact hI.size
          | some d => show (a.tmps.setIfInBounds d v).size = _; rw [Array.size_setIfInBounds]; exact hI.size
        · intro s hs
          cases hd : o.dst with
          | none => exact hI.frame s hs
          | some d =>
            have hne : d ≠ s := fun e => hs i hil (by unfold dstOf; rw [ho]; show o.dst = _; rw [hd, e])
            show (a.tmps.setIfInBounds d v)[s]? = _
            rw [Array.getElem?_setIfInBounds_ne hne]
            exact hI.frame s hs
        · intro j s hj hs
          have hdi : dstOf ops i = o.dst := by unfold dstOf; rw [ho]; rfl
          by_cases hji : j = i
          · subst hji
            rw [upd_same]
            rw [hdi] at hs
            rw [hs]
            show (a.tmps.setIfInBounds s v)[s]? = _
            have hlt := (regOk_dst hk (show dstOf ops j = some s by rw [hdi]; exact hs)).1
            rw [Array.getElem?_setIfInBounds_self]
            rw [if_pos (by rw [hI.size]; exact hlt)]
          · rw [upd_ne vals v hji]
            have hold := ((getD_listed hil2).1 hj).resolve_left hji
            cases hd : o.dst with
            | none => exact hI.slots j s hold hs
            | some d =>
              have hne : d ≠ s := fun e => (regOk_dst hk hs).2 i (Ne.symm hji) (by rw [hdi, hd, e])
              show (a.tmps.setIfInBounds d v)[s]? = _
              rw [Array.getElem?_setIfInBounds_ne hne]
              exact hI.slots j s hold hs
        · intro j hj hcj
          by_cases hji : j = i
          · subst hji; exact hv
          · have hold := ((getD_listed hil2).1 hj).resolve_left hji
            have hci : cons j ≠ i := fun e => by
              have := (getD_listed (j := cons j) hil2).2 (.inl e)
              rw [this] at hcj; cases hcj
            have hcl : l.getD (cons j) false = false := by
              cases hb : l.getD (cons j) false with
              | false => rfl
              | true =>
                have := (getD_listed (j := cons j) hil2).2 (.inr hb)
                rw [this] at hcj; cases hcj
            refine hcong j vals (upd vals i v) w1 (upd_ne vals v hji).symm (fun d hd => (upd_ne vals v (fun e => ?_)).symm) (hst j hji hci (hI.facts j hold hcl))
            have := hI.closed j hold d hd
            rw [e, hunl] at this
            cases this
        · intro j hj d hd
          refine (getD_listed hil2).2 (.inr ?_)
          rcases (getD_listed hil2).1 hj with h | h
          · subst h; exact hdl d hd
          · exact hI.closed j h d hd
        · have hlt : ((List.range ops.size).filter fun j => !(l.setIfInBounds i true).getD j false).length < ((List.range ops.size).filter fun j => !l.getD j false).length := by
            have hsub : ((List.range ops.size).filter fun j => !(l.setIfInBounds i true).getD j false) = ((List.range ops.size).filter fun j => !l.getD j false).filter (fun j => decide (j ≠ i)) := by
              rw [List.filter_filter]
              congr 1
              funext j
              by_cases hji : j = i
              · subst hji
                have := (getD_listed (j := j) hil2).2 (.inl rfl)
                simp [this]
              · have : (l.setIfInBounds i true).getD j false = l.getD j false := by
                  simp only [Array.getD_eq_getD_getElem?, Array.getElem?_setIfInBounds_ne (Ne.symm hji)]
                simp [this, hji]
            rw [hsub]
            refine List.length_filter_lt_length_iff_exists.2 ⟨i, List.mem_filter.2 ⟨List.mem_range.2 hil, by simp [hunl]⟩, by simp⟩
          omega
  have hz : ∀ j, (Array.replicate ops.size false).getD j false = false := by
    intro j
    simp only [Array.getD_eq_getD_getElem?]
    rcases Nat.lt_or_ge j ops.size with h | h
    · simp [h]
    · rw [Array.getElem?_eq_none (by simpa using h)]; rfl
  refine key ops.size (Array.replicate ops.size false) a0 _ (fun _ => undef) (by simp) ⟨rfl, rfl, fun _ _ => rfl, fun j s hj => ?_, fun j hj => ?_, fun j hj => ?_, h0⟩ ?_
  · rw [hz j] at hj; cases hj
  · rw [hz j] at hj; cases hj
  · rw [hz j] at hj; cases hj
  · exact Nat.le_trans (List.length_filter_le _ _) (by simp)
/-- The act at the region's end. -/
theorem region_act {a0 a : Act} {vals : Nat → Value} (hk : regOk ops a0.tmps.size = true) (hd : a.defers = a0.defers) (hs : a.tmps.size = a0.tmps.size) (hf : ∀ s, (∀ j, j < ops.size → dstOf ops j ≠ some s) → a.tmps[s]? = a0.tmps[s]?) (hv : ∀ j s, dstOf ops j = some s → a.tmps[s]? = some (vals j)) :
    a = (List.range ops.size).foldl (fun b j => b.put (dstOf ops j) (vals j)) a0 := by
  have hfold : ∀ (L : List Nat) (b : Act), b.tmps.size = a0.tmps.size → (∀ j ∈ L, j < ops.size) →
      ((L.foldl (fun b j => b.put (dstOf ops j) (vals j)) b).defers = b.defers) ∧ ((L.foldl (fun b j => b.put (dstOf ops j) (vals j)) b).tmps.size = a0.tmps.size) ∧
      (∀ s, (∀ j ∈ L, dstOf ops j ≠ some s) → (L.foldl (fun b j => b.put (dstOf ops j) (vals j)) b).tmps[s]? = b.tmps[s]?) ∧ (∀ j ∈ L, ∀ s, dstOf ops j = some s → (L.foldl (fun b j => b.put (dstOf ops j) (vals j)) b).tmps[s]? = some (vals j)) := by
    intro L
    induction L with
    | nil => intro b hb _; exact ⟨rfl, hb, fun _ _ => rfl, fun j hj => by cases hj⟩
    | cons x L ih =>
      intro b hb hL
      have hb1 : (b.put (dstOf ops x) (vals x)).tmps.size = a0.tmps.size := by
        cases dstOf ops x with
        | none => exact hb
        | some d => show (b.tmps.setIfInBounds d _).size = _; rw [Array.size_setIfInBounds]; exact hb
      obtain ⟨i1, i2, i3, i4⟩ := ih (b.put (dstOf ops x) (vals x)) hb1 (fun j hj => hL j (List.mem_cons_of_mem _ hj))
      refine ⟨i1.trans (by cases dstOf ops x <;> rfl), i2, fun s hs => ?_, fun j hj s hjs => ?_⟩
      · refine (i3 s (fun j hj => hs j (List.mem_cons_of_mem _ hj))).trans ?_
        cases hx : dstOf ops x with
        | none => rfl
        | some d =>
          have hne : d ≠ s := fun e => hs x List.mem_cons_self (by rw [hx, e])
          show (b.tmps.setIfInBounds d _)[s]? = _
          rw [Array.getElem?_setIfInBounds_ne hne]
      · by_cases hmem : j ∈ L
        · exact i4 j hmem s hjs
        · have hjx : j = x := (List.mem_cons.1 hj).resolve_right hmem
          subst hjx
          have hno : ∀ k ∈ L, dstOf ops k ≠ some s := fun k hk2 => (regOk_dst hk hjs).2 k (fun e => hmem (e ▸ hk2))
          refine (i3 s hno).trans ?_
          rw [hjs]
          show (b.tmps.setIfInBounds s _)[s]? = _
          rw [Array.getElem?_setIfInBounds_self, if_pos (by rw [hb]; exact (regOk_dst hk hjs).1)]
  obtain ⟨f1, f2, f3, f4⟩ := hfold (List.range ops.size) a0 rfl (fun j hj => List.mem_range.1 hj)
  have ht : a.tmps = ((List.range ops.size).foldl (fun b j => b.put (dstOf ops j) (vals j)) a0).tmps := by
    apply Array.ext_getElem?
    intro s
    by_cases h : ∃ j, j < ops.size ∧ dstOf ops j = some s
    · obtain ⟨j, hj, hjs⟩ := h
      rw [hv j s hjs, f4 j (List.mem_range.2 hj) s hjs]
    · have h1 : ∀ j, j < ops.size → dstOf ops j ≠ some s := fun j hj e => h ⟨j, hj, e⟩
      rw [hf s h1, f3 s (fun j hj => h1 j (List.mem_range.1 hj))]
  cases a with
  | mk t d =>
    have h1 : t = _ := ht
    have h2 : d = _ := hd.trans f1.symm
    rw [h1, h2]
/-! The steps. -/
variable {i : Nat} {o : Oper} {a : Act} {w w1 : World} {K : Act → World → Prop}
theorem reg_if (hi : ops[i]? = some o) (h : if Region.wanted o (yielded ops a.tmps) = true then Oper.wp P o a w K Q else K (a.put o.dst undef) w) : wpOp P ops Q i K a w := by
  unfold wpOp
  simp only [hi]
  split
  · rename_i hw
    rw [if_pos hw] at h
    exact .inl h
  · rename_i hw
    rw [if_neg hw] at h
    exact h
theorem reg_wanted (hg : o.guard = none) : Region.wanted o (yielded ops a.tmps) = true := by
  unfold Region.wanted
  rw [hg]
theorem reg_val (hi : ops[i]? = some o) (hg : o.guard = none) (v : Value) (hrun : (execOp a.eval o).run P w = .ok (.value v) w1) (h : K (a.put o.dst v) w1) : wpOp P ops Q i K a w := by
  refine reg_if hi ?_
  rw [if_pos (reg_wanted hg)]
  unfold Oper.wp
  rw [hrun]
  exact h
theorem reg_skip (hi : ops[i]? = some o) (hg : o.guard = none) (hrun : (execOp a.eval o).run P w = .ok .skip w1) (h : K (a.put o.dst undef) w1) : wpOp P ops Q i K a w := by
  refine reg_if hi ?_
  rw [if_pos (reg_wanted hg)]
  unfold Oper.wp
  rw [hrun]
  exact h
theorem reg_call (hi : ops[i]? = some o) (hg : o.guard = none) {f : FuncId} {fn : Func} {as_ : Array Operand} {ts : Array TypeId} (hf : P.funcs[f]? = some fn) (hname : (fn.name == "runtime.NumGoroutine") = false) (hb : fn.body.isSome = true) (args : Array Value)
    (hop : o.op = .call { callee := .value (.func f), args := as_, argTypes := ts }) (hargs : as_.map a.eval = args) (h : Calls P f args w fun e w' => ∃ v, e = .returned v ∧ K (a.put o.dst v) w') : wpOp P ops Q i K a w :=
  reg_if hi (goes_ hf hname hb args (reg_wanted hg) rfl hop hargs h)
theorem eval_tmp {s : Nat} {v : Value} (h : a.tmps[s]? = some v) : a.eval (.tmp s) = v := by
  show a.tmps.getD s undef = v
  rw [Array.getD_eq_getD_getElem?, h]
  rfl
end
theorem put_none (a : Act) (v : Value) : a.put none v = a := rfl
def opAt (ops : Array Oper) (i : Nat) : Option (Op × Option Tmp × Option (Nat × Bool)) := (ops[i]?).map fun o => (o.op, o.dst, o.guard)
theorem reg_op {ops : Array Oper} {i : Nat} {o : Oper} {op : Op} {d : Option Tmp} {g : Option (Nat × Bool)} (h : opAt ops i = some (op, d, g)) (ho : ops[i]? = some o) : o.op = op ∧ o.dst = d ∧ o.guard = g := by
  unfold opAt at h
  rw [ho] at h
  simp only [Option.map_some, Option.some.injEq, Prod.mk.injEq] at h
  exact h
theorem dep_of {ops : Array Oper} {i d : Nat} (h : (depsOf ops i).contains d = true) : d ∈ depsOf ops i := by simpa using h
theorem not_dst {ops : Array Oper} {s : Nat} (h : ((List.range ops.size).all fun j => dstOf ops j != some s) = true) : ∀ j, j < ops.size → dstOf ops j ≠ some s := fun j hj e => by
  have := List.all_eq_true.1 h j (List.mem_range.2 hj)
  simp [e] at this
/-- append onto a slice of no capacity: nothing that was is written. -/
theorem reg_app0 {P : Program} {ops : Array Oper} {Q : Exit → Act → World → Prop} {i : Nat} {o : Oper} {a : Act} {w : World} {K : Act → World → Prop} (hi : ops[i]? = some o) (hg : o.guard = none) (s x : Operand) (t e : TypeId) (hop : o.op = Op.call { callee := Callee.builtin Builtin.append, args := #[s, x], argTypes := #[t, t] })
    (ht : P.underlying t = some (.slice e)) (hinfo : (P.info? e).map (fun i => (i.zero, i.size, i.bytes)) = some (some (.int .u8 0), 1, 1)) {A0 A1 : Option Addr} {c1 : Nat} {ys : List Int} (b : Nat) (hb : b ≤ w.heap.size) (hs : a.eval s = .slice A0 0 0) (HO : Kd.R (Kd.int .u8) e w b (fun _ => True) (.slice A0 0 0) [])
    (hx : a.eval x = .slice A1 ys.length c1) (HC : Kd.C (Kd.int .u8) w A1 ys.length ys) (hm : ys.length ≤ 140737488355328)
    (h : ∀ v1 w1, Kd.R (Kd.int .u8) e w1 b (fun _ => True) v1 ys → Below w.heap.size w w1 → K (a.put o.dst v1) w1) : wpOp P ops Q i K a w := by
  obtain ⟨ti, hti, hz⟩ := Option.map_eq_some_iff.1 hinfo
  simp only [Prod.mk.injEq] at hz
  obtain ⟨hz1, hz2, hz3⟩ := hz
  refine reg_if hi ?_
  rcases Nat.eq_zero_or_pos ys.length with h0 | h0
  · obtain rfl : ys = [] := List.eq_nil_of_length_eq_zero h0
    have hrun : (Builtin.append_ #[t, t] o.type #[.slice A0 0 0, .slice A1 0 c1]).run P w = .ok (.slice A0 0 0) w := by
      cases A0 <;> cases A1 <;> simp [Builtin.append_, run_underlying ht, sizeOf, typeInfo, hti, Builtin.lenOf, Builtin.firstCells, storeCells, loadCells, loadCellsFrom, Result.andThen]
    rw [if_pos (reg_wanted hg)]
    unfold Oper.wp execOp
    simp only [hop, resolve, invoke, builtin, Sem.run_bind, Sem.run_pure, Result.andThen_ok, List.map_toArray, List.map_cons, List.map_nil, hs, hx, List.length_nil, hrun]
    exact h _ _ HO (Below.refl _ _)
  · obtain ⟨ad1, rfl, hcB⟩ := HC.2.2 h0
    have cells : ∀ j u, (ys.map (Value.int .u8))[j]? = some u → w.cell? (ad1.add j) = some u := by
      intro j u hj
      rw [List.getElem?_map] at hj
      obtain ⟨z, hz, rfl⟩ := Option.map_eq_some_iff.1 hj
      obtain ⟨c, hc1, hc2, hc3⟩ := hcB j z hz
      have h3 := hc3 0 (.int .u8 z) (by rw [hc2]; rfl)
      rw [show j * (Kd.int .u8).sz + 0 = j from by show j * 1 + 0 = j; omega] at h3
      exact h3
    refine step_append_grows hg s x t hop e ti (.int .u8 0) 1 1 ht hti hz1 hz2 hz3 rfl (by decide) A0 0 0 [] hs (fun _ => ⟨rfl, rfl⟩) rfl (fun _ _ j u hj => by simp at hj) ad1 ys.length c1 (ys.map (Value.int .u8)) hx (by rw [List.length_map]; omega) cells (fun u hu => by obtain ⟨z, _, rfl⟩ := List.mem_map.1 hu; rfl) (by omega) (by unfold maxLen; omega) (by omega) ?_
    intro v' w' ho hgr
    refine h v' w' ?_ ⟨hgr.os, hgr.tape, hgr.output, hgr.size, fun j hj => hgr.block j hj (by simp)⟩
    simp only [List.nil_append, Nat.zero_add] at ho
    exact Kd.R_lower (Kd.R_of_own (enc := Value.int .u8) (h1 := fun _ => rfl) ho.lax (fun _ _ => trivial)) hb
/-- '[]byte{}': a row of no capacity. -/
theorem reg_lit0 {P : Program} {ops : Array Oper} {Q : Exit → Act → World → Prop} {i : Nat} {o : Oper} {a : Act} {w : World} {K : Act → World → Prop} (hi : ops[i]? = some o) (hg : o.guard = none) (e : TypeId) (hrun : (execOp a.eval o).run P w = .ok (.value (.slice (some ⟨w.heap.size, 0, none⟩) 0 0)) (w.alloc (.cells #[] e))) (b : Nat) (hb : b ≤ w.heap.size)
    (h : ∀ (A : Option Addr) w1, Kd.R (Kd.int .u8) e w1 b (fun _ => True) (.slice A 0 0) [] → Below w.heap.size w w1 → K (a.put o.dst (.slice A 0 0)) w1) : wpOp P ops Q i K a w := by
  refine reg_val hi hg _ hrun (h _ _ ⟨fun _ _ => trivial, [], ?_, Reps.none _ _⟩ (below_alloc (Below.refl _ _) _))
  exact (World.ownsRow_lit (base := b) (e := e) (size := 1) w #[] 0 hb (by simp [maxLen]) rfl).lax
/-- A variable is written whole. -/
theorem store_whole {P : Program} {W : World} {g ty : Nat} {old new : List Value} {v : Value} (hb : W.heap[g]? = some (.cells old.toArray ty (0, 0))) (hlen : new.length = old.length) (hv : v.cells.toList = new) (hsz : (P.info? ty).map (·.size) = some new.length) (h1 : ∀ u ∈ new, u.oneCell' = true) (hp : 0 < new.length) :
    ∃ w1, (Instr.storeAt ty (.pointer (some ⟨g, 0, none⟩)) v).run P W = .ok () w1 ∧ W.grownBy w1 (some g) ∧ w1.heap[g]? = some (.cells new.toArray ty (0, 0)) := by
  obtain ⟨cur', c1, c2, c3⟩ := setCells_row new 0 W old.toArray hb (by simp [hlen])
  have hcur : cur' = new.toArray := by
    apply Array.toList_inj.1
    rw [c3]; simp [hlen]
  subst hcur
  exact ⟨_, run_store_run ty _ _ hb hv hsz (by simp [hlen]) h1, grown_setCells5 W g 0 _, c1⟩
theorem reads_of_C_u8 {w : World} {A : Option Addr} {n : Nat} {xs : List Int} (h : Kd.C (Kd.int .u8) w A n xs) : ReadsInt w .u8 A n xs := readsInt_of.2 (Kd.reads_of_C (d := (0 : Int)) h)
theorem put_whole {P : Program} {ops : Array Oper} {rest : List Oper} {o : Oper} {a : Act} {Q : Exit → Act → World → Prop} {W : World} (t : TypeId) (hN : o.dst = none) (hgd : o.guard = none) (p x : Operand) (ho : o.op = .store t p x) {g : Nat} {old : List Value} (new : List Value) (v : Value)
    (haddr : a.eval p = .pointer (some ⟨g, 0, none⟩)) (hx : a.eval x = v) (hb : W.heap[g]? = some (.cells old.toArray t (0, 0))) (hlen : new.length = old.length) (hv : v.cells.toList = new) (hsz : (P.info? t).map (·.size) = some new.length) (h1 : ∀ u ∈ new, u.oneCell' = true) (hp : 0 < new.length)
    (h : ∀ w1, W.grownBy w1 (some g) → w1.heap[g]? = some (.cells new.toArray t (0, 0)) → wpList P ops Q rest a w1) : wpList P ops Q (o :: rest) a W := by
  obtain ⟨w1, s1, s2, s3⟩ := store_whole (P := P) hb hlen hv hsz h1 hp
  refine wpList_plain hgd fun K hK => ?_
  unfold Oper.wp execOp
  simp only [ho, haddr, hx, Sem.run_bind, Sem.run_pure, Result.andThen_ok, s1]
  show K (a.put o.dst undef) _
  rw [hN]
  exact hK a _ (h _ s2 s3)
theorem cell_u8 {w : World} {ad : Addr} {xs : List Int} (h : Kd.C (Kd.int .u8) w (some ad) xs.length xs) (i : Int) (h0 : 0 ≤ i) (h1 : i < (xs.length : Int)) : w.cell? (ad.add i.toNat) = some (.int .u8 (rd xs i)) := by
  obtain ⟨ad', e, hc⟩ := (reads_of_C_u8 h).at_ i h0 h1
  injection e with e
  subst e
  exact hc
theorem cut_u8 {P : Program} (t e : TypeId) {z : Option Value} {by_ : Nat} (ht : P.underlying t = some (.slice e)) (hinfo : (P.info? e).map (fun i => (i.zero, i.size, i.bytes)) = some (z, 1, by_)) (A : Option Addr) (c : Nat) (xs : List Int) (lo hi : Int) (h0 : 0 ≤ lo) (h1 : lo ≤ hi) (h2 : hi ≤ (xs.length : Int)) (hc : xs.length ≤ c) :
    ∃ A' c', (∀ W : World, (Instr.slice t (.slice A xs.length c) (some (.int .i64 lo)) (some (.int .i64 hi)) none).run P W = .ok (.slice A' ((xs.take hi.toNat).drop lo.toNat).length c') W) ∧ ((xs.take hi.toNat).drop lo.toNat).length ≤ c' ∧
      ∀ w : World, Kd.C (Kd.int .u8) w A xs.length xs → Kd.C (Kd.int .u8) w A' ((xs.take hi.toNat).drop lo.toNat).length ((xs.take hi.toNat).drop lo.toNat) := by
  obtain ⟨i, hi1, hz⟩ := Option.map_eq_some_iff.1 hinfo
  simp only [Prod.mk.injEq] at hz
  obtain ⟨A', r1, r2, r3⟩ := print_mid_int (P := P) (k := .u8) t e ht hi1 hz.2.1 A c xs lo hi h0 h1 h2 hc
  exact ⟨A', _, r1, r3, fun w h => Kd.C_of_reads (r2 w (reads_of_C_u8 h))⟩
/-- Some cells of a variable are written. -/
theorem put_part {P : Program} {ops : Array Oper} {rest : List Oper} {o : Oper} {a : Act} {Q : Exit → Act → World → Prop} {W : World} (t ty : TypeId) (hN : o.dst = none) (hgd : o.guard = none) (p x : Operand) (ho : o.op = .store t p x) {g j : Nat} {old : List Value} (seg new : List Value) (v : Value)
    (haddr : a.eval p = .pointer (some ⟨g, j, none⟩)) (hx : a.eval x = v) (hb : W.heap[g]? = some (.cells old.toArray ty (0, 0))) (hv : v.cells.toList = seg) (hfit : j + seg.length ≤ old.length) (hnew : old.take j ++ seg ++ old.drop (j + seg.length) = new) (hsz : (P.info? t).map (·.size) = some seg.length) (h1 : ∀ u ∈ seg, u.oneCell' = true)
    (h : ∀ w1, W.grownBy w1 (some g) → w1.heap[g]? = some (.cells new.toArray ty (0, 0)) → wpList P ops Q rest a w1) : wpList P ops Q (o :: rest) a W := by
  obtain ⟨cur', c1, c2, c3⟩ := setCells_row seg j W old.toArray hb (by simpa using hfit)
  have hcur : cur' = new.toArray := by
    apply Array.toList_inj.1
    rw [c3]; simpa using hnew
  subst hcur
  have s1 := run_store_run (P := P) t v seg hb hv hsz (by simpa using hfit) h1
  refine wpList_plain hgd fun K hK => ?_
  unfold Oper.wp execOp
  simp only [ho, haddr, hx, Sem.run_bind, Sem.run_pure, Result.andThen_ok, s1]
  show K (a.put o.dst undef) _
  rw [hN]
  exact hK a _ (h _ (grown_setCells5 W g j _) c1)
theorem cut_u8_from {P : Program} (t e : TypeId) {z : Option Value} {by_ : Nat} (ht : P.underlying t = some (.slice e)) (hinfo : (P.info? e).map (fun i => (i.zero, i.size, i.bytes)) = some (z, 1, by_)) (A : Option Addr) (c : Nat) (xs : List Int) (lo : Int) (h0 : 0 ≤ lo) (h2 : lo ≤ (xs.length : Int)) (hc : xs.length ≤ c) :
    ∃ A' c', (∀ W : World, (Instr.slice t (.slice A xs.length c) (some (.int .i64 lo)) none none).run P W = .ok (.slice A' (xs.drop lo.toNat).length c') W) ∧ (xs.drop lo.toNat).length ≤ c' ∧
      ∀ w : World, Kd.C (Kd.int .u8) w A xs.length xs → Kd.C (Kd.int .u8) w A' (xs.drop lo.toNat).length (xs.drop lo.toNat) := by
  obtain ⟨i, hi1, hz⟩ := Option.map_eq_some_iff.1 hinfo
  simp only [Prod.mk.injEq] at hz
  have hl : (xs.drop lo.toNat).length = xs.length - lo.toNat := List.length_drop
  refine ⟨_, c - lo.toNat, fun W => (cut_from t e .i64 ht hi1 1 hz.2.1 A xs.length c lo h0 h2 W).trans (by rw [hl]), by rw [hl]; omega, fun w h => ?_⟩
  exact Kd.C_drop h (by omega) hc
theorem cut_u8_to {P : Program} (t e : TypeId) {z : Option Value} {by_ : Nat} (ht : P.underlying t = some (.slice e)) (hinfo : (P.info? e).map (fun i => (i.zero, i.size, i.bytes)) = some (z, 1, by_)) (A : Option Addr) (c : Nat) (xs : List Int) (hi : Int) (h0 : 0 ≤ hi) (h2 : hi ≤ (xs.length : Int)) (hc : xs.length ≤ c) :
    ∃ A' c', (∀ W : World, (Instr.slice t (.slice A xs.length c) none (some (.int .i64 hi)) none).run P W = .ok (.slice A' (xs.take hi.toNat).length c') W) ∧ (xs.take hi.toNat).length ≤ c' ∧
      ∀ w : World, Kd.C (Kd.int .u8) w A xs.length xs → Kd.C (Kd.int .u8) w A' (xs.take hi.toNat).length (xs.take hi.toNat) := by
  obtain ⟨i, hi1, hz⟩ := Option.map_eq_some_iff.1 hinfo
  have hl : (xs.take hi.toNat).length = hi.toNat := by rw [List.length_take]; omega
  refine ⟨A, c, fun W => (cut_to t e .i64 ht hi1 A xs.length c hi h0 h2 hc W).trans (by rw [hl]), by rw [hl]; omega, fun w h => ?_⟩
  exact Kd.C_take h (by omega)
theorem jdv {P D : Prop} (h : D) (t : D → P := by intro h_; exact (eval_tmp ((h_ (dep_of (by kernel_rfl))).1 _ rfl)).trans ((h_ (dep_of (by kernel_rfl))).2 (.inr (Nat.le_refl _)))) : P := t h
theorem jfr {P D E : Prop} (h : D) (e : E) (t : D → E → P := by intro h_ e_; exact eval_tmp ((h_ (not_dst (by kernel_rfl))).trans e_)) : P := t h e
/-- What is told of each operation outlasts what is below. -/
def jSta (V : Nat → (Nat → Value) → World → Prop) : Prop := ∀ (vals : Nat → Value) (w_ w1 : World), Below w_.heap.size w_ w1 → ∀ j, V j vals w_ → V j vals w1
abbrev jV {V : Nat → (Nat → Value) → World → Prop} (_ : jSta V) : Nat → (Nat → Value) → World → Prop := V
theorem jro {ops : Array Oper} {i : Nat} {o : Oper} (op : Op) (n : Tmp) (ho : ops[i]? = some o) (h : opAt ops i = some (op, some n, none) := by kernel_rfl) : o.op = op ∧ o.dst = some n ∧ o.guard = none := reg_op h ho
theorem jrx {P : Program} {ops : Array Oper} {Q : Exit → Act → World → Prop} {i : Nat} {o : Oper} {a : Act} {w : World} {K : Act → World → Prop} {C : Value → World → Prop} {G D : World → Prop} (ho : ops[i]? = some o) (hg : o.guard = none) (hK : ∀ v w1, C v w1 → G w1 → D w1 → K (a.put o.dst v) w1) (hG : G w) (v : Value)
    (hrun : (execOp a.eval o).run P w = .ok (.value v) w := by unfold execOp; (first | simp only [hop, x1_, x2_] | simp only [hop, x1_] | simp only [hop]); go_simp) (hC : C v w := by exact upd_same _ _ _) (hD : D w := by exact fun _ _ _ h => h) : wpOp P ops Q i K a w := reg_val (w1 := w) ho hg v hrun (hK v w hC hG hD)
end Go.Proofs.Ytlalkldjpniakaa.P
namespace Go.Proofs.Ytlalkldjpniakaa.P
open Go.RowKit Go.Proofs.YtlalkldjpniakaaW.PrintWords Go.Proofs.YtlalkldjpniakaaW.PrintLast Go.Proofs.YtlalkldjpniakaaW.PrintMore
attribute [local go_sem] zcm zcn zdd zde zbw zbx zco zcp   -- for this text's walks alone
set_option linter.unusedVariables false
set_option linter.unusedSimpArgs false
set_option maxHeartbeats 8000000
set_option maxRecDepth 100000

def spec_l14Item.f (a0_0 : Int) (a0_1 : ByteArray) (a0_2 : Int) (a0_3 : Int) (l0_4 : List Int) : Option (ByteArray × Int × Int × List Int) := (some (([] : List Int) : List Int)).bind fun y271 => (if y271.length + l0_4.length < 140737488355328 then (some (a0_1, a0_2, a0_3, (y271 ++ l0_4))) else (none))
def spec_l14Item.T1 : Bool × List (List Nat × List Nat) := (true, [([], []), ([0], [0]), ([], []), ([2], [2]), ([], []), ([4], [4]), ([], []), ([], []), ([7], [7]), ([6, 8], [6, 8]), ([1, 3, 5, 9], [1, 3, 5, 9]), ([10, 9, 0, 1, 2, 3, 4, 5, 6, 7, 8, 9, 10], [10])])
def spec_l14Item.B1 : List Nat := [0, 1, 0, 4, 0, 16, 0, 0, 128, 448, 1023, 2047]
theorem spec_l14Item.tab1 : rtab .any (opsOf Try.f92 1) = spec_l14Item.T1 := by kernel_rfl
theorem spec_l14Item.bits1 : waitsOk spec_l14Item.T1.2 spec_l14Item.B1 = true := by kernel_rfl
theorem spec_l14Item.calls (a0_0 : Int) (a0_1 : ByteArray) (a0_2 : Int) (a0_3 : Int) (A0_4 : Option Addr) (c0_4 : Nat) (l0_4 : List Int) (r1 : ByteArray) (r2 : Int) (r3 : Int) (r4 : List Int) (w : World) (hr0_4 : Kd.C (Kd.int .u8) w A0_4 l0_4.length l0_4) (hc0_4 : l0_4.length ≤ c0_4) (h : spec_l14Item.f a0_0 a0_1 a0_2 a0_3 l0_4 = some (r1, r2, r3, r4)) :
  Calls Try.prog 92 #[.agg #[.int .i64 a0_0, .string a0_1, .int .i64 a0_2, .int .i64 a0_3, .slice A0_4 l0_4.length c0_4]] w fun e w' => ∃ v3_ : Value, e = .returned (.agg #[.string r1, .int .i64 r2, .int .i64 r3, v3_]) ∧ Kd.R (Kd.int .u8) 5 w' w.heap.size (fun _ => True) v3_ r4 ∧ Below w.heap.size w w' := by
 have hu48 := Try.underlying48
 have hu34 := Try.underlying34
 have HR0_4 := Aside0.mk hr0_4
 have HC0_4 := Aside0.mk hc0_4
 clear hr0_4 hc0_4
 have HB := Aside0.mk (zbk w.heap.size w)
 have H : ((some (([] : List Int) : List Int)).bind fun y271 => (if y271.length + l0_4.length < 140737488355328 then (some (a0_1, a0_2, a0_3, (y271 ++ l0_4))) else (none))) = some (r1, r2, r3, r4) := h
 clear h
 obtain ⟨y271, hy271⟩ : ∃ y_ : List Int, y_ = (([] : List Int)) := ⟨_, rfl⟩
 replace H := bto hy271 H
 have Ny271 := Aside0.mk hy271
 clear hy271
 by_cases c2 : y271.length + l0_4.length < 140737488355328
 ·rw [if_pos c2] at H
  have LMc2 := Aside0.mk c2
  clear c2
  obtain ⟨y274, hy274⟩ : ∃ y_ : List Int, y_ = (y271 ++ l0_4) := ⟨_, rfl⟩
  replace H : (some (a0_1, a0_2, a0_3, y274)) = some (r1, r2, r3, r4) := jrw hy274 H
  have Ny274 := Aside0.mk hy274
  clear hy274
  simp only [zbz, zcj] at H
  obtain ⟨rfl, rfl, rfl, rfl⟩ := H
  go_enter Try.func92, Try.ntmps92
  try go_wp2_with (first | (refine jgd 1 ?_; refine bx 1 (#[.int .i64 a0_0, .string a0_1, .int .i64 a0_2, .int .i64 a0_3, .slice A0_4 l0_4.length c0_4]) 48 ?_; intro gb269 hg w3 hbox hb; have n_ := jA4 (zab bq hb) (hbox) (ge0 hg bq : w.heap.size ≤ gb269) (ge0 hg bq : w.heap.size ≤ gb269); clear HB; obtain ⟨HB, BK269, GW269, GE269⟩ := n_; clear hb hbox hg) | (refine jgd 2 ?_; refine bx 2 (#[.string (⟨#[]⟩ : ByteArray), .int .i64 0, .int .i64 0, .slice none 0 0]) 34 ?_; intro gb270 hg w4 hbox hb; have n_ := jA7 (jbb BK269.out hb) (zab (bs1 GE269.out) hb) (hbox) (ge0 hg (bs1 GE269.out) : w.heap.size ≤ gb270) (ge0 hg (bs1 GE269.out) : w.heap.size ≤ gb270) (nl hg (pB BK269.out) : gb269 ≠ gb270) (ng hg (pB BK269.out) : gb270 ≠ gb269); clear BK269 HB; obtain ⟨BK269, HB, BK270, GW270, GE270, NB269_270, NB270_269⟩ := n_; clear hb hbox hg))
  have n_ := jA3 (zbl BK269.out) (zbl BK270.out) (zev HB.out)
  clear BK269 BK270 HB
  obtain ⟨BK269, BK270, HB⟩ := n_
  refine start_ (n := 12) (S := fun w' => w'.cell? ⟨gb269, 0, none⟩ = some (.int .i64 a0_0) ∧ w'.cell? ⟨gb269, 1, none⟩ = some (.string a0_1) ∧ w'.cell? ⟨gb269, 2, none⟩ = some (.int .i64 a0_2) ∧ w'.cell? ⟨gb269, 3, none⟩ = some (.int .i64 a0_3) ∧ w'.cell? ⟨gb269, 4, none⟩ = some (.slice A0_4 l0_4.length c0_4)) (ds := []) #[false, false, false, false, false, false, false, false, false, false, false, false] (by kernel_rfl) rfl rfl ⟨(zbf BK269.out 0).trans rfl, (zbf BK269.out 1).trans rfl, (zbf BK269.out 2).trans rfl, (zbf BK269.out 3).trans rfl, (zbf BK269.out 4).trans rfl⟩ (fun hHeld => ?_); refine zgf spec_l14Item.tab1 spec_l14Item.bits1 (fun HT_ HW_ => ?_)
  generalize w4.drew = w5 at BK269 BK270 HB hHeld ⊢
  refine pu 0 3 HT_.out ?_
  refine pu 2 5 HT_.out ?_
  refine pu 4 7 HT_.out ?_
  refine pu 7 10 HT_.out ?_
  refine tk 1 4 HT_.out HW_.out hHeld ?_
  refine tk 3 6 HT_.out HW_.out hHeld ?_
  refine tk 5 8 HT_.out HW_.out hHeld ?_
  refine tk 8 11 HT_.out HW_.out hHeld ?_
  refine one_ (i := 6) (N := some 9) #[true, true, true, true, true, true, true, true, true, false, false, false] rfl rfl (one_of HT_.out (by kernel_rfl)) (by decide) (fun K hK => ?_)
  refine Kd.R_lit_step (Kd.int .u8) _ 5 ?hg (N := 9) ?hd (xs := ([] : List Int)) (inner := []) (ok := fun _ => True) (okp := fun _ => True) ?hr ?hp (fun _ hk => hk) trivial (zbk _ _) (zaf _) (by simp) ?_; (case hd => rfl); (case hg => rfl); (case hr => first | (go_simp; done) | (go_simp; rfl)); (case hp => exact (Reps.none _ _))
  intro v272 w6 ho7 hb hg_ hnew_
  clear hg_ hnew_
  (first | rw [← Ny271.out] at ho7 | (simp only [Int.reduceToNat] at ho7; rw [← Ny271.out] at ho7))
  have n_ := jA4 (zbc ho7 (zak (bs2 GE269.out GE270.out))) (jbb BK269.out hb) (jbb BK270.out hb) (zab (bs2 GE269.out GE270.out) hb)
  clear BK269 BK270 HB
  obtain ⟨HO273, BK269, BK270, HB⟩ := n_
  clear hb ho7
  refine hK.out _ _ ⟨(zbf BK269.out 0).trans rfl, (zbf BK269.out 1).trans rfl, (zbf BK269.out 2).trans rfl, (zbf BK269.out 3).trans rfl, (zbf BK269.out 4).trans rfl⟩ (fun hHeld => ?_)
  clear hK K
  refine norm_ (a' := ?_) ?_ ?_
  rotate_left
  ·show Act.put _ (some 9) _ = _
   simp only [Act.put, zal, zaw, zax, i64_w, i32_w]
   rfl
  refine one_ (i := 9) (N := some 12) #[true, true, true, true, true, true, true, true, true, true, false, false] rfl rfl (one_of HT_.out (by kernel_rfl)) (by decide) (fun K hK => ?_)
  refine Kd.R_append_rows_step (Kd.int .u8) (w0 := w) w.heap.size (by rfl) (.tmp 9) (.tmp 11) 29 5 (.int .u8 0) 1 rfl Try.underlying29 info5 rfl (by decide) (by omega) v272 y271 l0_4 _ _ _ (fun _ => True) (fun _ => False) rfl rfl ?aO ?aR (fun _ _ h => h) (fun _ h => h.elim) ?aF ?aB ?aS ?aL ?_
  (case aR => exact jcs HR0_4.out)
  (case aB => exact (bs2 GE269.out GE270.out))
  (case aF => exact (fun _ _ => trivial))
  (case aO => exact (pR HO273.out))
  (case aS => exact (zak (bs2 GE269.out GE270.out)))
  (case aL => have := LMc2.out; omega)
  intro v275 w8 ho hb hg hat
  rw [← Ny274.out] at ho
  have n_ := jA4 (zei (pB BK269.out) hg (zfn HO273.out BK269.out (by decide))) (zei (pB BK270.out) hg (zfn HO273.out BK270.out (by decide))) (hb) (ho)
  clear BK269 BK270 HB HO273
  obtain ⟨BK269, BK270, HB, HO276⟩ := n_
  clear ho hb hg hat
  obtain ⟨Ao9, co9, eo9⟩ := zbm HO276.out
  (first | subst eo9 | (injection eo9 with f1_ f2_ f3_; have f4_ := f1_.symm; have f5_ := f3_.symm; clear f1_ f2_ f3_; subst f4_; subst f5_))
  refine hK.out _ _ ⟨(zbf BK269.out 0).trans rfl, (zbf BK269.out 1).trans rfl, (zbf BK269.out 2).trans rfl, (zbf BK269.out 3).trans rfl, (zbf BK269.out 4).trans rfl⟩ (fun hHeld => ?_)
  clear hK K
  refine norm_ (a' := ?_) ?_ ?_
  rotate_left
  ·show Act.put _ (some 12) _ = _
   simp only [Act.put, zal, zaw, zax, i64_w, i32_w]
   rfl
  refine pu 10 13 HT_.out ?_
  refine one_ (i := 11) (N := none) #[true, true, true, true, true, true, true, true, true, true, true, true] rfl rfl (one_of HT_.out (by kernel_rfl)) (by decide) (fun K hK => ?_)
  have hs10 : w8.cell? ⟨gb270, 0, none⟩ = some (.string (⟨#[]⟩ : ByteArray)) := (zbf BK270.out 0).trans rfl
  have hfs10 := blk_frozen BK270.out 0
  have hns10_0 := NB269_270.out
  have hms10_0 := NB270_269.out
  have hs11 : w8.cell? ⟨gb270, 1, none⟩ = some (.int .i64 0) := (zbf BK270.out 1).trans rfl
  have hfs11 := blk_frozen BK270.out 1
  have hns11_0 := NB269_270.out
  have hms11_0 := NB270_269.out
  have hs12 : w8.cell? ⟨gb270, 2, none⟩ = some (.int .i64 0) := (zbf BK270.out 2).trans rfl
  have hfs12 := blk_frozen BK270.out 2
  have hns12_0 := NB269_270.out
  have hms12_0 := NB270_269.out
  have hs13 : w8.cell? ⟨gb270, 3, none⟩ = some (.slice none 0 0) := (zbf BK270.out 3).trans rfl
  have hfs13 := blk_frozen BK270.out 3
  have hns13_0 := NB269_270.out
  have hms13_0 := NB270_269.out
  refine skip_ (w1 := ?_) (by rfl) rfl ?_ ?_
  rotate_left
  ·go_simp
   rfl
  refine hK.out _ _ ⟨((zdz (p := ⟨gb270, _, none⟩) NB269_270.out _).trans (((zdz (p := ⟨gb270, _, none⟩) NB269_270.out _).trans (((zdz (p := ⟨gb270, _, none⟩) NB269_270.out _).trans (((zdz (p := ⟨gb270, _, none⟩) NB269_270.out _).trans (hHeld.1)))))))), ((zdz (p := ⟨gb270, _, none⟩) NB269_270.out _).trans (((zdz (p := ⟨gb270, _, none⟩) NB269_270.out _).trans (((zdz (p := ⟨gb270, _, none⟩) NB269_270.out _).trans (((zdz (p := ⟨gb270, _, none⟩) NB269_270.out _).trans (hHeld.2.1)))))))), ((zdz (p := ⟨gb270, _, none⟩) NB269_270.out _).trans (((zdz (p := ⟨gb270, _, none⟩) NB269_270.out _).trans (((zdz (p := ⟨gb270, _, none⟩) NB269_270.out _).trans (((zdz (p := ⟨gb270, _, none⟩) NB269_270.out _).trans (hHeld.2.2.1)))))))), ((zdz (p := ⟨gb270, _, none⟩) NB269_270.out _).trans (((zdz (p := ⟨gb270, _, none⟩) NB269_270.out _).trans (((zdz (p := ⟨gb270, _, none⟩) NB269_270.out _).trans (((zdz (p := ⟨gb270, _, none⟩) NB269_270.out _).trans (hHeld.2.2.2.1)))))))), ((zdz (p := ⟨gb270, _, none⟩) NB269_270.out _).trans (((zdz (p := ⟨gb270, _, none⟩) NB269_270.out _).trans (((zdz (p := ⟨gb270, _, none⟩) NB269_270.out _).trans (((zdz (p := ⟨gb270, _, none⟩) NB269_270.out _).trans (hHeld.2.2.2.2))))))))⟩ (fun hHeld => ?_)
  clear hK K
  refine done_ (done_of HT_.out (by kernel_rfl)) ?_
  try go_wp2
  refine zdx (results_cell_row rfl _ _ gb270 34 #[.string a0_1, .int .i64 a0_2, .int .i64 a0_3, .slice Ao9 y274.length co9] (0, 0) _ rfl (by (with_reducible repeat (first | refine zbg ?_ _ | refine zbl ?_ | refine zbh ?_ _)); refine zdh (cs := #[.string a0_1, .int .i64 a0_2, .int .i64 a0_3, .slice none 0 0]) ?_ 3 _ rfl; (with_reducible repeat (first | refine zbg ?_ _ | refine zbl ?_ | refine zbh ?_ _)); refine zdh (cs := #[.string a0_1, .int .i64 a0_2, .int .i64 0, .slice none 0 0]) ?_ 2 _ rfl; (with_reducible repeat (first | refine zbg ?_ _ | refine zbl ?_ | refine zbh ?_ _)); refine zdh (cs := #[.string a0_1, .int .i64 0, .int .i64 0, .slice none 0 0]) ?_ 1 _ rfl; (with_reducible repeat (first | refine zbg ?_ _ | refine zbl ?_ | refine zbh ?_ _)); refine zdh (cs := #[.string (⟨#[]⟩ : ByteArray), .int .i64 0, .int .i64 0, .slice none 0 0]) ?_ 0 _ rfl; (with_reducible repeat (first | refine zbg ?_ _ | refine zbl ?_ | refine zbh ?_ _)); exact BK270.out) Try.underlying34 rfl (by kernel_rfl)) rfl ?_
  exact ⟨_, jex, by (with_reducible repeat (first | apply zbo | apply zbp | apply zbs)); exact zav (zbt (p := ⟨gb270, 3, none⟩) (zbt (p := ⟨gb270, 2, none⟩) (zbt (p := ⟨gb270, 1, none⟩) (zbt (p := ⟨gb270, 0, none⟩) (zcb HO276.out BK270.out (by decide)) (fun _ hk => hk.2) (.string a0_1)) (fun _ hk => hk.2) (.int .i64 a0_2)) (fun _ hk => hk.2) (.int .i64 a0_3)) (fun _ hk => hk.2) (.slice Ao9 y274.length co9)) (fun _ hk => trivial), (bs2 GE269.out GE270.out)⟩
 ·rw [if_neg c2] at H
  exact absurd H (by simp)
def spec_LineOk.f (k : Nat) (a0_0 : Int) (a0_1 : ByteArray) (a0_2 : Int) (a0_3 : Int) (l0_4 : List Int) : Option (Bool) := if a0_0 = 1 then ((spec_l14Item.f a0_0 a0_1 a0_2 a0_3 l0_4).bind fun bt278 => ((spec_ItemOk.f k bt278.1 bt278.2.1 bt278.2.2.1 bt278.2.2.2).bind fun t284 => (some t284))) else (if a0_0 = 2 then ((spec_l13Route.f k a0_1).bind fun t285 => (if t285 = true then (if a0_2 = 0 then (if a0_3 = 0 then (some ((l0_4.length : Int) == 0)) else (some false)) else (some false)) else (some false))) else (if a0_0 = 3 then (if a0_1.toList = ([] : List UInt8) then (if a0_2 = 0 then ((spec_l1In.f a0_3 0 100000).bind fun t286 => (if t286 = true then (some ((l0_4.length : Int) == 0)) else (some false))) else (some false)) else (some false)) else (some false)))
theorem spec_LineOk.mono : ∀ a0 a1 a2 a3 a4 k, LeO (spec_LineOk.f k a0 a1 a2 a3 a4) (spec_LineOk.f (k + 1) a0 a1 a2 a3 a4) := by
 intro a0 a1 a2 a3 a4 k
 unfold spec_LineOk.f
 have m0 := @spec_ItemOk.mono
 have m1 := @spec_l13Route.mono
 exact mt
theorem spec_LineOk.wk {P : Prop} (h : P := by
 go_enter Try.func34, Try.ntmps34
 go_wp2_with (first | (refine jgd 1 ?_; (try (refine gate_guard (by rfl) ?_; dsimp only)); refine bx 1 (#[.int .i64 a0_0, .string a0_1, .int .i64 a0_2, .int .i64 a0_3, .slice A0_4 l0_4.length c0_4]) 48 ?_; intro gb277 hg w_ hbox hb; have xb_ := below_ofs bq hb; have n_ := jA4 (zab xb_ hb) (hbox) (ge0 hg xb_ : w.heap.size ≤ gb277) (ge0 hg xb_ : w.heap.size ≤ gb277); clear HB; obtain ⟨HB, BK277, GW277, GE277⟩ := n_; clear xb_ hb hbox hg; obtain ⟨c0, c1, c2, c3, c4, z0, z1, z2, z3, z4⟩ := cz5 BK277.out) | (refine jgc 92 ?_; refine jgs 8 Try.func92 #[.agg #[.int .i64 a0_0, .string a0_1, .int .i64 a0_2, .int .i64 a0_3, .slice A0_4 l0_4.length c0_4]] ?_; (with_reducible refine (spec_l14Item.calls a0_0 a0_1 a0_2 a0_3 _ _ l0_4 t278 t279 t280 t281 _ ?side1 ?side2 A3.out).mono ?_); (case side1 => exact jcs HR0_4.out); (case side2 => exact HC0_4.out); rintro e w_ ⟨v282, rfl, ho0, hb⟩; refine ⟨_, rfl, ?_⟩; have n_ := jA3 (zbc ho0 (zak (bs1 GE277.out))) (jbb BK277.out hb) (zab (bs1 GE277.out) hb); clear BK277 HB; obtain ⟨HO283, BK277, HB⟩ := n_; clear hb ho0; obtain ⟨Ao8, co8, eo8⟩ := zbm HO283.out; subst eo8) | (refine jgc 24 ?_; refine jgs 9 Try.func24 #[.agg #[.string t278, .int .i64 t279, .int .i64 t280, .slice Ao8 t281.length co8]] ?_; (with_reducible refine (spec_ItemOk.calls k t278 t279 t280 _ _ t281 t284 _ ?side1 ?side2 A4.out).mono ?_); (case side1 => repeat (first | exact (zbq HO283.out).2.2 | (with_reducible first | apply zcv | apply zdi | apply zdu))); (case side2 => exact (zbq HO283.out).2.1); rintro e w_ ⟨rfl, hb⟩; refine ⟨_, rfl, ?_⟩; have n_ := jA3 (zdj (pR HO283.out) hb) (jbb BK277.out hb) (zab (bs1 GE277.out) hb); clear HO283 BK277 HB; obtain ⟨HO283, BK277, HB⟩ := n_; (try clear hb); (try clear hb2); (try clear hk); (try clear hi)) | (refine jgc 88 ?_; refine jgs 14 Try.func88 #[.string a0_1] ?_; (with_reducible refine (spec_l13Route.calls k a0_1 _ _ A11.out).mono ?_); rintro e w_ ⟨rfl, hb⟩; refine ⟨_, rfl, ?_⟩; have n_ := jA2 (jbb BK277.out hb) (zab (bs1 GE277.out) hb); clear BK277 HB; obtain ⟨BK277, HB⟩ := n_; (try clear hb); (try clear hb2); (try clear hk); (try clear hi); obtain ⟨c0, c1, c2, c3, c4, z0, z1, z2, z3, z4⟩ := cz5 BK277.out) | (go_at_call 89; (with_reducible refine (spec_l1In.calls a0_3 0 100000 _ _ A33.out).mono ?_); rintro e w' ⟨rfl, ⟨nd, rfl⟩⟩))
 go_ret
 exact ⟨jex, (bs1 GE277.out)⟩) : P := h
theorem spec_LineOk.calls (k : Nat) (a0_0 : Int) (a0_1 : ByteArray) (a0_2 : Int) (a0_3 : Int) (A0_4 : Option Addr) (c0_4 : Nat) (l0_4 : List Int) (r : Bool) (w : World) (hr0_4 : Kd.C (Kd.int .u8) w A0_4 l0_4.length l0_4) (hc0_4 : l0_4.length ≤ c0_4) (h : spec_LineOk.f k a0_0 a0_1 a0_2 a0_3 l0_4 = some r) :
  Calls Try.prog 34 #[.agg #[.int .i64 a0_0, .string a0_1, .int .i64 a0_2, .int .i64 a0_3, .slice A0_4 l0_4.length c0_4]] w fun e w' => e = .returned (.bool r) ∧ Below w.heap.size w w' := by
 have hu48 := Try.underlying48
 have HR0_4 := Aside0.mk hr0_4
 have HC0_4 := Aside0.mk hc0_4
 clear hr0_4 hc0_4
 have HB := Aside0.mk (zbk w.heap.size w)
 have H : (if a0_0 = 1 then ((spec_l14Item.f a0_0 a0_1 a0_2 a0_3 l0_4).bind fun bt278 => ((spec_ItemOk.f k bt278.1 bt278.2.1 bt278.2.2.1 bt278.2.2.2).bind fun t284 => (some t284))) else (if a0_0 = 2 then ((spec_l13Route.f k a0_1).bind fun t285 => (if t285 = true then (if a0_2 = 0 then (if a0_3 = 0 then (some ((l0_4.length : Int) == 0)) else (some false)) else (some false)) else (some false))) else (if a0_0 = 3 then (if a0_1.toList = ([] : List UInt8) then (if a0_2 = 0 then ((spec_l1In.f a0_3 0 100000).bind fun t286 => (if t286 = true then (some ((l0_4.length : Int) == 0)) else (some false))) else (some false)) else (some false)) else (some false)))) = some r := h
 clear h
 by_cases c2 : a0_0 = 1
 ·rw [if_pos c2] at H
  have c2b0 := beqT c2
  have c2b1 := zau.mpr c2
  clear c2
  obtain ⟨⟨t278, t279, t280, t281⟩, A3, H⟩ := bnd H
  try dsimp only at H
  obtain ⟨t284, A4, H⟩ := bnd H
  obtain rfl := Option.some.inj H
  exact spec_LineOk.wk
 ·rw [if_neg c2] at H
  have c2b0 := zao.mpr c2
  have c2b1 := zcs.mpr c2
  by_cases c10 : a0_0 = 2
  ·rw [if_pos c10] at H
   have c10b0 := beqT c10
   have c10b1 := zau.mpr c10
   clear c10
   obtain ⟨t285, A11, H⟩ := bnd H
   by_cases c12 : t285 = true
   ·subst c12
    rw [if_pos rfl] at H
    by_cases c13 : a0_2 = 0
    ·rw [if_pos c13] at H
     have c13b0 := beqT c13
     have c13b1 := zau.mpr c13
     clear c13
     by_cases c14 : a0_3 = 0
     ·rw [if_pos c14] at H
      have c14b0 := beqT c14
      have c14b1 := zau.mpr c14
      clear c14
      obtain rfl := Option.some.inj H
      exact spec_LineOk.wk
     ·rw [if_neg c14] at H
      have c14b0 := zao.mpr c14
      have c14b1 := zcs.mpr c14
      obtain rfl := Option.some.inj H
      exact spec_LineOk.wk
    ·rw [if_neg c13] at H
     have c13b0 := zao.mpr c13
     have c13b1 := zcs.mpr c13
     obtain rfl := Option.some.inj H
     exact spec_LineOk.wk
   ·replace c12 := zbn.mpr c12
    subst c12
    rw [if_neg (show ¬ (false = true) by decide)] at H
    obtain rfl := Option.some.inj H
    exact spec_LineOk.wk
  ·rw [if_neg c10] at H
   have c10b0 := zao.mpr c10
   have c10b1 := zcs.mpr c10
   by_cases c30 : a0_0 = 3
   ·rw [if_pos c30] at H
    have c30b0 := beqT c30
    have c30b1 := zau.mpr c30
    clear c30
    by_cases c31 : a0_1.toList = ([] : List UInt8)
    ·rw [if_pos c31] at H
     have c31b0 := beqT c31
     have c31b1 := zau.mpr c31
     clear c31
     by_cases c32 : a0_2 = 0
     ·rw [if_pos c32] at H
      have c32b0 := beqT c32
      have c32b1 := zau.mpr c32
      clear c32
      obtain ⟨t286, A33, H⟩ := bnd H
      by_cases c34 : t286 = true
      ·subst c34
       rw [if_pos rfl] at H
       obtain rfl := Option.some.inj H
       exact spec_LineOk.wk
      ·replace c34 := zbn.mpr c34
       subst c34
       rw [if_neg (show ¬ (false = true) by decide)] at H
       obtain rfl := Option.some.inj H
       exact spec_LineOk.wk
     ·rw [if_neg c32] at H
      have c32b0 := zao.mpr c32
      have c32b1 := zcs.mpr c32
      obtain rfl := Option.some.inj H
      exact spec_LineOk.wk
    ·rw [if_neg c31] at H
     have c31b0 := zao.mpr c31
     have c31b1 := zcs.mpr c31
     obtain rfl := Option.some.inj H
     exact spec_LineOk.wk
   ·rw [if_neg c30] at H
    have c30b0 := zao.mpr c30
    have c30b1 := zcs.mpr c30
    obtain rfl := Option.some.inj H
    exact spec_LineOk.wk
end Go.Proofs.Ytlalkldjpniakaa.P
