import Derived.Test.Ytlalkldjpniakaaqm19
import Derived.ChangeArms
import Derived.Deep.Slices
import Derived.Lib.SmallJoins
import Derived.Test.Ytlalkldjpniakaaqm8
namespace Go.Proofs.Ytlalkldjpniakaa.P
open Go.RowKit Go.Proofs.YtlalkldjpniakaaW.PrintWords Go.Proofs.YtlalkldjpniakaaW.PrintLast Go.Proofs.YtlalkldjpniakaaW.PrintMore
attribute [local go_sem] zcm zcn zdd zde zbw zbx zco zcp   -- for this text's walks alone
set_option linter.unusedVariables false
set_option linter.unusedSimpArgs false

def impl_PostOk.j0 : Nat → Bool → List (S34) → Int → List Int → Int → Option (Bool)
 | 0, _, _, _, _, _ => none
 | k + 1, x30, x1347000, x1347001, x1347002, x1347003 => if x30 = true then (some false) else ((impl_Play.f k x1347002).bind fun bt1350 => (if bt1350.2.2 = (x1347002.length : Int) then (if bt1350.2.1 = x1347001 then ((impl_sameItems.f bt1350.1 x1347000).bind fun t1355 => (some t1355)) else (some false)) else (some false)))
def impl_PostOk.f (k : Nat) (l0_0 : List (S34)) (a0_1 : Int) (l0_2 : List Int) (a0_3 : Int) : Option (Bool) := (impl_QueueOk.f k l0_0).bind fun t1347 => (if t1347 = true then ((impl_in.f a0_1 0 100000).bind fun t1348 => (if t1348 = true then (if (l0_2.length : Int) > 12000 then (impl_PostOk.j0 k true l0_0 a0_1 l0_2 a0_3) else ((impl_in.f a0_3 0 (l0_2.length : Int)).bind fun t1349 => (impl_PostOk.j0 k (!t1349) l0_0 a0_1 l0_2 a0_3))) else (impl_PostOk.j0 k true l0_0 a0_1 l0_2 a0_3))) else (impl_PostOk.j0 k true l0_0 a0_1 l0_2 a0_3))
theorem impl_PostOk.mono_l : ∀ k, (∀ y0 y1 y2 y3 y4, LeO (impl_PostOk.j0 k y0 y1 y2 y3 y4) (impl_PostOk.j0 (k + 1) y0 y1 y2 y3 y4))
 | 0 => fun _ _ _ _ _ r h => by simp [impl_PostOk.j0] at h
 | k + 1 => by
  have ih0 := impl_PostOk.mono_l k
  ·intro y0 y1 y2 y3 y4
   unfold impl_PostOk.j0
   have m0 := @impl_Play.mono
   have m1 := @impl_QueueOk.mono
   exact mt
theorem impl_PostOk.mono : ∀ a0 a1 a2 a3 k, LeO (impl_PostOk.f k a0 a1 a2 a3) (impl_PostOk.f (k + 1) a0 a1 a2 a3) := by
 intro a0 a1 a2 a3 k
 have ih0 := impl_PostOk.mono_l k
 unfold impl_PostOk.f
 have m0 := @impl_Play.mono
 have m1 := @impl_QueueOk.mono
 exact mt
set_option maxHeartbeats 8000000 in
set_option maxRecDepth 100000 in
theorem impl_PostOk.calls (k : Nat) (A0_0 : Option Addr) (c0_0 : Nat) (l0_0 : List (S34)) (a0_1 : Int) (A0_2 : Option Addr) (c0_2 : Nat) (l0_2 : List Int) (a0_3 : Int) (r : Bool) (w : World) (hr0_0 : Kd.C k34 w A0_0 l0_0.length l0_0) (hc0_0 : l0_0.length ≤ c0_0) (hr0_2 : Kd.C (Kd.int .u8) w A0_2 l0_2.length l0_2) (hc0_2 : l0_2.length ≤ c0_2) (h : impl_PostOk.f k l0_0 a0_1 l0_2 a0_3 = some r) :
  Calls Try.prog 80 #[.agg #[.slice A0_0 l0_0.length c0_0, .int .i64 a0_1, .slice A0_2 l0_2.length c0_2, .int .i64 a0_3]] w fun e w' => e = .returned (.bool r) ∧ Below w.heap.size w w' := by
 have hu39 := Try.underlying39
 have HR0_0 := Aside0.mk hr0_0
 have HC0_0 := Aside0.mk hc0_0
 clear hr0_0 hc0_0
 have HR0_2 := Aside0.mk hr0_2
 have HC0_2 := Aside0.mk hc0_2
 clear hr0_2 hc0_2
 have HB := Aside0.mk (zbk w.heap.size w)
 have H : ((impl_QueueOk.f k l0_0).bind fun t1347 => (if t1347 = true then ((impl_in.f a0_1 0 100000).bind fun t1348 => (if t1348 = true then (if (l0_2.length : Int) > 12000 then (impl_PostOk.j0 k true l0_0 a0_1 l0_2 a0_3) else ((impl_in.f a0_3 0 (l0_2.length : Int)).bind fun t1349 => (impl_PostOk.j0 k (!t1349) l0_0 a0_1 l0_2 a0_3))) else (impl_PostOk.j0 k true l0_0 a0_1 l0_2 a0_3))) else (impl_PostOk.j0 k true l0_0 a0_1 l0_2 a0_3))) = some r := h
 clear h
 have HC2 := Aside0.mk H
 clear H
 go_enter Try.func80, Try.ntmps80
 go_upto_region 1 with (first | (refine jgd 1 ?_; (try (refine gate_guard (by rfl) ?_; dsimp only)); refine bx 1 (#[.slice A0_0 l0_0.length c0_0, .int .i64 a0_1, .slice A0_2 l0_2.length c0_2, .int .i64 a0_3]) 39 ?_; intro gb1346 hg w3 hbox hb; have xb_ := below_ofs bq hb; have n_ := jA4 (zab xb_ hb) (hbox) (ge0 hg xb_ : w.heap.size ≤ gb1346) (ge0 hg xb_ : w.heap.size ≤ gb1346); clear HB; obtain ⟨HB, BK1346, GW1346, GE1346⟩ := n_; clear xb_ hb hbox hg))
 (try simp only [Act.put, zal, zaw, zax])
 go_cut [30] (fun v30 wc => ∃ (kq : Nat) (x30_1 : Bool), v30 = .bool x30_1 ∧ Aside0 (impl_PostOk.j0 kq x30_1 l0_0 a0_1 l0_2 a0_3 = some r) ∧ Aside0 (kq ≤ k) ∧ Aside0 (wc.heap[gb1346]? = some (.cells #[(.slice A0_0 l0_0.length c0_0), .int .i64 a0_1, (.slice A0_2 l0_2.length c0_2), .int .i64 a0_3] 39 (0, 0))) ∧ Aside0 (Below w.heap.size w wc))
 case first =>
  have H := HC2.out
  clear HC2
  obtain ⟨t1347, A4, H⟩ := bnd H
  by_cases c5 : t1347 = true
  ·subst c5
   rw [if_pos rfl] at H
   obtain ⟨t1348, A6, H⟩ := bnd H
   by_cases c7 : t1348 = true
   ·subst c7
    rw [if_pos rfl] at H
    by_cases c8 : (l0_2.length : Int) > 12000
    ·rw [if_pos c8] at H
     have c8b0 := zae c8
     have c8b1 : decide (12000 < l0_2.length) = true := zae (by omega)
     clear c8
     (first | rw [c8b0] | (simp only [i64_w, i32_w]; rw [c8b0]) | skip)
     have H' := Aside0.mk H
     clear H
     obtain ⟨hcz9_0, hcz9_1, hcz9_2, hcz9_3, hfz9_0, hfz9_1, hfz9_2, hfz9_3⟩ := cz4 BK1346.out
     go_wp2_with (first | (refine jgc 43 ?_; refine jgs 8 Try.func43 #[.slice A0_0 l0_0.length c0_0] ?_; (with_reducible refine (impl_QueueOk.calls k _ _ l0_0 true _ ?side1 ?side2 A4.out).mono ?_); (case side1 => exact jcs HR0_0.out); (case side2 => exact HC0_0.out); rintro e w10 ⟨rfl, hb⟩; refine ⟨_, rfl, ?_⟩; have n_ := jA2 (jbb BK1346.out hb) (zab (bs1 GE1346.out) hb); clear BK1346 HB; obtain ⟨BK1346, HB⟩ := n_; (try clear hb); (try clear hb2); (try clear hk); (try clear hi); obtain ⟨hcz11_0, hcz11_1, hcz11_2, hcz11_3, hfz11_0, hfz11_1, hfz11_2, hfz11_3⟩ := cz4 BK1346.out) | (go_at_call 91; (with_reducible refine (impl_in.calls a0_1 0 100000 true _ A6.out).mono ?_); rintro e w' ⟨rfl, ⟨nd, rfl⟩⟩))
     go_meet
     case rel => exact ⟨_, (true), jer, H', ⟨by first | omega | exact zaf _⟩, ⟨pB BK1346.out⟩, ⟨bs1 GE1346.out⟩⟩
    ·rw [if_neg c8] at H
     have c8b0 := zas c8
     have c8b1 : decide (12000 < l0_2.length) = false := zas (by omega)
     clear c8
     (first | rw [c8b0] | (simp only [i64_w, i32_w]; rw [c8b0]) | skip)
     obtain ⟨t1349, A12, H⟩ := bnd H
     have H' := Aside0.mk H
     clear H
     obtain ⟨hcz13_0, hcz13_1, hcz13_2, hcz13_3, hfz13_0, hfz13_1, hfz13_2, hfz13_3⟩ := cz4 BK1346.out
     go_wp2_with (first | (refine jgc 43 ?_; refine jgs 8 Try.func43 #[.slice A0_0 l0_0.length c0_0] ?_; (with_reducible refine (impl_QueueOk.calls k _ _ l0_0 true _ ?side1 ?side2 A4.out).mono ?_); (case side1 => exact jcs HR0_0.out); (case side2 => exact HC0_0.out); rintro e w14 ⟨rfl, hb⟩; refine ⟨_, rfl, ?_⟩; have n_ := jA2 (jbb BK1346.out hb) (zab (bs1 GE1346.out) hb); clear BK1346 HB; obtain ⟨BK1346, HB⟩ := n_; (try clear hb); (try clear hb2); (try clear hk); (try clear hi); obtain ⟨hcz15_0, hcz15_1, hcz15_2, hcz15_3, hfz15_0, hfz15_1, hfz15_2, hfz15_3⟩ := cz4 BK1346.out) | (go_at_call 91; (with_reducible refine (impl_in.calls a0_1 0 100000 true _ A6.out).mono ?_); rintro e w' ⟨rfl, ⟨nd, rfl⟩⟩) | (go_at_call 91; (with_reducible refine (impl_in.calls a0_3 0 (l0_2.length : Int) t1349 _ A12.out).mono ?_); rintro e w' ⟨rfl, ⟨nd, rfl⟩⟩))
     go_meet
     case rel => exact ⟨_, (!t1349), jer, H', ⟨by first | omega | exact zaf _⟩, ⟨pB BK1346.out⟩, ⟨bs1 GE1346.out⟩⟩
   ·replace c7 := zbn.mpr c7
    subst c7
    rw [if_neg (show ¬ (false = true) by decide)] at H
    have H' := Aside0.mk H
    clear H
    obtain ⟨hcz16_0, hcz16_1, hcz16_2, hcz16_3, hfz16_0, hfz16_1, hfz16_2, hfz16_3⟩ := cz4 BK1346.out
    go_wp2_with (first | (refine jgc 43 ?_; refine jgs 8 Try.func43 #[.slice A0_0 l0_0.length c0_0] ?_; (with_reducible refine (impl_QueueOk.calls k _ _ l0_0 true _ ?side1 ?side2 A4.out).mono ?_); (case side1 => exact jcs HR0_0.out); (case side2 => exact HC0_0.out); rintro e w17 ⟨rfl, hb⟩; refine ⟨_, rfl, ?_⟩; have n_ := jA2 (jbb BK1346.out hb) (zab (bs1 GE1346.out) hb); clear BK1346 HB; obtain ⟨BK1346, HB⟩ := n_; (try clear hb); (try clear hb2); (try clear hk); (try clear hi); obtain ⟨hcz18_0, hcz18_1, hcz18_2, hcz18_3, hfz18_0, hfz18_1, hfz18_2, hfz18_3⟩ := cz4 BK1346.out) | (go_at_call 91; (with_reducible refine (impl_in.calls a0_1 0 100000 false _ A6.out).mono ?_); rintro e w' ⟨rfl, ⟨nd, rfl⟩⟩))
    go_meet
    case rel => exact ⟨_, (true), jer, H', ⟨by first | omega | exact zaf _⟩, ⟨pB BK1346.out⟩, ⟨bs1 GE1346.out⟩⟩
  ·replace c5 := zbn.mpr c5
   subst c5
   rw [if_neg (show ¬ (false = true) by decide)] at H
   have H' := Aside0.mk H
   clear H
   obtain ⟨hcz19_0, hcz19_1, hcz19_2, hcz19_3, hfz19_0, hfz19_1, hfz19_2, hfz19_3⟩ := cz4 BK1346.out
   go_wp2_with (first | (refine jgc 43 ?_; refine jgs 8 Try.func43 #[.slice A0_0 l0_0.length c0_0] ?_; (with_reducible refine (impl_QueueOk.calls k _ _ l0_0 false _ ?side1 ?side2 A4.out).mono ?_); (case side1 => exact jcs HR0_0.out); (case side2 => exact HC0_0.out); rintro e w20 ⟨rfl, hb⟩; refine ⟨_, rfl, ?_⟩; have n_ := jA2 (jbb BK1346.out hb) (zab (bs1 GE1346.out) hb); clear BK1346 HB; obtain ⟨BK1346, HB⟩ := n_; (try clear hb); (try clear hb2); (try clear hk); (try clear hi)))
   go_meet
   case rel => exact ⟨_, (true), jer, H', ⟨by first | omega | exact zaf _⟩, ⟨pB BK1346.out⟩, ⟨bs1 GE1346.out⟩⟩
 case rest =>
  clear HC2
  try clear p2
  try clear c4
  try clear c5
  try clear c7
  try clear c8
  try clear c8b0
  try clear c8b1
  try clear hcz11_0
  try clear hcz11_1
  try clear hcz11_2
  try clear hcz11_3
  try clear hcz13_0
  try clear hcz13_1
  try clear hcz13_2
  try clear hcz13_3
  try clear hcz15_0
  try clear hcz15_1
  try clear hcz15_2
  try clear hcz15_3
  try clear hcz16_0
  try clear hcz16_1
  try clear hcz16_2
  try clear hcz16_3
  try clear hcz18_0
  try clear hcz18_1
  try clear hcz18_2
  try clear hcz18_3
  try clear hcz19_0
  try clear hcz19_1
  try clear hcz19_2
  try clear hcz19_3
  try clear hcz9_0
  try clear hcz9_1
  try clear hcz9_2
  try clear hcz9_3
  try clear hfz11_0
  try clear hfz11_1
  try clear hfz11_2
  try clear hfz11_3
  try clear hfz13_0
  try clear hfz13_1
  try clear hfz13_2
  try clear hfz13_3
  try clear hfz15_0
  try clear hfz15_1
  try clear hfz15_2
  try clear hfz15_3
  try clear hfz16_0
  try clear hfz16_1
  try clear hfz16_2
  try clear hfz16_3
  try clear hfz18_0
  try clear hfz18_1
  try clear hfz18_2
  try clear hfz18_3
  try clear hfz19_0
  try clear hfz19_1
  try clear hfz19_2
  try clear hfz19_3
  try clear hfz9_0
  try clear hfz9_1
  try clear hfz9_2
  try clear hfz9_3
  obtain ⟨kq, x30_1, rfl, HA, HJ1, BK1346, HB⟩ := hcut
  cases kq with
  | zero => exact absurd HA.out (by simp [impl_PostOk.j0])
  | succ kj1 =>
   have H := HA.out
   clear HA
   simp only [impl_PostOk.j0] at H
   by_cases c21 : x30_1 = true
   ·subst c21
    rw [if_pos rfl] at H
    obtain rfl := Option.some.inj H
    go_wp2
    go_ret
    exact ⟨jex, (bs1 GE1346.out)⟩
   ·replace c21 := zbn.mpr c21
    subst c21
    rw [if_neg (show ¬ (false = true) by decide)] at H
    obtain ⟨⟨t1350, t1351, t1352⟩, A22, H⟩ := bnd H
    try dsimp only at H
    by_cases c23 : t1352 = (l0_2.length : Int)
    ·rw [if_pos c23] at H
     have c23b0 := beqT c23
     have c23b1 := zau.mpr c23
     clear c23
     by_cases c24 : t1351 = a0_1
     ·rw [if_pos c24] at H
      have c24b0 := beqT c24
      have c24b1 := zau.mpr c24
      clear c24
      obtain ⟨t1355, A25, H⟩ := bnd H
      obtain rfl := Option.some.inj H
      obtain ⟨hcz26_0, hcz26_1, hcz26_2, hcz26_3, hfz26_0, hfz26_1, hfz26_2, hfz26_3⟩ := cz4 BK1346.out
      go_wp2_with (first | (refine jgc 70 ?_; refine jgs 34 Try.func70 #[.slice A0_2 l0_2.length c0_2] ?_; (with_reducible refine (impl_Play.calls kj1 _ _ l0_2 t1350 t1351 t1352 _ ?side1 ?side2 A22.out).mono ?_); (case side1 => exact jcs HR0_2.out); (case side2 => exact HC0_2.out); rintro e w27 ⟨v1353, rfl, ho0, hb⟩; refine ⟨_, rfl, ?_⟩; have n_ := jA3 (zeg ho0 (zak (bs1 GE1346.out))) (jbb BK1346.out hb) (zab (bs1 GE1346.out) hb); clear BK1346 HB; obtain ⟨HO1354, BK1346, HB⟩ := n_; clear hb ho0; obtain ⟨hcz28_0, hcz28_1, hcz28_2, hcz28_3, hfz28_0, hfz28_1, hfz28_2, hfz28_3⟩ := cz4 BK1346.out; obtain ⟨Ao29, co29, eo29⟩ := Kd.S_slice HO1354.out; subst eo29) | (go_at_call 129; (with_reducible refine (impl_sameItems.calls _ _ t1350 _ _ l0_0 t1355 _ ?side1 ?side2 ?side3 ?side4 A25.out).mono ?_); (case side1 => repeat (first | exact (zdt HO1354.out).2.2 | (with_reducible first | apply zcv | apply zdi | apply zdu))); (case side2 => exact (zdt HO1354.out).2.1); (case side3 => exact jcs HR0_0.out); (case side4 => exact HC0_0.out); rintro e w30 ⟨rfl, hb⟩; have n_ := jA3 (zdy (pS HO1354.out) hb) (jbb BK1346.out hb) (zab (bs1 GE1346.out) hb); clear HO1354 BK1346 HB; obtain ⟨HO1354, BK1346, HB⟩ := n_; (try clear hb); (try clear hb2); (try clear hk); (try clear hi)))
      go_ret
      exact ⟨jex, (bs1 GE1346.out)⟩
     ·rw [if_neg c24] at H
      have c24b0 := zao.mpr c24
      have c24b1 := zcs.mpr c24
      obtain rfl := Option.some.inj H
      obtain ⟨hcz31_0, hcz31_1, hcz31_2, hcz31_3, hfz31_0, hfz31_1, hfz31_2, hfz31_3⟩ := cz4 BK1346.out
      go_wp2_with (first | (refine jgc 70 ?_; refine jgs 34 Try.func70 #[.slice A0_2 l0_2.length c0_2] ?_; (with_reducible refine (impl_Play.calls kj1 _ _ l0_2 t1350 t1351 t1352 _ ?side1 ?side2 A22.out).mono ?_); (case side1 => exact jcs HR0_2.out); (case side2 => exact HC0_2.out); rintro e w32 ⟨v1353, rfl, ho0, hb⟩; refine ⟨_, rfl, ?_⟩; have n_ := jA3 (zeg ho0 (zak (bs1 GE1346.out))) (jbb BK1346.out hb) (zab (bs1 GE1346.out) hb); clear BK1346 HB; obtain ⟨HO1354, BK1346, HB⟩ := n_; clear hb ho0; obtain ⟨hcz33_0, hcz33_1, hcz33_2, hcz33_3, hfz33_0, hfz33_1, hfz33_2, hfz33_3⟩ := cz4 BK1346.out))
      go_ret
      exact ⟨jex, (bs1 GE1346.out)⟩
    ·rw [if_neg c23] at H
     have c23b0 := zao.mpr c23
     have c23b1 := zcs.mpr c23
     obtain rfl := Option.some.inj H
     obtain ⟨hcz34_0, hcz34_1, hcz34_2, hcz34_3, hfz34_0, hfz34_1, hfz34_2, hfz34_3⟩ := cz4 BK1346.out
     go_wp2_with (first | (refine jgc 70 ?_; refine jgs 34 Try.func70 #[.slice A0_2 l0_2.length c0_2] ?_; (with_reducible refine (impl_Play.calls kj1 _ _ l0_2 t1350 t1351 t1352 _ ?side1 ?side2 A22.out).mono ?_); (case side1 => exact jcs HR0_2.out); (case side2 => exact HC0_2.out); rintro e w35 ⟨v1353, rfl, ho0, hb⟩; refine ⟨_, rfl, ?_⟩; have n_ := jA3 (zeg ho0 (zak (bs1 GE1346.out))) (jbb BK1346.out hb) (zab (bs1 GE1346.out) hb); clear BK1346 HB; obtain ⟨HO1354, BK1346, HB⟩ := n_; clear hb ho0; obtain ⟨hcz36_0, hcz36_1, hcz36_2, hcz36_3, hfz36_0, hfz36_1, hfz36_2, hfz36_3⟩ := cz4 BK1346.out))
     go_ret
     exact ⟨jex, (bs1 GE1346.out)⟩
end Go.Proofs.Ytlalkldjpniakaa.P
/- How what comes in (whole numbers, texts, lists and records of these, in whatever memory) reads as plain values: for the rows of laws; no condition. -/
namespace Go.Proofs.YtlalkldjpniakaaW.PrintWords
open Go.RowKit Go.Joins
/-- Whatever reads as data of type t is a value of the kind d, and a good one. -/
def Opens {α : Type} (P : Program) (W : World) (t : TypeId) (d : Kd α) (good : α → Prop) : Prop :=
  ∀ (H : Type) (enc : TypeId × Value → H) (base : Nat) (spare : Nat → Bool) (held : Bool) (fuel : Nat) (cs : List Value) (x : DataW H × List MemPlace),
    DataW.trod enc P W base spare held fuel t cs = some x → ∃ y, d.K W y cs ∧ good y
section
variable {P : Program} {W : World} {t : TypeId}
theorem opens_int {k : IntKind} (ht : P.underlying t = some (.int k)) : Opens P W t (Kd.int k) (fun x => (Lit.int k x).wf = true) := by
  intro H enc base spare held fuel cs x h
  obtain ⟨n, rfl, _, hw⟩ := DataW.trod_int ht h
  exact ⟨n, rfl, hw⟩
theorem opens_string (ht : P.underlying t = some .string) : Opens P W t Kd.string (fun s => s.size ≤ maxLen) := by
  intro H enc base spare held fuel cs x h
  obtain ⟨s, rfl, _, hw⟩ := DataW.trod_string ht h
  exact ⟨s, rfl, hw⟩
theorem list_of {α : Type} {p : Nat → α → Prop} : ∀ n : Nat, (∀ i, i < n → ∃ y, p i y) → ∃ ys : List α, ys.length = n ∧ ∀ i y, ys[i]? = some y → p i y
  | 0, _ => ⟨[], rfl, fun i y h => by simp at h⟩
  | n + 1, h => by
    obtain ⟨ys, hl, hy⟩ := list_of n (fun i hi => h i (by omega))
    obtain ⟨z, hz⟩ := h n (by omega)
    refine ⟨ys ++ [z], by simp [hl], fun i y hi => ?_⟩
    by_cases hlt : i < ys.length
    · rw [List.getElem?_append_left hlt] at hi
      exact hy i y hi
    · rw [List.getElem?_append_right (by omega)] at hi
      have h0 : i - ys.length = 0 := by
        rcases Nat.eq_zero_or_pos (i - ys.length) with h0 | h0
        · exact h0
        · rw [List.getElem?_eq_none (by simp; omega)] at hi
          cases hi
      rw [h0] at hi
      have hin : i = n := by omega
      rw [hin]
      simp at hi
      rw [← hi]
      exact hz
theorem opens_slice {α : Type} {d : Kd α} {good : α → Prop} {e : TypeId} (e1 : Nat) (ht : P.underlying t = some (.slice e)) (hc : P.cellsOf e = d.sz) (hd : Opens P W e d good) :
    Opens P W t (Kd.slice e1 d) (fun xs => xs.length ≤ maxLen ∧ ∀ x ∈ xs, good x) := by
  intro H enc base spare held fuel cs x h
  rcases Deep.open_slice ht h with ⟨rfl, _⟩ | ⟨a, len, cap, m, n, D, Pl, rfl, _, hl, hm, hmm, _, hel⟩
  · exact ⟨[], ⟨none, 0, rfl, Nat.le_refl _, rfl, Nat.zero_le _, fun h => absurd h (by simp)⟩, Nat.zero_le _, fun x hx => by simp at hx⟩
  · have hlm : len ≤ m := by rw [hmm]; split <;> omega
    obtain ⟨ys, hyl, hy⟩ := list_of (p := fun i y => good y ∧ ∃ c, c.length = d.sz ∧ d.K W y c ∧ ∀ j u, c[j]? = some u → W.cell? (a.add (i * d.sz + j)) = some u) len (fun i hi => by
      obtain ⟨cs1, h1, h2⟩ := hel i (by omega)
      obtain ⟨y, hK, hg⟩ := hd H enc base spare held n cs1 _ h2
      obtain ⟨hb1, hlen, hcell⟩ := World.cells?_some h1
      refine ⟨y, hg, cs1, by rw [hlen, hc], hK, fun j u hu => ?_⟩
      have hj : j < cs1.length := (List.getElem?_eq_some_iff.1 hu).1
      have h3 := hcell j (by omega)
      rw [hc, Addr.add_add] at h3
      rw [h3, hu])
    refine ⟨ys, ⟨some a, cap, by rw [hyl], by rw [hyl]; exact hl, rfl, ?_, fun _ => ⟨a, rfl, fun j p hp => (hy j p hp).2⟩⟩, ?_, fun x hx => ?_⟩
    · have := hm; unfold maxLen at this; omega
    · have := hm; omega
    · obtain ⟨i, hi, rfl⟩ := List.mem_iff_getElem.1 hx
      exact (hy i _ (List.getElem?_eq_getElem hi)).1
/-- A record's cells, one by one, where each field has one cell. -/
theorem opens_fields {fs : Array Field} {H : Type} {enc : TypeId × Value → H} {base : Nat} {spare : Nat → Bool} {held : Bool} {fuel : Nat} {cs : List Value} {x : DataW H × List MemPlace}
    (ht : P.underlying t = some (.struct fs)) (hn : P.cellsOf t = fs.size) (hone : ∀ (i : Nat) (f : Field), fs[i]? = some f → f.offset = i ∧ P.cellsOf f.type = 1) (h : DataW.trod enc P W base spare held fuel t cs = some x) :
    cs.length = fs.size ∧ ∃ n, ∀ (i : Nat) (f : Field), fs[i]? = some f → ∃ u y, cs[i]? = some u ∧ DataW.trod enc P W base spare held n f.type [u] = some y := by
  obtain ⟨xs, n, _, _, hl, hlen, hf⟩ := DataW.trod_struct ht h
  have hcl : cs.length = fs.size := by rw [hl, hn]
  refine ⟨hcl, n, fun i f hi => ?_⟩
  have hlt : i < fs.size := (Array.getElem?_eq_some_iff.1 hi).1
  obtain ⟨h1, h2⟩ := hone i f hi
  have h3 := hf i f hi
  rw [h1, h2, List.drop_eq_getElem_cons (show i < cs.length by omega), List.take_succ_cons, List.take_zero, List.getElem?_eq_getElem (show i < xs.length by omega)] at h3
  exact ⟨cs[i], _, List.getElem?_eq_getElem (by omega), h3⟩
end
end Go.Proofs.YtlalkldjpniakaaW.PrintWords
/- Plain lemmas on lists and on numbers that do not wrap, used by all pure statements of this seat; no condition but those each lemma names. -/
namespace Go.Proofs.Ytlalkldjpniakaa.B
open Go.RowKit Go.Proofs.YtlalkldjpniakaaW.PrintWords Go.Proofs.YtlalkldjpniakaaW.PrintLast Go.Proofs.YtlalkldjpniakaaW.PrintMore

theorem wrap_eq (x : Int) (h0 : -9223372036854775808 ≤ x) (h1 : x ≤ 9223372036854775807) : wrap64 x = x := by
  unfold wrap64; omega
theorem rd_mid (pre : List Int) (a : Int) (rest : List Int) : rd (pre ++ a :: rest) (pre.length : Int) = a := by
  unfold rd; simp [List.getD_eq_getElem?_getD]
theorem set_mid (pre : List Int) (a b : Int) (rest : List Int) : (pre ++ b :: rest).set ((pre.length : Int).toNat) a = pre ++ a :: rest := by
  simp
theorem lt_mid {α : Type} (pre : List α) (a : α) (rest : List α) : (pre.length : Int) < (((pre ++ a :: rest).length : Nat) : Int) := by
  simp; omega
theorem nlt_end {α : Type} (pre : List α) : ¬ ((pre.length : Int) < (((pre ++ []).length : Nat) : Int)) := by
  simp
theorem wrap_step {α : Type} (pre : List α) (a : α) (h : pre.length ≤ 4611686018427387904) : wrap64 ((pre.length : Int) + 1) = (((pre ++ [a]).length : Nat) : Int) := by
  rw [wrap_eq _ (by omega) (by omega)]; simp
theorem snoc_app {α : Type} (pre : List α) (a : α) (rest : List α) : pre ++ a :: rest = (pre ++ [a]) ++ rest := by simp
theorem pre_nonneg {α : Type} (pre : List α) : 0 ≤ (pre.length : Int) := by omega

theorem rd_mid2 (pa pb : List Int) (a : Int) (rest : List Int) (h : pa.length = pb.length) : rd (pb ++ a :: rest) (pa.length : Int) = a := by
  rw [h]; exact rd_mid pb a rest
theorem lt_mid2 {α : Type} (pa pb : List α) (a : α) (rest : List α) (h : pa.length = pb.length) : (pa.length : Int) < (((pb ++ a :: rest).length : Nat) : Int) := by
  rw [h]; exact lt_mid pb a rest
theorem nlt_end2 {α : Type} (pa pb : List α) (h : pa.length = pb.length) : ¬ ((pa.length : Int) < (((pb ++ []).length : Nat) : Int)) := by
  rw [h]; exact nlt_end pb
/-- n numbers m, m + 1, .. as bytes. -/
def marks : Nat → Int → List Int
  | 0, _ => []
  | n + 1, m => m % 256 :: marks n (m + 1)
theorem marks_length : ∀ (n : Nat) (m : Int), (marks n m).length = n
  | 0, _ => rfl
  | n + 1, m => by simp [marks, marks_length n]
theorem marks_snoc : ∀ (n : Nat) (m : Int), marks n m ++ [(m + n) % 256] = marks (n + 1) m
  | 0, m => by simp [marks]
  | n + 1, m => by
    have h := marks_snoc n (m + 1)
    rw [show m + 1 + (n : Int) = m + ((n + 1 : Nat) : Int) from by omega] at h
    rw [marks, marks, List.cons_append, h]
/-- n numbers m, m + 1, .. -/
def counts : Nat → Int → List Int
  | 0, _ => []
  | n + 1, m => m :: counts n (m + 1)
theorem counts_length : ∀ (n : Nat) (m : Int), (counts n m).length = n
  | 0, _ => rfl
  | n + 1, m => by simp [counts, counts_length n]
theorem counts_snoc : ∀ (n : Nat) (m : Int), counts n m ++ [m + n] = counts (n + 1) m
  | 0, m => by simp [counts]
  | n + 1, m => by
    have h := counts_snoc n (m + 1)
    rw [show m + 1 + (n : Int) = m + ((n + 1 : Nat) : Int) from by omega] at h
    rw [counts, counts, List.cons_append, h]
end Go.Proofs.Ytlalkldjpniakaa.B
/- Unhex, by the program and by the reference; for texts of at most 2^40 bytes. -/
namespace Go.Proofs.Ytlalkldjpniakaa.B
open Go.RowKit Go.Proofs.Ytlalkldjpniakaa.P Go.Proofs.YtlalkldjpniakaaW.PrintWords Go.Proofs.YtlalkldjpniakaaW.PrintLast Go.Proofs.YtlalkldjpniakaaW.PrintMore
def sgn (c : Int) : Int := if 48 ≤ c ∧ c ≤ 57 then c - 48 else if 97 ≤ c ∧ c ≤ 102 then c - 87 else -1
theorem sgn_range (c : Int) : -1 ≤ sgn c ∧ sgn c < 16 := by
  unfold sgn
  split
  · omega
  · split <;> omega
theorem bt_rng (s : ByteArray) (i : Int) : 0 ≤ bt s i ∧ bt s i < 256 := by
  unfold bt; split
  · have := (s[i.toNat]'(by assumption)).toNat_lt; omega
  · omega
theorem specSign (c : Int) (h0 : 0 ≤ c) (h1 : c < 256) (k : Nat) : spec_l1Sign.f (k + 1) c = some (sgn c) := by
  have e0 : wrap64 c = c := wrap_eq _ (by omega) (by omega)
  unfold spec_l1Sign.f sgn
  simp only [spec_l1Sign.j0, e0, decide_eq_true_eq]
  repeat' split
  all_goals first | rfl | contradiction | (exfalso; omega) | (rw [wrap_eq _ (by omega) (by omega)])
theorem implSign256 : ∀ n : Fin 256, Lib.indexByte [48, 49, 50, 51, 52, 53, 54, 55, 56, 57, 97, 98, 99, 100, 101, 102] n.val.toUInt8 = sgn (n.val : Int) := by
  decide +kernel
theorem implSign (c : Int) (h0 : 0 ≤ c) (h1 : c < 256) : strings_IndexByte.f (⟨#[48, 49, 50, 51, 52, 53, 54, 55, 56, 57, 97, 98, 99, 100, 101, 102]⟩ : ByteArray) c = some (sgn c) := by
  have h := implSign256 ⟨c.toNat, by omega⟩
  simp only [strings_IndexByte.f, stringslite_IndexByte.f, Option.bind_some]
  rw [show ((c.toNat : Nat) : Int) = c from by omega] at h
  exact congrArg some h
theorem two16 : ∀ a b : Fin 16, (wrap64 ((wrap64 (16 * (a.val : Int))) + (b.val : Int))) % 256 = (Go.bits .or .i64 (wrap64 ((a.val : Int) * 16)) (b.val : Int)) % 256 := by
  decide +kernel
theorem two (a b : Int) (ha : 0 ≤ a ∧ a < 16) (hb : 0 ≤ b ∧ b < 16) : (Go.bits .or .i64 (wrap64 (a * 16)) b) % 256 = (wrap64 ((wrap64 (16 * a)) + b)) % 256 := by
  have h := two16 ⟨a.toNat, by omega⟩ ⟨b.toNat, by omega⟩
  simp only [] at h
  rw [show ((a.toNat : Nat) : Int) = a from by omega, show ((b.toNat : Nat) : Int) = b from by omega] at h
  exact h.symm
theorem unhex_l0 (s : ByteArray) (hs : s.size ≤ 1099511627776) : ∀ (n i : Nat) (acc : List Int), s.size - i ≤ n → i ≤ s.size → i % 2 = 0 → acc.length + (s.size - i) ≤ 4398046511104 →
    ∃ r : List Int × Bool, r.1.length ≤ acc.length + (s.size - i) ∧ (s.size % 2 = 1 → r = ([], false)) ∧ (∀ k, n + 2 < k → spec_Unhex.l0 k s acc (i : Int) = some r) ∧ (∀ k, n + 2 < k → s.size % 2 = 0 → impl_Unhex.l0 k s acc (i : Int) = some r) ∧ (r.2 = true → 2 * r.1.length = 2 * acc.length + (s.size - i))
  | 0, i, acc, hn, hi, h2, hc => by
    have he : i = s.size := by omega
    subst he
    refine ⟨(acc, true), by simp, fun h => by omega, fun k hk => ?_, fun k hk _ => ?_, fun _ => by simp⟩
    · obtain ⟨k, rfl⟩ : ∃ m, k = m + 1 := ⟨k - 1, by omega⟩
      simp only [spec_Unhex.l0]; rw [wrap_eq _ (by omega) (by omega), if_neg (by omega), if_pos (by omega)]
    · obtain ⟨k, rfl⟩ : ∃ m, k = m + 1 := ⟨k - 1, by omega⟩
      simp only [impl_Unhex.l0]; rw [if_neg (by omega)]
  | n + 1, i, acc, hn, hi, h2, hc => by
    by_cases hd : i + 1 < s.size
    · have e1 : wrap64 ((i : Int) + 1) = i + 1 := wrap_eq _ (by omega) (by omega)
      have e2 : wrap64 ((i : Int) + 2) = ((i + 2 : Nat) : Int) := by rw [wrap_eq _ (by omega) (by omega)]; rfl
      obtain ⟨a0, a1⟩ := bt_rng s i
      obtain ⟨b0, b1⟩ := bt_rng s ((i : Int) + 1)
      obtain ⟨sa0, sa1⟩ := sgn_range (bt s i)
      obtain ⟨sb0, sb1⟩ := sgn_range (bt s ((i : Int) + 1))
      by_cases bad : sgn (bt s i) < 0 ∨ sgn (bt s ((i : Int) + 1)) < 0
      · refine ⟨([], false), by simp, fun _ => rfl, fun k hk => ?_, fun k hk _ => ?_, fun h => by cases h⟩
        · obtain ⟨k, rfl⟩ : ∃ m, k = m + 2 := ⟨k - 2, by omega⟩
          simp only [spec_Unhex.l0, e1, specSign _ a0 a1, specSign _ b0 b1, Option.bind_some]
          rw [if_pos (by omega), if_pos (by omega), if_pos (by omega), if_pos (by omega)]
          by_cases hx : sgn (bt s i) < 0
          · rw [if_pos hx]
          · rw [if_neg hx, if_pos (by omega)]
        · obtain ⟨k, rfl⟩ : ∃ m, k = m + 1 := ⟨k - 1, by omega⟩
          simp only [impl_Unhex.l0, e1, implSign _ a0 a1, implSign _ b0 b1, Option.bind_some]
          rw [if_pos (by omega), if_pos (by omega), if_pos (by omega), if_pos (by omega)]
          by_cases hx : sgn (bt s i) < 0
          · rw [if_pos hx]
          · rw [if_neg hx, if_pos (by omega)]
      · obtain ⟨r, hr0, hr1, hr2, hr3, hr4⟩ := unhex_l0 s hs n (i + 2) (acc ++ [(wrap64 ((wrap64 (16 * sgn (bt s i))) + sgn (bt s ((i : Int) + 1)))) % 256]) (by omega) (by omega) (by omega) (by simp; omega)
        refine ⟨r, by simp at hr0; omega, hr1, fun k hk => ?_, fun k hk h => ?_, fun h => by have h4 := hr4 h; rw [List.length_append, List.length_singleton] at h4; omega⟩
        · obtain ⟨k, rfl⟩ : ∃ m, k = m + 2 := ⟨k - 2, by omega⟩
          simp only [spec_Unhex.l0.eq_2, e1, e2, specSign _ a0 a1, specSign _ b0 b1, Option.bind_some]
          rw [if_pos (by omega), if_pos (by omega), if_pos (by omega), if_pos (by omega), if_neg (by omega), if_neg (by omega), if_pos (by omega)]
          exact hr2 (k + 1) (by omega)
        · obtain ⟨k, rfl⟩ : ∃ m, k = m + 1 := ⟨k - 1, by omega⟩
          simp only [impl_Unhex.l0, e1, e2, implSign _ a0 a1, implSign _ b0 b1, Option.bind_some]
          rw [if_pos (by omega), if_pos (by omega), if_pos (by omega), if_pos (by omega), if_neg (by omega), if_neg (by omega), if_pos (by omega), two _ _ (by omega) (by omega)]
          exact hr3 k (by omega) h
    · by_cases ho : i = s.size
      · subst ho
        refine ⟨(acc, true), by simp, fun h => by omega, fun k hk => ?_, fun k hk _ => ?_, fun _ => by simp⟩
        · obtain ⟨k, rfl⟩ : ∃ m, k = m + 1 := ⟨k - 1, by omega⟩
          simp only [spec_Unhex.l0]; rw [wrap_eq _ (by omega) (by omega), if_neg (by omega), if_pos (by omega)]
        · obtain ⟨k, rfl⟩ : ∃ m, k = m + 1 := ⟨k - 1, by omega⟩
          simp only [impl_Unhex.l0]; rw [if_neg (by omega)]
      · refine ⟨([], false), by simp, fun _ => rfl, fun k hk => ?_, fun k hk h => by omega, fun h => by cases h⟩
        obtain ⟨k, rfl⟩ : ∃ m, k = m + 1 := ⟨k - 1, by omega⟩
        simp only [spec_Unhex.l0]; rw [wrap_eq _ (by omega) (by omega), if_neg (by omega), if_neg (by omega)]
theorem unhex (s : ByteArray) (hs : s.size ≤ 1099511627776) : ∃ r : List Int × Bool, r.1.length ≤ s.size ∧ (r.2 = true → 2 * r.1.length = s.size) ∧ ∀ k, s.size + 3 < k → spec_Unhex.f k s = some r ∧ impl_Unhex.f k s = some r := by
  obtain ⟨r, h0, h1, h2, h3, h4⟩ := unhex_l0 s hs s.size 0 [] (by omega) (by omega) rfl (by simp; omega)
  refine ⟨r, by simpa using h0, fun h => by simpa using h4 h, fun k hk => ⟨h2 k (by omega), ?_⟩⟩
  unfold impl_Unhex.f
  by_cases he : s.size % 2 = 0
  · rw [if_pos (by omega)]; exact h3 k (by omega) he
  · rw [if_neg (by omega), h1 (by omega)]
end Go.Proofs.Ytlalkldjpniakaa.B
/- 'from lo to hi', by the program and by the reference; for every three numbers. -/
namespace Go.Proofs.Ytlalkldjpniakaa.B
open Go.RowKit Go.Proofs.Ytlalkldjpniakaa.P Go.Proofs.YtlalkldjpniakaaW.PrintWords Go.Proofs.YtlalkldjpniakaaW.PrintLast Go.Proofs.YtlalkldjpniakaaW.PrintMore
theorem specIn (a b c : Int) : spec_l1In.f a b c = some (decide (b ≤ a ∧ a ≤ c)) := by
  unfold spec_l1In.f
  by_cases h : a ≥ b
  · rw [if_pos h]; simp [show b ≤ a from h]
  · rw [if_neg h]; simp [show ¬ b ≤ a from h]
theorem implIn (a b c : Int) : impl_in.f a b c = some (decide (b ≤ a ∧ a ≤ c)) := specIn a b c
end Go.Proofs.Ytlalkldjpniakaa.B
/- ItemOk, by the program and by the reference: one answer; for every item. -/
namespace Go.Proofs.Ytlalkldjpniakaa.B
open Go.RowKit Go.Proofs.Ytlalkldjpniakaa.P Go.Proofs.YtlalkldjpniakaaW.PrintWords Go.Proofs.YtlalkldjpniakaaW.PrintLast Go.Proofs.YtlalkldjpniakaaW.PrintMore
theorem route (s : ByteArray) (hs : s.size ≤ 1099511627776) : ∃ b : Bool, ∀ k, s.size + 3 < k → spec_l13Route.f k s = some b ∧ impl_isRoute.f k s = some b := by
  obtain ⟨r, h1, h2, h3⟩ := unhex s hs
  refine ⟨if r.2 = true then ((s.size : Int) == 16) else false, fun k hk => ⟨?_, ?_⟩⟩
  · unfold spec_l13Route.f
    rw [(h3 k hk).1, Option.bind_some]
    by_cases c : r.2 = true
    · have h := h2 c
      rw [if_pos c, if_pos c]
      congr 1
      rw [Bool.eq_iff_iff, beq_iff_eq, beq_iff_eq]
      omega
    · rw [if_neg c, if_neg c]
  · unfold impl_isRoute.f
    rw [(h3 k hk).2, Option.bind_some]
    by_cases c : r.2 = true
    · rw [if_pos c, if_pos c]
    · rw [if_neg c, if_neg c]
theorem itemOk (s : ByteArray) (n m : Int) (l : List Int) (hs : s.size ≤ 1099511627776) : ∃ b : Bool, ∀ k, s.size + 3 < k → spec_ItemOk.f k s n m l = some b ∧ impl_ItemOk.f k s n m l = some b := by
  obtain ⟨b, hb⟩ := route s hs
  refine ⟨if b = true then (if decide (0 ≤ n ∧ n ≤ 9) = true then (if decide (0 ≤ m ∧ m ≤ 100000) = true then decide ((l.length : Int) ≤ 1560) else false) else false) else false, fun k hk => ⟨?_, ?_⟩⟩
  · unfold spec_ItemOk.f
    rw [(hb k hk).1, Option.bind_some, specIn, specIn]
    simp only [Option.bind_some]
    split <;> (try split) <;> (try split) <;> rfl
  · unfold impl_ItemOk.f
    rw [(hb k hk).2, Option.bind_some, implIn, implIn]
    simp only [Option.bind_some]
    split <;> (try split) <;> (try split) <;> rfl
end Go.Proofs.Ytlalkldjpniakaa.B
/- LineOk, by the program and by the reference: one answer; for lines whose lists are of at most 2^40 bytes. -/
namespace Go.Proofs.Ytlalkldjpniakaa.B
open Go.RowKit Go.Proofs.Ytlalkldjpniakaa.P Go.Proofs.YtlalkldjpniakaaW.PrintWords Go.Proofs.YtlalkldjpniakaaW.PrintLast Go.Proofs.YtlalkldjpniakaaW.PrintMore
theorem lineOk (q : Int) (s : ByteArray) (n m : Int) (l : List Int) (hs : s.size ≤ 1099511627776) (hl : l.length ≤ 1099511627776) : ∃ b : Bool, ∀ k, s.size + 3 < k → spec_LineOk.f k q s n m l = some b ∧ impl_LineOk.f k q s n m l = some b := by
  obtain ⟨b1, h1⟩ := itemOk s n m l hs
  obtain ⟨b2, h2⟩ := route s hs
  by_cases c1 : q = 1
  · refine ⟨b1, fun k hk => ⟨?_, ?_⟩⟩
    · unfold spec_LineOk.f spec_l14Item.f
      rw [if_pos c1, Option.bind_some, if_pos (by simp; omega), Option.bind_some]
      simp only [List.nil_append]
      rw [(h1 k hk).1]; rfl
    · unfold impl_LineOk.f impl_itemOf.f slices_Clone_byte_byte.f
      rw [if_pos c1, if_pos (by omega), Option.bind_some, Option.bind_some, (h1 k hk).2]; rfl
  · by_cases c2 : q = 2
    · refine ⟨if b2 = true then (if n = 0 then (if m = 0 then ((l.length : Int) == 0) else false) else false) else false, fun k hk => ⟨?_, ?_⟩⟩
      · unfold spec_LineOk.f
        rw [if_neg c1, if_pos c2, (h2 k hk).1, Option.bind_some]
        split <;> (try split) <;> (try split) <;> rfl
      · unfold impl_LineOk.f
        rw [if_neg c1, if_pos c2, (h2 k hk).2, Option.bind_some]
        split <;> (try split) <;> (try split) <;> rfl
    · by_cases c3 : q = 3
      · refine ⟨if s.toList = [] then (if n = 0 then (if decide (0 ≤ m ∧ m ≤ 100000) = true then ((l.length : Int) == 0) else false) else false) else false, fun k hk => ⟨?_, ?_⟩⟩
        · unfold spec_LineOk.f
          rw [if_neg c1, if_neg c2, if_pos c3, specIn]
          simp only [Option.bind_some]
          split <;> (try split) <;> (try split) <;> rfl
        · unfold impl_LineOk.f
          rw [if_neg c1, if_neg c2, if_pos c3, implIn, Option.bind_some]
          by_cases d : decide (0 ≤ m ∧ m ≤ 100000) = true
          · rw [if_pos d, if_pos d]
            split <;> (try split) <;> rfl
          · rw [if_neg d, if_neg d]
            split <;> (try split) <;> rfl
      · refine ⟨false, fun k hk => ⟨?_, ?_⟩⟩
        · unfold spec_LineOk.f; rw [if_neg c1, if_neg c2, if_neg c3]
        · unfold impl_LineOk.f; rw [if_neg c1, if_neg c2, if_neg c3]
end Go.Proofs.Ytlalkldjpniakaa.B
/- What masks and shifts of whole numbers are, as remainders; each for the numbers that it names. -/
namespace Go.Proofs.Ytlalkldjpniakaa.B
open Go.RowKit Go.Proofs.YtlalkldjpniakaaW.PrintWords Go.Proofs.YtlalkldjpniakaaW.PrintLast Go.Proofs.YtlalkldjpniakaaW.PrintMore

theorem i64_and_nat (x : Int) (m : Nat) (hm : m < 9223372036854775808) : Go.bits .and .i64 x (m : Int) = (((x % 18446744073709551616).toNat &&& m : Nat) : Int) := by
  have h1 : (BitVec.ofInt 64 x).toNat = (x % 18446744073709551616).toNat := by
    rw [BitVec.toNat_ofInt]; rfl
  have h2 : (BitVec.ofInt 64 (m : Int)).toNat = m := ofInt_u64 m (by omega)
  have hx : (x % 18446744073709551616).toNat &&& m ≤ m := Nat.and_le_right
  show IntKind.i64.wrap ((BitVec.ofInt 64 x &&& BitVec.ofInt 64 (m : Int)).toNat : Int) = _
  rw [BitVec.toNat_and, h1, h2, IntKind.wrap_i64]
  omega
theorem i64_and31 (x : Int) : Go.bits .and .i64 x 31 = x % 32 := by
  rw [show (31 : Int) = ((31 : Nat) : Int) from rfl, i64_and_nat x 31 (by omega), show (31 : Nat) = 2 ^ 5 - 1 from rfl, Nat.and_two_pow_sub_one_eq_mod]
  omega
theorem i64_and255 (x : Int) : Go.bits .and .i64 x 255 = x % 256 := by
  rw [show (255 : Int) = ((255 : Nat) : Int) from rfl, i64_and_nat x 255 (by omega), show (255 : Nat) = 2 ^ 8 - 1 from rfl, Nat.and_two_pow_sub_one_eq_mod]
  omega
theorem i64_and32 (x : Int) : Go.bits .and .i64 x 4294967295 = x % 4294967296 := by
  rw [show (4294967295 : Int) = ((4294967295 : Nat) : Int) from rfl, i64_and_nat x 4294967295 (by omega), show (4294967295 : Nat) = 2 ^ 32 - 1 from rfl, Nat.and_two_pow_sub_one_eq_mod]
  omega
theorem wf8 {l : List Int} (h : ∀ x ∈ l, (Lit.int .u8 x).wf = true) : ∀ x ∈ l, 0 ≤ x ∧ x < 256 := by
  intro x hx
  have := h x hx
  have m1 : IntKind.u8.min = 0 := by decide
  have m2 : IntKind.u8.max = 255 := by decide
  simp only [Lit.wf, m1, m2, Bool.and_eq_true, decide_eq_true_eq] at this
  omega
theorem wf64 {x : Int} (h : (Lit.int .i64 x).wf = true) : -9223372036854775808 ≤ x ∧ x ≤ 9223372036854775807 := by
  have m1 : IntKind.i64.min = -9223372036854775808 := by decide
  have m2 : IntKind.i64.max = 9223372036854775807 := by decide
  simp only [Lit.wf, m1, m2, Bool.and_eq_true, decide_eq_true_eq] at h
  omega
end Go.Proofs.Ytlalkldjpniakaa.B
/- Little, by the program and by the reference: the low bytes of a number, the lowest first; for every number and every count. -/
namespace Go.Proofs.Ytlalkldjpniakaa.B
open Go.RowKit Go.Proofs.Ytlalkldjpniakaa.P Go.Proofs.YtlalkldjpniakaaW.PrintWords Go.Proofs.YtlalkldjpniakaaW.PrintLast Go.Proofs.YtlalkldjpniakaaW.PrintMore
/-- So many low bytes, the lowest first. -/
def lowL : Nat → Int → List Int
  | 0, _ => []
  | m + 1, n => n % 256 :: lowL m (n / 256)
/-- What Little answers. -/
def leL (n many : Int) : List Int := if 0 ≤ n ∧ 1 ≤ many ∧ many ≤ 8 then lowL many.toNat n else []
theorem lowL_length : ∀ (m : Nat) (n : Int), (lowL m n).length = m
  | 0, _ => rfl
  | m + 1, n => by simp [lowL, lowL_length m]
theorem leL_length (n many : Int) : (leL n many).length ≤ 8 := by
  unfold leL; split
  · rw [lowL_length]; omega
  · simp
theorem specLittle_l0 : ∀ (m : Nat) (n i many : Int) (acc : List Int) (k : Nat), 0 ≤ i → many ≤ 8 → many - i = m → acc.length ≤ 100 - m → m ≤ 8 → m < k →
    spec_Little.l0 k n many acc i = some (acc ++ lowL m n)
  | 0, n, i, many, acc, k, h0, h8, hd, hc, hm, hk => by
    obtain ⟨k, rfl⟩ : ∃ m, k = m + 1 := ⟨k - 1, by omega⟩
    simp only [spec_Little.l0]; rw [if_neg (by omega)]; simp [lowL]
  | m + 1, n, i, many, acc, k, h0, h8, hd, hc, hm, hk => by
    obtain ⟨k, rfl⟩ : ∃ m, k = m + 1 := ⟨k - 1, by omega⟩
    have ih := specLittle_l0 m (n / 256) (i + 1) many (acc ++ [n % 256]) k (by omega) h8 (by omega) (by simp; omega) (by omega) (by omega)
    simp only [spec_Little.l0]
    rw [if_pos (by omega), if_pos (by omega), wrap_eq (i + 1) (by omega) (by omega), i64_and255, show n % 256 % 256 = n % 256 by omega, ih]
    simp [lowL]
theorem specLittle (n many : Int) (k : Nat) (hk : 20 < k) : spec_Little.f k n many = some (leL n many) := by
  obtain ⟨k, rfl⟩ : ∃ m, k = m + 1 := ⟨k - 1, by omega⟩
  unfold spec_Little.f leL spec_l1In.f
  simp only [Option.bind_some]
  by_cases h : n < 0
  · rw [if_pos h, if_neg (by omega)]; simp [spec_Little.j0]
  · rw [if_neg h]
    by_cases h1 : many ≥ 1
    · rw [if_pos h1]
      simp only [Option.bind_some]
      by_cases h2 : many ≤ 8
      · rw [if_pos ⟨by omega, by omega, h2⟩]
        simp only [spec_Little.j0, h2, decide_true, Bool.not_true, Bool.false_eq_true, if_false]
        have := specLittle_l0 many.toNat n 0 many [] k (by omega) h2 (by omega) (by simp) (by omega) (by omega)
        simpa using this
      · rw [if_neg (by omega)]; simp [spec_Little.j0, h2]
    · rw [if_neg h1, if_neg (by omega)]; simp [spec_Little.j0]
theorem implLittle_l0 : ∀ (m : Nat) (n i many : Int) (acc : List Int) (k : Nat), 0 ≤ i → many ≤ 8 → many - i = m → acc.length ≤ 100 - m → m ≤ 8 → m < k →
    impl_Little.l0 k n acc many i = some (acc ++ lowL m n)
  | 0, n, i, many, acc, k, h0, h8, hd, hc, hm, hk => by
    obtain ⟨k, rfl⟩ : ∃ m, k = m + 1 := ⟨k - 1, by omega⟩
    simp only [impl_Little.l0]; rw [if_neg (by omega)]; simp [lowL]
  | m + 1, n, i, many, acc, k, h0, h8, hd, hc, hm, hk => by
    obtain ⟨k, rfl⟩ : ∃ m, k = m + 1 := ⟨k - 1, by omega⟩
    have ih := implLittle_l0 m (n / 256) (i + 1) many (acc ++ [n % 256]) k (by omega) h8 (by omega) (by simp; omega) (by omega) (by omega)
    simp only [impl_Little.l0]
    rw [if_pos (by omega), if_pos (by omega), wrap_eq (i + 1) (by omega) (by omega), ih]
    simp [lowL]
theorem implLittle (n many : Int) (k : Nat) (hk : 20 < k) : impl_Little.f k n many = some (leL n many) := by
  obtain ⟨k, rfl⟩ : ∃ m, k = m + 1 := ⟨k - 1, by omega⟩
  unfold impl_Little.f leL impl_in.f
  by_cases h : n < 0
  · rw [if_pos h, if_neg (by omega)]; simp [impl_Little.j0]
  · rw [if_neg h]
    by_cases h1 : many ≥ 1
    · rw [if_pos h1]
      simp only [Option.bind_some]
      by_cases h2 : many ≤ 8
      · rw [if_pos ⟨by omega, by omega, h2⟩]
        simp only [impl_Little.j0, h2, decide_true, Bool.not_true, Bool.false_eq_true, if_false]
        have := implLittle_l0 many.toNat n 0 many [] k (by omega) h2 (by omega) (by simp) (by omega) (by omega)
        simpa using this
      · rw [if_neg (by omega)]; simp [impl_Little.j0, h2]
    · rw [if_neg h1, if_neg (by omega)]; simp [impl_Little.j0]
end Go.Proofs.Ytlalkldjpniakaa.B
/- Great, by the program and by the reference: Little, the other way round; for every number and every count. -/
namespace Go.Proofs.Ytlalkldjpniakaa.B
open Go.RowKit Go.Proofs.Ytlalkldjpniakaa.P Go.Proofs.YtlalkldjpniakaaW.PrintWords Go.Proofs.YtlalkldjpniakaaW.PrintLast Go.Proofs.YtlalkldjpniakaaW.PrintMore
theorem specGreat_l0 : ∀ (n : Nat) (xs acc : List Int) (k : Nat), n ≤ xs.length → xs.length ≤ 100 → acc.length + n ≤ 200 → n < k →
    spec_Great.l0 k xs acc ((n : Int) - 1) = some (acc ++ (xs.take n).reverse)
  | 0, xs, acc, k, hn, hx, hc, hk => by
    obtain ⟨k, rfl⟩ : ∃ m, k = m + 1 := ⟨k - 1, by omega⟩
    simp only [spec_Great.l0]; rw [if_neg (by omega)]; simp
  | n + 1, xs, acc, k, hn, hx, hc, hk => by
    obtain ⟨k, rfl⟩ : ∃ m, k = m + 1 := ⟨k - 1, by omega⟩
    have ih := specGreat_l0 n xs (acc ++ [xs.getD n 0]) k (by omega) hx (by simp; omega) (by omega)
    have e1 : ((n + 1 : Nat) : Int) - 1 = (n : Int) := by omega
    have e2 : rd xs (n : Int) = xs.getD n 0 := by simp [rd]
    simp only [spec_Great.l0]
    rw [e1, if_pos (by omega), if_pos (by omega), if_pos (by omega), if_pos (by omega), e2, wrap_eq ((n : Int) - 1) (by omega) (by omega), ih]
    have h3 : xs.take (n + 1) = xs.take n ++ [xs.getD n 0] := by
      rw [List.take_succ_eq_append_getElem (by omega)]
      simp [List.getD_eq_getElem?_getD, List.getElem?_eq_getElem (show n < xs.length by omega)]
    rw [h3]; simp
theorem specGreat (n many : Int) (k : Nat) (hk : 40 < k) : spec_Great.f k n many = some (leL n many).reverse := by
  have hl := leL_length n many
  unfold spec_Great.f
  rw [specLittle n many k (by omega)]
  simp only [Option.bind_some]
  rw [wrap_eq _ (by omega) (by omega), specGreat_l0 _ _ [] k (Nat.le_refl _) (by omega) (by simp; omega) (by omega)]
  simp
theorem turned_l0 : ∀ (rest pre junk b : List Int) (n : Int) (k : Nat), b = pre ++ rest → n = (b.length : Int) → junk.length = rest.length → b.length ≤ 1099511627776 → rest.length < k →
    impl_turned.l0 k b (junk ++ pre.reverse) b n (pre.length : Int) = some b.reverse
  | [], pre, junk, b, n, k, hb, hn, hj, hc, hk => by
    obtain ⟨k, rfl⟩ : ∃ m, k = m + 1 := ⟨k - 1, by omega⟩
    obtain rfl : junk = [] := List.eq_nil_of_length_eq_zero hj
    subst hb
    simp only [impl_turned.l0]; rw [if_neg (by rw [hn]; exact nlt_end pre)]; simp
  | a :: rest, pre, junk, b, n, k, hb, hn, hj, hc, hk => by
    obtain ⟨k, rfl⟩ : ∃ m, k = m + 1 := ⟨k - 1, by omega⟩
    simp only [List.length_cons] at hk hj
    have hne : junk ≠ [] := by intro h; rw [h] at hj; simp at hj
    obtain ⟨junk1, z, rfl⟩ : ∃ j z, junk = j ++ [z] := ⟨junk.dropLast, junk.getLast hne, (List.dropLast_concat_getLast hne).symm⟩
    have hj1 : junk1.length = rest.length := by simp at hj; omega
    have hbl : b.length = pre.length + rest.length + 1 := by rw [hb]; simp; omega
    have ih := turned_l0 rest (pre ++ [a]) junk1 b n k (by rw [hb]; simp) hn hj1 hc (by omega)
    simp only [impl_turned.l0]
    have e1 : wrap64 ((b.length : Int) - 1) = (b.length : Int) - 1 := wrap_eq _ (by omega) (by omega)
    have e2 : wrap64 ((b.length : Int) - 1 - (pre.length : Int)) = (junk1.length : Int) := by rw [wrap_eq _ (by omega) (by omega)]; omega
    have e3 : rd b (pre.length : Int) = a := by rw [hb]; exact rd_mid pre a rest
    have e4 : (junk1 ++ [z] ++ pre.reverse).set ((junk1.length : Int).toNat) a = junk1 ++ (pre ++ [a]).reverse := by simp
    rw [e1, e2, e3, e4, if_pos (by omega), if_pos (by omega), if_pos (by omega), if_pos (by omega), if_pos (by simp; omega), wrap_step pre a (by omega)]
    exact ih
theorem turned (b : List Int) (hc : b.length ≤ 1099511627776) (k : Nat) (hk : b.length < k) : impl_turned.f k b = some b.reverse := by
  unfold impl_turned.f
  rw [if_pos (by omega), if_pos (by simp; omega)]
  have h := turned_l0 b [] (List.replicate b.length 0) b _ k rfl rfl (by simp) hc hk
  simpa using h
theorem implGreat (n many : Int) (k : Nat) (hk : 40 < k) : impl_Great.f k n many = some (leL n many).reverse := by
  have hl := leL_length n many
  unfold impl_Great.f
  rw [implLittle n many k (by omega)]
  simp only [Option.bind_some]
  rw [turned _ (by omega) k (by omega)]
  simp
end Go.Proofs.Ytlalkldjpniakaa.B
/- The parts, one behind the other; for at most 2^47 parts and bytes. -/
namespace Go.Proofs.Ytlalkldjpniakaa.B
open Go.RowKit Go.Proofs.Ytlalkldjpniakaa.P Go.Proofs.YtlalkldjpniakaaW.PrintWords Go.Proofs.YtlalkldjpniakaaW.PrintLast Go.Proofs.YtlalkldjpniakaaW.PrintMore
theorem joined (ls : List (List Int)) (h1 : ls.flatten.length ≤ 140737488355328) (h2 : ls.length ≤ 140737488355328) : impl_joined.f ls = some ls.flatten := by
  unfold impl_joined.f bytes_Join.f
  rw [if_pos ⟨rfl, h1, h2⟩]; rfl
theorem joined2 (a b : List Int) (h : a.length + b.length ≤ 140737488355328) : impl_joined.f [a, b] = some (a ++ b) := by
  rw [joined _ (by simp; omega) (by simp)]; simp
theorem joined3 (a b c : List Int) (h : a.length + b.length + c.length ≤ 140737488355328) : impl_joined.f [a, b, c] = some (a ++ b ++ c) := by
  rw [joined _ (by simp; omega) (by simp)]; simp
theorem joined4 (a b c d : List Int) (h : a.length + b.length + c.length + d.length ≤ 140737488355328) : impl_joined.f [a, b, c, d] = some (a ++ b ++ c ++ d) := by
  rw [joined _ (by simp; omega) (by simp)]; simp
end Go.Proofs.Ytlalkldjpniakaa.B
/- LineBytes, by the program and by the reference: one list; for lines whose lists are of at most 2^20 bytes. -/
namespace Go.Proofs.Ytlalkldjpniakaa.B
open Go.RowKit Go.Proofs.Ytlalkldjpniakaa.P Go.Proofs.YtlalkldjpniakaaW.PrintWords Go.Proofs.YtlalkldjpniakaaW.PrintLast Go.Proofs.YtlalkldjpniakaaW.PrintMore
/-- A line's bytes, its route's bytes given. -/
def lineB (q : Int) (x : List Int) (n m : Int) (l : List Int) : List Int := [q % 256] ++ x ++ [n % 256] ++ (leL m 4).reverse ++ (leL (l.length : Int) 2).reverse ++ l
def lineL (q : Int) (x : List Int) (n m : Int) (l : List Int) : List Int := lineB q x n m l ++ (leL ((lineB q x n m l).length : Int) 2).reverse
theorem lineL_length (q : Int) (x : List Int) (n m : Int) (l : List Int) : (lineL q x n m l).length ≤ x.length + l.length + 26 := by
  have h1 := leL_length m 4
  have h2 := leL_length (l.length : Int) 2
  have h3 := leL_length ((lineB q x n m l).length : Int) 2
  unfold lineL
  rw [List.length_append, List.length_reverse]
  unfold lineB at *
  simp only [List.length_append, List.length_reverse, List.length_singleton] at *
  omega
theorem specTail (q : Int) (x : List Int) (n m : Int) (l : List Int) (hx : x.length ≤ 1048576) (hl : l.length ≤ 1048576) (k : Nat) (hk : 40 < k) :
    ((some (([(q) % 256] : List Int) : List Int)).bind fun y497 => (if y497.length + x.length < 140737488355328 then ((some (y497 ++ x : List Int)).bind fun y500 => (if y500.length < 140737488355328 then ((some (y500 ++ [(n) % 256] : List Int)).bind fun y503 => ((spec_Great.f k m 4).bind fun t506 => (if y503.length + t506.length < 140737488355328 then ((some (y503 ++ t506 : List Int)).bind fun y509 => ((spec_Great.f k (l.length : Int) 2).bind fun t512 => (if y509.length + t512.length < 140737488355328 then ((some (y509 ++ t512 : List Int)).bind fun y515 => (if y515.length + l.length < 140737488355328 then ((some (y515 ++ l : List Int)).bind fun y518 => ((spec_Great.f k (y518.length : Int) 2).bind fun t521 => (if y518.length + t521.length < 140737488355328 then (some (y518 ++ t521)) else (none)))) else (none))) else (none)))) else (none)))) else (none))) else (none))) = some (lineL q x n m l) := by
  have h1 := leL_length m 4
  have h2 := leL_length (l.length : Int) 2
  have h3 := leL_length ((lineB q x n m l).length : Int) 2
  simp only [Option.bind_some]
  rw [if_pos (by simp; omega), if_pos (by simp; omega), specGreat _ _ k hk, Option.bind_some, if_pos (by simp; omega), specGreat _ _ k hk, Option.bind_some, if_pos (by simp; omega), if_pos (by simp; omega), specGreat _ _ k hk, Option.bind_some, if_pos (by rw [List.length_reverse]; simp; unfold lineB at h3; simp at h3; omega)]
  rfl
theorem implTail (q : Int) (s : ByteArray) (x : List Int) (n m : Int) (l : List Int) (hx : x.length ≤ 1048576) (hl : l.length ≤ 1048576) (k : Nat) (hk : 40 < k) : impl_LineBytes.j0 (k + 1) x q s n m l = some (lineL q x n m l) := by
  have h1 := leL_length m 4
  have h2 := leL_length (l.length : Int) 2
  have h3 := leL_length ((lineB q x n m l).length : Int) 2
  have e : ([[q % 256], x, [n % 256], (leL m 4).reverse, (leL (l.length : Int) 2).reverse, l] : List (List Int)).flatten = lineB q x n m l := by simp [lineB]
  have hlen : (lineB q x n m l).length ≤ x.length + l.length + 18 := by
    unfold lineB
    simp only [List.length_append, List.length_reverse, List.length_singleton]
    omega
  simp only [impl_LineBytes.j0]
  rw [implGreat _ _ k hk, Option.bind_some, implGreat _ _ k hk, Option.bind_some, joined _ (by rw [e]; omega) (by simp), e, Option.bind_some, implGreat _ _ k hk, Option.bind_some, if_pos (by rw [List.length_reverse]; omega)]
  rfl
theorem lineBytes (q : Int) (s : ByteArray) (n m : Int) (l : List Int) (hs : s.size ≤ 1048576) (hl : l.length ≤ 1048576) : ∃ r : List Int, r.length ≤ s.size + l.length + 100 ∧ ∀ k, s.size + 50 < k → spec_LineBytes.f k q s n m l = some r ∧ impl_LineBytes.f k q s n m l = some r := by
  obtain ⟨b, hb⟩ := lineOk q s n m l (by omega) (by omega)
  obtain ⟨x, hx1, hx2, hx3⟩ := unhex s (by omega)
  by_cases c : b = true
  · by_cases c3 : q = 3
    · have h := lineL_length q (List.replicate 8 0) n m l
      rw [List.length_replicate] at h
      refine ⟨lineL q (List.replicate 8 0) n m l, by omega, fun k hk => ⟨?_, ?_⟩⟩
      · unfold spec_LineBytes.f
        rw [(hb k (by omega)).1, Option.bind_some, if_pos c, (hx3 k (by omega)).1, Option.bind_some, if_pos c3, if_pos (by omega), Option.bind_some]
        exact specTail q _ n m l (by rw [List.length_replicate]; omega) hl k (by omega)
      · obtain ⟨k, rfl⟩ : ∃ m, k = m + 1 := ⟨k - 1, by omega⟩
        unfold impl_LineBytes.f
        rw [(hb (k + 1) (by omega)).2, Option.bind_some, if_pos c, if_pos (by omega), if_pos c3]
        exact implTail q s _ n m l (by rw [List.length_replicate]; omega) hl k (by omega)
    · have h := lineL_length q x.1 n m l
      refine ⟨lineL q x.1 n m l, by omega, fun k hk => ⟨?_, ?_⟩⟩
      · unfold spec_LineBytes.f
        rw [(hb k (by omega)).1, Option.bind_some, if_pos c, (hx3 k (by omega)).1, Option.bind_some, if_neg c3]
        exact specTail q _ n m l (by omega) hl k (by omega)
      · obtain ⟨k, rfl⟩ : ∃ m, k = m + 1 := ⟨k - 1, by omega⟩
        unfold impl_LineBytes.f
        rw [(hb (k + 1) (by omega)).2, Option.bind_some, if_pos c, if_pos (by omega), if_neg c3, (hx3 (k + 1) (by omega)).2, Option.bind_some]
        exact implTail q s _ n m l (by omega) hl k (by omega)
  · refine ⟨[], by simp, fun k hk => ⟨?_, ?_⟩⟩
    · unfold spec_LineBytes.f; rw [(hb k (by omega)).1, Option.bind_some, if_neg c]
    · unfold impl_LineBytes.f; rw [(hb k (by omega)).2, Option.bind_some, if_neg c]
end Go.Proofs.Ytlalkldjpniakaa.B
/- Hex, by the program and by the reference: two signs a byte; for lists of at most 2^40 bytes. -/
namespace Go.Proofs.Ytlalkldjpniakaa.B
open Go.RowKit Go.Proofs.Ytlalkldjpniakaa.P Go.Proofs.YtlalkldjpniakaaW.PrintWords Go.Proofs.YtlalkldjpniakaaW.PrintLast Go.Proofs.YtlalkldjpniakaaW.PrintMore
def signs : ByteArray := ⟨#[48, 49, 50, 51, 52, 53, 54, 55, 56, 57, 97, 98, 99, 100, 101, 102]⟩
/-- Two signs a byte. -/
def hexL : List Int → List Int
  | [] => []
  | x :: l => bt signs (x / 16) :: bt signs (x % 16) :: hexL l
theorem hexL_length : ∀ l : List Int, (hexL l).length = 2 * l.length
  | [] => rfl
  | x :: l => by simp [hexL, hexL_length l]; omega
theorem specHex_l0 : ∀ (rest pre acc : List Int) (k : Nat), (∀ x ∈ rest, 0 ≤ x ∧ x < 256) → pre.length + rest.length ≤ 1099511627776 → acc.length + 2 * rest.length ≤ 4398046511104 → rest.length < k →
    spec_Hex.l0 k (pre ++ rest) signs acc (pre.length : Int) = some (strOfNums (acc ++ hexL rest))
  | [], pre, acc, k, hw, hb, hc, hk => by
    obtain ⟨k, rfl⟩ : ∃ m, k = m + 1 := ⟨k - 1, by omega⟩
    simp only [spec_Hex.l0]; rw [if_neg (nlt_end pre)]; simp [hexL]
  | x :: rest, pre, acc, k, hw, hb, hc, hk => by
    obtain ⟨k, rfl⟩ : ∃ m, k = m + 1 := ⟨k - 1, by omega⟩
    simp only [List.length_cons] at hb hc hk
    have hx := hw x (by simp)
    have hs : (signs.size : Int) = 16 := rfl
    have ih := specHex_l0 rest (pre ++ [x]) (acc ++ [bt signs (x / 16), bt signs (x % 16)]) k (fun y hy => hw y (by simp [hy])) (by simp; omega) (by simp; omega) (by omega)
    simp only [spec_Hex.l0, Option.bind_some]
    rw [if_pos (lt_mid pre x rest), if_pos (pre_nonneg pre), rd_mid, u8_and15 _ hx.1 hx.2, hs, if_pos (by omega), if_pos (by omega), if_pos (by omega), if_pos (by omega), if_pos (by simp; omega), wrap_step pre x (by omega), snoc_app pre x rest, ih]
    simp [hexL]
theorem specHex (l : List Int) (hw : ∀ x ∈ l, 0 ≤ x ∧ x < 256) (hn : l.length ≤ 1099511627776) (k : Nat) (hk : l.length < k) : spec_Hex.f k l = some (strOfNums (hexL l)) := by
  have h := specHex_l0 l [] [] k hw (by simpa using hn) (by simp; omega) hk
  simpa [spec_Hex.f, signs] using h
theorem implHex_l0 : ∀ (rest pre acc : List Int) (n : Int) (k : Nat), n = (((pre ++ rest).length : Nat) : Int) → (∀ x ∈ rest, 0 ≤ x ∧ x < 256) → pre.length + rest.length ≤ 1099511627776 → acc.length + 2 * rest.length ≤ 4398046511104 → rest.length < k →
    impl_Hex.l0 k acc (pre ++ rest) n (pre.length : Int) = some (strOfNums (acc ++ hexL rest))
  | [], pre, acc, n, k, he, hw, hb, hc, hk => by
    obtain ⟨k, rfl⟩ : ∃ m, k = m + 1 := ⟨k - 1, by omega⟩
    simp only [impl_Hex.l0]; rw [if_neg (by rw [he]; exact nlt_end pre)]; simp [hexL]
  | x :: rest, pre, acc, n, k, he, hw, hb, hc, hk => by
    obtain ⟨k, rfl⟩ : ∃ m, k = m + 1 := ⟨k - 1, by omega⟩
    simp only [List.length_cons] at hb hc hk
    have hx := hw x (by simp)
    have ih := implHex_l0 rest (pre ++ [x]) (acc ++ [bt signs (x / 16), bt signs (x % 16)]) n k (by rw [he]; simp) (fun y hy => hw y (by simp [hy])) (by simp; omega) (by simp; omega) (by omega)
    simp only [impl_Hex.l0, Option.bind_some]
    rw [if_pos (by rw [he]; exact lt_mid pre x rest), if_pos (pre_nonneg pre), if_pos (lt_mid pre x rest), rd_mid, u8_and15 _ hx.1 hx.2, if_pos (by omega), if_pos (by omega), if_pos (by omega), if_pos (by omega), if_pos (by simp; omega), wrap_step pre x (by omega), snoc_app pre x rest]
    refine Eq.trans ?_ (ih.trans ?_)
    · rfl
    · simp [hexL]
theorem implHex (l : List Int) (hw : ∀ x ∈ l, 0 ≤ x ∧ x < 256) (hn : l.length ≤ 1099511627776) (k : Nat) (hk : l.length < k) : impl_Hex.f k l = some (strOfNums (hexL l)) := by
  have h := implHex_l0 l [] [] _ k rfl hw (by simpa using hn) (by simp; omega) hk
  simpa [impl_Hex.f] using h
end Go.Proofs.Ytlalkldjpniakaa.B
/- Same, by the program and by the reference: whether two lists of bytes are one. -/
namespace Go.Proofs.Ytlalkldjpniakaa.B
open Go.RowKit Go.Proofs.Ytlalkldjpniakaa.P Go.Proofs.YtlalkldjpniakaaW.PrintWords Go.Proofs.YtlalkldjpniakaaW.PrintLast Go.Proofs.YtlalkldjpniakaaW.PrintMore
def sameL (a b : List Int) : Bool := (strOfNums a).toList == (strOfNums b).toList
theorem specSame (a b : List Int) : spec_Same.f a b = some (sameL a b) := rfl
theorem implSame (a b : List Int) : impl_Same.f a b = some (sameL a b) := rfl
theorem sameL_same (a : List Int) : sameL a a = true := by unfold sameL; simp
end Go.Proofs.Ytlalkldjpniakaa.B
/- Words, by the reference, and one word by the program; for lists of at most 2^40 bytes. -/
namespace Go.Proofs.Ytlalkldjpniakaa.B
open Go.RowKit Go.Proofs.Ytlalkldjpniakaa.P Go.Proofs.YtlalkldjpniakaaW.PrintWords Go.Proofs.YtlalkldjpniakaaW.PrintLast Go.Proofs.YtlalkldjpniakaaW.PrintMore
def w4 (a b c d : Int) : Int := Go.bits .or .i64 (Go.bits .or .i64 (Go.bits .or .i64 (wrap64 ((wrap64 a) * 16777216)) (wrap64 ((wrap64 b) * 65536))) (wrap64 ((wrap64 c) * 256))) (wrap64 d)
def word4 (big : Bool) (a b c d : Int) : Int := if big = true then w4 a b c d else w4 d c b a
/-- The words of a list of bytes. -/
def wordsL (big : Bool) : List Int → List Int
  | a :: b :: c :: d :: r => word4 big a b c d :: wordsL big r
  | _ => []
theorem wordsL_length (big : Bool) : ∀ l : List Int, (wordsL big l).length = l.length / 4
  | a :: b :: c :: d :: r => by simp [wordsL, wordsL_length big r]; omega
  | [] => rfl
  | [a] => by simp [wordsL]
  | [a, b] => by simp [wordsL]
  | [a, b, c] => by simp [wordsL]
theorem rd_at (pre l : List Int) (i : Nat) (j : Int) (h : j = (pre.length : Int) + i) : rd (pre ++ l) j = l.getD i 0 := by
  subst h
  unfold rd
  rw [show ((pre.length : Int) + i).toNat = pre.length + i from by omega]
  rw [List.getD_eq_getElem?_getD, List.getD_eq_getElem?_getD, List.getElem?_append_right (by omega), show pre.length + i - pre.length = i from by omega]
theorem specWords_l0 (big : Bool) : ∀ (rest pre acc : List Int) (k : Nat), pre.length + rest.length ≤ 1099511627776 → acc.length + rest.length ≤ 4398046511104 → rest.length < k →
    spec_Words.l0 k (pre ++ rest) big acc (pre.length : Int) = some (acc ++ wordsL big rest)
  | a :: b :: c :: d :: r, pre, acc, k, hb, hc, hk => by
    obtain ⟨k, rfl⟩ : ∃ m, k = m + 1 := ⟨k - 1, by omega⟩
    simp only [List.length_cons] at hb hc hk
    have ih := specWords_l0 big r (pre ++ [a, b, c, d]) (acc ++ [word4 big a b c d]) k (by simp; omega) (by simp; omega) (by omega)
    have hl : ((pre ++ a :: b :: c :: d :: r).length : Int) = pre.length + r.length + 4 := by simp; omega
    have e1 : wrap64 ((pre.length : Int) + 1) = pre.length + 1 := wrap_eq _ (by omega) (by omega)
    have e2 : wrap64 ((pre.length : Int) + 2) = pre.length + 2 := wrap_eq _ (by omega) (by omega)
    have e3 : wrap64 ((pre.length : Int) + 3) = pre.length + 3 := wrap_eq _ (by omega) (by omega)
    have e4 : wrap64 ((pre.length : Int) + 4) = ((pre ++ [a, b, c, d]).length : Int) := by rw [wrap_eq _ (by omega) (by omega)]; simp
    have r0 : rd (pre ++ a :: b :: c :: d :: r) (pre.length : Int) = a := rd_at _ _ 0 _ (by omega)
    have r1 : rd (pre ++ a :: b :: c :: d :: r) ((pre.length : Int) + 1) = b := rd_at _ _ 1 _ (by omega)
    have r2 : rd (pre ++ a :: b :: c :: d :: r) ((pre.length : Int) + 2) = c := rd_at _ _ 2 _ (by omega)
    have r3 : rd (pre ++ a :: b :: c :: d :: r) ((pre.length : Int) + 3) = d := rd_at _ _ 3 _ (by omega)
    have hx : pre ++ a :: b :: c :: d :: r = (pre ++ [a, b, c, d]) ++ r := by simp
    simp only [spec_Words.l0, e1, e2, e3, r0, r1, r2, r3]
    rw [hl]
    rw [if_pos (by omega)]
    have hy : (acc ++ [word4 big a b c d]) ++ wordsL big r = acc ++ wordsL big (a :: b :: c :: d :: r) := by simp [wordsL]
    rw [← hy, ← ih, ← e4, ← hx]
    cases big
    · rw [if_neg (by decide), if_pos (by omega), if_pos (by omega), if_pos (by omega), if_pos (by omega), if_pos (by omega), if_pos (by omega), if_pos (by omega), if_pos (by omega)]
      rfl
    · rw [if_pos rfl, if_pos (by omega), if_pos (by omega), if_pos (by omega), if_pos (by omega), if_pos (by omega), if_pos (by omega), if_pos (by omega), if_pos (by omega)]
      rfl
  | [], pre, acc, k, hb, hc, hk => by
    obtain ⟨k, rfl⟩ : ∃ m, k = m + 1 := ⟨k - 1, by omega⟩
    simp only [spec_Words.l0]; rw [wrap_eq _ (by omega) (by simp at hb; omega), if_neg (by simp; omega)]; simp [wordsL]
  | [a], pre, acc, k, hb, hc, hk => by
    obtain ⟨k, rfl⟩ : ∃ m, k = m + 1 := ⟨k - 1, by omega⟩
    simp only [spec_Words.l0]; rw [wrap_eq _ (by omega) (by simp at hb; omega), if_neg (by simp)]; simp [wordsL]
  | [a, b], pre, acc, k, hb, hc, hk => by
    obtain ⟨k, rfl⟩ : ∃ m, k = m + 1 := ⟨k - 1, by omega⟩
    simp only [spec_Words.l0]; rw [wrap_eq _ (by omega) (by simp at hb; omega), if_neg (by simp)]; simp [wordsL]
  | [a, b, c], pre, acc, k, hb, hc, hk => by
    obtain ⟨k, rfl⟩ : ∃ m, k = m + 1 := ⟨k - 1, by omega⟩
    simp only [spec_Words.l0]; rw [wrap_eq _ (by omega) (by simp at hb; omega), if_neg (by simp)]; simp [wordsL]
theorem specWords (l : List Int) (big : Bool) (hn : l.length ≤ 1099511627776) (k : Nat) (hk : l.length < k) : spec_Words.f k l big = some (wordsL big l) := by
  have h := specWords_l0 big l [] [] k (by simpa using hn) (by simp; omega) hk
  simpa [spec_Words.f] using h
theorem wordOf4 (big : Bool) (a b c d : Int) : impl_wordOf.f [a, b, c, d] big = some (word4 big a b c d) := by
  cases big <;> rfl
end Go.Proofs.Ytlalkldjpniakaa.B
/- What a computation with fuel answers, from some fuel on: more lemmas. -/
namespace Go.Proofs.Ytlalkldjpniakaa.B
open Go.Proofs.YtlalkldjpniakaaW.PrintWords
theorem evConst {α : Type} (r : α) : Ev (fun _ => some r) r := ⟨0, fun _ _ => rfl⟩
theorem evUp {α : Type} {f : Nat → Option α} {r : α} (h : Ev (fun k => f (k + 1)) r) : Ev f r := by
  obtain ⟨k0, h⟩ := h
  refine ⟨k0 + 1, fun k hk => ?_⟩
  obtain ⟨m, rfl⟩ : ∃ m, k = m + 1 := ⟨k - 1, by omega⟩
  exact h m (by omega)
theorem evBind {α β : Type} {f : Nat → Option α} {g : Nat → α → Option β} {a : α} {r : β} (h : Ev f a) (h2 : Ev (fun k => g k a) r) : Ev (fun k => (f k).bind fun t => g k t) r := by
  obtain ⟨k0, h⟩ := h
  obtain ⟨k1, h2⟩ := h2
  refine ⟨k0 + k1, fun k hk => ?_⟩
  show (f k).bind (fun t => g k t) = some r
  rw [h k (by omega)]
  exact h2 k (by omega)
theorem evPos {α : Type} {c : Prop} [Decidable c] {f g : Nat → Option α} {r : α} (hc : c) (h : Ev f r) : Ev (fun k => if c then f k else g k) r := by
  obtain ⟨k0, h⟩ := h
  exact ⟨k0, fun k hk => by show (if c then f k else g k) = some r; rw [if_pos hc]; exact h k hk⟩
theorem evNeg {α : Type} {c : Prop} [Decidable c] {f g : Nat → Option α} {r : α} (hc : ¬ c) (h : Ev g r) : Ev (fun k => if c then f k else g k) r := by
  obtain ⟨k0, h⟩ := h
  exact ⟨k0, fun k hk => by show (if c then f k else g k) = some r; rw [if_neg hc]; exact h k hk⟩
theorem evOf {α : Type} {f : Nat → Option α} {r : α} (n : Nat) (h : ∀ k, n < k → f k = some r) : Ev f r := ⟨n + 1, fun k hk => h k (by omega)⟩
end Go.Proofs.Ytlalkldjpniakaa.B
/- LineOf, by the program and by the reference: one line, one end; for bytes of at most 2^20. -/
namespace Go.Proofs.Ytlalkldjpniakaa.B
open Go.RowKit Go.Proofs.Ytlalkldjpniakaa.P Go.Proofs.YtlalkldjpniakaaW.PrintWords Go.Proofs.YtlalkldjpniakaaW.PrintLast Go.Proofs.YtlalkldjpniakaaW.PrintMore
theorem rd_in (l : List Int) (h : ∀ x ∈ l, 0 ≤ x ∧ x < 256) (i : Int) : 0 ≤ rd l i ∧ rd l i ≤ 255 := by
  unfold rd
  rw [List.getD_eq_getElem?_getD]
  cases e : l[i.toNat]? with
  | none => simp
  | some x => have := h x (List.mem_of_getElem? e); simp; omega
theorem rd_drop (l : List Int) (a i : Int) (ha : 0 ≤ a) (hi : 0 ≤ i) : rd (l.drop a.toNat) i = rd l (a + i) := by
  unfold rd
  rw [List.getD_eq_getElem?_getD, List.getD_eq_getElem?_getD, List.getElem?_drop, show (a + i).toNat = a.toNat + i.toNat from by omega]
theorem mid_drop (l : List Int) (a lo hi : Int) (ha : 0 ≤ a) (h0 : 0 ≤ lo) (h1 : lo ≤ hi) : (l.take (a + hi).toNat).drop (a + lo).toNat = ((l.drop a.toNat).take hi.toNat).drop lo.toNat := by
  rw [show (a + hi).toNat = a.toNat + hi.toNat from by omega, show (a + lo).toNat = a.toNat + lo.toNat from by omega, ← List.drop_drop, List.take_drop.symm]
theorem four (l : List Int) (h : l.length = 4) : ∃ a b c d, l = [a, b, c, d] := by
  match l, h with
  | [a, b, c, d], _ => exact ⟨a, b, c, d, rfl⟩
theorem mem_cut {l : List Int} {m n : Nat} {x : Int} (h : x ∈ (l.take m).drop n) : x ∈ l := List.mem_of_mem_take (List.mem_of_mem_drop h)
/-- What is read of a line. -/
def LineGood (l : List Int) (a : Int) (r : Int × ByteArray × Int × Int × List Int × Int × Bool) : Prop :=
  r = (0, ⟨#[]⟩, 0, 0, [], 0, false) ∨ (r.2.2.2.2.2.2 = true ∧ 0 ≤ a ∧ a + 18 ≤ r.2.2.2.2.2.1 ∧ r.2.2.2.2.2.1 ≤ (l.length : Int) ∧ r.2.1.size ≤ 16 ∧ r.2.2.2.2.1.length ≤ 65535 ∧ (∀ x ∈ r.2.2.2.2.1, 0 ≤ x ∧ x < 256) ∧
    ∃ bb, Ev (fun k => spec_LineBytes.f k r.1 r.2.1 r.2.2.1 r.2.2.2.1 r.2.2.2.2.1) bb ∧ Ev (fun k => impl_LineBytes.f k r.1 r.2.1 r.2.2.1 r.2.2.2.1 r.2.2.2.2.1) bb ∧ sameL bb ((l.drop a.toNat).take (r.2.2.2.2.2.1 - a).toNat) = true)
theorem hex_size (l : List Int) : (strOfNums (hexL l)).size = 2 * l.length := by
  rw [← hexL_length l]
  show ((hexL l).map _).toArray.size = _
  simp
theorem lineOf (l : List Int) (a : Int) (hl : l.length ≤ 1048576) (hb : ∀ x ∈ l, 0 ≤ x ∧ x < 256) :
    ∃ r, Ev (fun k => spec_LineOf.f k l a) r ∧ Ev (fun k => impl_LineOf.f k l a) r ∧ LineGood l a r := by
  have hlm : (l.length : Int) ≤ 140737488355232 := by omega
  by_cases c2 : 0 ≤ a ∧ a + 18 ≤ (l.length : Int)
  · have hin : impl_in.f a 0 ((l.length : Int) - 16 - 2) = some true := by
      unfold impl_in.f
      rw [if_pos c2.1, decide_eq_true (by omega)]
    obtain ⟨xs, exs⟩ : ∃ xs, xs = l.drop a.toNat := ⟨_, rfl⟩
    have hxl : (xs.length : Int) = (l.length : Int) - a := by rw [exs, List.length_drop]; omega
    have hxb : ∀ x ∈ xs, 0 ≤ x ∧ x < 256 := fun x hx => hb x (by rw [exs] at hx; exact List.mem_of_mem_drop hx)
    have hr : ∀ i, 0 ≤ i → rd l (a + i) = rd xs i := fun i hi => by rw [exs]; exact (rd_drop l a i c2.1 hi).symm
    have hr0 : rd l a = rd xs 0 := by have := hr 0 (by omega); rwa [Int.add_zero] at this
    have hc3 : (0 ≤ rd xs 0 ∧ rd xs 0 ≤ 255) ∧ (0 ≤ rd xs 9 ∧ rd xs 9 ≤ 255) ∧ (0 ≤ rd xs 14 ∧ rd xs 14 ≤ 255) ∧ (0 ≤ rd xs 15 ∧ rd xs 15 ≤ 255) := ⟨rd_in xs hxb 0, rd_in xs hxb 9, rd_in xs hxb 14, rd_in xs hxb 15⟩
    obtain ⟨n, hn⟩ : ∃ n, n = 256 * rd xs 14 + rd xs 15 := ⟨_, rfl⟩
    have hn0 : 0 ≤ n ∧ n ≤ 65535 := by omega
    have hm : ∀ lo hi, 0 ≤ lo → lo ≤ hi → (l.take (a + hi).toNat).drop (a + lo).toNat = (xs.take hi.toNat).drop lo.toNat := fun lo hi h0 h1 => by rw [exs]; exact mid_drop l a lo hi c2.1 h0 h1
    have hm0 : ∀ hi, 0 ≤ hi → (l.take (a + hi).toNat).drop a.toNat = xs.take hi.toNat := fun hi h0 => by have := hm 0 hi (by omega) h0; simpa using this
    by_cases c4 : 18 + n ≤ (xs.length : Int)
    · obtain ⟨d0, d1, d2, d3, hd⟩ := four ((xs.take (14 : Int).toNat).drop (10 : Int).toNat) (by rw [List.length_drop, List.length_take, show (14 : Int).toNat = 14 from rfl, show (10 : Int).toNat = 10 from rfl]; omega)
      obtain ⟨due, hdue⟩ : ∃ due, due = word4 true d0 d1 d2 d3 := ⟨_, rfl⟩
      obtain ⟨lh, hlh⟩ : ∃ lh, lh = (xs.take (9 : Int).toNat).drop (1 : Int).toNat := ⟨_, rfl⟩
      have hlh8 : lh.length = 8 := by rw [hlh, List.length_drop, List.length_take, show (9 : Int).toNat = 9 from rfl, show (1 : Int).toNat = 1 from rfl]; omega
      obtain ⟨lb, hlb⟩ : ∃ lb, lb = (xs.take (16 + n).toNat).drop (16 : Int).toNat := ⟨_, rfl⟩
      have hlbn : lb.length = n.toNat := by rw [hlb, List.length_drop, List.length_take, show (16 : Int).toNat = 16 from rfl]; omega
      have hlbb : ∀ x ∈ lb, 0 ≤ x ∧ x < 256 := fun x hx => hxb x (mem_cut (by rw [hlb] at hx; exact hx))
      obtain ⟨rt, hrt⟩ : ∃ rt : ByteArray, rt = if rd xs 0 = 3 then ⟨#[]⟩ else strOfNums (hexL lh) := ⟨_, rfl⟩
      have hrs : rt.size ≤ 16 := by
        rw [hrt]
        split
        · exact Nat.zero_le _
        · rw [hex_size, hlh8]; omega
      obtain ⟨bb, hbl, hbb⟩ := lineBytes (rd xs 0) rt (rd xs 9) due lb (by omega) (by omega)
      have eD : Ev (fun k => spec_Words.f k ((xs.take (14 : Int).toNat).drop (10 : Int).toNat) true) [due] := by
        rw [hd, hdue]
        exact evOf 4 fun k hk => specWords [d0, d1, d2, d3] true (by simp) k (by simpa using hk)
      have eW : impl_wordOf.f ((xs.take (14 : Int).toNat).drop (10 : Int).toNat) true = some due := by rw [hd, hdue]; exact wordOf4 true d0 d1 d2 d3
      have hlhb : ∀ x ∈ lh, 0 ≤ x ∧ x < 256 := fun x hx => hxb x (mem_cut (by rw [hlh] at hx; exact hx))
      have eHs : Ev (fun k => spec_Hex.f k lh) (strOfNums (hexL lh)) := evOf lh.length fun k hk => specHex lh hlhb (by omega) k hk
      have eHi : Ev (fun k => impl_Hex.f k lh) (strOfNums (hexL lh)) := evOf lh.length fun k hk => implHex lh hlhb (by omega) k hk
      have eBs : Ev (fun k => spec_LineBytes.f k (rd xs 0) rt (rd xs 9) due lb) bb := evOf (rt.size + 50) fun k hk => (hbb k hk).1
      have eBi : Ev (fun k => impl_LineBytes.f k (rd xs 0) rt (rd xs 9) due lb) bb := evOf (rt.size + 50) fun k hk => (hbb k hk).2
      have eC : slices_Clone_byte_byte.f lb = some lb := by unfold slices_Clone_byte_byte.f; rw [if_pos (by omega)]
      obtain ⟨s, hs⟩ : ∃ s, s = sameL bb (xs.take (16 + n + 2).toNat) := ⟨_, rfl⟩
      have e18 : a + 18 + n = a + (18 + n) := by omega
      have e16 : a + 16 + n = a + (16 + n) := by omega
      refine ⟨if s = true then (rd xs 0, rt, rd xs 9, due, lb, a + 18 + n, true) else (0, ⟨#[]⟩, 0, 0, [], 0, false), ?_, ?_, ?_⟩
      · unfold spec_LineOf.f
        rw [hr 9 (by omega), hr 14 (by omega), hr 15 (by omega), hr0, ← hn]
        refine evPos hlm (evPos c2 (evPos hc3 (evPos (by omega) ?_)))
        rw [hm 10 14 (by omega) (by omega), hm 1 9 (by omega) (by omega), e16, hm 16 (16 + n) (by omega) (by omega), e18, hm0 (18 + n) (by omega), ← hlh, ← hlb]
        refine evBind eD (evPos (by simp) (evBind eHs ?_))
        have hrd : rd [due] 0 = due := rfl
        simp only [← hrt, hrd]
        refine evBind eBs ?_
        rw [show (18 + n).toNat = (16 + n + 2).toNat from by omega]
        simp only [specSame, ← hs, Option.bind_some]
        cases s
        · exact evNeg (by decide) (evConst _)
        · exact evPos rfl (evConst _)
      · unfold impl_LineOf.f
        refine evPos hlm ?_
        rw [hin]
        refine evPos c2 ?_
        rw [← exs]
        unfold impl_LineOf.g
        rw [← hn]
        refine evPos hc3 (evPos c4 ?_)
        rw [← hlh, ← hlb]
        refine evBind eHi ?_
        simp only [← hrt, eW, eC, Option.bind_some]
        refine evBind eBi ?_
        simp only [implSame, ← hs, Option.bind_some]
        rw [show a + (16 + n + 2) = a + 18 + n from by omega]
        cases s
        · exact evNeg (by decide) (evConst _)
        · exact evPos rfl (evConst _)
      · cases s with
        | false => exact .inl rfl
        | true =>
          refine .inr ⟨rfl, c2.1, ?_, ?_, hrs, ?_, hlbb, bb, eBs, eBi, ?_⟩
          · show a + 18 ≤ a + 18 + n; omega
          · show a + 18 + n ≤ _; omega
          · show lb.length ≤ _; omega
          · show sameL bb ((l.drop a.toNat).take (a + 18 + n - a).toNat) = true
            rw [show (a + 18 + n - a).toNat = (16 + n + 2).toNat from by omega, ← exs]
            exact hs.symm
    · refine ⟨(0, ⟨#[]⟩, 0, 0, [], 0, false), ?_, ?_, .inl rfl⟩
      · unfold spec_LineOf.f
        rw [hr 9 (by omega), hr 14 (by omega), hr 15 (by omega), hr0, ← hn]
        exact evPos hlm (evPos c2 (evPos hc3 (evNeg (by omega) (evConst _))))
      · unfold impl_LineOf.f
        refine evPos hlm ?_
        rw [hin]
        refine evPos c2 ?_
        rw [← exs]
        unfold impl_LineOf.g
        rw [← hn]
        exact evPos hc3 (evNeg c4 (evConst _))
  · have hin : impl_in.f a 0 ((l.length : Int) - 16 - 2) = some false := by
      unfold impl_in.f
      by_cases h : a ≥ 0
      · rw [if_pos h, decide_eq_false (by omega)]
      · rw [if_neg h]
    refine ⟨(0, ⟨#[]⟩, 0, 0, [], 0, false), ?_, ?_, .inl rfl⟩
    · unfold spec_LineOf.f
      exact evPos hlm (evNeg c2 (evConst _))
    · unfold impl_LineOf.f
      refine evPos hlm ?_
      rw [hin]
      exact evConst _
end Go.Proofs.Ytlalkldjpniakaa.B
