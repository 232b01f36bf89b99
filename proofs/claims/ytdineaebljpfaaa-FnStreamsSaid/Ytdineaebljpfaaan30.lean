import Derived.Test.Ytdineaebljpfaaan15
import Derived.Test.Ytdineaebljpfaaan29
namespace Go.Proofs.Ytdineaebljpfaaa.P
open Go.RowKit Go.Proofs.YtdineaebljpfaaaW.PrintWords Go.Proofs.YtdineaebljpfaaaW.PrintLast Go.Proofs.YtdineaebljpfaaaW.PrintMore
attribute [local go_sem] zcu zcv zdf zdg zci zcj zcw zcx   -- for this text's walks alone
set_option linter.unusedVariables false
set_option linter.unusedSimpArgs false

def spec_Stream.l0 : Nat → List Int → Int → List Int → List Int → List Int → Int → Option (List Int)
 | 0, _, _, _, _, _, _ => none
 | k + 1, x0, x1, x2, x3, x9, x10 => if x10 < (x3.length : Int) then ((spec_Block.f k x0 x1 x2).bind fun t535 => (if (t535.length : Int) = 0 then (some (([] : List Int))) else (if 0 ≤ x10 then (if x10 ≤ (x3.length : Int) then ((spec_Xor.f k t535 (x3.drop (x10 : Int).toNat)).bind fun t542 => (if x9.length + t542.length < 140737488355328 then (spec_Stream.l0 k x0 (wrap64 (x1 + 1)) x2 x3 (x9 ++ t542) (wrap64 (x10 + 64))) else (none))) else (none)) else (none)))) else (some x9)
def spec_Stream.f (k : Nat) (l0 : List Int) (a1 : Int) (l2 : List Int) (l3 : List Int) : Option (List Int) := (some (([] : List Int) : List Int)).bind fun y532 => (if (l3.length : Int) > 4000 then (some y532) else (spec_Stream.l0 k l0 a1 l2 l3 y532 0))
theorem spec_Stream.mono_l : ∀ k, (∀ y0 y1 y2 y3 y4 y5, LeO (spec_Stream.l0 k y0 y1 y2 y3 y4 y5) (spec_Stream.l0 (k + 1) y0 y1 y2 y3 y4 y5))
 | 0 => fun _ _ _ _ _ _ r h => by simp [spec_Stream.l0] at h
 | k + 1 => by
  have ih0 := spec_Stream.mono_l k
  ·intro y0 y1 y2 y3 y4 y5
   unfold spec_Stream.l0
   repeat' first
   | (with_reducible exact ih0 _ _ _ _ _ _)
   | (with_reducible exact spec_Block.mono _ _ _ _)
   | (with_reducible exact spec_Xor.mono _ _ _)
   | (with_reducible exact zcc _)
   | (with_reducible exact zcg _)
   | (with_reducible refine zcr ?_ ?_)
   | (with_reducible refine zcd ?_ (fun _ => ?_))
   | exact ih0 _ _ _ _ _ _
theorem spec_Stream.mono : ∀ a0 a1 a2 a3 k, LeO (spec_Stream.f k a0 a1 a2 a3) (spec_Stream.f (k + 1) a0 a1 a2 a3) := by
 intro a0 a1 a2 a3 k
 have ih0 := spec_Stream.mono_l k
 unfold spec_Stream.f
 repeat' first
   | (with_reducible exact ih0 _ _ _ _ _ _)
   | (with_reducible exact spec_Block.mono _ _ _ _)
   | (with_reducible exact spec_Xor.mono _ _ _)
   | (with_reducible exact zcc _)
   | (with_reducible exact zcg _)
   | (with_reducible refine zcr ?_ ?_)
   | (with_reducible refine zcd ?_ (fun _ => ?_))
   | exact ih0 _ _ _ _ _ _
set_option maxHeartbeats 8000000 in
set_option maxRecDepth 100000 in
theorem spec_Stream.calls (k : Nat) (A0 : Option Addr) (c0 : Nat) (l0 : List Int) (a1 : Int) (A2 : Option Addr) (c2 : Nat) (l2 : List Int) (A3 : Option Addr) (c3 : Nat) (l3 : List Int) (r : List Int) (w : World) (hr0 : Kd.C (Kd.int .u8) w A0 l0.length l0) (hc0 : l0.length ≤ c0) (hr2 : Kd.C (Kd.int .u8) w A2 l2.length l2) (hc2 : l2.length ≤ c2) (hr3 : Kd.C (Kd.int .u8) w A3 l3.length l3) (hc3 : l3.length ≤ c3) (h : spec_Stream.f k l0 a1 l2 l3 = some r) :
  Calls Try.prog 26 #[.slice A0 l0.length c0, .int .i64 a1, .slice A2 l2.length c2, .slice A3 l3.length c3] w fun e w' => ∃ v0_ : Value, e = .returned (v0_) ∧ Kd.R (Kd.int .u8) 5 w' w.heap.size (fun _ => True) v0_ r ∧ Below w.heap.size w w' := by
 have HR0 := Aside0.mk hr0
 have HC0 := Aside0.mk hc0
 clear hr0 hc0
 have HR2 := Aside0.mk hr2
 have HC2 := Aside0.mk hc2
 clear hr2 hc2
 have HR3 := Aside0.mk hr3
 have HC3 := Aside0.mk hc3
 clear hr3 hc3
 have HB := Aside0.mk (zbx w.heap.size w)
 have H : ((some (([] : List Int) : List Int)).bind fun y532 => (if (l3.length : Int) > 4000 then (some y532) else (spec_Stream.l0 k l0 a1 l2 l3 y532 0))) = some r := h
 clear h
 obtain ⟨y532, hy532⟩ : ∃ y_ : List Int, y_ = (([] : List Int)) := ⟨_, rfl⟩
 replace H : (if (l3.length : Int) > 4000 then (some y532) else (spec_Stream.l0 k l0 a1 l2 l3 y532 0)) = some r := by first | (rw [hy532]; with_reducible first | exact H | exact bind_ofs H) | (with_reducible first | exact H | exact bind_ofs H) | (rw [hy532]; exact H) | exact H
 have Ny532 := Aside0.mk hy532
 clear hy532
 by_cases c5 : (l3.length : Int) > 4000
 ·rw [if_pos c5] at H
  have c5b0 : decide (4000 < (l3.length : Int)) = true := zax c5
  have c5b1 : decide (4000 < l3.length) = true := zax (by omega)
  clear c5
  obtain rfl := Option.some.inj H
  go_enter Try.func26, Try.ntmps26
  go_wp2_with (first | ((with_reducible refine zds (N := 12) rfl ?_); refine zec (Kd.int .u8) _ 5 ?hg (N := 12) ?hd (xs := ([] : List Int)) (inner := []) (ok := fun _ => True) (okp := fun _ => True) ?hr ?hp (fun _ hk => hk) trivial (zbx _ _) (zbp _) (by simp) ?_; (case hd => rfl); (case hg => rfl); (case hr => first | (go_simp; done) | (go_simp; rfl)); (case hp => exact (zdp _ _)); intro v533 w6 ho7 hb hg_ hnew_; have xb_ := below_ofs (by repeat (first | (with_reducible first | exact HB.out | apply zaj | apply zad | apply zai) | exact HB.out)) hb; clear hg_ hnew_; (first | rw [← Ny532.out] at ho7 | (simp only [Int.reduceToNat] at ho7; rw [← Ny532.out] at ho7)); have n0_ := Aside0.mk (zbc ho7 (zba xb_)); have n1_ := Aside0.mk (zbb xb_ hb); clear HB; have HO534 := n0_; have HB := n1_; clear n0_ n1_; clear xb_ hb ho7))
  go_ret
  exact ⟨_, by first | rfl | (simp [zbj, zbk] <;> rfl) | (simp [*, zbj, zbk] <;> rfl), by (with_reducible repeat (first | apply zab | apply zac | apply zae)); exact HO534.out, by repeat (first | (with_reducible first | exact HB.out | apply zaj | apply zad | apply zai) | exact HB.out)⟩
 ·rw [if_neg c5] at H
  have c5b0 : decide (4000 < (l3.length : Int)) = false := zbq c5
  have c5b1 : decide (4000 < l3.length) = false := zbq (by omega)
  clear c5
  have H' := Aside0.mk H
  clear H
  go_enter Try.func26, Try.ntmps26
  go_wp2_with (first | ((with_reducible refine zds (N := 12) rfl ?_); refine zec (Kd.int .u8) _ 5 ?hg (N := 12) ?hd (xs := ([] : List Int)) (inner := []) (ok := fun _ => True) (okp := fun _ => True) ?hr ?hp (fun _ hk => hk) trivial (zbx _ _) (zbp _) (by simp) ?_; (case hd => rfl); (case hg => rfl); (case hr => first | (go_simp; done) | (go_simp; rfl)); (case hp => exact (zdp _ _)); intro v533 w8 ho9 hb hg_ hnew_; have xb_ := below_ofs (by repeat (first | (with_reducible first | exact HB.out | apply zaj | apply zad | apply zai) | exact HB.out)) hb; clear hg_ hnew_; (first | rw [← Ny532.out] at ho9 | (simp only [Int.reduceToNat] at ho9; rw [← Ny532.out] at ho9)); have n0_ := Aside0.mk (zbc ho9 (zba xb_)); have n1_ := Aside0.mk (zbb xb_ hb); clear HB; have HO534 := n0_; have HB := n1_; clear n0_ n1_; clear xb_ hb ho9))
  go_loopg [1, 9, 10] k (fun kq v1 v9 v10 w' => ∃ (x1_1 : Int) (x9_1 : List Int) (x10_1 : Int), v1 = .int .i64 x1_1 ∧ v10 = .int .i64 x10_1 ∧ Aside0 (spec_Stream.l0 kq l0 x1_1 l2 l3 x9_1 x10_1 = some r) ∧ Aside0 (kq ≤ k) ∧ Aside0 (Kd.R (Kd.int .u8) 5 w' w.heap.size (fun _ => True) v9 x9_1) ∧ Aside0 (Below w.heap.size w w'))
  case atStart => exact ⟨(a1), (y532), (0), (by first | rfl | (simp; done) | (simp [*]; done)), (by first | rfl | (simp; done) | (simp [*]; done)), H', ⟨zbp _⟩, ⟨by (with_reducible repeat (first | apply zab | apply zac | apply zae)); exact HO534.out⟩, ⟨by repeat (first | (with_reducible first | exact HB.out | apply zaj | apply zad | apply zai) | exact HB.out)⟩⟩
  case round =>
   clear H'
   try clear c2
   try clear p2
   try clear c3
   try clear c5
   try clear c5b0
   try clear c5b1
   obtain ⟨x1_1, x9_1, x10_1, rfl, rfl, HA, HK1, HO_9, HB⟩ := hrel
   cases gk with
   | zero => exact absurd HA.out (by simp [spec_Stream.l0])
   | succ k1 =>
    have H := HA.out
    clear HA
    simp only [spec_Stream.l0] at H
    by_cases c10 : x10_1 < (l3.length : Int)
    ·rw [if_pos c10] at H
     have c10b0 : decide (x10_1 < (l3.length : Int)) = true := zax c10
     clear c10
     replace H := zam.mp H
     obtain ⟨t535, A110, H⟩ := H
     try dsimp only at H
     have A11 := Aside0.mk A110
     clear A110
     by_cases c12 : (t535.length : Int) = 0
     ·rw [if_pos c12] at H
      have c12b0 : ((t535.length : Int) == 0) = true := zdn.mpr c12
      have c12b1 : ((t535.length : Int) != 0) = false := zbv.mpr c12
      clear c12
      obtain ⟨y538, hy538⟩ : ∃ y_ : List Int, y_ = (([] : List Int)) := ⟨_, rfl⟩
      replace H : (some y538) = some r := by first | (rw [hy538]; with_reducible first | exact H | exact bind_ofs H) | (with_reducible first | exact H | exact bind_ofs H) | (rw [hy538]; exact H) | exact H
      have Ny538 := Aside0.mk hy538
      clear hy538
      obtain rfl := Option.some.inj H
      go_wp2_with (first | ((with_reducible refine zau (f := 23) rfl ?_); refine goesL_ (some 26) rfl rfl Try.func23 (by kernel_rfl) rfl #[.slice A0 l0.length c0, .int .i64 x1_1, .slice A2 l2.length c2] rfl (by (try simp only [zal, zaq, zar]); first | done | rfl) ?_; (with_reducible refine (spec_Block.calls k1 _ _ l0 x1_1 _ _ l2 t535 _ ?side1 ?side2 ?side3 ?side4 A11.out).mono ?_); (case side1 => repeat (first | exact (zbr HR0.out HB.out) | (with_reducible first | apply zas | apply zat | apply zaw))); (case side2 => exact HC0.out); (case side3 => repeat (first | exact (zbr HR2.out HB.out) | (with_reducible first | apply zas | apply zat | apply zaw))); (case side4 => exact HC2.out); rintro e w13 ⟨v536, rfl, ho0, hb⟩; refine ⟨_, rfl, ?_⟩; have xb_ := below_ofs (by repeat (first | (with_reducible first | exact HB.out | apply zaj | apply zad | apply zai) | exact HB.out)) hb; have qHO_9 := Kd.R_ofs (by (with_reducible repeat (first | apply zab | apply zac | apply zae)); exact HO_9.out) hb; have n0_ := Aside0.mk (zak qHO_9 (zan ho0) hb); have n1_ := Aside0.mk (zbc (zao ho0 (zav qHO_9)) (zba xb_)); have n2_ := Aside0.mk (zbb xb_ hb); clear qHO_9 HO_9; clear HB; have HO_9 := n0_; have HO537 := n1_; have HB := n2_; clear n0_ n1_ n2_; clear xb_ hb ho0; obtain ⟨Ao14, co14, eo14⟩ := zbe HO537.out; subst eo14) | ((with_reducible refine zds (N := 30) rfl ?_); refine zec (Kd.int .u8) _ 5 ?hg (N := 30) ?hd (xs := ([] : List Int)) (inner := []) (ok := fun _ => True) (okp := fun _ => True) ?hr ?hp (fun _ hk => hk) trivial (zbx _ _) (zbp _) (by simp) ?_; (case hd => rfl); (case hg => rfl); (case hr => first | (go_simp; done) | (go_simp; rfl)); (case hp => exact (zdp _ _)); intro v539 w15 ho16 hb hg_ hnew_; have xb_ := below_ofs (by repeat (first | (with_reducible first | exact HB.out | apply zaj | apply zad | apply zai) | exact HB.out)) hb; clear hg_ hnew_; (first | rw [← Ny538.out] at ho16 | (simp only [Int.reduceToNat] at ho16; rw [← Ny538.out] at ho16)); have qHO_9 := Kd.R_ofs (by (with_reducible repeat (first | apply zab | apply zac | apply zae)); exact HO_9.out) hb; have n0_ := Aside0.mk (zak qHO_9 (zan ho16) hb); have qHO537 := Kd.R_ofs (by (with_reducible repeat (first | apply zab | apply zac | apply zae)); exact HO537.out) hb; have n1_ := Aside0.mk (zak qHO537 (zan ho16) hb); have n2_ := Aside0.mk (zbc (zao (zao ho16 (zav qHO_9)) (zav qHO537)) (zba xb_)); have n3_ := Aside0.mk (zbb xb_ hb); clear qHO537 HO_9; clear qHO_9 HO537; clear HB; have HO_9 := n0_; have HO537 := n1_; have HO540 := n2_; have HB := n3_; clear n0_ n1_ n2_ n3_; clear xb_ hb ho16))
      go_ret
      exact ⟨_, by first | rfl | (simp [zbj, zbk] <;> rfl) | (simp [*, zbj, zbk] <;> rfl), by (with_reducible repeat (first | apply zab | apply zac | apply zae)); exact zbm HO540.out (fun _ hk => trivial), by repeat (first | (with_reducible first | exact HB.out | apply zaj | apply zad | apply zai) | exact HB.out)⟩
     ·rw [if_neg c12] at H
      have c12b0 : ((t535.length : Int) == 0) = false := zbz.mpr c12
      have c12b1 : ((t535.length : Int) != 0) = true := zdh.mpr c12
      have c12b2 : ¬ (t535 = []) := fun h_ => c12 (by rw [h_]; rfl)
      by_cases c17 : 0 ≤ x10_1
      ·rw [if_pos c17] at H
       have c17b0 := zbn c17
       have c17b1 : decide (0 ≤ x10_1) = true := zax c17
       clear c17
       by_cases c18 : x10_1 ≤ (l3.length : Int)
       ·rw [if_pos c18] at H
        have c18b0 := zbn c18
        have c18b1 : decide (x10_1 ≤ (l3.length : Int)) = true := zax c18
        clear c18
        replace H := zam.mp H
        obtain ⟨t542, A190, H⟩ := H
        try dsimp only at H
        have A19 := Aside0.mk A190
        clear A190
        by_cases c20 : x9_1.length + t542.length < 140737488355328
        ·rw [if_pos c20] at H
         have LMc20 := Aside0.mk c20
         clear c20
         obtain ⟨y545, hy545⟩ : ∃ y_ : List Int, y_ = (x9_1 ++ t542) := ⟨_, rfl⟩
         replace H : (spec_Stream.l0 k1 l0 (wrap64 (x1_1 + 1)) l2 l3 y545 (wrap64 (x10_1 + 64))) = some r := by first | (rw [hy545]; with_reducible first | exact H | exact bind_ofs H) | (with_reducible first | exact H | exact bind_ofs H) | (rw [hy545]; exact H) | exact H
         have Ny545 := Aside0.mk hy545
         clear hy545
         have H' := Aside0.mk H
         clear H
         go_wp2_with (first | ((with_reducible refine zau (f := 23) rfl ?_); refine goesL_ (some 26) rfl rfl Try.func23 (by kernel_rfl) rfl #[.slice A0 l0.length c0, .int .i64 x1_1, .slice A2 l2.length c2] rfl (by (try simp only [zal, zaq, zar]); first | done | rfl) ?_; (with_reducible refine (spec_Block.calls k1 _ _ l0 x1_1 _ _ l2 t535 _ ?side1 ?side2 ?side3 ?side4 A11.out).mono ?_); (case side1 => repeat (first | exact (zbr HR0.out HB.out) | (with_reducible first | apply zas | apply zat | apply zaw))); (case side2 => exact HC0.out); (case side3 => repeat (first | exact (zbr HR2.out HB.out) | (with_reducible first | apply zas | apply zat | apply zaw))); (case side4 => exact HC2.out); rintro e w21 ⟨v536, rfl, ho0, hb⟩; refine ⟨_, rfl, ?_⟩; have xb_ := below_ofs (by repeat (first | (with_reducible first | exact HB.out | apply zaj | apply zad | apply zai) | exact HB.out)) hb; have qHO_9 := Kd.R_ofs (by (with_reducible repeat (first | apply zab | apply zac | apply zae)); exact HO_9.out) hb; have n0_ := Aside0.mk (zak qHO_9 (zan ho0) hb); have n1_ := Aside0.mk (zbc (zao ho0 (zav qHO_9)) (zba xb_)); have n2_ := Aside0.mk (zbb xb_ hb); clear qHO_9 HO_9; clear HB; have HO_9 := n0_; have HO537 := n1_; have HB := n2_; clear n0_ n1_ n2_; clear xb_ hb ho0; obtain ⟨Ao22, co22, eo22⟩ := zbe HO537.out; subst eo22; obtain ⟨i023, hi023, _, hsz23, _⟩ := info_parts info5; obtain ⟨A23, hcut23, hA23, hC23⟩ := print_drop_of (P := Try.prog) (Value.int .u8) 0 22 5 .i64 Try.underlying22 hi023 hsz23 A3 c3 l3 x10_1 (zap (by first | (with_reducible assumption) | assumption)) (zap (by first | (with_reducible assumption) | assumption)) HC3.out; have HR541 := Aside0.mk (zem (h1 := fun _ => rfl) (hA23 _ (Kd.reads_of_C HR3.out))); have HC541 := Aside0.mk hC23; clear hA23 hC23 hi023 hsz23) | ((with_reducible refine zau (f := 51) rfl ?_); refine goesL_ (some 36) rfl rfl Try.func51 (by kernel_rfl) rfl #[.slice Ao22 t535.length co22, .slice A23 (l3.drop (x10_1 : Int).toNat).length (c3 - x10_1.toNat)] rfl (by (try simp only [zal, zaq, zar]); first | done | (rw [show (l3.drop (x10_1 : Int).toNat).length = (l3.length - x10_1.toNat) from zbl] <;> rfl) | rfl | (simp only [zbl, zbi]; rfl)) ?_; (with_reducible refine (spec_Xor.calls k1 _ _ t535 _ _ (l3.drop (x10_1 : Int).toNat) t542 _ ?side1 ?side2 ?side3 ?side4 A19.out).mono ?_); (case side1 => repeat (first | exact (zaf HO537.out).2.2 | (with_reducible first | apply zas | apply zat | apply zaw))); (case side2 => exact (zaf HO537.out).2.1); (case side3 => repeat (first | exact (zbr HR541.out HB.out) | (with_reducible first | apply zas | apply zat | apply zaw))); (case side4 => exact HC541.out); rintro e w24 ⟨v543, rfl, ho0, hb⟩; refine ⟨_, rfl, ?_⟩; have xb_ := below_ofs (by repeat (first | (with_reducible first | exact HB.out | apply zaj | apply zad | apply zai) | exact HB.out)) hb; have qHO_9 := Kd.R_ofs (by (with_reducible repeat (first | apply zab | apply zac | apply zae)); exact HO_9.out) hb; have n0_ := Aside0.mk (zak qHO_9 (zan ho0) hb); have qHO537 := Kd.R_ofs (by (with_reducible repeat (first | apply zab | apply zac | apply zae)); exact HO537.out) hb; have n1_ := Aside0.mk (zak qHO537 (zan ho0) hb); have n2_ := Aside0.mk (zbc (zao (zao ho0 (zav qHO_9)) (zav qHO537)) (zba xb_)); have n3_ := Aside0.mk (zbb xb_ hb); clear qHO537 HO_9; clear qHO_9 HO537; clear HB; have HO_9 := n0_; have HO537 := n1_; have HO544 := n2_; have HB := n3_; clear n0_ n1_ n2_ n3_; clear xb_ hb ho0; obtain ⟨Ao26, co26, eo26⟩ := zbe HO544.out; subst eo26) | ((with_reducible refine zdk (b := .append) (xs := #[.tmp 31, .tmp 36]) rfl ?_); at_builtin; refine zdv (Kd.int .u8) (w0 := w) w.heap.size rfl (.tmp 31) (.tmp 36) 22 5 (.int .u8 0) 1 rfl Try.underlying22 info5 rfl (by decide) (by omega) u9 x9_1 t542 _ _ _ (fun k_ => some k_ ≠ (.slice Ao22 t535.length co22 : Value).ownBlock ∧ some k_ ≠ (.slice Ao26 t542.length co26 : Value).ownBlock) (fun _ => False) rfl rfl ?aO ?aR (fun _ _ h => h) (fun _ h => h.elim) ?aF ?aB ?aS ?aL ?_; (case aR => repeat (first | exact (zaf HO544.out).2.2 | (with_reducible first | apply zas | apply zat | apply zaw))); (case aB => exact (by repeat (first | (with_reducible first | exact HB.out | apply zaj | apply zad | apply zai) | exact HB.out))); (case aF => exact (fun k_ hk => ⟨zel (zav (by (with_reducible repeat (first | apply zab | apply zac | apply zae)); exact HO537.out)) k_ hk, zel (zav (by (with_reducible repeat (first | apply zab | apply zac | apply zae)); exact HO544.out)) k_ hk⟩)); (case aO => exact (by (with_reducible repeat (first | apply zab | apply zac | apply zae)); exact zbm HO_9.out (fun _ hk => ⟨hk.1.2, hk.2⟩))); (case aS => exact (zba (by repeat (first | (with_reducible first | exact HB.out | apply zaj | apply zad | apply zai) | exact HB.out)))); (case aL => have := LMc20.out; omega); intro v546 w25 ho hb hg hat; rw [← Ny545.out] at ho; have n0_ := Aside0.mk (zdw (ok := (fun k_ => some k_ ≠ (.slice Ao26 t542.length co26 : Value).ownBlock)) (by (with_reducible repeat (first | apply zab | apply zac | apply zae)); exact zbm HO537.out (fun _ hk => ⟨hk.2, hk.1.2⟩)) hg hat); have n1_ := Aside0.mk (zdw (ok := (fun k_ => some k_ ≠ (.slice Ao22 t535.length co22 : Value).ownBlock)) (by (with_reducible repeat (first | apply zab | apply zac | apply zae)); exact zbm HO544.out (fun _ hk => ⟨hk.2, hk.1.2⟩)) hg hat); have n2_ := Aside0.mk (hb); have n3_ := Aside0.mk (ho); clear HO537 HO544 HB HO_9; have HO537 := n0_; have HO544 := n1_; have HB := n2_; have HO547 := n3_; clear n0_ n1_ n2_ n3_; clear ho hb hg hat))
         go_roundg k1
         case measure => have := HK1.out; omega
         case rel => exact ⟨(wrap64 (x1_1 + 1)), (y545), (wrap64 (x10_1 + 64)), (by first | rfl | (simp; done) | (simp [*]; done)), (by first | rfl | (simp; done) | (simp [*]; done)), H', ⟨by have := HK1.out; omega⟩, ⟨by (with_reducible repeat (first | apply zab | apply zac | apply zae)); exact zbm HO547.out (fun _ hk => trivial)⟩, ⟨by repeat (first | (with_reducible first | exact HB.out | apply zaj | apply zad | apply zai) | exact HB.out)⟩⟩
        ·rw [if_neg c20] at H
         exact absurd H (by simp)
       ·rw [if_neg c18] at H
        exact absurd H (by simp)
      ·rw [if_neg c17] at H
       exact absurd H (by simp)
    ·rw [if_neg c10] at H
     have c10b0 : decide (x10_1 < (l3.length : Int)) = false := zbq c10
     clear c10
     obtain rfl := Option.some.inj H
     go_wp2
     go_ret
     exact ⟨_, by first | rfl | (simp [zbj, zbk] <;> rfl) | (simp [*, zbj, zbk] <;> rfl), by (with_reducible repeat (first | apply zab | apply zac | apply zae)); exact HO_9.out, by repeat (first | (with_reducible first | exact HB.out | apply zaj | apply zad | apply zai) | exact HB.out)⟩
end Go.Proofs.Ytdineaebljpfaaa.P
