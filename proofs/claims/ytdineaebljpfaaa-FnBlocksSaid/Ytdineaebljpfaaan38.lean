import Derived.Test.Ytdineaebljpfaaan37
namespace Go.Proofs.Ytdineaebljpfaaa.P
open Go.RowKit Go.Proofs.YtdineaebljpfaaaW.PrintWords Go.Proofs.YtdineaebljpfaaaW.PrintLast Go.Proofs.YtdineaebljpfaaaW.PrintMore
attribute [local go_sem] zcu zcv zdf zdg zci zcj zcw zcx   -- for this text's walks alone
set_option linter.unusedVariables false
set_option linter.unusedSimpArgs false

def spec_DrawQuarter.l0 : Nat → List Int → Int → List Int → Int → Int → Option (List Int × Int × Int × Int × Int)
 | 0, _, _, _, _, _ => none
 | k + 1, x8, x9, x704000, x704001, x704002 => (spec_l1Below.f x704000 x704001 x704002 20).bind fun bt707 => (if x9 < (wrap64 (16 - (wrap64 (Int.tdiv bt707.1 19)))) then ((spec_l2DrawNum.f x704000 bt707.2.1 bt707.2.2).bind fun bt710 => (if x8.length < 17592186044416 then (spec_DrawQuarter.l0 k (x8 ++ [bt710.1]) (wrap64 (x9 + 1)) x704000 bt710.2.1 bt710.2.2) else (none))) else ((spec_l1Below.f x704000 bt707.2.1 bt707.2.2 18).bind fun bt716 => ((spec_l1Below.f x704000 bt716.2.1 bt716.2.2 16).bind fun bt719 => ((spec_l1Below.f x704000 bt719.2.1 bt719.2.2 8).bind fun bt722 => ((spec_l1Below.f x704000 bt722.2.1 bt722.2.2 7).bind fun bt725 => (some (x8, wrap64 (bt716.1 - 1), bt719.1, Int.tmod (wrap64 ((wrap64 (bt719.1 + 1)) + bt722.1)) 16, Int.tmod (wrap64 ((wrap64 (bt719.1 + 9)) + bt725.1)) 16)))))))
def spec_DrawQuarter.f (k : Nat) (l0 : List Int) : Option (List Int × Int × Int × Int × Int) := (spec_l1New.f k l0).bind fun bt700 => (spec_DrawQuarter.l0 k (([] : List Int)) 0 bt700.1 bt700.2.1 bt700.2.2)
theorem spec_DrawQuarter.mono_l : ∀ k, (∀ y0 y1 y2 y3 y4, LeO (spec_DrawQuarter.l0 k y0 y1 y2 y3 y4) (spec_DrawQuarter.l0 (k + 1) y0 y1 y2 y3 y4))
 | 0 => fun _ _ _ _ _ r h => by simp [spec_DrawQuarter.l0] at h
 | k + 1 => by
  have ih0 := spec_DrawQuarter.mono_l k
  ·intro y0 y1 y2 y3 y4
   unfold spec_DrawQuarter.l0
   repeat' first
   | (with_reducible exact ih0 _ _ _ _ _)
   | (with_reducible exact spec_l1New.mono _ _)
   | (with_reducible exact zcc _)
   | (with_reducible exact zcg _)
   | (with_reducible refine zcr ?_ ?_)
   | (with_reducible refine zcd ?_ (fun _ => ?_))
   | exact ih0 _ _ _ _ _
theorem spec_DrawQuarter.mono : ∀ a0 k, LeO (spec_DrawQuarter.f k a0) (spec_DrawQuarter.f (k + 1) a0) := by
 intro a0 k
 have ih0 := spec_DrawQuarter.mono_l k
 unfold spec_DrawQuarter.f
 repeat' first
   | (with_reducible exact ih0 _ _ _ _ _)
   | (with_reducible exact spec_l1New.mono _ _)
   | (with_reducible exact zcc _)
   | (with_reducible exact zcg _)
   | (with_reducible refine zcr ?_ ?_)
   | (with_reducible refine zcd ?_ (fun _ => ?_))
   | exact ih0 _ _ _ _ _
set_option maxHeartbeats 8000000 in
set_option maxRecDepth 100000 in
theorem spec_DrawQuarter.calls (k : Nat) (A0 : Option Addr) (c0 : Nat) (l0 : List Int) (r1 : List Int) (r2 : Int) (r3 : Int) (r4 : Int) (r5 : Int) (w : World) (hr0 : Kd.C (Kd.int .u8) w A0 l0.length l0) (hc0 : l0.length ≤ c0) (h : spec_DrawQuarter.f k l0 = some (r1, r2, r3, r4, r5)) :
  Calls Try.prog 30 #[.slice A0 l0.length c0] w fun e w' => ∃ v0_ : Value, e = .returned (.tuple #[v0_, .int .i64 r2, .int .i64 r3, .int .i64 r4, .int .i64 r5]) ∧ Kd.R (Kd.int .i64) 3 w' w.heap.size (fun _ => True) v0_ r1 ∧ Below w.heap.size w w' := by
 have HR0 := Aside0.mk hr0
 have HC0 := Aside0.mk hc0
 clear hr0 hc0
 have HB := Aside0.mk (zbx w.heap.size w)
 have H : ((spec_l1New.f k l0).bind fun bt700 => (spec_DrawQuarter.l0 k (([] : List Int)) 0 bt700.1 bt700.2.1 bt700.2.2)) = some (r1, r2, r3, r4, r5) := h
 clear h
 replace H := zam.mp H
 obtain ⟨⟨t700, t701, t702⟩, A20, H⟩ := H
 try dsimp only at H
 have A2 := Aside0.mk A20
 clear A20
 obtain ⟨y704, hy704⟩ : ∃ y_ : List Int, y_ = (([] : List Int)) := ⟨_, rfl⟩
 replace H : (spec_DrawQuarter.l0 k y704 0 t700 t701 t702) = some (r1, r2, r3, r4, r5) := by first | (rw [hy704]; with_reducible first | exact H | exact bind_ofs H) | (with_reducible first | exact H | exact bind_ofs H) | (rw [hy704]; exact H) | exact H
 have Ny704 := Aside0.mk hy704
 clear hy704
 have H' := Aside0.mk H
 clear H
 go_enter Try.func30, Try.ntmps30
 go_wp2_with (first | ((with_reducible refine zau (f := 53) rfl ?_); refine goesL_ (some 13) rfl rfl Try.func53 (by kernel_rfl) rfl #[.slice A0 l0.length c0] rfl (by (try simp only [zal, zaq, zar]); first | done | rfl) ?_; (with_reducible refine (spec_l1New.calls k _ _ l0 t700 t701 t702 w _ ?side1 ?side2 ?side3 A2.out).mono ?_); (case side1 => repeat (first | (with_reducible first | exact HB.out | apply zaj | apply zad | apply zai) | exact HB.out)); (case side2 => exact HR0.out); (case side3 => exact HC0.out); rintro e w3 ⟨g703, rfl, hi, hb, hb2⟩; refine ⟨_, rfl, ?_⟩; have n0_ := Aside0.mk (hb); have n1_ := Aside0.mk (hi); clear HB; have HB := n0_; have HI703 := n1_; clear n0_ n1_; (try clear hb); (try clear hb2); (try clear hk); (try clear hi)) | ((with_reducible refine zds (N := 14) rfl ?_); refine zec (Kd.int .i64) _ 3 ?hg (N := 14) ?hd (xs := ([] : List Int)) (inner := []) (ok := fun _ => True) (okp := fun _ => True) ?hr ?hp (fun _ hk => hk) trivial (zbx _ _) (zbp _) (by simp) ?_; (case hd => rfl); (case hg => rfl); (case hr => first | (go_simp; done) | (go_simp; rfl)); (case hp => exact (zdp _ _)); intro v705 w4 ho5 hb hg_ hnew_; clear hg_ hnew_; (first | rw [← Ny704.out] at ho5 | (simp only [Int.reduceToNat] at ho5; rw [← Ny704.out] at ho5)); have n0_ := Aside0.mk (zbc ho5 (zba (by repeat (first | (with_reducible first | exact HB.out | apply zaj | apply zad | apply zai | refine zbs ?_ (IsS74.ge HI703.out)) | exact HB.out)))); have n1_ := Aside0.mk (IsS74.below (by repeat (first | (with_reducible first | exact HI703.out | apply IsS74.alloc | apply IsS74.drewN | apply IsS74.drew | apply IsS74.set_1 | apply IsS74.set_2) | exact HI703.out)) hb); have n2_ := Aside0.mk (zbb (by repeat (first | (with_reducible first | exact HB.out | apply zaj | apply zad | apply zai | refine zbs ?_ (IsS74.ge HI703.out)) | exact HB.out)) hb); clear HI703 HB; have HO706 := n0_; have HI703 := n1_; have HB := n2_; clear n0_ n1_ n2_; clear hb ho5))
 go_loopg [8, 9] k (fun kq v8 v9 w' => ∃ (x8_1 : List Int) (x9_1 : Int) (x704001_1 : Int) (x704002_1 : Int), v9 = .int .i64 x9_1 ∧ Aside0 (spec_DrawQuarter.l0 kq x8_1 x9_1 t700 x704001_1 x704002_1 = some (r1, r2, r3, r4, r5)) ∧ Aside0 (kq ≤ k) ∧ Aside0 (Kd.R (Kd.int .i64) 3 w' w.heap.size (fun _ => True) v8 x8_1) ∧ Aside0 (IsS74 w w' g703 t700 x704001_1 x704002_1) ∧ Aside0 (Below w.heap.size w w'))
 case atStart => exact ⟨(y704), (0), (t701), (t702), (by first | rfl | (simp; done) | (simp [*]; done)), H', ⟨zbp _⟩, ⟨by (with_reducible repeat (first | apply zab | apply zac | apply zae)); exact HO706.out⟩, ⟨by repeat (first | (with_reducible first | exact HI703.out | apply IsS74.alloc | apply IsS74.drewN | apply IsS74.drew | apply IsS74.set_1 | apply IsS74.set_2) | exact HI703.out)⟩, ⟨by repeat (first | (with_reducible first | exact HB.out | apply zaj | apply zad | apply zai | refine zbs ?_ (IsS74.ge HI703.out)) | exact HB.out)⟩⟩
 case round =>
  clear H'
  try clear p2
  try clear c3
  try clear c5
  obtain ⟨x8_1, x9_1, x704001_1, x704002_1, rfl, HA, HK1, HO_8, HI703, HB⟩ := hrel
  cases gk with
  | zero => exact absurd HA.out (by simp [spec_DrawQuarter.l0])
  | succ k1 =>
   have H := HA.out
   clear HA
   simp only [spec_DrawQuarter.l0] at H
   replace H := zam.mp H
   obtain ⟨⟨t707, t708, t709⟩, A60, H⟩ := H
   try dsimp only at H
   have A6 := Aside0.mk A60
   clear A60
   by_cases c7 : x9_1 < (wrap64 (16 - (wrap64 (Int.tdiv t707 19))))
   ·rw [if_pos c7] at H
    have c7b0 : decide (x9_1 < (wrap64 (16 - (wrap64 (Int.tdiv t707 19))))) = true := zax c7
    clear c7
    replace H := zam.mp H
    obtain ⟨⟨t710, t711, t712⟩, A80, H⟩ := H
    try dsimp only at H
    have A8 := Aside0.mk A80
    clear A80
    by_cases c9 : x8_1.length < 17592186044416
    ·rw [if_pos c9] at H
     have LMc9 := Aside0.mk c9
     clear c9
     obtain ⟨y713, hy713⟩ : ∃ y_ : List Int, y_ = (x8_1 ++ [t710]) := ⟨_, rfl⟩
     replace H : (spec_DrawQuarter.l0 k1 y713 (wrap64 (x9_1 + 1)) t700 t711 t712) = some (r1, r2, r3, r4, r5) := by first | (rw [hy713]; with_reducible first | exact H | exact bind_ofs H) | (with_reducible first | exact H | exact bind_ofs H) | (rw [hy713]; exact H) | exact H
     have Ny713 := Aside0.mk hy713
     clear hy713
     have H' := Aside0.mk H
     clear H
     go_wp2_with (first | ((with_reducible refine zau (f := 56) rfl ?_); refine goesL_ (some 17) rfl rfl Try.func56 (by kernel_rfl) rfl #[.pointer (some ⟨g703, 0, none⟩), .int .i64 20] rfl (by (try simp only [zal, zaq, zar]); first | done | rfl) ?_; (with_reducible refine (spec_l1Below.calls g703 t700 x704001_1 x704002_1 20 t707 t708 t709 w _ ?side1 ?side2 A6.out).mono ?_); (case side1 => repeat (first | (with_reducible first | exact HI703.out | apply IsS74.alloc | apply IsS74.drewN | apply IsS74.drew | apply IsS74.set_1 | apply IsS74.set_2) | exact HI703.out)); (case side2 => repeat (first | (with_reducible first | exact HB.out | apply zaj | apply zad | apply zai | refine zbs ?_ (IsS74.ge HI703.out)) | exact HB.out)); rintro e w10 ⟨rfl, hi, hb, hk⟩; refine ⟨_, rfl, ?_⟩; have n0_ := Aside0.mk (zbm (zei (IsS74.apart (show IsS74 w _ g703 t700 x704001_1 x704002_1 from by repeat (first | (with_reducible first | exact HI703.out | apply IsS74.alloc | apply IsS74.drewN | apply IsS74.drew | apply IsS74.set_1 | apply IsS74.set_2) | exact HI703.out)) (by (with_reducible repeat (first | apply zab | apply zac | apply zae)); exact HO_8.out) (by decide)) hk (fun _ h => h.2)) (fun _ h => h.1)); have n1_ := Aside0.mk (hb); have n2_ := Aside0.mk (hi); clear HO_8 HB HI703; have HO_8 := n0_; have HB := n1_; have HI703 := n2_; clear n0_ n1_ n2_; (try clear hb); (try clear hb2); (try clear hk); (try clear hi)) | ((with_reducible refine zau (f := 57) rfl ?_); refine goesL_ (some 25) rfl rfl Try.func57 (by kernel_rfl) rfl #[.pointer (some ⟨g703, 0, none⟩)] rfl (by (try simp only [zal, zaq, zar]); first | done | rfl) ?_; (with_reducible refine (spec_l2DrawNum.calls g703 t700 t708 t709 t710 t711 t712 w _ ?side1 ?side2 A8.out).mono ?_); (case side1 => repeat (first | (with_reducible first | exact HI703.out | apply IsS74.alloc | apply IsS74.drewN | apply IsS74.drew | apply IsS74.set_1 | apply IsS74.set_2) | exact HI703.out)); (case side2 => repeat (first | (with_reducible first | exact HB.out | apply zaj | apply zad | apply zai | refine zbs ?_ (IsS74.ge HI703.out)) | exact HB.out)); rintro e w11 ⟨rfl, hi, hb, hk⟩; refine ⟨_, rfl, ?_⟩; have n0_ := Aside0.mk (zbm (zei (IsS74.apart (show IsS74 w _ g703 t700 t708 t709 from by repeat (first | (with_reducible first | exact HI703.out | apply IsS74.alloc | apply IsS74.drewN | apply IsS74.drew | apply IsS74.set_1 | apply IsS74.set_2) | exact HI703.out)) (by (with_reducible repeat (first | apply zab | apply zac | apply zae)); exact HO_8.out) (by decide)) hk (fun _ h => h.2)) (fun _ h => h.1)); have n1_ := Aside0.mk (hb); have n2_ := Aside0.mk (hi); clear HO_8 HB HI703; have HO_8 := n0_; have HB := n1_; have HI703 := n2_; clear n0_ n1_ n2_; (try clear hb); (try clear hb2); (try clear hk); (try clear hi)) | ((with_reducible refine zdk (b := .append) (xs := #[.tmp 23, .tmp 26]) rfl ?_); at_builtin; refine Kd.R_append (Kd.int .i64) (w0 := w) w.heap.size rfl (.tmp 23) (.tmp 26) 33 3 (.int .i64 0) 8 rfl Try.underlying33 info3 rfl (by decide) (by omega) u8 x8_1 t710 [.int .i64 t710] (fun _ => True) (fun _ => False) rfl rfl ?aP (fun _ hk => hk.elim) ?aF ?aO ?aB ?aS ?aL ?_; (case aP => exact rfl); (case aB => exact (by repeat (first | (with_reducible first | exact HB.out | apply zaj | apply zad | apply zai | refine zbs ?_ (IsS74.ge HI703.out)) | exact HB.out))); (case aF => exact (fun _ _ => trivial)); (case aO => exact (by (with_reducible repeat (first | apply zab | apply zac | apply zae)); exact HO_8.out)); (case aS => exact (zba (by repeat (first | (with_reducible first | exact HB.out | apply zaj | apply zad | apply zai | refine zbs ?_ (IsS74.ge HI703.out)) | exact HB.out)))); (case aL => have := LMc9.out; omega); intro v714 w12 ho hb hg hat; rw [← Ny713.out] at ho; have n0_ := Aside0.mk (IsS74.grown (by repeat (first | (with_reducible first | exact HI703.out | apply IsS74.alloc | apply IsS74.drewN | apply IsS74.drew | apply IsS74.set_1 | apply IsS74.set_2) | exact HI703.out)) hg (IsS74.own_ne HI703.out HO_8.out (by decide))); have n1_ := Aside0.mk (hb); have n2_ := Aside0.mk (ho); clear HI703 HB HO_8; have HI703 := n0_; have HB := n1_; have HO715 := n2_; clear n0_ n1_ n2_; clear ho hb hg hat))
     go_roundg k1
     case measure => have := HK1.out; omega
     case rel => exact ⟨(y713), (wrap64 (x9_1 + 1)), (t711), (t712), (by first | rfl | (simp; done) | (simp [*]; done)), H', ⟨by have := HK1.out; omega⟩, ⟨by (with_reducible repeat (first | apply zab | apply zac | apply zae)); exact HO715.out⟩, ⟨by repeat (first | (with_reducible first | exact HI703.out | apply IsS74.alloc | apply IsS74.drewN | apply IsS74.drew | apply IsS74.set_1 | apply IsS74.set_2) | exact HI703.out)⟩, ⟨by repeat (first | (with_reducible first | exact HB.out | apply zaj | apply zad | apply zai | refine zbs ?_ (IsS74.ge HI703.out)) | exact HB.out)⟩⟩
    ·rw [if_neg c9] at H
     exact absurd H (by simp)
   ·rw [if_neg c7] at H
    have c7b0 : decide (x9_1 < (wrap64 (16 - (wrap64 (Int.tdiv t707 19))))) = false := zbq c7
    clear c7
    replace H := zam.mp H
    obtain ⟨⟨t716, t717, t718⟩, A130, H⟩ := H
    try dsimp only at H
    have A13 := Aside0.mk A130
    clear A130
    replace H := zam.mp H
    obtain ⟨⟨t719, t720, t721⟩, A140, H⟩ := H
    try dsimp only at H
    have A14 := Aside0.mk A140
    clear A140
    replace H := zam.mp H
    obtain ⟨⟨t722, t723, t724⟩, A150, H⟩ := H
    try dsimp only at H
    have A15 := Aside0.mk A150
    clear A150
    replace H := zam.mp H
    obtain ⟨⟨t725, t726, t727⟩, A160, H⟩ := H
    try dsimp only at H
    have A16 := Aside0.mk A160
    clear A160
    simp only [zcp, zdb] at H
    obtain ⟨rfl, rfl, rfl, rfl, rfl⟩ := H
    go_wp2_with (first | ((with_reducible refine zau (f := 56) rfl ?_); refine goesL_ (some 17) rfl rfl Try.func56 (by kernel_rfl) rfl #[.pointer (some ⟨g703, 0, none⟩), .int .i64 20] rfl (by (try simp only [zal, zaq, zar]); first | done | rfl) ?_; (with_reducible refine (spec_l1Below.calls g703 t700 x704001_1 x704002_1 20 t707 t708 t709 w _ ?side1 ?side2 A6.out).mono ?_); (case side1 => repeat (first | (with_reducible first | exact HI703.out | apply IsS74.alloc | apply IsS74.drewN | apply IsS74.drew | apply IsS74.set_1 | apply IsS74.set_2) | exact HI703.out)); (case side2 => repeat (first | (with_reducible first | exact HB.out | apply zaj | apply zad | apply zai | refine zbs ?_ (IsS74.ge HI703.out)) | exact HB.out)); rintro e w17 ⟨rfl, hi, hb, hk⟩; refine ⟨_, rfl, ?_⟩; have n0_ := Aside0.mk (zbm (zei (IsS74.apart (show IsS74 w _ g703 t700 x704001_1 x704002_1 from by repeat (first | (with_reducible first | exact HI703.out | apply IsS74.alloc | apply IsS74.drewN | apply IsS74.drew | apply IsS74.set_1 | apply IsS74.set_2) | exact HI703.out)) (by (with_reducible repeat (first | apply zab | apply zac | apply zae)); exact HO_8.out) (by decide)) hk (fun _ h => h.2)) (fun _ h => h.1)); have n1_ := Aside0.mk (hb); have n2_ := Aside0.mk (hi); clear HO_8 HB HI703; have HO_8 := n0_; have HB := n1_; have HI703 := n2_; clear n0_ n1_ n2_; (try clear hb); (try clear hb2); (try clear hk); (try clear hi)) | ((with_reducible refine zau (f := 56) rfl ?_); refine goesL_ (some 29) rfl rfl Try.func56 (by kernel_rfl) rfl #[.pointer (some ⟨g703, 0, none⟩), .int .i64 18] rfl (by (try simp only [zal, zaq, zar]); first | done | rfl) ?_; (with_reducible refine (spec_l1Below.calls g703 t700 t708 t709 18 t716 t717 t718 w _ ?side1 ?side2 A13.out).mono ?_); (case side1 => repeat (first | (with_reducible first | exact HI703.out | apply IsS74.alloc | apply IsS74.drewN | apply IsS74.drew | apply IsS74.set_1 | apply IsS74.set_2) | exact HI703.out)); (case side2 => repeat (first | (with_reducible first | exact HB.out | apply zaj | apply zad | apply zai | refine zbs ?_ (IsS74.ge HI703.out)) | exact HB.out)); rintro e w18 ⟨rfl, hi, hb, hk⟩; refine ⟨_, rfl, ?_⟩; have n0_ := Aside0.mk (zbm (zei (IsS74.apart (show IsS74 w _ g703 t700 t708 t709 from by repeat (first | (with_reducible first | exact HI703.out | apply IsS74.alloc | apply IsS74.drewN | apply IsS74.drew | apply IsS74.set_1 | apply IsS74.set_2) | exact HI703.out)) (by (with_reducible repeat (first | apply zab | apply zac | apply zae)); exact HO_8.out) (by decide)) hk (fun _ h => h.2)) (fun _ h => h.1)); have n1_ := Aside0.mk (hb); have n2_ := Aside0.mk (hi); clear HO_8 HB HI703; have HO_8 := n0_; have HB := n1_; have HI703 := n2_; clear n0_ n1_ n2_; (try clear hb); (try clear hb2); (try clear hk); (try clear hi)) | ((with_reducible refine zau (f := 56) rfl ?_); refine goesL_ (some 32) rfl rfl Try.func56 (by kernel_rfl) rfl #[.pointer (some ⟨g703, 0, none⟩), .int .i64 16] rfl (by (try simp only [zal, zaq, zar]); first | done | rfl) ?_; (with_reducible refine (spec_l1Below.calls g703 t700 t717 t718 16 t719 t720 t721 w _ ?side1 ?side2 A14.out).mono ?_); (case side1 => repeat (first | (with_reducible first | exact HI703.out | apply IsS74.alloc | apply IsS74.drewN | apply IsS74.drew | apply IsS74.set_1 | apply IsS74.set_2) | exact HI703.out)); (case side2 => repeat (first | (with_reducible first | exact HB.out | apply zaj | apply zad | apply zai | refine zbs ?_ (IsS74.ge HI703.out)) | exact HB.out)); rintro e w19 ⟨rfl, hi, hb, hk⟩; refine ⟨_, rfl, ?_⟩; have n0_ := Aside0.mk (zbm (zei (IsS74.apart (show IsS74 w _ g703 t700 t717 t718 from by repeat (first | (with_reducible first | exact HI703.out | apply IsS74.alloc | apply IsS74.drewN | apply IsS74.drew | apply IsS74.set_1 | apply IsS74.set_2) | exact HI703.out)) (by (with_reducible repeat (first | apply zab | apply zac | apply zae)); exact HO_8.out) (by decide)) hk (fun _ h => h.2)) (fun _ h => h.1)); have n1_ := Aside0.mk (hb); have n2_ := Aside0.mk (hi); clear HO_8 HB HI703; have HO_8 := n0_; have HB := n1_; have HI703 := n2_; clear n0_ n1_ n2_; (try clear hb); (try clear hb2); (try clear hk); (try clear hi)) | ((with_reducible refine zau (f := 56) rfl ?_); refine goesL_ (some 39) rfl rfl Try.func56 (by kernel_rfl) rfl #[.pointer (some ⟨g703, 0, none⟩), .int .i64 8] rfl (by (try simp only [zal, zaq, zar]); first | done | rfl) ?_; (with_reducible refine (spec_l1Below.calls g703 t700 t720 t721 8 t722 t723 t724 w _ ?side1 ?side2 A15.out).mono ?_); (case side1 => repeat (first | (with_reducible first | exact HI703.out | apply IsS74.alloc | apply IsS74.drewN | apply IsS74.drew | apply IsS74.set_1 | apply IsS74.set_2) | exact HI703.out)); (case side2 => repeat (first | (with_reducible first | exact HB.out | apply zaj | apply zad | apply zai | refine zbs ?_ (IsS74.ge HI703.out)) | exact HB.out)); rintro e w20 ⟨rfl, hi, hb, hk⟩; refine ⟨_, rfl, ?_⟩; have n0_ := Aside0.mk (zbm (zei (IsS74.apart (show IsS74 w _ g703 t700 t720 t721 from by repeat (first | (with_reducible first | exact HI703.out | apply IsS74.alloc | apply IsS74.drewN | apply IsS74.drew | apply IsS74.set_1 | apply IsS74.set_2) | exact HI703.out)) (by (with_reducible repeat (first | apply zab | apply zac | apply zae)); exact HO_8.out) (by decide)) hk (fun _ h => h.2)) (fun _ h => h.1)); have n1_ := Aside0.mk (hb); have n2_ := Aside0.mk (hi); clear HO_8 HB HI703; have HO_8 := n0_; have HB := n1_; have HI703 := n2_; clear n0_ n1_ n2_; (try clear hb); (try clear hb2); (try clear hk); (try clear hi)) | ((with_reducible refine zau (f := 56) rfl ?_); refine goesL_ (some 45) rfl rfl Try.func56 (by kernel_rfl) rfl #[.pointer (some ⟨g703, 0, none⟩), .int .i64 7] rfl (by (try simp only [zal, zaq, zar]); first | done | rfl) ?_; (with_reducible refine (spec_l1Below.calls g703 t700 t723 t724 7 t725 t726 t727 w _ ?side1 ?side2 A16.out).mono ?_); (case side1 => repeat (first | (with_reducible first | exact HI703.out | apply IsS74.alloc | apply IsS74.drewN | apply IsS74.drew | apply IsS74.set_1 | apply IsS74.set_2) | exact HI703.out)); (case side2 => repeat (first | (with_reducible first | exact HB.out | apply zaj | apply zad | apply zai | refine zbs ?_ (IsS74.ge HI703.out)) | exact HB.out)); rintro e w21 ⟨rfl, hi, hb, hk⟩; refine ⟨_, rfl, ?_⟩; have n0_ := Aside0.mk (zbm (zei (IsS74.apart (show IsS74 w _ g703 t700 t723 t724 from by repeat (first | (with_reducible first | exact HI703.out | apply IsS74.alloc | apply IsS74.drewN | apply IsS74.drew | apply IsS74.set_1 | apply IsS74.set_2) | exact HI703.out)) (by (with_reducible repeat (first | apply zab | apply zac | apply zae)); exact HO_8.out) (by decide)) hk (fun _ h => h.2)) (fun _ h => h.1)); have n1_ := Aside0.mk (hb); have n2_ := Aside0.mk (hi); clear HO_8 HB HI703; have HO_8 := n0_; have HB := n1_; have HI703 := n2_; clear n0_ n1_ n2_; (try clear hb); (try clear hb2); (try clear hk); (try clear hi)))
    refine bodyPost_ret (results_list (rs := [.tmp 2, .tmp 3, .tmp 4, .tmp 5, .tmp 6]) rfl (by simp) (.tmp (.tmp (.tmp (.tmp (.tmp .nil)))))) rfl ?_
    exact ⟨_, by first | rfl | (simp [zbj, zbk] <;> rfl) | (simp [*, zbj, zbk] <;> rfl), by (with_reducible repeat (first | apply zab | apply zac | apply zae)); exact HO_8.out, by repeat (first | (with_reducible first | exact HB.out | apply zaj | apply zad | apply zai | refine zbs ?_ (IsS74.ge HI703.out)) | exact HB.out)⟩
end Go.Proofs.Ytdineaebljpfaaa.P
