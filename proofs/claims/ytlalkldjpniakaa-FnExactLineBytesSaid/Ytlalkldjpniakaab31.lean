import Derived.Test.Ytlalkldjpniakaab27
import Derived.Test.Ytlalkldjpniakaab28
import Derived.Test.Ytlalkldjpniakaab30
namespace Go.Proofs.Ytlalkldjpniakaa.P
open Go.RowKit Go.Proofs.YtlalkldjpniakaaW.PrintWords Go.Proofs.YtlalkldjpniakaaW.PrintLast Go.Proofs.YtlalkldjpniakaaW.PrintMore
attribute [local go_sem] zdn zdo zeh zei zcs zct zdp zdq   -- for this text's walks alone
set_option linter.unusedVariables false
set_option linter.unusedSimpArgs false

def impl_LineBytes.j0 : Nat → List Int → Int → ByteArray → Int → Int → List Int → Option (List Int)
 | 0, _, _, _, _, _, _ => none
 | k + 1, x3, x588000, x588001, x588002, x588003, x588004 => (impl_Great.f k x588003 4).bind fun t602 => ((impl_Great.f k (x588004.length : Int) 2).bind fun t605 => ((impl_joined.f (([(([(x588000) % 256] : List Int)), x3, (([(x588002) % 256] : List Int)), t602, t605, x588004] : List (List Int)))).bind fun t611 => ((impl_Great.f k (t611.length : Int) 2).bind fun t614 => (if t611.length + t614.length < 140737488355328 then (some (t611 ++ t614)) else (none)))))
def impl_LineBytes.f (k : Nat) (a0_0 : Int) (a0_1 : ByteArray) (a0_2 : Int) (a0_3 : Int) (l0_4 : List Int) : Option (List Int) := (impl_LineOk.f k a0_0 a0_1 a0_2 a0_3 l0_4).bind fun t588 => (if t588 = true then (if 8 ≤ 281474976710656 then (if a0_0 = 3 then (impl_LineBytes.j0 k (List.replicate 8 0) a0_0 a0_1 a0_2 a0_3 l0_4) else ((impl_Unhex.f k a0_1).bind fun bt592 => (impl_LineBytes.j0 k bt592.1 a0_0 a0_1 a0_2 a0_3 l0_4))) else (none)) else (some ([] : List Int)))
theorem impl_LineBytes.mono_l : ∀ k, (∀ y0 y1 y2 y3 y4 y5, LeO (impl_LineBytes.j0 k y0 y1 y2 y3 y4 y5) (impl_LineBytes.j0 (k + 1) y0 y1 y2 y3 y4 y5))
 | 0 => fun _ _ _ _ _ _ r h => by simp [impl_LineBytes.j0] at h
 | k + 1 => by
  have ih0 := impl_LineBytes.mono_l k
  ·intro y0 y1 y2 y3 y4 y5
   unfold impl_LineBytes.j0
   repeat' first
   | (with_reducible exact ih0 _ _ _ _ _ _)
   | (with_reducible exact impl_Great.mono _ _ _)
   | (with_reducible exact impl_LineOk.mono _ _ _ _ _ _)
   | (with_reducible exact impl_Unhex.mono _ _)
   | (with_reducible exact zdd _)
   | (with_reducible exact zde _)
   | (with_reducible refine zdw ?_ ?_)
   | (with_reducible refine zdf ?_ (fun _ => ?_))
   | exact ih0 _ _ _ _ _ _
theorem impl_LineBytes.mono : ∀ a0 a1 a2 a3 a4 k, LeO (impl_LineBytes.f k a0 a1 a2 a3 a4) (impl_LineBytes.f (k + 1) a0 a1 a2 a3 a4) := by
 intro a0 a1 a2 a3 a4 k
 have ih0 := impl_LineBytes.mono_l k
 unfold impl_LineBytes.f
 repeat' first
   | (with_reducible exact ih0 _ _ _ _ _ _)
   | (with_reducible exact impl_Great.mono _ _ _)
   | (with_reducible exact impl_LineOk.mono _ _ _ _ _ _)
   | (with_reducible exact impl_Unhex.mono _ _)
   | (with_reducible exact zdd _)
   | (with_reducible exact zde _)
   | (with_reducible refine zdw ?_ ?_)
   | (with_reducible refine zdf ?_ (fun _ => ?_))
   | exact ih0 _ _ _ _ _ _
def impl_LineBytes.T6 : Bool × List (List Nat × List Nat) := (true, [([], []), ([0], [0]), ([1], [1]), ([2], [2]), ([], []), ([], []), ([5], [5]), ([6], [6]), ([7], [7]), ([], []), ([9], [9]), ([10], [10]), ([], []), ([12], [12]), ([13], [13]), ([14, 11], [14]), ([], []), ([16], [16]), ([3, 4, 8, 11, 15, 17], [3, 4, 8, 11, 15, 17]), ([18, 15], [18]), ([19, 19, 0, 1, 2, 3, 4, 5, 6, 7, 8, 9, 10, 11, 12, 13, 14, 15, 16, 17, 18, 19], [19])])
def impl_LineBytes.B6 : List Nat := [0, 1, 3, 7, 0, 0, 32, 96, 224, 0, 512, 1536, 0, 4096, 12288, 32256, 0, 65536, 262143, 524287, 1048575]
theorem impl_LineBytes.tab6 : rtab .any (opsOf Try.f49 6) = impl_LineBytes.T6 := by kernel_rfl
theorem impl_LineBytes.bits6 : waitsOk impl_LineBytes.T6.2 impl_LineBytes.B6 = true := by kernel_rfl
set_option maxHeartbeats 8000000 in
set_option maxRecDepth 100000 in
theorem impl_LineBytes.calls (k : Nat) (a0_0 : Int) (a0_1 : ByteArray) (a0_2 : Int) (a0_3 : Int) (P0_4_ : Nat → Prop) (A0_4 : Option Addr) (c0_4 : Nat) (l0_4 : List Int) (r : List Int) (w : World) (hs0_4 : Kd.V (Kd.int .u8) 5 w w.heap.size (fun k_ => P0_4_ k_) (.slice A0_4 l0_4.length c0_4) l0_4) (h : impl_LineBytes.f k a0_0 a0_1 a0_2 a0_3 l0_4 = some r) :
  Calls Try.prog 49 #[.agg #[.int .i64 a0_0, .string a0_1, .int .i64 a0_2, .int .i64 a0_3, .slice A0_4 l0_4.length c0_4]] w fun e w' => ∃ v0_ : Value, e = .returned (v0_) ∧ Kd.R (Kd.int .u8) 5 w' w.heap.size (fun k_ => (w.heap.size ≤ k_)) v0_ r ∧ Below w.heap.size w w' := by
 have hu48 := Try.underlying48
 have HO0_4 := Aside0.mk (show Kd.V (Kd.int .u8) 5 w w.heap.size (fun k_ => (P0_4_ k_ ∨ w.heap.size ≤ k_)) (.slice A0_4 l0_4.length c0_4) l0_4 from zcv hs0_4 (fun k_ hk => .inl hk))
 have HB := Aside0.mk (zca w.heap.size w)
 have H : ((impl_LineOk.f k a0_0 a0_1 a0_2 a0_3 l0_4).bind fun t588 => (if t588 = true then (if 8 ≤ 281474976710656 then (if a0_0 = 3 then (impl_LineBytes.j0 k (List.replicate 8 0) a0_0 a0_1 a0_2 a0_3 l0_4) else ((impl_Unhex.f k a0_1).bind fun bt592 => (impl_LineBytes.j0 k bt592.1 a0_0 a0_1 a0_2 a0_3 l0_4))) else (none)) else (some ([] : List Int)))) = some r := h
 clear h
 replace H := zap.mp H
 obtain ⟨t588, A20, H⟩ := H
 try dsimp only at H
 have A2 := Aside0.mk A20
 clear A20
 by_cases c3 : t588 = true
 ·subst c3
  have H1 : (if 8 ≤ 281474976710656 then (if a0_0 = 3 then (impl_LineBytes.j0 k (List.replicate 8 0) a0_0 a0_1 a0_2 a0_3 l0_4) else ((impl_Unhex.f k a0_1).bind fun bt592 => (impl_LineBytes.j0 k bt592.1 a0_0 a0_1 a0_2 a0_3 l0_4))) else (none)) = some r := by rw [if_pos rfl] at H; exact H
  clear H
  have H := H1
  clear H1
  by_cases c4 : 8 ≤ 281474976710656
  ·rw [if_pos c4] at H
   have c4b0 := zcl c4
   have c4b1 : decide (8 ≤ 281474976710656) = true := zbo c4
   clear c4
   obtain ⟨y589, hy589⟩ : ∃ y_ : List Int, y_ = (List.replicate 8 0) := ⟨_, rfl⟩
   replace H : (if a0_0 = 3 then (impl_LineBytes.j0 k y589 a0_0 a0_1 a0_2 a0_3 l0_4) else ((impl_Unhex.f k a0_1).bind fun bt592 => (impl_LineBytes.j0 k bt592.1 a0_0 a0_1 a0_2 a0_3 l0_4))) = some r := by first | (rw [hy589]; with_reducible first | exact H | exact bind_ofs H) | (with_reducible first | exact H | exact bind_ofs H) | (rw [hy589]; exact H) | exact H
   have Ny589 := Aside0.mk hy589
   clear hy589
   have HC5 := Aside0.mk H
   clear H
   go_enter Try.func49, Try.ntmps49
   go_upto_if 11 with (first | ((with_reducible refine zbu (N := 1) rfl ?_); refine zby ?hg (N := 1) ?hd (cs := #[.int .i64 a0_0, .string a0_1, .int .i64 a0_2, .int .i64 a0_3, .slice A0_4 l0_4.length c0_4]) (t := 48) ?hr ?_; (case hd => rfl); (case hg => rfl); (case hr => first | (go_simp; done) | (go_simp; rfl)); intro gb587 hg w6 hbox hb; have xb_ := below_ofs (by repeat (first | (with_reducible first | exact HB.out | apply zad | apply zaa | apply zac) | exact HB.out)) hb; have n0_ := Aside0.mk (Kd.V_below (Kd.V_elderB (by (with_reducible repeat (first | apply zec | apply zed | apply zen)); (first | exact HO0_4.out | exact zcv HO0_4.out (fun _ hk => hk.1) | exact zcv HO0_4.out (fun _ hk => hk.1.1))) gb587 (Nat.le_of_eq hg.symm)) hb); have n1_ := Aside0.mk (zao xb_ hb); have n2_ := Aside0.mk (hbox); have n3_ := Aside0.mk ((by rw [hg]; exact (zaj xb_) : w.heap.size ≤ gb587)); have n4_ := Aside0.mk ((by rw [hg]; exact (zaj xb_) : w.heap.size ≤ gb587)); clear HO0_4 HB; have HO0_4 := n0_; have HB := n1_; have BK587 := n2_; have GW587 := n3_; have GE587 := n4_; clear n0_ n1_ n2_ n3_ n4_; clear xb_ hb hbox hg; have hcz7_0 : w6.cell? ⟨gb587, 0, none⟩ = some (.int .i64 a0_0) := (zae BK587.out 0).trans rfl; have hcz7_1 : w6.cell? ⟨gb587, 1, none⟩ = some (.string a0_1) := (zae BK587.out 1).trans rfl; have hcz7_2 : w6.cell? ⟨gb587, 2, none⟩ = some (.int .i64 a0_2) := (zae BK587.out 2).trans rfl; have hcz7_3 : w6.cell? ⟨gb587, 3, none⟩ = some (.int .i64 a0_3) := (zae BK587.out 3).trans rfl; have hcz7_4 : w6.cell? ⟨gb587, 4, none⟩ = some (.slice A0_4 l0_4.length c0_4) := (zae BK587.out 4).trans rfl; have hfz7_0 := zab BK587.out 0; have hfz7_1 := zab BK587.out 1; have hfz7_2 := zab BK587.out 2; have hfz7_3 := zab BK587.out 3; have hfz7_4 := zab BK587.out 4) | ((with_reducible refine zba (f := 36) rfl ?_); refine goesL_ (some 6) rfl rfl Try.func36 (by kernel_rfl) rfl #[.agg #[.int .i64 a0_0, .string a0_1, .int .i64 a0_2, .int .i64 a0_3, .slice A0_4 l0_4.length c0_4]] rfl (by (try simp only [zam, zaq, zav]); first | done | rfl) ?_; (with_reducible refine (impl_LineOk.calls k a0_0 a0_1 a0_2 a0_3 _ _ l0_4 true _ ?side1 ?side2 A2.out).mono ?_); (case side1 => repeat (first | exact (Kd.V_reads' HO0_4.out).2.2 | (with_reducible first | apply zbm | apply zbn | apply zbv))); (case side2 => exact (Kd.V_reads' HO0_4.out).2.1); rintro e w8 ⟨rfl, hb⟩; refine ⟨_, rfl, ?_⟩; have n0_ := Aside0.mk (Kd.V_below (by (with_reducible repeat (first | apply zec | apply zed | apply zen)); (first | exact HO0_4.out | exact zcv HO0_4.out (fun _ hk => hk.1) | exact zcv HO0_4.out (fun _ hk => hk.1.1))) hb); have n1_ := Aside0.mk (zbg (g := gb587) (o := .cells #[.int .i64 a0_0, .string a0_1, .int .i64 a0_2, .int .i64 a0_3, .slice A0_4 l0_4.length c0_4] 48 (0, 0)) (by (with_reducible repeat (first | refine zak ?_ _ | refine zan ?_ | refine zal ?_ _)); exact BK587.out) hb); have n2_ := Aside0.mk (zao (by repeat (first | (with_reducible first | exact HB.out | apply zad | apply zaa | apply zac | refine zaf ?_ GE587.out) | exact HB.out)) hb); clear HO0_4 BK587 HB; have HO0_4 := n0_; have BK587 := n1_; have HB := n2_; clear n0_ n1_ n2_; (try clear hb); (try clear hb2); (try clear hk); (try clear hi)) | ((with_reducible refine zbu (N := 8) rfl ?_); refine Kd.R_make (Kd.int .u8) _ 5 rfl (N := 8) rfl 29 _ _ rfl 8 rfl rfl Try.underlying29 (.int .u8 0) 1 info5 rfl (by decide) (by omega) 0 (ok := fun _ => True) (okp := fun _ => True) rfl (fun _ hk => by first | exact hk | (revert hk; (try simp only [zbd]); intros; repeat' (first | assumption | apply zcw | exact .inr (by assumption)))) trivial (by omega) (by omega) (zca _ _) (zbz _) ?_; intro v590 w9 ho10 hb hg_ hnew_; clear hg_ hnew_; (first | rw [← Ny589.out] at ho10 | (simp only [Int.reduceToNat] at ho10; rw [← Ny589.out] at ho10)); have n0_ := Aside0.mk (Kd.V_elder' (by (with_reducible repeat (first | apply zec | apply zed | apply zen)); (first | exact HO0_4.out | exact zcv HO0_4.out (fun _ hk => hk.1) | exact zcv HO0_4.out (fun _ hk => hk.1.1))) (zbc ho10) hb); have n1_ := Aside0.mk (zbs (Kd.R_newM (M := fun k_ => (w.heap.size ≤ k_)) ho10 (zaj (by repeat (first | (with_reducible first | exact HB.out | apply zad | apply zaa | apply zac | refine zaf ?_ GE587.out) | exact HB.out))) (fun k_ h_ => h_)) (zaj (by repeat (first | (with_reducible first | exact HB.out | apply zad | apply zaa | apply zac | refine zaf ?_ GE587.out) | exact HB.out)))); have n2_ := Aside0.mk (zbg (g := gb587) (o := .cells #[.int .i64 a0_0, .string a0_1, .int .i64 a0_2, .int .i64 a0_3, .slice A0_4 l0_4.length c0_4] 48 (0, 0)) (by (with_reducible repeat (first | refine zak ?_ _ | refine zan ?_ | refine zal ?_ _)); exact BK587.out) hb); have n3_ := Aside0.mk (zao (by repeat (first | (with_reducible first | exact HB.out | apply zad | apply zaa | apply zac | refine zaf ?_ GE587.out) | exact HB.out)) hb); clear HO0_4 BK587 HB; have HO0_4 := n0_; have HO591 := n1_; have BK587 := n2_; have HB := n3_; clear n0_ n1_ n2_ n3_; clear hb ho10; have hcz11_0 : w9.cell? ⟨gb587, 0, none⟩ = some (.int .i64 a0_0) := (zae BK587.out 0).trans rfl; have hcz11_1 : w9.cell? ⟨gb587, 1, none⟩ = some (.string a0_1) := (zae BK587.out 1).trans rfl; have hcz11_2 : w9.cell? ⟨gb587, 2, none⟩ = some (.int .i64 a0_2) := (zae BK587.out 2).trans rfl; have hcz11_3 : w9.cell? ⟨gb587, 3, none⟩ = some (.int .i64 a0_3) := (zae BK587.out 3).trans rfl; have hcz11_4 : w9.cell? ⟨gb587, 4, none⟩ = some (.slice A0_4 l0_4.length c0_4) := (zae BK587.out 4).trans rfl; have hfz11_0 := zab BK587.out 0; have hfz11_1 := zab BK587.out 1; have hfz11_2 := zab BK587.out 2; have hfz11_3 := zab BK587.out 3; have hfz11_4 := zab BK587.out 4))
   (try simp only [Act.put, zay, zbk, zbl])
   go_cut [3] (fun v3 wc => ∃ (kq : Nat) (x3_4 : List Int), Aside0 (impl_LineBytes.j0 kq x3_4 a0_0 a0_1 a0_2 a0_3 l0_4 = some r) ∧ Aside0 (kq ≤ k) ∧ Aside0 (Kd.R (Kd.int .u8) 5 wc w.heap.size (fun k_ => (w.heap.size ≤ k_)) v3 x3_4) ∧ Aside0 (Kd.V (Kd.int .u8) 5 wc w.heap.size (fun k_ => (P0_4_ k_ ∨ w.heap.size ≤ k_) ∧ some k_ ≠ (v3 : Value).ownBlock ∧ k_ ≠ gb587) (.slice A0_4 l0_4.length c0_4) l0_4) ∧ Aside0 (wc.heap[gb587]? = some (.cells #[.int .i64 a0_0, .string a0_1, .int .i64 a0_2, .int .i64 a0_3, (.slice A0_4 l0_4.length c0_4)] 48 (0, 0))) ∧ Aside0 (Below w.heap.size w wc))
   case first =>
    have H := HC5.out
    clear HC5
    by_cases c12 : a0_0 = 3
    ·rw [if_pos c12] at H
     have c12b0 : (a0_0 == 3) = true := zdb.mpr c12
     have c12b1 : (a0_0 != 3) = false := zbx.mpr c12
     clear c12
     (first | rw [c12b0] | (simp only [i64_w, i32_w]; rw [c12b0]) | skip)
     have H' := Aside0.mk H
     clear H
     go_wp2
     go_meet
     case rel => exact ⟨_, (y589), H', ⟨by first | omega | exact zbz _⟩, ⟨by (with_reducible repeat (first | apply zag | apply zah | apply zai)); exact zax HO591.out (fun _ hk => by first | exact hk.1 | (revert hk; (try simp only [zbd]); intros; repeat' (first | assumption | apply zcw | exact .inr (by assumption))))⟩, ⟨by (with_reducible repeat (first | apply zec | apply zed | apply zen)); exact zcv HO0_4.out (fun _ hk => by first | exact ⟨hk.1.1, ⟨hk.2, hk.1.2⟩⟩ | (revert hk; (try simp only [zbd]); intros; repeat' (first | assumption | apply zcw | exact .inr (by assumption))))⟩, ⟨by (with_reducible repeat (first | refine zak ?_ _ | refine zan ?_ | refine zal ?_ _)); exact BK587.out⟩, ⟨by repeat (first | (with_reducible first | exact HB.out | apply zad | apply zaa | apply zac | refine zaf ?_ GE587.out) | exact HB.out)⟩⟩
    ·rw [if_neg c12] at H
     have c12b0 : (a0_0 == 3) = false := zbw.mpr c12
     have c12b1 : (a0_0 != 3) = true := zdc.mpr c12
     (first | rw [c12b0] | (simp only [i64_w, i32_w]; rw [c12b0]) | skip)
     replace H := zap.mp H
     obtain ⟨⟨t592, t593⟩, A130, H⟩ := H
     try dsimp only at H
     have A13 := Aside0.mk A130
     clear A130
     have H' := Aside0.mk H
     clear H
     have hcz14_0 : w9.cell? ⟨gb587, 0, none⟩ = some (.int .i64 a0_0) := (zae BK587.out 0).trans rfl
     have hcz14_1 : w9.cell? ⟨gb587, 1, none⟩ = some (.string a0_1) := (zae BK587.out 1).trans rfl
     have hcz14_2 : w9.cell? ⟨gb587, 2, none⟩ = some (.int .i64 a0_2) := (zae BK587.out 2).trans rfl
     have hcz14_3 : w9.cell? ⟨gb587, 3, none⟩ = some (.int .i64 a0_3) := (zae BK587.out 3).trans rfl
     have hcz14_4 : w9.cell? ⟨gb587, 4, none⟩ = some (.slice A0_4 l0_4.length c0_4) := (zae BK587.out 4).trans rfl
     have hfz14_0 := zab BK587.out 0
     have hfz14_1 := zab BK587.out 1
     have hfz14_2 := zab BK587.out 2
     have hfz14_3 := zab BK587.out 3
     have hfz14_4 := zab BK587.out 4
     go_wp2_with (first | ((with_reducible refine zba (f := 108) rfl ?_); refine goesL_ (some 15) rfl rfl Try.func108 (by kernel_rfl) rfl #[.string a0_1] rfl (by (try simp only [zam, zaq, zav]); first | done | rfl) ?_; (with_reducible refine (impl_Unhex.calls k a0_1 t592 t593 _ A13.out).mono ?_); rintro e w15 ⟨v594, rfl, ho0, hb⟩; refine ⟨_, rfl, ?_⟩; have n0_ := Aside0.mk (Kd.V_elder' (by (with_reducible repeat (first | apply zec | apply zed | apply zen)); (first | exact HO0_4.out | exact zcv HO0_4.out (fun _ hk => hk.1) | exact zcv HO0_4.out (fun _ hk => hk.1.1))) (zbc ho0) hb); have n1_ := Aside0.mk (zaz (by (with_reducible repeat (first | apply zag | apply zah | apply zai)); (first | exact HO591.out | exact zax HO591.out (fun _ hk => hk.1) | exact zax HO591.out (fun _ hk => hk.1.1))) (zbc ho0) hb); have n2_ := Aside0.mk (zbs (zbr (Kd.R_newM (M := fun k_ => (w.heap.size ≤ k_)) ho0 (zaj (by repeat (first | (with_reducible first | exact HB.out | apply zad | apply zaa | apply zac | refine zaf ?_ GE587.out) | exact HB.out))) (fun k_ h_ => h_)) (zbt (by (with_reducible repeat (first | apply zag | apply zah | apply zai)); (first | exact HO591.out | exact zax HO591.out (fun _ hk => hk.1) | exact zax HO591.out (fun _ hk => hk.1.1))))) (zaj (by repeat (first | (with_reducible first | exact HB.out | apply zad | apply zaa | apply zac | refine zaf ?_ GE587.out) | exact HB.out)))); have n3_ := Aside0.mk (zbg (g := gb587) (o := .cells #[.int .i64 a0_0, .string a0_1, .int .i64 a0_2, .int .i64 a0_3, .slice A0_4 l0_4.length c0_4] 48 (0, 0)) (by (with_reducible repeat (first | refine zak ?_ _ | refine zan ?_ | refine zal ?_ _)); exact BK587.out) hb); have n4_ := Aside0.mk (zao (by repeat (first | (with_reducible first | exact HB.out | apply zad | apply zaa | apply zac | refine zaf ?_ GE587.out) | exact HB.out)) hb); clear HO0_4 HO591 BK587 HB; have HO0_4 := n0_; have HO591 := n1_; have HO595 := n2_; have BK587 := n3_; have HB := n4_; clear n0_ n1_ n2_ n3_ n4_; clear hb ho0))
     go_meet
     case rel => exact ⟨_, (t592), H', ⟨by first | omega | exact zbz _⟩, ⟨by (with_reducible repeat (first | apply zag | apply zah | apply zai)); exact zax HO595.out (fun _ hk => by first | exact hk.1.1 | (revert hk; (try simp only [zbd]); intros; repeat' (first | assumption | apply zcw | exact .inr (by assumption))))⟩, ⟨by (with_reducible repeat (first | apply zec | apply zed | apply zen)); exact zcv HO0_4.out (fun _ hk => by first | exact ⟨hk.1.1.1, ⟨hk.2, hk.1.1.2⟩⟩ | (revert hk; (try simp only [zbd]); intros; repeat' (first | assumption | apply zcw | exact .inr (by assumption))))⟩, ⟨by (with_reducible repeat (first | refine zak ?_ _ | refine zan ?_ | refine zal ?_ _)); exact BK587.out⟩, ⟨by repeat (first | (with_reducible first | exact HB.out | apply zad | apply zaa | apply zac | refine zaf ?_ GE587.out) | exact HB.out)⟩⟩
   case rest =>
    clear HC5
    try clear c1
    try clear p2
    try clear c3
    try clear c4
    try clear c4b0
    try clear c4b1
    try clear c10
    try clear c12
    try clear c12b0
    try clear c12b1
    try clear hcz11_0
    try clear hcz11_1
    try clear hcz11_2
    try clear hcz11_3
    try clear hcz11_4
    try clear hcz14_0
    try clear hcz14_1
    try clear hcz14_2
    try clear hcz14_3
    try clear hcz14_4
    try clear hcz7_0
    try clear hcz7_1
    try clear hcz7_2
    try clear hcz7_3
    try clear hcz7_4
    try clear hfz11_0
    try clear hfz11_1
    try clear hfz11_2
    try clear hfz11_3
    try clear hfz11_4
    try clear hfz14_0
    try clear hfz14_1
    try clear hfz14_2
    try clear hfz14_3
    try clear hfz14_4
    try clear hfz7_0
    try clear hfz7_1
    try clear hfz7_2
    try clear hfz7_3
    try clear hfz7_4
    obtain ⟨kq, x3_4, HA, HJ4, HO_3, HO_588004, BK587, HB⟩ := hcut
    cases kq with
    | zero => exact absurd HA.out (by simp [impl_LineBytes.j0])
    | succ kj4 =>
     have H := HA.out
     clear HA
     simp only [impl_LineBytes.j0] at H
     obtain ⟨y596, hy596⟩ : ∃ y_ : List Int, y_ = (([(a0_0) % 256] : List Int)) := ⟨_, rfl⟩
     replace H : ((impl_Great.f kj4 a0_3 4).bind fun t602 => ((impl_Great.f kj4 (l0_4.length : Int) 2).bind fun t605 => ((impl_joined.f (([y596, x3_4, (([(a0_2) % 256] : List Int)), t602, t605, l0_4] : List (List Int)))).bind fun t611 => ((impl_Great.f kj4 (t611.length : Int) 2).bind fun t614 => (if t611.length + t614.length < 140737488355328 then (some (t611 ++ t614)) else (none)))))) = some r := by first | (rw [hy596]; with_reducible first | exact H | exact bind_ofs H) | (with_reducible first | exact H | exact bind_ofs H) | (rw [hy596]; exact H) | exact H
     have Ny596 := Aside0.mk hy596
     clear hy596
     obtain ⟨y599, hy599⟩ : ∃ y_ : List Int, y_ = (([(a0_2) % 256] : List Int)) := ⟨_, rfl⟩
     replace H : ((impl_Great.f kj4 a0_3 4).bind fun t602 => ((impl_Great.f kj4 (l0_4.length : Int) 2).bind fun t605 => ((impl_joined.f (([y596, x3_4, y599, t602, t605, l0_4] : List (List Int)))).bind fun t611 => ((impl_Great.f kj4 (t611.length : Int) 2).bind fun t614 => (if t611.length + t614.length < 140737488355328 then (some (t611 ++ t614)) else (none)))))) = some r := by first | (rw [hy599]; with_reducible first | exact H | exact bind_ofs H) | (with_reducible first | exact H | exact bind_ofs H) | (rw [hy599]; exact H) | exact H
     have Ny599 := Aside0.mk hy599
     clear hy599
     replace H := zap.mp H
     obtain ⟨t602, A160, H⟩ := H
     try dsimp only at H
     have A16 := Aside0.mk A160
     clear A160
     replace H := zap.mp H
     obtain ⟨t605, A170, H⟩ := H
     try dsimp only at H
     have A17 := Aside0.mk A170
     clear A170
     obtain ⟨y608, hy608⟩ : ∃ y_ : List (List Int), y_ = (([y596, x3_4, y599, t602, t605, l0_4] : List (List Int))) := ⟨_, rfl⟩
     replace H : ((impl_joined.f y608).bind fun t611 => ((impl_Great.f kj4 (t611.length : Int) 2).bind fun t614 => (if t611.length + t614.length < 140737488355328 then (some (t611 ++ t614)) else (none)))) = some r := by first | (rw [hy608]; with_reducible first | exact H | exact bind_ofs H) | (with_reducible first | exact H | exact bind_ofs H) | (rw [hy608]; exact H) | exact H
     have Ny608 := Aside0.mk hy608
     clear hy608
     replace H := zap.mp H
     obtain ⟨t611, A180, H⟩ := H
     try dsimp only at H
     have A18 := Aside0.mk A180
     clear A180
     replace H := zap.mp H
     obtain ⟨t614, A190, H⟩ := H
     try dsimp only at H
     have A19 := Aside0.mk A190
     clear A190
     by_cases c20 : t611.length + t614.length < 140737488355328
     ·rw [if_pos c20] at H
      have LMc20 := Aside0.mk c20
      clear c20
      obtain ⟨y617, hy617⟩ : ∃ y_ : List Int, y_ = (t611 ++ t614) := ⟨_, rfl⟩
      replace H : (some y617) = some r := by first | (rw [hy617]; with_reducible first | exact H | exact bind_ofs H) | (with_reducible first | exact H | exact bind_ofs H) | (rw [hy617]; exact H) | exact H
      have Ny617 := Aside0.mk hy617
      clear hy617
      obtain rfl := Option.some.inj H
      try go_wp2
      have n0_ := Aside0.mk (zai HO_3.out)
      have n1_ := Aside0.mk (zen HO_588004.out)
      have n2_ := Aside0.mk (zan BK587.out)
      have n3_ := Aside0.mk (zac HB.out)
      clear HO_3
      clear HO_588004
      clear BK587
      clear HB
      have HO_3 := n0_
      have HO_588004 := n1_
      have BK587 := n2_
      have HB := n3_
      clear n0_ n1_ n2_ n3_
      refine start_ (n := 21) (S := fun w' => True) (ds := []) #[false, false, false, false, false, false, false, false, false, false, false, false, false, false, false, false, false, false, false, false, false] (by kernel_rfl) rfl rfl trivial (fun hHeld => ?_); refine with_tabW impl_LineBytes.tab6 impl_LineBytes.bits6 (fun HT_ HW_ => ?_)
      generalize wc.drew = w21 at HO_3 HO_588004 BK587 HB hHeld ⊢
      refine pure_ (i := 0) (N := some 18) (v := ?_) (a' := ?_) #[true, false, false, false, false, false, false, false, false, false, false, false, false, false, false, false, false, false, false, false, false] rfl rfl (any_of HT_.out (by kernel_rfl)) (fun _ _ _ h => h) (Or.inl ⟨by rfl, ?_⟩) ?_ ?_
      rotate_left
      ·intro w'
       go_simp
       with_reducible rfl
      rotate_left
      ·simp only [Act.put, zay, zbk, zbl, i64_w, i32_w]
       rfl
      refine pure_ (i := 4) (N := some 22) (v := ?_) (a' := ?_) #[true, false, false, false, true, false, false, false, false, false, false, false, false, false, false, false, false, false, false, false, false] rfl rfl (any_of HT_.out (by kernel_rfl)) (fun _ _ _ h => h) (Or.inl ⟨by rfl, ?_⟩) ?_ ?_
      rotate_left
      ·intro w'
       go_simp
       with_reducible rfl
      rotate_left
      ·simp only [Act.put, zay, zbk, zbl, i64_w, i32_w]
       rfl
      refine pure_ (i := 5) (N := some 23) (v := ?_) (a' := ?_) #[true, false, false, false, true, true, false, false, false, false, false, false, false, false, false, false, false, false, false, false, false] rfl rfl (any_of HT_.out (by kernel_rfl)) (fun _ _ _ h => h) (Or.inl ⟨by rfl, ?_⟩) ?_ ?_
      rotate_left
      ·intro w'
       go_simp
       with_reducible rfl
      rotate_left
      ·simp only [Act.put, zay, zbk, zbl, i64_w, i32_w]
       rfl
      refine pure_ (i := 9) (N := some 27) (v := ?_) (a' := ?_) #[true, false, false, false, true, true, false, false, false, true, false, false, false, false, false, false, false, false, false, false, false] rfl rfl (any_of HT_.out (by kernel_rfl)) (fun _ _ _ h => h) (Or.inl ⟨by rfl, ?_⟩) ?_ ?_
      rotate_left
      ·intro w'
       go_simp
       with_reducible rfl
      rotate_left
      ·simp only [Act.put, zay, zbk, zbl, i64_w, i32_w]
       rfl
      refine pure_ (i := 12) (N := some 30) (v := ?_) (a' := ?_) #[true, false, false, false, true, true, false, false, false, true, false, false, true, false, false, false, false, false, false, false, false] rfl rfl (any_of HT_.out (by kernel_rfl)) (fun _ _ _ h => h) (Or.inl ⟨by rfl, ?_⟩) ?_ ?_
      rotate_left
      ·intro w'
       go_simp
       with_reducible rfl
      rotate_left
      ·simp only [Act.put, zay, zbk, zbl, i64_w, i32_w]
       rfl
      refine pure_ (i := 16) (N := some 34) (v := ?_) (a' := ?_) #[true, false, false, false, true, true, false, false, false, true, false, false, true, false, false, false, true, false, false, false, false] rfl rfl (any_of HT_.out (by kernel_rfl)) (fun _ _ _ h => h) (Or.inl ⟨by rfl, ?_⟩) ?_ ?_
      rotate_left
      ·intro w'
       go_simp
       with_reducible rfl
      rotate_left
      ·simp only [Act.put, zay, zbk, zbl, i64_w, i32_w]
       rfl
      refine inv_at [1, 2, 3, 6, 7, 8, 10, 11, 13, 14, 15, 17, 18, 19, 20] (fun a0_ b a w' => ∃ (v597 : Value) (v600 : Value) (v603 : Value) (v606 : Value) (v609 : Value) (v612 : Value) (m20_ : Value), a = putSel a0_ b [(1, 19, .int .i64 a0_0), (2, 20, .int .u8 ((a0_0) % 256)), (3, 21, v597), (6, 24, .int .i64 a0_2), (7, 25, .int .u8 ((a0_2) % 256)), (8, 26, v600), (10, 28, .int .i64 a0_3), (11, 29, v603), (13, 31, .slice A0_4 l0_4.length c0_4), (14, 32, .int .i64 (l0_4.length : Int)), (15, 33, v606), (17, 35, .slice A0_4 l0_4.length c0_4), (18, 36, v609), (19, 37, v612), (20, 4, m20_)] ∧ (b 18 = false → Kd.R (Kd.int .u8) 5 w' w.heap.size (fun k_ => (w.heap.size ≤ k_)) u3 x3_4) ∧ (b 18 = false → Kd.V (Kd.int .u8) 5 w' w.heap.size (fun k_ => (P0_4_ k_ ∨ w.heap.size ≤ k_) ∧ some k_ ≠ (u3 : Value).ownBlock ∧ k_ ≠ gb587) (.slice A0_4 l0_4.length c0_4) l0_4) ∧ (w'.heap[gb587]? = some (.cells #[.int .i64 a0_0, .string a0_1, .int .i64 a0_2, .int .i64 a0_3, .slice A0_4 l0_4.length c0_4] 48 (0, 0))) ∧ (Below w.heap.size w w') ∧ (b 3 = true → b 18 = false → Kd.R (Kd.int .u8) 5 w' w.heap.size (fun k_ => (w.heap.size ≤ k_) ∧ some k_ ≠ (u3 : Value).ownBlock) v597 y596) ∧ (b 8 = true → b 18 = false → Kd.R (Kd.int .u8) 5 w' w.heap.size (fun k_ => (w.heap.size ≤ k_) ∧ some k_ ≠ (u3 : Value).ownBlock) v600 y599) ∧ (b 11 = true → b 18 = false → Kd.R (Kd.int .u8) 5 w' w.heap.size (fun k_ => (w.heap.size ≤ k_) ∧ some k_ ≠ (u3 : Value).ownBlock) v603 t602) ∧ (b 15 = true → b 18 = false → Kd.R (Kd.int .u8) 5 w' w.heap.size (fun k_ => (w.heap.size ≤ k_) ∧ some k_ ≠ (u3 : Value).ownBlock) v606 t605) ∧ (b 18 = true → Kd.N (Kd.slice 5 (Kd.int .u8)) 29 w' w.heap.size (fun k_ => (P0_4_ k_ ∨ w.heap.size ≤ k_) ∧ k_ ≠ gb587) v609 y608) ∧ (b 18 = true → Kd.V (Kd.int .u8) 5 w' w.heap.size (fun k_ => (P0_4_ k_ ∨ w.heap.size ≤ k_) ∧ k_ ≠ gb587) (.slice A0_4 l0_4.length c0_4) l0_4) ∧ (b 19 = true → Kd.R (Kd.int .u8) 5 w' w.heap.size (fun k_ => (w.heap.size ≤ k_)) v612 t611) ∧ (b 20 = true → (m20_ : Value) = v612)) HT_.out HW_.out (by kernel_rfl) (by kernel_rfl) ?_ ?_ ?_
      ·exact ⟨.bool false, .bool false, .bool false, .bool false, .bool false, .bool false, .bool false, by simp only [putSel, Bool.false_eq_true, if_false], fun _ => HO_3.out, fun _ => HO_588004.out, BK587.out, HB.out, fun h_ => absurd h_ (by decide), fun h_ => absurd h_ (by decide), fun h_ => absurd h_ (by decide), fun h_ => absurd h_ (by decide), fun h_ => absurd h_ (by decide), fun h_ => absurd h_ (by decide), fun h_ => absurd h_ (by decide), fun h_ => absurd h_ (by decide)⟩
      ·skip
       clear BK587 HB HO_3 HO_588004
       refine zfa ?_ ?_
       ·rintro b a w' ⟨v597, v600, v603, v606, v609, v612, m20_, ha, Q_HO_3, Q_HO_588004, Q_BK587, Q_HB, Q_HO598, Q_HO601, Q_HO604, Q_HO607, Q_HO610, Q_HO_588004_e18, Q_HO613, Q_X20_⟩ hb_ hon hoff
        refine ⟨_, rfl, fun K hK => ?_⟩
        have e18 : a.tmps[18]? = some (.pointer (some ⟨gb587, 0, none⟩)) := by rw [ha]; exact (putSel_off rfl).trans rfl
        replace ha := Aside0.mk ha
        have HO_3 := Aside0.mk (Q_HO_3 (hoff 18 (by kernel_rfl)))
        have HO_588004 := Aside0.mk (Q_HO_588004 (hoff 18 (by kernel_rfl)))
        have BK587 := Aside0.mk Q_BK587
        have HB := Aside0.mk Q_HB
        have hc0_ : w'.cell? ⟨gb587, 0, none⟩ = some (.int .i64 a0_0) := (zae BK587.out 0).trans rfl
        have hc1_ : w'.cell? ⟨gb587, 1, none⟩ = some (.string a0_1) := (zae BK587.out 1).trans rfl
        have hc2_ : w'.cell? ⟨gb587, 2, none⟩ = some (.int .i64 a0_2) := (zae BK587.out 2).trans rfl
        have hc3_ : w'.cell? ⟨gb587, 3, none⟩ = some (.int .i64 a0_3) := (zae BK587.out 3).trans rfl
        have hc4_ : w'.cell? ⟨gb587, 4, none⟩ = some (.slice A0_4 l0_4.length c0_4) := (zae BK587.out 4).trans rfl
        refine value_ (w1 := w') (v := .int .i64 a0_0) (by rfl) rfl ?_ ?_
        ·go_simp
         (try simp only [i64_w])
         try rfl
        refine hK.out _ _ ⟨v597, v600, v603, v606, v609, v612, m20_, (by rw [ha.out]; exact zfb 0 hb_ rfl rfl rfl), Q_HO_3, Q_HO_588004, Q_BK587, Q_HB, fun h0_ _ => absurd ((hoff 3 (by kernel_rfl)).symm.trans h0_) (by decide), Q_HO601, Q_HO604, Q_HO607, fun h0_ => absurd ((hoff 18 (by kernel_rfl)).symm.trans h0_) (by decide), fun h0_ => absurd ((hoff 18 (by kernel_rfl)).symm.trans h0_) (by decide), fun h0_ => absurd ((hoff 19 (by kernel_rfl)).symm.trans h0_) (by decide), fun h0_ => absurd ((hoff 20 (by kernel_rfl)).symm.trans h0_) (by decide)⟩
       refine zfa ?_ ?_
       ·rintro b a w' ⟨v597, v600, v603, v606, v609, v612, m20_, ha, Q_HO_3, Q_HO_588004, Q_BK587, Q_HB, Q_HO598, Q_HO601, Q_HO604, Q_HO607, Q_HO610, Q_HO_588004_e18, Q_HO613, Q_X20_⟩ hb_ hon hoff
        refine ⟨_, rfl, fun K hK => ?_⟩
        have e19 : a.tmps[19]? = some (.int .i64 a0_0) := by rw [ha]; exact putSel_on (e := (1, 19, .int .i64 a0_0)) 0 rfl rfl (hon 1 (by kernel_rfl)) rfl
        replace ha := Aside0.mk ha
        have HO_3 := Aside0.mk (Q_HO_3 (hoff 18 (by kernel_rfl)))
        have HO_588004 := Aside0.mk (Q_HO_588004 (hoff 18 (by kernel_rfl)))
        have BK587 := Aside0.mk Q_BK587
        have HB := Aside0.mk Q_HB
        refine value_ (w1 := w') (v := .int .u8 ((a0_0) % 256)) (by rfl) rfl ?_ ?_
        ·go_simp
         (try simp only [i64_w])
         try rfl
        refine hK.out _ _ ⟨v597, v600, v603, v606, v609, v612, m20_, (by rw [ha.out]; exact zfb 1 hb_ rfl rfl rfl), Q_HO_3, Q_HO_588004, Q_BK587, Q_HB, fun h0_ _ => absurd ((hoff 3 (by kernel_rfl)).symm.trans h0_) (by decide), Q_HO601, Q_HO604, Q_HO607, fun h0_ => absurd ((hoff 18 (by kernel_rfl)).symm.trans h0_) (by decide), fun h0_ => absurd ((hoff 18 (by kernel_rfl)).symm.trans h0_) (by decide), fun h0_ => absurd ((hoff 19 (by kernel_rfl)).symm.trans h0_) (by decide), fun h0_ => absurd ((hoff 20 (by kernel_rfl)).symm.trans h0_) (by decide)⟩
       refine zfa ?_ ?_
       ·rintro b a w' ⟨v597, v600, v603, v606, v609, v612, m20_, ha, Q_HO_3, Q_HO_588004, Q_BK587, Q_HB, Q_HO598, Q_HO601, Q_HO604, Q_HO607, Q_HO610, Q_HO_588004_e18, Q_HO613, Q_X20_⟩ hb_ hon hoff
        refine ⟨_, rfl, fun K hK => ?_⟩
        have e20 : a.tmps[20]? = some (.int .u8 ((a0_0) % 256)) := by rw [ha]; exact putSel_on (e := (2, 20, .int .u8 ((a0_0) % 256))) 1 rfl rfl (hon 2 (by kernel_rfl)) rfl
        replace ha := Aside0.mk ha
        have HO_3 := Aside0.mk (Q_HO_3 (hoff 18 (by kernel_rfl)))
        have HO_588004 := Aside0.mk (Q_HO_588004 (hoff 18 (by kernel_rfl)))
        have BK587 := Aside0.mk Q_BK587
        have HB := Aside0.mk Q_HB
        refine Kd.R_lit_step (Kd.int .u8) _ 5 ?hg (N := 21) ?hd (xs := ([(a0_0) % 256] : List Int)) (inner := [.int .u8 ((a0_0) % 256)]) (ok := fun _ => True) (okp := fun _ => True) ?hr ?hp (fun _ hk => by first | exact hk | (revert hk; (try simp only [zbd]); intros; repeat' (first | assumption | apply zcw | exact .inr (by assumption)))) trivial (zca _ _) (zbz _) (by simp) ?_; (case hd => rfl); (case hg => rfl); (case hr => first | (go_simp; done) | (go_simp; rfl)); (case hp => exact (Reps.one (show Kd.M (Kd.int .u8) _ _ _ ((a0_0) % 256) [.int .u8 ((a0_0) % 256)] from rfl) (zdx _ _)))
        intro v597 w22 ho23 hb hg_ hnew_
        clear hg_ hnew_
        (first | rw [← Ny596.out] at ho23 | (simp only [Int.reduceToNat] at ho23; rw [← Ny596.out] at ho23))
        have n0_ := Aside0.mk (zaz (by (with_reducible repeat (first | apply zag | apply zah | apply zai)); (first | exact HO_3.out | exact zax HO_3.out (fun _ hk => hk.1) | exact zax HO_3.out (fun _ hk => hk.1.1))) (zbc ho23) hb)
        have n1_ := Aside0.mk (Kd.V_elder' (by (with_reducible repeat (first | apply zec | apply zed | apply zen)); (first | exact HO_588004.out | exact zcv HO_588004.out (fun _ hk => hk.1) | exact zcv HO_588004.out (fun _ hk => hk.1.1))) (zbc ho23) hb)
        have n2_ := Aside0.mk (zbs (zbr (Kd.R_newM (M := fun k_ => (w.heap.size ≤ k_)) ho23 (zaj (by repeat (first | (with_reducible first | exact HB.out | apply zad | apply zaa | apply zac | refine zaf ?_ GE587.out) | exact HB.out))) (fun k_ h_ => h_)) (zbt (by (with_reducible repeat (first | apply zag | apply zah | apply zai)); (first | exact HO_3.out | exact zax HO_3.out (fun _ hk => hk.1) | exact zax HO_3.out (fun _ hk => hk.1.1))))) (zaj (by repeat (first | (with_reducible first | exact HB.out | apply zad | apply zaa | apply zac | refine zaf ?_ GE587.out) | exact HB.out))))
        have n3_ := Aside0.mk (zbg (g := gb587) (o := .cells #[.int .i64 a0_0, .string a0_1, .int .i64 a0_2, .int .i64 a0_3, .slice A0_4 l0_4.length c0_4] 48 (0, 0)) (by (with_reducible repeat (first | refine zak ?_ _ | refine zan ?_ | refine zal ?_ _)); exact BK587.out) hb)
        have n4_ := Aside0.mk (zao (by repeat (first | (with_reducible first | exact HB.out | apply zad | apply zaa | apply zac | refine zaf ?_ GE587.out) | exact HB.out)) hb)
        have z_HO601 := fun (h0_ : b 8 = true) (h1_ : b 18 = false) => (show Kd.R (Kd.int .u8) 5 w22 w.heap.size (fun k_ => (w.heap.size ≤ k_) ∧ some k_ ≠ (u3 : Value).ownBlock) v600 y599 from by first | exact (zaz (by (with_reducible repeat (first | apply zag | apply zah | apply zai)); exact (Q_HO601 h0_ h1_)) (zbc ho23) hb) | exact zax (zaz (by (with_reducible repeat (first | apply zag | apply zah | apply zai)); exact (Q_HO601 h0_ h1_)) (zbc ho23) hb) (fun _ h_ => by first | trivial | exact h_ | exact h_.1))
        have z_HO604 := fun (h0_ : b 11 = true) (h1_ : b 18 = false) => (show Kd.R (Kd.int .u8) 5 w22 w.heap.size (fun k_ => (w.heap.size ≤ k_) ∧ some k_ ≠ (u3 : Value).ownBlock) v603 t602 from by first | exact (zaz (by (with_reducible repeat (first | apply zag | apply zah | apply zai)); exact (Q_HO604 h0_ h1_)) (zbc ho23) hb) | exact zax (zaz (by (with_reducible repeat (first | apply zag | apply zah | apply zai)); exact (Q_HO604 h0_ h1_)) (zbc ho23) hb) (fun _ h_ => by first | trivial | exact h_ | exact h_.1))
        have z_HO607 := fun (h0_ : b 15 = true) (h1_ : b 18 = false) => (show Kd.R (Kd.int .u8) 5 w22 w.heap.size (fun k_ => (w.heap.size ≤ k_) ∧ some k_ ≠ (u3 : Value).ownBlock) v606 t605 from by first | exact (zaz (by (with_reducible repeat (first | apply zag | apply zah | apply zai)); exact (Q_HO607 h0_ h1_)) (zbc ho23) hb) | exact zax (zaz (by (with_reducible repeat (first | apply zag | apply zah | apply zai)); exact (Q_HO607 h0_ h1_)) (zbc ho23) hb) (fun _ h_ => by first | trivial | exact h_ | exact h_.1))
        clear HO_3
        clear HO_588004
        clear BK587
        clear HB
        have HO_3 := n0_
        have HO_588004 := n1_
        have HO598 := n2_
        have BK587 := n3_
        have HB := n4_
        clear n0_ n1_ n2_ n3_ n4_
        clear hb ho23
        refine hK.out _ _ ⟨v597, v600, v603, v606, v609, v612, m20_, (by rw [ha.out]; exact zfb 2 hb_ rfl rfl rfl), fun _ => (by (with_reducible repeat (first | apply zag | apply zah | apply zai)); (first | exact HO_3.out | exact zax HO_3.out (fun _ hk => hk.1) | exact zax HO_3.out (fun _ hk => hk.1.1))), fun _ => (by (with_reducible repeat (first | apply zec | apply zed | apply zen)); exact zcv HO_588004.out (fun _ hk => by first | exact ⟨hk.1.1, ⟨hk.2, ⟨hk.1.2.1, hk.1.2.2⟩⟩⟩ | (revert hk; (try simp only [zbd]); intros; repeat' (first | assumption | apply zcw | exact .inr (by assumption))))), (by (with_reducible repeat (first | refine zak ?_ _ | refine zan ?_ | refine zal ?_ _)); exact BK587.out), (by repeat (first | (with_reducible first | exact HB.out | apply zad | apply zaa | apply zac | refine zaf ?_ GE587.out) | exact HB.out)), fun _ _ => (by (with_reducible repeat (first | apply zag | apply zah | apply zai)); exact zax HO598.out (fun _ hk => by first | exact ⟨hk.1.1, hk.2⟩ | (revert hk; (try simp only [zbd]); intros; repeat' (first | assumption | apply zcw | exact .inr (by assumption))))), z_HO601, z_HO604, z_HO607, fun h0_ => absurd ((hoff 18 (by kernel_rfl)).symm.trans h0_) (by decide), fun h0_ => absurd ((hoff 18 (by kernel_rfl)).symm.trans h0_) (by decide), fun h0_ => absurd ((hoff 19 (by kernel_rfl)).symm.trans h0_) (by decide), fun h0_ => absurd ((hoff 20 (by kernel_rfl)).symm.trans h0_) (by decide)⟩
       refine zfa ?_ ?_
       ·rintro b a w' ⟨v597, v600, v603, v606, v609, v612, m20_, ha, Q_HO_3, Q_HO_588004, Q_BK587, Q_HB, Q_HO598, Q_HO601, Q_HO604, Q_HO607, Q_HO610, Q_HO_588004_e18, Q_HO613, Q_X20_⟩ hb_ hon hoff
        refine ⟨_, rfl, fun K hK => ?_⟩
        have e23 : a.tmps[23]? = some (.pointer (some ⟨gb587, 2, none⟩)) := by rw [ha]; exact (putSel_off rfl).trans rfl
        replace ha := Aside0.mk ha
        have HO_3 := Aside0.mk (Q_HO_3 (hoff 18 (by kernel_rfl)))
        have HO_588004 := Aside0.mk (Q_HO_588004 (hoff 18 (by kernel_rfl)))
        have BK587 := Aside0.mk Q_BK587
        have HB := Aside0.mk Q_HB
        have hc0_ : w'.cell? ⟨gb587, 0, none⟩ = some (.int .i64 a0_0) := (zae BK587.out 0).trans rfl
        have hc1_ : w'.cell? ⟨gb587, 1, none⟩ = some (.string a0_1) := (zae BK587.out 1).trans rfl
        have hc2_ : w'.cell? ⟨gb587, 2, none⟩ = some (.int .i64 a0_2) := (zae BK587.out 2).trans rfl
        have hc3_ : w'.cell? ⟨gb587, 3, none⟩ = some (.int .i64 a0_3) := (zae BK587.out 3).trans rfl
        have hc4_ : w'.cell? ⟨gb587, 4, none⟩ = some (.slice A0_4 l0_4.length c0_4) := (zae BK587.out 4).trans rfl
        refine value_ (w1 := w') (v := .int .i64 a0_2) (by rfl) rfl ?_ ?_
        ·go_simp
         (try simp only [i64_w])
         try rfl
        refine hK.out _ _ ⟨v597, v600, v603, v606, v609, v612, m20_, (by rw [ha.out]; exact zfb 3 hb_ rfl rfl rfl), Q_HO_3, Q_HO_588004, Q_BK587, Q_HB, Q_HO598, fun h0_ _ => absurd ((hoff 8 (by kernel_rfl)).symm.trans h0_) (by decide), Q_HO604, Q_HO607, fun h0_ => absurd ((hoff 18 (by kernel_rfl)).symm.trans h0_) (by decide), fun h0_ => absurd ((hoff 18 (by kernel_rfl)).symm.trans h0_) (by decide), fun h0_ => absurd ((hoff 19 (by kernel_rfl)).symm.trans h0_) (by decide), fun h0_ => absurd ((hoff 20 (by kernel_rfl)).symm.trans h0_) (by decide)⟩
       refine zfa ?_ ?_
       ·rintro b a w' ⟨v597, v600, v603, v606, v609, v612, m20_, ha, Q_HO_3, Q_HO_588004, Q_BK587, Q_HB, Q_HO598, Q_HO601, Q_HO604, Q_HO607, Q_HO610, Q_HO_588004_e18, Q_HO613, Q_X20_⟩ hb_ hon hoff
        refine ⟨_, rfl, fun K hK => ?_⟩
        have e24 : a.tmps[24]? = some (.int .i64 a0_2) := by rw [ha]; exact putSel_on (e := (6, 24, .int .i64 a0_2)) 3 rfl rfl (hon 6 (by kernel_rfl)) rfl
        replace ha := Aside0.mk ha
        have HO_3 := Aside0.mk (Q_HO_3 (hoff 18 (by kernel_rfl)))
        have HO_588004 := Aside0.mk (Q_HO_588004 (hoff 18 (by kernel_rfl)))
        have BK587 := Aside0.mk Q_BK587
        have HB := Aside0.mk Q_HB
        refine value_ (w1 := w') (v := .int .u8 ((a0_2) % 256)) (by rfl) rfl ?_ ?_
        ·go_simp
         (try simp only [i64_w])
         try rfl
        refine hK.out _ _ ⟨v597, v600, v603, v606, v609, v612, m20_, (by rw [ha.out]; exact zfb 4 hb_ rfl rfl rfl), Q_HO_3, Q_HO_588004, Q_BK587, Q_HB, Q_HO598, fun h0_ _ => absurd ((hoff 8 (by kernel_rfl)).symm.trans h0_) (by decide), Q_HO604, Q_HO607, fun h0_ => absurd ((hoff 18 (by kernel_rfl)).symm.trans h0_) (by decide), fun h0_ => absurd ((hoff 18 (by kernel_rfl)).symm.trans h0_) (by decide), fun h0_ => absurd ((hoff 19 (by kernel_rfl)).symm.trans h0_) (by decide), fun h0_ => absurd ((hoff 20 (by kernel_rfl)).symm.trans h0_) (by decide)⟩
       refine zfa ?_ ?_
       ·rintro b a w' ⟨v597, v600, v603, v606, v609, v612, m20_, ha, Q_HO_3, Q_HO_588004, Q_BK587, Q_HB, Q_HO598, Q_HO601, Q_HO604, Q_HO607, Q_HO610, Q_HO_588004_e18, Q_HO613, Q_X20_⟩ hb_ hon hoff
        refine ⟨_, rfl, fun K hK => ?_⟩
        have e25 : a.tmps[25]? = some (.int .u8 ((a0_2) % 256)) := by rw [ha]; exact putSel_on (e := (7, 25, .int .u8 ((a0_2) % 256))) 4 rfl rfl (hon 7 (by kernel_rfl)) rfl
        replace ha := Aside0.mk ha
        have HO_3 := Aside0.mk (Q_HO_3 (hoff 18 (by kernel_rfl)))
        have HO_588004 := Aside0.mk (Q_HO_588004 (hoff 18 (by kernel_rfl)))
        have BK587 := Aside0.mk Q_BK587
        have HB := Aside0.mk Q_HB
        refine Kd.R_lit_step (Kd.int .u8) _ 5 ?hg (N := 26) ?hd (xs := ([(a0_2) % 256] : List Int)) (inner := [.int .u8 ((a0_2) % 256)]) (ok := fun _ => True) (okp := fun _ => True) ?hr ?hp (fun _ hk => by first | exact hk | (revert hk; (try simp only [zbd]); intros; repeat' (first | assumption | apply zcw | exact .inr (by assumption)))) trivial (zca _ _) (zbz _) (by simp) ?_; (case hd => rfl); (case hg => rfl); (case hr => first | (go_simp; done) | (go_simp; rfl)); (case hp => exact (Reps.one (show Kd.M (Kd.int .u8) _ _ _ ((a0_2) % 256) [.int .u8 ((a0_2) % 256)] from rfl) (zdx _ _)))
        intro v600 w22 ho23 hb hg_ hnew_
        clear hg_ hnew_
        (first | rw [← Ny599.out] at ho23 | (simp only [Int.reduceToNat] at ho23; rw [← Ny599.out] at ho23))
        have n0_ := Aside0.mk (zaz (by (with_reducible repeat (first | apply zag | apply zah | apply zai)); (first | exact HO_3.out | exact zax HO_3.out (fun _ hk => hk.1) | exact zax HO_3.out (fun _ hk => hk.1.1))) (zbc ho23) hb)
        have n1_ := Aside0.mk (Kd.V_elder' (by (with_reducible repeat (first | apply zec | apply zed | apply zen)); (first | exact HO_588004.out | exact zcv HO_588004.out (fun _ hk => hk.1) | exact zcv HO_588004.out (fun _ hk => hk.1.1))) (zbc ho23) hb)
        have n2_ := Aside0.mk (zbs (zbr (Kd.R_newM (M := fun k_ => (w.heap.size ≤ k_)) ho23 (zaj (by repeat (first | (with_reducible first | exact HB.out | apply zad | apply zaa | apply zac | refine zaf ?_ GE587.out) | exact HB.out))) (fun k_ h_ => h_)) (zbt (by (with_reducible repeat (first | apply zag | apply zah | apply zai)); (first | exact HO_3.out | exact zax HO_3.out (fun _ hk => hk.1) | exact zax HO_3.out (fun _ hk => hk.1.1))))) (zaj (by repeat (first | (with_reducible first | exact HB.out | apply zad | apply zaa | apply zac | refine zaf ?_ GE587.out) | exact HB.out))))
        have n3_ := Aside0.mk (zbg (g := gb587) (o := .cells #[.int .i64 a0_0, .string a0_1, .int .i64 a0_2, .int .i64 a0_3, .slice A0_4 l0_4.length c0_4] 48 (0, 0)) (by (with_reducible repeat (first | refine zak ?_ _ | refine zan ?_ | refine zal ?_ _)); exact BK587.out) hb)
        have n4_ := Aside0.mk (zao (by repeat (first | (with_reducible first | exact HB.out | apply zad | apply zaa | apply zac | refine zaf ?_ GE587.out) | exact HB.out)) hb)
        have z_HO598 := fun (h0_ : b 3 = true) (h1_ : b 18 = false) => (show Kd.R (Kd.int .u8) 5 w22 w.heap.size (fun k_ => (w.heap.size ≤ k_) ∧ some k_ ≠ (u3 : Value).ownBlock) v597 y596 from by first | exact (zaz (by (with_reducible repeat (first | apply zag | apply zah | apply zai)); exact (Q_HO598 h0_ h1_)) (zbc ho23) hb) | exact zax (zaz (by (with_reducible repeat (first | apply zag | apply zah | apply zai)); exact (Q_HO598 h0_ h1_)) (zbc ho23) hb) (fun _ h_ => by first | trivial | exact h_ | exact h_.1))
        have z_HO604 := fun (h0_ : b 11 = true) (h1_ : b 18 = false) => (show Kd.R (Kd.int .u8) 5 w22 w.heap.size (fun k_ => (w.heap.size ≤ k_) ∧ some k_ ≠ (u3 : Value).ownBlock) v603 t602 from by first | exact (zaz (by (with_reducible repeat (first | apply zag | apply zah | apply zai)); exact (Q_HO604 h0_ h1_)) (zbc ho23) hb) | exact zax (zaz (by (with_reducible repeat (first | apply zag | apply zah | apply zai)); exact (Q_HO604 h0_ h1_)) (zbc ho23) hb) (fun _ h_ => by first | trivial | exact h_ | exact h_.1))
        have z_HO607 := fun (h0_ : b 15 = true) (h1_ : b 18 = false) => (show Kd.R (Kd.int .u8) 5 w22 w.heap.size (fun k_ => (w.heap.size ≤ k_) ∧ some k_ ≠ (u3 : Value).ownBlock) v606 t605 from by first | exact (zaz (by (with_reducible repeat (first | apply zag | apply zah | apply zai)); exact (Q_HO607 h0_ h1_)) (zbc ho23) hb) | exact zax (zaz (by (with_reducible repeat (first | apply zag | apply zah | apply zai)); exact (Q_HO607 h0_ h1_)) (zbc ho23) hb) (fun _ h_ => by first | trivial | exact h_ | exact h_.1))
        clear HO_3
        clear HO_588004
        clear BK587
        clear HB
        have HO_3 := n0_
        have HO_588004 := n1_
        have HO601 := n2_
        have BK587 := n3_
        have HB := n4_
        clear n0_ n1_ n2_ n3_ n4_
        clear hb ho23
        refine hK.out _ _ ⟨v597, v600, v603, v606, v609, v612, m20_, (by rw [ha.out]; exact zfb 5 hb_ rfl rfl rfl), fun _ => (by (with_reducible repeat (first | apply zag | apply zah | apply zai)); (first | exact HO_3.out | exact zax HO_3.out (fun _ hk => hk.1) | exact zax HO_3.out (fun _ hk => hk.1.1))), fun _ => (by (with_reducible repeat (first | apply zec | apply zed | apply zen)); exact zcv HO_588004.out (fun _ hk => by first | exact ⟨hk.1.1, ⟨hk.2, ⟨hk.1.2.1, hk.1.2.2⟩⟩⟩ | (revert hk; (try simp only [zbd]); intros; repeat' (first | assumption | apply zcw | exact .inr (by assumption))))), (by (with_reducible repeat (first | refine zak ?_ _ | refine zan ?_ | refine zal ?_ _)); exact BK587.out), (by repeat (first | (with_reducible first | exact HB.out | apply zad | apply zaa | apply zac | refine zaf ?_ GE587.out) | exact HB.out)), z_HO598, fun _ _ => (by (with_reducible repeat (first | apply zag | apply zah | apply zai)); exact zax HO601.out (fun _ hk => by first | exact ⟨hk.1.1, hk.2⟩ | (revert hk; (try simp only [zbd]); intros; repeat' (first | assumption | apply zcw | exact .inr (by assumption))))), z_HO604, z_HO607, fun h0_ => absurd ((hoff 18 (by kernel_rfl)).symm.trans h0_) (by decide), fun h0_ => absurd ((hoff 18 (by kernel_rfl)).symm.trans h0_) (by decide), fun h0_ => absurd ((hoff 19 (by kernel_rfl)).symm.trans h0_) (by decide), fun h0_ => absurd ((hoff 20 (by kernel_rfl)).symm.trans h0_) (by decide)⟩
       refine zfa ?_ ?_
       ·rintro b a w' ⟨v597, v600, v603, v606, v609, v612, m20_, ha, Q_HO_3, Q_HO_588004, Q_BK587, Q_HB, Q_HO598, Q_HO601, Q_HO604, Q_HO607, Q_HO610, Q_HO_588004_e18, Q_HO613, Q_X20_⟩ hb_ hon hoff
        refine ⟨_, rfl, fun K hK => ?_⟩
        have e27 : a.tmps[27]? = some (.pointer (some ⟨gb587, 3, none⟩)) := by rw [ha]; exact (putSel_off rfl).trans rfl
        replace ha := Aside0.mk ha
        have HO_3 := Aside0.mk (Q_HO_3 (hoff 18 (by kernel_rfl)))
        have HO_588004 := Aside0.mk (Q_HO_588004 (hoff 18 (by kernel_rfl)))
        have BK587 := Aside0.mk Q_BK587
        have HB := Aside0.mk Q_HB
        have hc0_ : w'.cell? ⟨gb587, 0, none⟩ = some (.int .i64 a0_0) := (zae BK587.out 0).trans rfl
        have hc1_ : w'.cell? ⟨gb587, 1, none⟩ = some (.string a0_1) := (zae BK587.out 1).trans rfl
        have hc2_ : w'.cell? ⟨gb587, 2, none⟩ = some (.int .i64 a0_2) := (zae BK587.out 2).trans rfl
        have hc3_ : w'.cell? ⟨gb587, 3, none⟩ = some (.int .i64 a0_3) := (zae BK587.out 3).trans rfl
        have hc4_ : w'.cell? ⟨gb587, 4, none⟩ = some (.slice A0_4 l0_4.length c0_4) := (zae BK587.out 4).trans rfl
        refine value_ (w1 := w') (v := .int .i64 a0_3) (by rfl) rfl ?_ ?_
        ·go_simp
         (try simp only [i64_w])
         try rfl
        refine hK.out _ _ ⟨v597, v600, v603, v606, v609, v612, m20_, (by rw [ha.out]; exact zfb 6 hb_ rfl rfl rfl), Q_HO_3, Q_HO_588004, Q_BK587, Q_HB, Q_HO598, Q_HO601, fun h0_ _ => absurd ((hoff 11 (by kernel_rfl)).symm.trans h0_) (by decide), fun h0_ _ => absurd ((hoff 15 (by kernel_rfl)).symm.trans h0_) (by decide), fun h0_ => absurd ((hoff 18 (by kernel_rfl)).symm.trans h0_) (by decide), fun h0_ => absurd ((hoff 18 (by kernel_rfl)).symm.trans h0_) (by decide), fun h0_ => absurd ((hoff 19 (by kernel_rfl)).symm.trans h0_) (by decide), fun h0_ => absurd ((hoff 20 (by kernel_rfl)).symm.trans h0_) (by decide)⟩
       refine zfa ?_ ?_
       ·rintro b a w' ⟨v597, v600, v603, v606, v609, v612, m20_, ha, Q_HO_3, Q_HO_588004, Q_BK587, Q_HB, Q_HO598, Q_HO601, Q_HO604, Q_HO607, Q_HO610, Q_HO_588004_e18, Q_HO613, Q_X20_⟩ hb_ hon hoff
        refine ⟨_, rfl, fun K hK => ?_⟩
        have e28 : a.tmps[28]? = some (.int .i64 a0_3) := by rw [ha]; exact putSel_on (e := (10, 28, .int .i64 a0_3)) 6 rfl rfl (hon 10 (by kernel_rfl)) rfl
        replace ha := Aside0.mk ha
        have HO_3 := Aside0.mk (Q_HO_3 (hoff 18 (by kernel_rfl)))
        have HO_588004 := Aside0.mk (Q_HO_588004 (hoff 18 (by kernel_rfl)))
        have BK587 := Aside0.mk Q_BK587
        have HB := Aside0.mk Q_HB
        refine goes_ Try.func110 (by kernel_rfl) rfl #[.int .i64 a0_3, .int .i64 4] (by rfl) rfl rfl (by first | (simp only [zam, zaq, zav, Act.eval, Array.getD_eq_getD_getElem?, Option.getD_some, e28]; done) | (simp only [zam, zaq, zav, Act.eval, Array.getD_eq_getD_getElem?, Option.getD_some, e28]; rfl)) ?_
        with_reducible refine (impl_Great.calls kj4 a0_3 4 t602 _ A16.out).mono ?_
        rintro e w22 ⟨v603, rfl, ho0, hb⟩
        refine ⟨_, rfl, ?_⟩
        have n0_ := Aside0.mk (zaz (by (with_reducible repeat (first | apply zag | apply zah | apply zai)); (first | exact HO_3.out | exact zax HO_3.out (fun _ hk => hk.1) | exact zax HO_3.out (fun _ hk => hk.1.1))) (zbc ho0) hb)
        have n1_ := Aside0.mk (Kd.V_elder' (by (with_reducible repeat (first | apply zec | apply zed | apply zen)); (first | exact HO_588004.out | exact zcv HO_588004.out (fun _ hk => hk.1) | exact zcv HO_588004.out (fun _ hk => hk.1.1))) (zbc ho0) hb)
        have n2_ := Aside0.mk (zbs (zbr (Kd.R_newM (M := fun k_ => (w.heap.size ≤ k_)) ho0 (zaj (by repeat (first | (with_reducible first | exact HB.out | apply zad | apply zaa | apply zac | refine zaf ?_ GE587.out) | exact HB.out))) (fun k_ h_ => h_)) (zbt (by (with_reducible repeat (first | apply zag | apply zah | apply zai)); (first | exact HO_3.out | exact zax HO_3.out (fun _ hk => hk.1) | exact zax HO_3.out (fun _ hk => hk.1.1))))) (zaj (by repeat (first | (with_reducible first | exact HB.out | apply zad | apply zaa | apply zac | refine zaf ?_ GE587.out) | exact HB.out))))
        have n3_ := Aside0.mk (zbg (g := gb587) (o := .cells #[.int .i64 a0_0, .string a0_1, .int .i64 a0_2, .int .i64 a0_3, .slice A0_4 l0_4.length c0_4] 48 (0, 0)) (by (with_reducible repeat (first | refine zak ?_ _ | refine zan ?_ | refine zal ?_ _)); exact BK587.out) hb)
        have n4_ := Aside0.mk (zao (by repeat (first | (with_reducible first | exact HB.out | apply zad | apply zaa | apply zac | refine zaf ?_ GE587.out) | exact HB.out)) hb)
        have z_HO598 := fun (h0_ : b 3 = true) (h1_ : b 18 = false) => (show Kd.R (Kd.int .u8) 5 w22 w.heap.size (fun k_ => (w.heap.size ≤ k_) ∧ some k_ ≠ (u3 : Value).ownBlock) v597 y596 from by first | exact (zaz (by (with_reducible repeat (first | apply zag | apply zah | apply zai)); exact (Q_HO598 h0_ h1_)) (zbc ho0) hb) | exact zax (zaz (by (with_reducible repeat (first | apply zag | apply zah | apply zai)); exact (Q_HO598 h0_ h1_)) (zbc ho0) hb) (fun _ h_ => by first | trivial | exact h_ | exact h_.1))
        have z_HO601 := fun (h0_ : b 8 = true) (h1_ : b 18 = false) => (show Kd.R (Kd.int .u8) 5 w22 w.heap.size (fun k_ => (w.heap.size ≤ k_) ∧ some k_ ≠ (u3 : Value).ownBlock) v600 y599 from by first | exact (zaz (by (with_reducible repeat (first | apply zag | apply zah | apply zai)); exact (Q_HO601 h0_ h1_)) (zbc ho0) hb) | exact zax (zaz (by (with_reducible repeat (first | apply zag | apply zah | apply zai)); exact (Q_HO601 h0_ h1_)) (zbc ho0) hb) (fun _ h_ => by first | trivial | exact h_ | exact h_.1))
        clear HO_3
        clear HO_588004
        clear BK587
        clear HB
        have HO_3 := n0_
        have HO_588004 := n1_
        have HO604 := n2_
        have BK587 := n3_
        have HB := n4_
        clear n0_ n1_ n2_ n3_ n4_
        (try clear hb)
        (try clear hb2)
        (try clear hk)
        (try clear hi)
        (try clear ho0)
        refine hK.out _ _ ⟨v597, v600, v603, v606, v609, v612, m20_, (by rw [ha.out]; exact zfb 7 hb_ rfl rfl rfl), fun _ => (by (with_reducible repeat (first | apply zag | apply zah | apply zai)); (first | exact HO_3.out | exact zax HO_3.out (fun _ hk => hk.1) | exact zax HO_3.out (fun _ hk => hk.1.1))), fun _ => (by (with_reducible repeat (first | apply zec | apply zed | apply zen)); exact zcv HO_588004.out (fun _ hk => by first | exact ⟨hk.1.1, ⟨hk.2, ⟨hk.1.2.1, hk.1.2.2⟩⟩⟩ | (revert hk; (try simp only [zbd]); intros; repeat' (first | assumption | apply zcw | exact .inr (by assumption))))), (by (with_reducible repeat (first | refine zak ?_ _ | refine zan ?_ | refine zal ?_ _)); exact BK587.out), (by repeat (first | (with_reducible first | exact HB.out | apply zad | apply zaa | apply zac | refine zaf ?_ GE587.out) | exact HB.out)), z_HO598, z_HO601, fun _ _ => (by (with_reducible repeat (first | apply zag | apply zah | apply zai)); exact zax HO604.out (fun _ hk => by first | exact ⟨hk.1.1, hk.2⟩ | (revert hk; (try simp only [zbd]); intros; repeat' (first | assumption | apply zcw | exact .inr (by assumption))))), fun h0_ _ => absurd ((hoff 15 (by kernel_rfl)).symm.trans h0_) (by decide), fun h0_ => absurd ((hoff 18 (by kernel_rfl)).symm.trans h0_) (by decide), fun h0_ => absurd ((hoff 18 (by kernel_rfl)).symm.trans h0_) (by decide), fun h0_ => absurd ((hoff 19 (by kernel_rfl)).symm.trans h0_) (by decide), fun h0_ => absurd ((hoff 20 (by kernel_rfl)).symm.trans h0_) (by decide)⟩
       refine zfa ?_ ?_
       ·rintro b a w' ⟨v597, v600, v603, v606, v609, v612, m20_, ha, Q_HO_3, Q_HO_588004, Q_BK587, Q_HB, Q_HO598, Q_HO601, Q_HO604, Q_HO607, Q_HO610, Q_HO_588004_e18, Q_HO613, Q_X20_⟩ hb_ hon hoff
        refine ⟨_, rfl, fun K hK => ?_⟩
        have e30 : a.tmps[30]? = some (.pointer (some ⟨gb587, 4, none⟩)) := by rw [ha]; exact (putSel_off rfl).trans rfl
        replace ha := Aside0.mk ha
        have HO_3 := Aside0.mk (Q_HO_3 (hoff 18 (by kernel_rfl)))
        have HO_588004 := Aside0.mk (Q_HO_588004 (hoff 18 (by kernel_rfl)))
        have BK587 := Aside0.mk Q_BK587
        have HB := Aside0.mk Q_HB
        have hc0_ : w'.cell? ⟨gb587, 0, none⟩ = some (.int .i64 a0_0) := (zae BK587.out 0).trans rfl
        have hc1_ : w'.cell? ⟨gb587, 1, none⟩ = some (.string a0_1) := (zae BK587.out 1).trans rfl
        have hc2_ : w'.cell? ⟨gb587, 2, none⟩ = some (.int .i64 a0_2) := (zae BK587.out 2).trans rfl
        have hc3_ : w'.cell? ⟨gb587, 3, none⟩ = some (.int .i64 a0_3) := (zae BK587.out 3).trans rfl
        have hc4_ : w'.cell? ⟨gb587, 4, none⟩ = some (.slice A0_4 l0_4.length c0_4) := (zae BK587.out 4).trans rfl
        refine value_ (w1 := w') (v := .slice A0_4 l0_4.length c0_4) (by rfl) rfl ?_ ?_
        ·go_simp
         (try simp only [i64_w])
         try rfl
        refine hK.out _ _ ⟨v597, v600, v603, v606, v609, v612, m20_, (by rw [ha.out]; exact zfb 8 hb_ rfl rfl rfl), Q_HO_3, Q_HO_588004, Q_BK587, Q_HB, Q_HO598, Q_HO601, Q_HO604, fun h0_ _ => absurd ((hoff 15 (by kernel_rfl)).symm.trans h0_) (by decide), fun h0_ => absurd ((hoff 18 (by kernel_rfl)).symm.trans h0_) (by decide), fun h0_ => absurd ((hoff 18 (by kernel_rfl)).symm.trans h0_) (by decide), fun h0_ => absurd ((hoff 19 (by kernel_rfl)).symm.trans h0_) (by decide), fun h0_ => absurd ((hoff 20 (by kernel_rfl)).symm.trans h0_) (by decide)⟩
       refine zfa ?_ ?_
       ·rintro b a w' ⟨v597, v600, v603, v606, v609, v612, m20_, ha, Q_HO_3, Q_HO_588004, Q_BK587, Q_HB, Q_HO598, Q_HO601, Q_HO604, Q_HO607, Q_HO610, Q_HO_588004_e18, Q_HO613, Q_X20_⟩ hb_ hon hoff
        refine ⟨_, rfl, fun K hK => ?_⟩
        have e31 : a.tmps[31]? = some (.slice A0_4 l0_4.length c0_4) := by rw [ha]; exact putSel_on (e := (13, 31, .slice A0_4 l0_4.length c0_4)) 8 rfl rfl (hon 13 (by kernel_rfl)) rfl
        replace ha := Aside0.mk ha
        have HO_3 := Aside0.mk (Q_HO_3 (hoff 18 (by kernel_rfl)))
        have HO_588004 := Aside0.mk (Q_HO_588004 (hoff 18 (by kernel_rfl)))
        have BK587 := Aside0.mk Q_BK587
        have HB := Aside0.mk Q_HB
        refine value_ (w1 := w') (v := .int .i64 (l0_4.length : Int)) (by rfl) rfl ?_ ?_
        ·go_simp
         (try simp only [i64_w])
         try rfl
        refine hK.out _ _ ⟨v597, v600, v603, v606, v609, v612, m20_, (by rw [ha.out]; exact zfb 9 hb_ rfl rfl rfl), Q_HO_3, Q_HO_588004, Q_BK587, Q_HB, Q_HO598, Q_HO601, Q_HO604, fun h0_ _ => absurd ((hoff 15 (by kernel_rfl)).symm.trans h0_) (by decide), fun h0_ => absurd ((hoff 18 (by kernel_rfl)).symm.trans h0_) (by decide), fun h0_ => absurd ((hoff 18 (by kernel_rfl)).symm.trans h0_) (by decide), fun h0_ => absurd ((hoff 19 (by kernel_rfl)).symm.trans h0_) (by decide), fun h0_ => absurd ((hoff 20 (by kernel_rfl)).symm.trans h0_) (by decide)⟩
       refine zfa ?_ ?_
       ·rintro b a w' ⟨v597, v600, v603, v606, v609, v612, m20_, ha, Q_HO_3, Q_HO_588004, Q_BK587, Q_HB, Q_HO598, Q_HO601, Q_HO604, Q_HO607, Q_HO610, Q_HO_588004_e18, Q_HO613, Q_X20_⟩ hb_ hon hoff
        refine ⟨_, rfl, fun K hK => ?_⟩
        have e32 : a.tmps[32]? = some (.int .i64 (l0_4.length : Int)) := by rw [ha]; exact putSel_on (e := (14, 32, .int .i64 (l0_4.length : Int))) 9 rfl rfl (hon 14 (by kernel_rfl)) rfl
        replace ha := Aside0.mk ha
        have HO_3 := Aside0.mk (Q_HO_3 (hoff 18 (by kernel_rfl)))
        have HO_588004 := Aside0.mk (Q_HO_588004 (hoff 18 (by kernel_rfl)))
        have BK587 := Aside0.mk Q_BK587
        have HB := Aside0.mk Q_HB
        have HO604 := Aside0.mk (Q_HO604 (hon 11 (by kernel_rfl)) (hoff 18 (by kernel_rfl)))
        refine goes_ Try.func110 (by kernel_rfl) rfl #[.int .i64 (l0_4.length : Int), .int .i64 2] (by rfl) rfl rfl (by first | (simp only [zam, zaq, zav, Act.eval, Array.getD_eq_getD_getElem?, Option.getD_some, e32]; done) | (simp only [zam, zaq, zav, Act.eval, Array.getD_eq_getD_getElem?, Option.getD_some, e32]; rfl)) ?_
        with_reducible refine (impl_Great.calls kj4 (l0_4.length : Int) 2 t605 _ A17.out).mono ?_
        rintro e w24 ⟨v606, rfl, ho0, hb⟩
        refine ⟨_, rfl, ?_⟩
        have n0_ := Aside0.mk (zaz (by (with_reducible repeat (first | apply zag | apply zah | apply zai)); (first | exact HO_3.out | exact zax HO_3.out (fun _ hk => hk.1) | exact zax HO_3.out (fun _ hk => hk.1.1))) (zbc ho0) hb)
        have n1_ := Aside0.mk (Kd.V_elder' (by (with_reducible repeat (first | apply zec | apply zed | apply zen)); (first | exact HO_588004.out | exact zcv HO_588004.out (fun _ hk => hk.1) | exact zcv HO_588004.out (fun _ hk => hk.1.1))) (zbc ho0) hb)
        have n2_ := Aside0.mk (zaz (by (with_reducible repeat (first | apply zag | apply zah | apply zai)); (first | exact HO604.out | exact zax HO604.out (fun _ hk => hk.1) | exact zax HO604.out (fun _ hk => hk.1.1))) (zbc ho0) hb)
        have n3_ := Aside0.mk (zbs (zbr (zbr (Kd.R_newM (M := fun k_ => (w.heap.size ≤ k_)) ho0 (zaj (by repeat (first | (with_reducible first | exact HB.out | apply zad | apply zaa | apply zac | refine zaf ?_ GE587.out) | exact HB.out))) (fun k_ h_ => h_)) (zbt (by (with_reducible repeat (first | apply zag | apply zah | apply zai)); (first | exact HO_3.out | exact zax HO_3.out (fun _ hk => hk.1) | exact zax HO_3.out (fun _ hk => hk.1.1))))) (zbt (by (with_reducible repeat (first | apply zag | apply zah | apply zai)); (first | exact HO604.out | exact zax HO604.out (fun _ hk => hk.1) | exact zax HO604.out (fun _ hk => hk.1.1))))) (zaj (by repeat (first | (with_reducible first | exact HB.out | apply zad | apply zaa | apply zac | refine zaf ?_ GE587.out) | exact HB.out))))
        have n4_ := Aside0.mk (zbg (g := gb587) (o := .cells #[.int .i64 a0_0, .string a0_1, .int .i64 a0_2, .int .i64 a0_3, .slice A0_4 l0_4.length c0_4] 48 (0, 0)) (by (with_reducible repeat (first | refine zak ?_ _ | refine zan ?_ | refine zal ?_ _)); exact BK587.out) hb)
        have n5_ := Aside0.mk (zao (by repeat (first | (with_reducible first | exact HB.out | apply zad | apply zaa | apply zac | refine zaf ?_ GE587.out) | exact HB.out)) hb)
        have z_HO598 := fun (h0_ : b 3 = true) (h1_ : b 18 = false) => (show Kd.R (Kd.int .u8) 5 w24 w.heap.size (fun k_ => (w.heap.size ≤ k_) ∧ some k_ ≠ (u3 : Value).ownBlock) v597 y596 from by first | exact (zaz (by (with_reducible repeat (first | apply zag | apply zah | apply zai)); exact (Q_HO598 h0_ h1_)) (zbc ho0) hb) | exact zax (zaz (by (with_reducible repeat (first | apply zag | apply zah | apply zai)); exact (Q_HO598 h0_ h1_)) (zbc ho0) hb) (fun _ h_ => by first | trivial | exact h_ | exact h_.1))
        have z_HO601 := fun (h0_ : b 8 = true) (h1_ : b 18 = false) => (show Kd.R (Kd.int .u8) 5 w24 w.heap.size (fun k_ => (w.heap.size ≤ k_) ∧ some k_ ≠ (u3 : Value).ownBlock) v600 y599 from by first | exact (zaz (by (with_reducible repeat (first | apply zag | apply zah | apply zai)); exact (Q_HO601 h0_ h1_)) (zbc ho0) hb) | exact zax (zaz (by (with_reducible repeat (first | apply zag | apply zah | apply zai)); exact (Q_HO601 h0_ h1_)) (zbc ho0) hb) (fun _ h_ => by first | trivial | exact h_ | exact h_.1))
        clear HO_3
        clear HO_588004
        clear HO604
        clear BK587
        clear HB
        have HO_3 := n0_
        have HO_588004 := n1_
        have HO604 := n2_
        have HO607 := n3_
        have BK587 := n4_
        have HB := n5_
        clear n0_ n1_ n2_ n3_ n4_ n5_
        (try clear hb)
        (try clear hb2)
        (try clear hk)
        (try clear hi)
        (try clear ho0)
        refine hK.out _ _ ⟨v597, v600, v603, v606, v609, v612, m20_, (by rw [ha.out]; exact zfb 10 hb_ rfl rfl rfl), fun _ => (by (with_reducible repeat (first | apply zag | apply zah | apply zai)); exact zax HO_3.out (fun _ hk => by first | exact ⟨hk.1.1, ⟨hk.1.2, hk.2⟩⟩ | (revert hk; (try simp only [zbd]); intros; repeat' (first | assumption | apply zcw | exact .inr (by assumption))))), fun _ => (by (with_reducible repeat (first | apply zec | apply zed | apply zen)); exact zcv HO_588004.out (fun _ hk => by first | exact ⟨hk.1.1, ⟨hk.1.2.1, ⟨hk.2, ⟨hk.1.2.2.1, hk.1.2.2.2⟩⟩⟩⟩ | (revert hk; (try simp only [zbd]); intros; repeat' (first | assumption | apply zcw | exact .inr (by assumption))))), (by (with_reducible repeat (first | refine zak ?_ _ | refine zan ?_ | refine zal ?_ _)); exact BK587.out), (by repeat (first | (with_reducible first | exact HB.out | apply zad | apply zaa | apply zac | refine zaf ?_ GE587.out) | exact HB.out)), z_HO598, z_HO601, fun _ _ => (by (with_reducible repeat (first | apply zag | apply zah | apply zai)); exact zax HO604.out (fun _ hk => by first | exact ⟨hk.1.1, ⟨hk.2, hk.1.2⟩⟩ | (revert hk; (try simp only [zbd]); intros; repeat' (first | assumption | apply zcw | exact .inr (by assumption))))), fun _ _ => (by (with_reducible repeat (first | apply zag | apply zah | apply zai)); exact zax HO607.out (fun _ hk => by first | exact ⟨hk.1.1.1, ⟨hk.2, hk.1.2⟩⟩ | (revert hk; (try simp only [zbd]); intros; repeat' (first | assumption | apply zcw | exact .inr (by assumption))))), fun h0_ => absurd ((hoff 18 (by kernel_rfl)).symm.trans h0_) (by decide), fun h0_ => absurd ((hoff 18 (by kernel_rfl)).symm.trans h0_) (by decide), fun h0_ => absurd ((hoff 19 (by kernel_rfl)).symm.trans h0_) (by decide), fun h0_ => absurd ((hoff 20 (by kernel_rfl)).symm.trans h0_) (by decide)⟩
       refine zfa ?_ ?_
       ·rintro b a w' ⟨v597, v600, v603, v606, v609, v612, m20_, ha, Q_HO_3, Q_HO_588004, Q_BK587, Q_HB, Q_HO598, Q_HO601, Q_HO604, Q_HO607, Q_HO610, Q_HO_588004_e18, Q_HO613, Q_X20_⟩ hb_ hon hoff
        refine ⟨_, rfl, fun K hK => ?_⟩
        have e34 : a.tmps[34]? = some (.pointer (some ⟨gb587, 4, none⟩)) := by rw [ha]; exact (putSel_off rfl).trans rfl
        replace ha := Aside0.mk ha
        have HO_3 := Aside0.mk (Q_HO_3 (hoff 18 (by kernel_rfl)))
        have HO_588004 := Aside0.mk (Q_HO_588004 (hoff 18 (by kernel_rfl)))
        have BK587 := Aside0.mk Q_BK587
        have HB := Aside0.mk Q_HB
        have hc0_ : w'.cell? ⟨gb587, 0, none⟩ = some (.int .i64 a0_0) := (zae BK587.out 0).trans rfl
        have hc1_ : w'.cell? ⟨gb587, 1, none⟩ = some (.string a0_1) := (zae BK587.out 1).trans rfl
        have hc2_ : w'.cell? ⟨gb587, 2, none⟩ = some (.int .i64 a0_2) := (zae BK587.out 2).trans rfl
        have hc3_ : w'.cell? ⟨gb587, 3, none⟩ = some (.int .i64 a0_3) := (zae BK587.out 3).trans rfl
        have hc4_ : w'.cell? ⟨gb587, 4, none⟩ = some (.slice A0_4 l0_4.length c0_4) := (zae BK587.out 4).trans rfl
        refine value_ (w1 := w') (v := .slice A0_4 l0_4.length c0_4) (by rfl) rfl ?_ ?_
        ·go_simp
         (try simp only [i64_w])
         try rfl
        refine hK.out _ _ ⟨v597, v600, v603, v606, v609, v612, m20_, (by rw [ha.out]; exact zfb 11 hb_ rfl rfl rfl), Q_HO_3, Q_HO_588004, Q_BK587, Q_HB, Q_HO598, Q_HO601, Q_HO604, Q_HO607, fun h0_ => absurd ((hoff 18 (by kernel_rfl)).symm.trans h0_) (by decide), fun h0_ => absurd ((hoff 18 (by kernel_rfl)).symm.trans h0_) (by decide), fun h0_ => absurd ((hoff 19 (by kernel_rfl)).symm.trans h0_) (by decide), fun h0_ => absurd ((hoff 20 (by kernel_rfl)).symm.trans h0_) (by decide)⟩
       refine zfa ?_ ?_
       ·rintro b a w' ⟨v597, v600, v603, v606, v609, v612, m20_, ha, Q_HO_3, Q_HO_588004, Q_BK587, Q_HB, Q_HO598, Q_HO601, Q_HO604, Q_HO607, Q_HO610, Q_HO_588004_e18, Q_HO613, Q_X20_⟩ hb_ hon hoff
        refine ⟨_, rfl, fun K hK => ?_⟩
        have e21 : a.tmps[21]? = some (v597) := by rw [ha]; exact putSel_on (e := (3, 21, v597)) 2 rfl rfl (hon 3 (by kernel_rfl)) rfl
        have e22 : a.tmps[22]? = some u3 := by rw [ha]; exact (putSel_off rfl).trans rfl
        have e26 : a.tmps[26]? = some (v600) := by rw [ha]; exact putSel_on (e := (8, 26, v600)) 5 rfl rfl (hon 8 (by kernel_rfl)) rfl
        have e29 : a.tmps[29]? = some (v603) := by rw [ha]; exact putSel_on (e := (11, 29, v603)) 7 rfl rfl (hon 11 (by kernel_rfl)) rfl
        have e33 : a.tmps[33]? = some (v606) := by rw [ha]; exact putSel_on (e := (15, 33, v606)) 10 rfl rfl (hon 15 (by kernel_rfl)) rfl
        have e35 : a.tmps[35]? = some (.slice A0_4 l0_4.length c0_4) := by rw [ha]; exact putSel_on (e := (17, 35, .slice A0_4 l0_4.length c0_4)) 11 rfl rfl (hon 17 (by kernel_rfl)) rfl
        replace ha := Aside0.mk ha
        have HO_3 := Aside0.mk (Q_HO_3 hb_)
        have HO_588004 := Aside0.mk (Q_HO_588004 hb_)
        have BK587 := Aside0.mk Q_BK587
        have HB := Aside0.mk Q_HB
        have HO598 := Aside0.mk (Q_HO598 (hon 3 (by kernel_rfl)) hb_)
        have HO601 := Aside0.mk (Q_HO601 (hon 8 (by kernel_rfl)) hb_)
        have HO604 := Aside0.mk (Q_HO604 (hon 11 (by kernel_rfl)) hb_)
        have HO607 := Aside0.mk (Q_HO607 (hon 15 (by kernel_rfl)) hb_)
        obtain ⟨Ao29, co29, eo29⟩ := zcf HO598.out
        (first | subst eo29 | (injection eo29 with f1_ f2_ f3_; have f4_ := f1_.symm; have f5_ := f3_.symm; clear f1_ f2_ f3_; subst f4_; subst f5_))
        obtain ⟨Ao30, co30, eo30⟩ := zcf HO_3.out
        (first | subst eo30 | (injection eo30 with f1_ f2_ f3_; have f4_ := f1_.symm; have f5_ := f3_.symm; clear f1_ f2_ f3_; subst f4_; subst f5_))
        obtain ⟨Ao31, co31, eo31⟩ := zcf HO601.out
        (first | subst eo31 | (injection eo31 with f1_ f2_ f3_; have f4_ := f1_.symm; have f5_ := f3_.symm; clear f1_ f2_ f3_; subst f4_; subst f5_))
        obtain ⟨Ao32, co32, eo32⟩ := zcf HO604.out
        (first | subst eo32 | (injection eo32 with f1_ f2_ f3_; have f4_ := f1_.symm; have f5_ := f3_.symm; clear f1_ f2_ f3_; subst f4_; subst f5_))
        obtain ⟨Ao33, co33, eo33⟩ := zcf HO607.out
        (first | subst eo33 | (injection eo33 with f1_ f2_ f3_; have f4_ := f1_.symm; have f5_ := f3_.symm; clear f1_ f2_ f3_; subst f4_; subst f5_))
        refine Kd.N_lit_step (Kd.slice 5 (Kd.int .u8)) _ 29 ?hg (N' := 36) ?hd (xs := ([y596, x3_4, y599, t602, t605, l0_4] : List (List Int))) (inner := [.slice Ao29 y596.length co29, .slice Ao30 x3_4.length co30, .slice Ao31 y599.length co31, .slice Ao32 t602.length co32, .slice Ao33 t605.length co33, .slice A0_4 l0_4.length c0_4]) (ok := (fun k_ => (P0_4_ k_ ∨ w.heap.size ≤ k_) ∧ k_ ≠ gb587)) (okp := (fun k_ => (P0_4_ k_ ∨ w.heap.size ≤ k_) ∧ k_ ≠ gb587)) ?hr ?hp (fun _ hk => by first | exact hk | (revert hk; (try simp only [zbd]); intros; repeat' (first | assumption | apply zcw | exact .inr (by assumption)))) ((show ∀ k_, w'.heap.size ≤ k_ → (fun k_ => (P0_4_ k_ ∨ w.heap.size ≤ k_) ∧ k_ ≠ gb587) k_ from fun k_ hk => ⟨(.inr (Nat.le_trans (zaj (by repeat (first | (with_reducible first | exact HB.out | apply zad | apply zaa | apply zac | refine zaf ?_ GE587.out) | exact HB.out))) hk)), Kd.freshB (g := gb587) (o := .cells #[.int .i64 a0_0, .string a0_1, .int .i64 a0_2, .int .i64 a0_3, .slice A0_4 l0_4.length c0_4] 48 (0, 0)) (by (with_reducible repeat (first | refine zak ?_ _ | refine zan ?_ | refine zal ?_ _)); exact BK587.out) k_ hk⟩) _ (zbz _)) (zca _ _) (zbz _) (by simp) ?_; (case hd => rfl); (case hg => rfl); (case hr => first | (go_simp; done) | (go_simp; rfl)); (case hp => exact (Reps.one (show Kd.FK (Kd.slice 5 (Kd.int .u8)) _ _ y596 [.slice Ao29 y596.length co29] from (Kd.FK_slice_mk (zbb (zax (ok' := (fun k_ => (P0_4_ k_ ∨ w.heap.size ≤ k_) ∧ k_ ≠ gb587)) (zcp (HO598.out) BK587.out (by decide)) (fun k_ hk => by first | exact ⟨(.inr (hk.1.1)), hk.2⟩ | (revert hk; (try simp only [zbd]); intros; repeat' (first | assumption | apply zcw | exact .inr (by assumption)))))).2.1 (Kd.R_F (zax (ok' := (fun k_ => (P0_4_ k_ ∨ w.heap.size ≤ k_) ∧ k_ ≠ gb587)) (zcp (HO598.out) BK587.out (by decide)) (fun k_ hk => by first | exact ⟨(.inr (hk.1.1)), hk.2⟩ | (revert hk; (try simp only [zbd]); intros; repeat' (first | assumption | apply zcw | exact .inr (by assumption)))))))) (Reps.one (show Kd.FK (Kd.slice 5 (Kd.int .u8)) _ _ x3_4 [.slice Ao30 x3_4.length co30] from (Kd.FK_slice_mk (zbb (zax (ok' := (fun k_ => (P0_4_ k_ ∨ w.heap.size ≤ k_) ∧ k_ ≠ gb587)) (zcp (HO_3.out) BK587.out (by decide)) (fun k_ hk => by first | exact ⟨(.inr (hk.1.1)), hk.2⟩ | (revert hk; (try simp only [zbd]); intros; repeat' (first | assumption | apply zcw | exact .inr (by assumption)))))).2.1 (Kd.R_F (zax (ok' := (fun k_ => (P0_4_ k_ ∨ w.heap.size ≤ k_) ∧ k_ ≠ gb587)) (zcp (HO_3.out) BK587.out (by decide)) (fun k_ hk => by first | exact ⟨(.inr (hk.1.1)), hk.2⟩ | (revert hk; (try simp only [zbd]); intros; repeat' (first | assumption | apply zcw | exact .inr (by assumption)))))))) (Reps.one (show Kd.FK (Kd.slice 5 (Kd.int .u8)) _ _ y599 [.slice Ao31 y599.length co31] from (Kd.FK_slice_mk (zbb (zax (ok' := (fun k_ => (P0_4_ k_ ∨ w.heap.size ≤ k_) ∧ k_ ≠ gb587)) (zcp (HO601.out) BK587.out (by decide)) (fun k_ hk => by first | exact ⟨(.inr (hk.1.1)), hk.2⟩ | (revert hk; (try simp only [zbd]); intros; repeat' (first | assumption | apply zcw | exact .inr (by assumption)))))).2.1 (Kd.R_F (zax (ok' := (fun k_ => (P0_4_ k_ ∨ w.heap.size ≤ k_) ∧ k_ ≠ gb587)) (zcp (HO601.out) BK587.out (by decide)) (fun k_ hk => by first | exact ⟨(.inr (hk.1.1)), hk.2⟩ | (revert hk; (try simp only [zbd]); intros; repeat' (first | assumption | apply zcw | exact .inr (by assumption)))))))) (Reps.one (show Kd.FK (Kd.slice 5 (Kd.int .u8)) _ _ t602 [.slice Ao32 t602.length co32] from (Kd.FK_slice_mk (zbb (zax (ok' := (fun k_ => (P0_4_ k_ ∨ w.heap.size ≤ k_) ∧ k_ ≠ gb587)) (zcp (HO604.out) BK587.out (by decide)) (fun k_ hk => by first | exact ⟨(.inr (hk.1.1)), hk.2⟩ | (revert hk; (try simp only [zbd]); intros; repeat' (first | assumption | apply zcw | exact .inr (by assumption)))))).2.1 (Kd.R_F (zax (ok' := (fun k_ => (P0_4_ k_ ∨ w.heap.size ≤ k_) ∧ k_ ≠ gb587)) (zcp (HO604.out) BK587.out (by decide)) (fun k_ hk => by first | exact ⟨(.inr (hk.1.1)), hk.2⟩ | (revert hk; (try simp only [zbd]); intros; repeat' (first | assumption | apply zcw | exact .inr (by assumption)))))))) (Reps.one (show Kd.FK (Kd.slice 5 (Kd.int .u8)) _ _ t605 [.slice Ao33 t605.length co33] from (Kd.FK_slice_mk (zbb (zax (ok' := (fun k_ => (P0_4_ k_ ∨ w.heap.size ≤ k_) ∧ k_ ≠ gb587)) (zcp (HO607.out) BK587.out (by decide)) (fun k_ hk => by first | exact ⟨(.inr (hk.1.1)), hk.2⟩ | (revert hk; (try simp only [zbd]); intros; repeat' (first | assumption | apply zcw | exact .inr (by assumption)))))).2.1 (Kd.R_F (zax (ok' := (fun k_ => (P0_4_ k_ ∨ w.heap.size ≤ k_) ∧ k_ ≠ gb587)) (zcp (HO607.out) BK587.out (by decide)) (fun k_ hk => by first | exact ⟨(.inr (hk.1.1)), hk.2⟩ | (revert hk; (try simp only [zbd]); intros; repeat' (first | assumption | apply zcw | exact .inr (by assumption)))))))) (Reps.one (show Kd.FK (Kd.slice 5 (Kd.int .u8)) _ _ l0_4 [.slice A0_4 l0_4.length c0_4] from (Kd.FK_slice_mk (Kd.V_reads' (zcv (ok' := (fun k_ => (P0_4_ k_ ∨ w.heap.size ≤ k_) ∧ k_ ≠ gb587)) (HO_588004.out) (fun k_ hk => by first | exact ⟨hk.1, hk.2.2.2.2.2.2⟩ | (revert hk; (try simp only [zbd]); intros; repeat' (first | assumption | apply zcw | exact .inr (by assumption)))))).2.1 (Kd.V_F (zcv (ok' := (fun k_ => (P0_4_ k_ ∨ w.heap.size ≤ k_) ∧ k_ ≠ gb587)) (HO_588004.out) (fun k_ hk => by first | exact ⟨hk.1, hk.2.2.2.2.2.2⟩ | (revert hk; (try simp only [zbd]); intros; repeat' (first | assumption | apply zcw | exact .inr (by assumption)))))))) (zdx _ _))))))))
        intro v609 w34 ho35 hb hg_ hnew_
        clear hg_ hnew_
        (first | rw [← Ny608.out] at ho35 | (simp only [Int.reduceToNat] at ho35; rw [← Ny608.out] at ho35))
        have n0_ := Aside0.mk (Kd.V_elder' (by (with_reducible repeat (first | apply zec | apply zed | apply zen)); (first | exact HO_588004.out | exact zcv HO_588004.out (fun _ hk => hk.1) | exact zcv HO_588004.out (fun _ hk => hk.1.1))) (Kd.N_base ho35) hb)
        have n1_ := Aside0.mk (Kd.N_lower ho35 (zaj (by repeat (first | (with_reducible first | exact HB.out | apply zad | apply zaa | apply zac | refine zaf ?_ GE587.out) | exact HB.out))))
        have n2_ := Aside0.mk (zbg (g := gb587) (o := .cells #[.int .i64 a0_0, .string a0_1, .int .i64 a0_2, .int .i64 a0_3, .slice A0_4 l0_4.length c0_4] 48 (0, 0)) (by (with_reducible repeat (first | refine zak ?_ _ | refine zan ?_ | refine zal ?_ _)); exact BK587.out) hb)
        have n3_ := Aside0.mk (zao (by repeat (first | (with_reducible first | exact HB.out | apply zad | apply zaa | apply zac | refine zaf ?_ GE587.out) | exact HB.out)) hb)
        clear HO_588004
        clear BK587
        clear HB
        clear HO598
        clear HO601
        clear HO604
        clear HO607
        clear HO_3
        have HO_588004 := n0_
        have HO610 := n1_
        have BK587 := n2_
        have HB := n3_
        clear n0_ n1_ n2_ n3_
        clear hb ho35
        refine hK.out _ _ ⟨.slice Ao29 y596.length co29, .slice Ao31 y599.length co31, .slice Ao32 t602.length co32, .slice Ao33 t605.length co33, v609, v612, m20_, (by rw [ha.out]; exact zfb 12 hb_ rfl rfl rfl), fun h0_ => absurd ((up_self b 18).symm.trans h0_) (by decide), fun h0_ => absurd ((up_self b 18).symm.trans h0_) (by decide), (by (with_reducible repeat (first | refine zak ?_ _ | refine zan ?_ | refine zal ?_ _)); exact BK587.out), (by repeat (first | (with_reducible first | exact HB.out | apply zad | apply zaa | apply zac | refine zaf ?_ GE587.out) | exact HB.out)), fun _ h1_ => absurd ((up_self b 18).symm.trans h1_) (by decide), fun _ h1_ => absurd ((up_self b 18).symm.trans h1_) (by decide), fun _ h1_ => absurd ((up_self b 18).symm.trans h1_) (by decide), fun _ h1_ => absurd ((up_self b 18).symm.trans h1_) (by decide), fun _ => (by (with_reducible repeat (first | apply Kd.N_alloc | apply Kd.N_drewN | apply Kd.N_drew)); exact HO610.out), fun _ => (by (with_reducible repeat (first | apply zec | apply zed | apply zen)); exact zcv HO_588004.out (fun _ hk => by first | exact ⟨hk.1.1, ⟨hk.2, hk.1.2.2.2.2.2.2⟩⟩ | (revert hk; (try simp only [zbd]); intros; repeat' (first | assumption | apply zcw | exact .inr (by assumption))))), fun h0_ => absurd ((hoff 19 (by kernel_rfl)).symm.trans h0_) (by decide), fun h0_ => absurd ((hoff 20 (by kernel_rfl)).symm.trans h0_) (by decide)⟩
       refine zfa ?_ ?_
       ·rintro b a w' ⟨v597, v600, v603, v606, v609, v612, m20_, ha, Q_HO_3, Q_HO_588004, Q_BK587, Q_HB, Q_HO598, Q_HO601, Q_HO604, Q_HO607, Q_HO610, Q_HO_588004_e18, Q_HO613, Q_X20_⟩ hb_ hon hoff
        refine ⟨_, rfl, fun K hK => ?_⟩
        have e36 : a.tmps[36]? = some (v609) := by rw [ha]; exact putSel_on (e := (18, 36, v609)) 12 rfl rfl (hon 18 (by kernel_rfl)) rfl
        replace ha := Aside0.mk ha
        have BK587 := Aside0.mk Q_BK587
        have HB := Aside0.mk Q_HB
        have HO610 := Aside0.mk (Q_HO610 (hon 18 (by kernel_rfl)))
        have HO_588004 := Aside0.mk (Q_HO_588004_e18 (hon 18 (by kernel_rfl)))
        obtain ⟨Ao36, co36, eo36⟩ := Kd.N_slice HO610.out
        (first | subst eo36 | (injection eo36 with f1_ f2_ f3_; have f4_ := f1_.symm; have f5_ := f3_.symm; clear f1_ f2_ f3_; subst f4_; subst f5_))
        refine goes_ Try.func109 (by kernel_rfl) rfl #[.slice Ao36 y608.length co36] (by rfl) rfl rfl (by first | (simp only [zam, zaq, zav, Act.eval, Array.getD_eq_getD_getElem?, Option.getD_some, e36]; done) | (simp only [zam, zaq, zav, Act.eval, Array.getD_eq_getD_getElem?, Option.getD_some, e36]; rfl)) ?_
        with_reducible refine (impl_joined.calls _ _ y608 t611 _ ?side1 ?side2 A18.out).mono ?_
        (case side1 => repeat (first | exact (Kd.N_reads' HO610.out).2.2 | (with_reducible refine zbm ?_ _) | (with_reducible refine zbn ?_ _) | (with_reducible refine zbv ?_)))
        (case side2 => exact (Kd.N_reads' HO610.out).2.1)
        rintro e w37 ⟨v612, rfl, ho0, hb⟩
        refine ⟨_, rfl, ?_⟩
        have n0_ := Aside0.mk (Kd.V_elder' (by (with_reducible repeat (first | apply zec | apply zed | apply zen)); (first | exact HO_588004.out | exact zcv HO_588004.out (fun _ hk => hk.1) | exact zcv HO_588004.out (fun _ hk => hk.1.1))) (zbc ho0) hb)
        have n1_ := Aside0.mk (Kd.N_elder' (by (with_reducible repeat (first | apply Kd.N_alloc | apply Kd.N_drewN | apply Kd.N_drew)); exact HO610.out) (zbc ho0) hb)
        have n2_ := Aside0.mk (zbs (Kd.R_newM (M := fun k_ => (w.heap.size ≤ k_)) ho0 (zaj (by repeat (first | (with_reducible first | exact HB.out | apply zad | apply zaa | apply zac | refine zaf ?_ GE587.out) | exact HB.out))) (fun k_ h_ => h_)) (zaj (by repeat (first | (with_reducible first | exact HB.out | apply zad | apply zaa | apply zac | refine zaf ?_ GE587.out) | exact HB.out))))
        have n3_ := Aside0.mk (zbg (g := gb587) (o := .cells #[.int .i64 a0_0, .string a0_1, .int .i64 a0_2, .int .i64 a0_3, .slice A0_4 l0_4.length c0_4] 48 (0, 0)) (by (with_reducible repeat (first | refine zak ?_ _ | refine zan ?_ | refine zal ?_ _)); exact BK587.out) hb)
        have n4_ := Aside0.mk (zao (by repeat (first | (with_reducible first | exact HB.out | apply zad | apply zaa | apply zac | refine zaf ?_ GE587.out) | exact HB.out)) hb)
        clear HO_588004
        clear HO610
        clear BK587
        clear HB
        have HO_588004 := n0_
        have HO610 := n1_
        have HO613 := n2_
        have BK587 := n3_
        have HB := n4_
        clear n0_ n1_ n2_ n3_ n4_
        (try clear hb)
        (try clear hb2)
        (try clear hk)
        (try clear hi)
        (try clear ho0)
        refine hK.out _ _ ⟨v597, v600, v603, v606, .slice Ao36 y608.length co36, v612, m20_, (by rw [ha.out]; exact zfb 13 hb_ rfl rfl rfl), fun h0_ => absurd ((hon 18 (by kernel_rfl)).symm.trans h0_) (by decide), fun h0_ => absurd ((hon 18 (by kernel_rfl)).symm.trans h0_) (by decide), (by (with_reducible repeat (first | refine zak ?_ _ | refine zan ?_ | refine zal ?_ _)); exact BK587.out), (by repeat (first | (with_reducible first | exact HB.out | apply zad | apply zaa | apply zac | refine zaf ?_ GE587.out) | exact HB.out)), fun _ h1_ => absurd ((hon 18 (by kernel_rfl)).symm.trans h1_) (by decide), fun _ h1_ => absurd ((hon 18 (by kernel_rfl)).symm.trans h1_) (by decide), fun _ h1_ => absurd ((hon 18 (by kernel_rfl)).symm.trans h1_) (by decide), fun _ h1_ => absurd ((hon 18 (by kernel_rfl)).symm.trans h1_) (by decide), fun _ => (by (with_reducible repeat (first | apply Kd.N_alloc | apply Kd.N_drewN | apply Kd.N_drew)); exact Kd.N_mono HO610.out (fun _ hk => by first | exact ⟨hk.1.1, ⟨hk.2, hk.1.2⟩⟩ | (revert hk; (try simp only [zbd]); intros; repeat' (first | assumption | apply zcw | exact .inr (by assumption))))), fun _ => (by (with_reducible repeat (first | apply zec | apply zed | apply zen)); exact zcv HO_588004.out (fun _ hk => by first | exact ⟨hk.1.1, ⟨hk.1.2.1, ⟨hk.2, hk.1.2.2⟩⟩⟩ | (revert hk; (try simp only [zbd]); intros; repeat' (first | assumption | apply zcw | exact .inr (by assumption))))), fun _ => (by (with_reducible repeat (first | apply zag | apply zah | apply zai)); exact zax HO613.out (fun _ hk => by first | exact hk.1 | (revert hk; (try simp only [zbd]); intros; repeat' (first | assumption | apply zcw | exact .inr (by assumption))))), fun h0_ => absurd ((hoff 20 (by kernel_rfl)).symm.trans h0_) (by decide)⟩
       refine zfa ?_ ?_
       ·rintro b a w' ⟨v597, v600, v603, v606, v609, v612, m20_, ha, Q_HO_3, Q_HO_588004, Q_BK587, Q_HB, Q_HO598, Q_HO601, Q_HO604, Q_HO607, Q_HO610, Q_HO_588004_e18, Q_HO613, Q_X20_⟩ hb_ hon hoff
        refine ⟨_, rfl, fun K hK => ?_⟩
        have e37 : a.tmps[37]? = some (v612) := by rw [ha]; exact putSel_on (e := (19, 37, v612)) 13 rfl rfl (hon 19 (by kernel_rfl)) rfl
        replace ha := Aside0.mk ha
        have BK587 := Aside0.mk Q_BK587
        have HB := Aside0.mk Q_HB
        have HO610 := Aside0.mk (Q_HO610 (hon 18 (by kernel_rfl)))
        have HO_588004 := Aside0.mk (Q_HO_588004_e18 (hon 18 (by kernel_rfl)))
        have HO613 := Aside0.mk (Q_HO613 (hon 19 (by kernel_rfl)))
        refine value_ (w1 := w') (v := v612) (by rfl) rfl ?_ ?_
        ·go_simp
         (try simp only [i64_w])
         try rfl
        refine hK.out _ _ ⟨v597, v600, v603, v606, v609, v612, (v612), (by rw [ha.out]; exact zfb 14 hb_ rfl rfl rfl), fun h0_ => absurd ((hon 18 (by kernel_rfl)).symm.trans h0_) (by decide), fun h0_ => absurd ((hon 18 (by kernel_rfl)).symm.trans h0_) (by decide), Q_BK587, Q_HB, fun _ h1_ => absurd ((hon 18 (by kernel_rfl)).symm.trans h1_) (by decide), fun _ h1_ => absurd ((hon 18 (by kernel_rfl)).symm.trans h1_) (by decide), fun _ h1_ => absurd ((hon 18 (by kernel_rfl)).symm.trans h1_) (by decide), fun _ h1_ => absurd ((hon 18 (by kernel_rfl)).symm.trans h1_) (by decide), Q_HO610, Q_HO_588004_e18, Q_HO613, fun _ => rfl⟩
       exact steps_nil
      rintro b a w37 hall ⟨v597, v600, v603, v606, v609, v612, m20_, ha, Q_HO_3, Q_HO_588004, Q_BK587, Q_HB, Q_HO598, Q_HO601, Q_HO604, Q_HO607, Q_HO610, Q_HO_588004_e18, Q_HO613, Q_X20_⟩
      clear BK587 HB HO_3 HO_588004
      have hb1_ := hall 1 (by kernel_rfl)
      have hb2_ := hall 2 (by kernel_rfl)
      have hb3_ := hall 3 (by kernel_rfl)
      have hb6_ := hall 6 (by kernel_rfl)
      have hb7_ := hall 7 (by kernel_rfl)
      have hb8_ := hall 8 (by kernel_rfl)
      have hb10_ := hall 10 (by kernel_rfl)
      have hb11_ := hall 11 (by kernel_rfl)
      have hb13_ := hall 13 (by kernel_rfl)
      have hb14_ := hall 14 (by kernel_rfl)
      have hb15_ := hall 15 (by kernel_rfl)
      have hb17_ := hall 17 (by kernel_rfl)
      have hb18_ := hall 18 (by kernel_rfl)
      have hb19_ := hall 19 (by kernel_rfl)
      have hb20_ := hall 20 (by kernel_rfl)
      subst ha
      obtain rfl := Q_X20_ hb20_
      simp only [putSel, hb1_, hb2_, hb3_, hb6_, hb7_, hb8_, hb10_, hb11_, hb13_, hb14_, hb15_, hb17_, hb18_, hb19_, hb20_, if_true, Act.put, zay, zbk, zbl]
      clear Q_HO_3
      clear Q_HO_588004
      have BK587 := Aside0.mk Q_BK587
      clear Q_BK587
      have HB := Aside0.mk Q_HB
      clear Q_HB
      clear Q_HO598
      clear Q_HO601
      clear Q_HO604
      clear Q_HO607
      have HO610 := Aside0.mk (Q_HO610 hb18_)
      clear Q_HO610
      have HO_588004 := Aside0.mk (Q_HO_588004_e18 hb18_)
      clear Q_HO_588004_e18
      have HO613 := Aside0.mk (Q_HO613 hb19_)
      clear Q_HO613
      clear hall hb1_ hb2_ hb3_ hb6_ hb7_ hb8_ hb10_ hb11_ hb13_ hb14_ hb15_ hb17_ hb18_ hb19_ hb20_
      obtain ⟨Ao38, co38, eo38⟩ := zcf HO613.out
      subst eo38
      try go_wp2_with (first | ((with_reducible refine zba (f := 110) rfl ?_); refine goesL_ (some 41) rfl rfl Try.func110 (by kernel_rfl) rfl #[.int .i64 (t611.length : Int), .int .i64 2] rfl (by (try simp only [zam, zaq, zav]); first | done | rfl | (simp only [zbp, zbq]; rfl) | (simp only [zbp, zbq]; rw [zcu (zdy.mpr (zep (by assumption)))])) ?_; (with_reducible refine (impl_Great.calls kj4 (t611.length : Int) 2 t614 _ A19.out).mono ?_); rintro e w39 ⟨v615, rfl, ho0, hb⟩; refine ⟨_, rfl, ?_⟩; have n0_ := Aside0.mk (Kd.V_elder' (by (with_reducible repeat (first | apply zec | apply zed | apply zen)); (first | exact HO_588004.out | exact zcv HO_588004.out (fun _ hk => hk.1) | exact zcv HO_588004.out (fun _ hk => hk.1.1))) (zbc ho0) hb); have n1_ := Aside0.mk (Kd.N_elder' (by (with_reducible repeat (first | apply Kd.N_alloc | apply Kd.N_drewN | apply Kd.N_drew)); exact HO610.out) (zbc ho0) hb); have n2_ := Aside0.mk (zaz (by (with_reducible repeat (first | apply zag | apply zah | apply zai)); (first | exact HO613.out | exact zax HO613.out (fun _ hk => hk.1) | exact zax HO613.out (fun _ hk => hk.1.1))) (zbc ho0) hb); have n3_ := Aside0.mk (zbs (zbr (Kd.R_newM (M := fun k_ => (w.heap.size ≤ k_)) ho0 (zaj (by repeat (first | (with_reducible first | exact HB.out | apply zad | apply zaa | apply zac | refine zaf ?_ GE587.out) | exact HB.out))) (fun k_ h_ => h_)) (zbt (by (with_reducible repeat (first | apply zag | apply zah | apply zai)); (first | exact HO613.out | exact zax HO613.out (fun _ hk => hk.1) | exact zax HO613.out (fun _ hk => hk.1.1))))) (zaj (by repeat (first | (with_reducible first | exact HB.out | apply zad | apply zaa | apply zac | refine zaf ?_ GE587.out) | exact HB.out)))); have n4_ := Aside0.mk (zbg (g := gb587) (o := .cells #[.int .i64 a0_0, .string a0_1, .int .i64 a0_2, .int .i64 a0_3, .slice A0_4 l0_4.length c0_4] 48 (0, 0)) (by (with_reducible repeat (first | refine zak ?_ _ | refine zan ?_ | refine zal ?_ _)); exact BK587.out) hb); have n5_ := Aside0.mk (zao (by repeat (first | (with_reducible first | exact HB.out | apply zad | apply zaa | apply zac | refine zaf ?_ GE587.out) | exact HB.out)) hb); clear HO_588004; clear HO610; clear HO613; clear BK587; clear HB; have HO_588004 := n0_; have HO610 := n1_; have HO613 := n2_; have HO616 := n3_; have BK587 := n4_; have HB := n5_; clear n0_ n1_ n2_ n3_ n4_ n5_; (try clear hb); (try clear hb2); (try clear hk); (try clear hi); (try clear ho0); obtain ⟨Ao41, co41, eo41⟩ := zcf HO616.out; subst eo41) | ((with_reducible refine zcz (b := .append) (xs := #[.tmp 38, .tmp 41]) rfl ?_); at_builtin; refine zdu (Kd.int .u8) (w0 := w) w.heap.size rfl (.tmp 38) (.tmp 41) 29 5 (.int .u8 0) 1 rfl Try.underlying29 info5 rfl (by decide) (by omega) (.slice Ao38 t611.length co38) t611 t614 _ _ _ (fun k_ => (w.heap.size ≤ k_) ∧ some k_ ≠ (.slice Ao41 t614.length co41 : Value).ownBlock) (fun _ => False) rfl rfl ?aO ?aR (fun _ _ h => h) (fun _ h => h.elim) ?aF ?aB ?aS ?aL ?_; (case aR => repeat (first | exact (zbb HO616.out).2.2 | (with_reducible refine zbm ?_ _) | (with_reducible refine zbn ?_ _) | (with_reducible refine zbv ?_))); (case aB => exact (by repeat (first | (with_reducible first | exact HB.out | apply zad | apply zaa | apply zac | refine zaf ?_ GE587.out) | exact HB.out))); (case aF => exact (fun k_ hk => by first | exact ⟨(Nat.le_trans (zaj (by repeat (first | (with_reducible first | exact HB.out | apply zad | apply zaa | apply zac | refine zaf ?_ GE587.out) | exact HB.out))) hk), zda (zbt (by (with_reducible repeat (first | apply zag | apply zah | apply zai)); (first | exact HO616.out | exact zax HO616.out (fun _ hk => hk.1) | exact zax HO616.out (fun _ hk => hk.1.1)))) k_ hk⟩ | (revert hk; (try simp only [zbd]); intros; repeat' (first | assumption | apply zcw | exact .inr (by assumption))))); (case aO => exact (by (with_reducible repeat (first | apply zag | apply zah | apply zai)); (first | exact HO613.out | exact zax HO613.out (fun _ hk => hk.1) | exact zax HO613.out (fun _ hk => hk.1.1)))); (case aS => exact (zaj (by repeat (first | (with_reducible first | exact HB.out | apply zad | apply zaa | apply zac | refine zaf ?_ GE587.out) | exact HB.out)))); (case aL => have := LMc20.out; omega); intro v618 w40 ho hb hg hat; rw [← Ny617.out] at ho; have n0_ := Aside0.mk (Kd.V_afterv (ok := (fun k_ => (P0_4_ k_ ∨ w.heap.size ≤ k_) ∧ some k_ ≠ (v609 : Value).ownBlock ∧ some k_ ≠ (.slice Ao41 t614.length co41 : Value).ownBlock ∧ k_ ≠ gb587)) (by (with_reducible repeat (first | apply zec | apply zed | apply zen)); exact zcv (Kd.V_old hs0_4 HB.out) (fun k_ hk => (by repeat' (first | apply zcw | exact .inl hk.1 | exact hk.1 | exact fun e_ => Nat.lt_irrefl _ (zfc (Eq.subst (motive := fun q_ => q_ < w.heap.size) e_ hk.2) GE587.out) | exact fun e_ => Nat.lt_irrefl _ (zfc hk.2 (zbc HO610.out _ e_.symm)) | exact fun e_ => Nat.lt_irrefl _ (zfc hk.2 (Kd.N_base HO610.out _ e_.symm)) | exact fun e_ => Nat.lt_irrefl _ (zfc hk.2 (zbc HO613.out _ e_.symm)) | exact fun e_ => Nat.lt_irrefl _ (zfc hk.2 (Kd.N_base HO613.out _ e_.symm)) | exact fun e_ => Nat.lt_irrefl _ (zfc hk.2 (zbc HO616.out _ e_.symm)) | exact fun e_ => Nat.lt_irrefl _ (zfc hk.2 (Kd.N_base HO616.out _ e_.symm)) )))) hg hat); have n1_ := Aside0.mk (blk_grown (g := gb587) (o := .cells #[.int .i64 a0_0, .string a0_1, .int .i64 a0_2, .int .i64 a0_3, .slice A0_4 l0_4.length c0_4] 48 (0, 0)) (by (with_reducible repeat (first | refine zak ?_ _ | refine zan ?_ | refine zal ?_ _)); exact BK587.out) hg (zer HO613.out BK587.out (by decide))); have n2_ := Aside0.mk trivial; have n3_ := Aside0.mk (zcq (ok := (fun k_ => (w.heap.size ≤ k_))) (by (with_reducible repeat (first | apply zag | apply zah | apply zai)); exact zax HO616.out (fun _ hk => by first | exact ⟨hk.1.1, hk.2⟩ | (revert hk; (try simp only [zbd]); intros; repeat' (first | assumption | apply zcw | exact .inr (by assumption))))) hg hat); have n4_ := Aside0.mk (hb); have n5_ := Aside0.mk (ho); clear HO_588004; clear BK587; clear HO610; clear HO616; clear HB; clear HO613; have HO_588004 := n0_; have BK587 := n1_; have HO610 := n2_; have HO616 := n3_; have HB := n4_; have HO619 := n5_; clear n0_ n1_ n2_ n3_ n4_ n5_; clear ho hb hg hat))
      go_ret
      exact ⟨_, by first | rfl | (simp [zas, zat] <;> rfl) | (simp [*, zas, zat] <;> rfl), by (with_reducible repeat (first | apply zag | apply zah | apply zai)); exact zax HO619.out (fun _ hk => by first | exact hk.1 | (revert hk; (try simp only [zbd]); intros; repeat' (first | assumption | apply zcw | exact .inr (by assumption)))), by repeat (first | (with_reducible first | exact HB.out | apply zad | apply zaa | apply zac | refine zaf ?_ GE587.out) | exact HB.out)⟩
     ·rw [if_neg c20] at H
      exact absurd H (by simp)
  ·rw [if_neg c4] at H
   exact absurd H (by simp)
 ·replace c3 := zch.mpr c3
  subst c3
  have H1 : (some ([] : List Int)) = some r := by rw [if_neg (show ¬ (false = true) by decide)] at H; exact H
  clear H
  have H := H1
  clear H1
  obtain rfl := Option.some.inj H
  go_enter Try.func49, Try.ntmps49
  go_wp2_with (first | ((with_reducible refine zbu (N := 1) rfl ?_); refine zby ?hg (N := 1) ?hd (cs := #[.int .i64 a0_0, .string a0_1, .int .i64 a0_2, .int .i64 a0_3, .slice A0_4 l0_4.length c0_4]) (t := 48) ?hr ?_; (case hd => rfl); (case hg => rfl); (case hr => first | (go_simp; done) | (go_simp; rfl)); intro gb587 hg w42 hbox hb; have xb_ := below_ofs (by repeat (first | (with_reducible first | exact HB.out | apply zad | apply zaa | apply zac) | exact HB.out)) hb; have n0_ := Aside0.mk (Kd.V_below (Kd.V_elderB (by (with_reducible repeat (first | apply zec | apply zed | apply zen)); (first | exact HO0_4.out | exact zcv HO0_4.out (fun _ hk => hk.1) | exact zcv HO0_4.out (fun _ hk => hk.1.1))) gb587 (Nat.le_of_eq hg.symm)) hb); have n1_ := Aside0.mk (zao xb_ hb); have n2_ := Aside0.mk (hbox); have n3_ := Aside0.mk ((by rw [hg]; exact (zaj xb_) : w.heap.size ≤ gb587)); have n4_ := Aside0.mk ((by rw [hg]; exact (zaj xb_) : w.heap.size ≤ gb587)); clear HO0_4 HB; have HO0_4 := n0_; have HB := n1_; have BK587 := n2_; have GW587 := n3_; have GE587 := n4_; clear n0_ n1_ n2_ n3_ n4_; clear xb_ hb hbox hg; have hcz43_0 : w42.cell? ⟨gb587, 0, none⟩ = some (.int .i64 a0_0) := (zae BK587.out 0).trans rfl; have hcz43_1 : w42.cell? ⟨gb587, 1, none⟩ = some (.string a0_1) := (zae BK587.out 1).trans rfl; have hcz43_2 : w42.cell? ⟨gb587, 2, none⟩ = some (.int .i64 a0_2) := (zae BK587.out 2).trans rfl; have hcz43_3 : w42.cell? ⟨gb587, 3, none⟩ = some (.int .i64 a0_3) := (zae BK587.out 3).trans rfl; have hcz43_4 : w42.cell? ⟨gb587, 4, none⟩ = some (.slice A0_4 l0_4.length c0_4) := (zae BK587.out 4).trans rfl; have hfz43_0 := zab BK587.out 0; have hfz43_1 := zab BK587.out 1; have hfz43_2 := zab BK587.out 2; have hfz43_3 := zab BK587.out 3; have hfz43_4 := zab BK587.out 4) | ((with_reducible refine zba (f := 36) rfl ?_); refine goesL_ (some 6) rfl rfl Try.func36 (by kernel_rfl) rfl #[.agg #[.int .i64 a0_0, .string a0_1, .int .i64 a0_2, .int .i64 a0_3, .slice A0_4 l0_4.length c0_4]] rfl (by (try simp only [zam, zaq, zav]); first | done | rfl) ?_; (with_reducible refine (impl_LineOk.calls k a0_0 a0_1 a0_2 a0_3 _ _ l0_4 false _ ?side1 ?side2 A2.out).mono ?_); (case side1 => repeat (first | exact (Kd.V_reads' HO0_4.out).2.2 | (with_reducible first | apply zbm | apply zbn | apply zbv))); (case side2 => exact (Kd.V_reads' HO0_4.out).2.1); rintro e w44 ⟨rfl, hb⟩; refine ⟨_, rfl, ?_⟩; have n0_ := Aside0.mk (Kd.V_below (by (with_reducible repeat (first | apply zec | apply zed | apply zen)); (first | exact HO0_4.out | exact zcv HO0_4.out (fun _ hk => hk.1) | exact zcv HO0_4.out (fun _ hk => hk.1.1))) hb); have n1_ := Aside0.mk (zbg (g := gb587) (o := .cells #[.int .i64 a0_0, .string a0_1, .int .i64 a0_2, .int .i64 a0_3, .slice A0_4 l0_4.length c0_4] 48 (0, 0)) (by (with_reducible repeat (first | refine zak ?_ _ | refine zan ?_ | refine zal ?_ _)); exact BK587.out) hb); have n2_ := Aside0.mk (zao (by repeat (first | (with_reducible first | exact HB.out | apply zad | apply zaa | apply zac | refine zaf ?_ GE587.out) | exact HB.out)) hb); clear HO0_4 BK587 HB; have HO0_4 := n0_; have BK587 := n1_; have HB := n2_; clear n0_ n1_ n2_; (try clear hb); (try clear hb2); (try clear hk); (try clear hi)))
  go_ret
  exact ⟨_, by first | rfl | (simp [zas, zat] <;> rfl) | (simp [*, zas, zat] <;> rfl), by first | exact Kd.R_nil _ _ _ _ _ | exact Kd.N_nil _ _ _ _ _ | exact Kd.V_nil _ _ _ _ _ | exact Kd.Q_nil _ _ _ _ _ | exact Kd.S_nil _ _ _ _ _, by repeat (first | (with_reducible first | exact HB.out | apply zad | apply zaa | apply zac | refine zaf ?_ GE587.out) | exact HB.out)⟩
end Go.Proofs.Ytlalkldjpniakaa.P
