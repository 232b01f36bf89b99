import Derived.Test.Ytlalkldjpniakaalo19
namespace Go.Proofs.Ytlalkldjpniakaa.P
open Go.RowKit Go.Proofs.YtlalkldjpniakaaW.PrintWords Go.Proofs.YtlalkldjpniakaaW.PrintLast Go.Proofs.YtlalkldjpniakaaW.PrintMore
attribute [local go_sem] zdk zdl zeh zei zcz zda zdm zdn   -- for this text's walks alone
set_option linter.unusedVariables false
set_option linter.unusedSimpArgs false

def spec_Great.l0 : Nat → List Int → List Int → Int → Option (List Int)
 | 0, _, _, _ => none
 | k + 1, x5, x6, x7 => if x7 ≥ 0 then (if 0 ≤ x7 then (if x7 < (x5.length : Int) then (if x6.length < 140737488355328 then (spec_Great.l0 k x5 (x6 ++ [rd x5 x7]) (wrap64 (x7 - 1))) else (none)) else (none)) else (none)) else (some x6)
def spec_Great.f (k : Nat) (a0 : Int) (a1 : Int) : Option (List Int) := (spec_Little.f k a0 a1).bind fun t452 => (spec_Great.l0 k t452 (([] : List Int)) (wrap64 ((t452.length : Int) - 1)))
theorem spec_Great.mono_l : ∀ k, (∀ y0 y1 y2, LeO (spec_Great.l0 k y0 y1 y2) (spec_Great.l0 (k + 1) y0 y1 y2))
 | 0 => fun _ _ _ r h => by simp [spec_Great.l0] at h
 | k + 1 => by
  have ih0 := spec_Great.mono_l k
  ·intro y0 y1 y2
   unfold spec_Great.l0
   repeat' first
   | (with_reducible exact ih0 _ _ _)
   | (with_reducible exact spec_Little.mono _ _ _)
   | (with_reducible exact zdd _)
   | (with_reducible exact zde _)
   | (with_reducible refine zdx ?_ ?_)
   | (with_reducible refine zdf ?_ (fun _ => ?_))
   | exact ih0 _ _ _
theorem spec_Great.mono : ∀ a0 a1 k, LeO (spec_Great.f k a0 a1) (spec_Great.f (k + 1) a0 a1) := by
 intro a0 a1 k
 have ih0 := spec_Great.mono_l k
 unfold spec_Great.f
 repeat' first
   | (with_reducible exact ih0 _ _ _)
   | (with_reducible exact spec_Little.mono _ _ _)
   | (with_reducible exact zdd _)
   | (with_reducible exact zde _)
   | (with_reducible refine zdx ?_ ?_)
   | (with_reducible refine zdf ?_ (fun _ => ?_))
   | exact ih0 _ _ _
set_option maxHeartbeats 8000000 in
set_option maxRecDepth 100000 in
theorem spec_Great.calls (k : Nat) (a0 : Int) (a1 : Int) (r : List Int) (w : World) (h : spec_Great.f k a0 a1 = some r) :
  Calls Try.prog 107 #[.int .i64 a0, .int .i64 a1] w fun e w' => ∃ v0_ : Value, e = .returned (v0_) ∧ Kd.R (Kd.int .u8) 5 w' w.heap.size (fun _ => True) v0_ r ∧ Below w.heap.size w w' := by
 have HB := Aside0.mk (zbz w.heap.size w)
 have H : ((spec_Little.f k a0 a1).bind fun t452 => (spec_Great.l0 k t452 (([] : List Int)) (wrap64 ((t452.length : Int) - 1)))) = some r := h
 clear h
 replace H := zaq.mp H
 obtain ⟨t452, A30, H⟩ := H
 try dsimp only at H
 have A3 := Aside0.mk A30
 clear A30
 obtain ⟨y455, hy455⟩ : ∃ y_ : List Int, y_ = (([] : List Int)) := ⟨_, rfl⟩
 replace H : (spec_Great.l0 k t452 y455 (wrap64 ((t452.length : Int) - 1))) = some r := by first | (rw [hy455]; with_reducible first | exact H | exact bind_ofs H) | (with_reducible first | exact H | exact bind_ofs H) | (rw [hy455]; exact H) | exact H
 have Ny455 := Aside0.mk hy455
 clear hy455
 have H' := Aside0.mk H
 clear H
 go_enter Try.func107, Try.ntmps107
 go_wp2_with (first | ((with_reducible refine zbl (f := 136) rfl ?_); refine goesL_ (some 10) rfl rfl Try.func136 (by kernel_rfl) rfl #[.int .i64 a0, .int .i64 a1] rfl (by (try simp only [zav, zbd, zbh]); first | done | rfl) ?_; (with_reducible refine (spec_Little.calls k a0 a1 t452 _ A3.out).mono ?_); rintro e w4 ⟨v453, rfl, ho0, hb⟩; refine ⟨_, rfl, ?_⟩; have xb_ := below_ofs (by repeat (first | (with_reducible first | exact HB.out | apply zad | apply zaa | apply zac) | exact HB.out)) hb; have n0_ := Aside0.mk (zca ho0 (zan xb_)); have n1_ := Aside0.mk (zat xb_ hb); clear HB; have HO454 := n0_; have HB := n1_; clear n0_ n1_; clear xb_ hb ho0) | ((with_reducible refine zbu (N := 11) rfl ?_); refine zfl (Kd.int .u8) _ 5 ?hg (N := 11) ?hd (xs := ([] : List Int)) (inner := []) (ok := fun _ => True) (okp := fun _ => True) ?hr ?hp (fun _ hk => hk) trivial (zbz _ _) (zak _) (by simp) ?_; (case hd => rfl); (case hg => rfl); (case hr => first | (go_simp; done) | (go_simp; rfl)); (case hp => exact (zej _ _)); intro v456 w5 ho6 hb hg_ hnew_; have xb_ := below_ofs (by repeat (first | (with_reducible first | exact HB.out | apply zad | apply zaa | apply zac) | exact HB.out)) hb; clear hg_ hnew_; (first | rw [← Ny455.out] at ho6 | (simp only [Int.reduceToNat] at ho6; rw [← Ny455.out] at ho6)); have qHO454 := Kd.R_ofs (by (with_reducible repeat (first | apply zai | apply zaj | apply zam)); exact HO454.out) hb; have n0_ := Aside0.mk (zbm qHO454 (zbw ho6) hb); have n1_ := Aside0.mk (zca (zcs ho6 (zco qHO454)) (zan xb_)); have n2_ := Aside0.mk (zat xb_ hb); clear qHO454 HO454; clear HB; have HO454 := n0_; have HO457 := n1_; have HB := n2_; clear n0_ n1_ n2_; clear xb_ hb ho6; obtain ⟨Ao7, co7, eo7⟩ := zcy HO454.out; subst eo7))
 go_loopg [6, 7] k (fun kq v6 v7 w' => ∃ (x6_1 : List Int) (x7_1 : Int), v7 = .int .i64 x7_1 ∧ Aside0 (spec_Great.l0 kq t452 x6_1 x7_1 = some r) ∧ Aside0 (kq ≤ k) ∧ Aside0 (Kd.R (Kd.int .u8) 5 w' w.heap.size (fun k_ => some k_ ≠ (v6 : Value).ownBlock) (.slice Ao7 t452.length co7) t452) ∧ Aside0 (Kd.R (Kd.int .u8) 5 w' w.heap.size (fun k_ => some k_ ≠ ((.slice Ao7 t452.length co7) : Value).ownBlock) v6 x6_1) ∧ Aside0 (Below w.heap.size w w'))
 case atStart => exact ⟨(y455), (wrap64 ((t452.length : Int) - 1)), (by first | rfl | (simp; done) | (simp [*]; done)), H', ⟨zak _⟩, ⟨by (with_reducible repeat (first | apply zai | apply zaj | apply zam)); exact zbg HO454.out (fun _ hk => hk.2)⟩, ⟨by (with_reducible repeat (first | apply zai | apply zaj | apply zam)); exact zbg HO457.out (fun _ hk => hk.2)⟩, ⟨by repeat (first | (with_reducible first | exact HB.out | apply zad | apply zaa | apply zac) | exact HB.out)⟩⟩
 case round =>
  clear H'
  try clear c1
  try clear p2
  try clear p6
  obtain ⟨x6_1, x7_1, rfl, HA, HK1, HO_5, HO_6, HB⟩ := hrel
  cases gk with
  | zero => exact absurd HA.out (by simp [spec_Great.l0])
  | succ k1 =>
   have H := HA.out
   clear HA
   simp only [spec_Great.l0] at H
   by_cases c8 : x7_1 ≥ 0
   ·rw [if_pos c8] at H
    have c8b0 : decide (0 ≤ x7_1) = true := zay c8
    clear c8
    by_cases c9 : 0 ≤ x7_1
    ·rw [if_pos c9] at H
     have c9b0 : decide (0 ≤ x7_1) = true := zay c9
     clear c9
     by_cases c10 : x7_1 < (t452.length : Int)
     ·rw [if_pos c10] at H
      have c10b0 : decide (x7_1 < (t452.length : Int)) = true := zay c10
      clear c10
      by_cases c11 : x6_1.length < 140737488355328
      ·rw [if_pos c11] at H
       have LMc11 := Aside0.mk c11
       clear c11
       obtain ⟨y459, hy459⟩ : ∃ y_ : List Int, y_ = (x6_1 ++ [rd t452 x7_1]) := ⟨_, rfl⟩
       replace H : (spec_Great.l0 k1 t452 y459 (wrap64 (x7_1 - 1))) = some r := by first | (rw [hy459]; with_reducible first | exact H | exact bind_ofs H) | (with_reducible first | exact H | exact bind_ofs H) | (rw [hy459]; exact H) | exact H
       have Ny459 := Aside0.mk hy459
       clear hy459
       have H' := Aside0.mk H
       clear H
       have p458 : 0 ≤ (x7_1 : Int) := zap (by first | (with_reducible assumption) | assumption)
       have q458 : x7_1 < (t452.length : Int) := zap (by first | (with_reducible assumption) | assumption)
       obtain ⟨ad458, e458, hx458_0⟩ := zer (zbt HO_5.out).2.2 x7_1 p458 q458
       cases e458
       replace p458 := zbs p458
       replace q458 := zbs q458
       go_wp2_with (first | ((with_reducible refine zdv (b := .append) (xs := #[.tmp 19, .tmp 24]) rfl ?_); at_builtin; refine Kd.R_append (Kd.int .u8) (w0 := w) w.heap.size rfl (.tmp 19) (.tmp 24) 29 5 (.int .u8 0) 1 rfl Try.underlying29 info5 rfl (by decide) (by omega) u6 x6_1 (rd t452 x7_1) [.int .u8 (rd t452 x7_1)] (fun k_ => some k_ ≠ (.slice (some ad458) t452.length co7 : Value).ownBlock) (fun _ => False) rfl rfl ?aP (fun _ hk => hk.elim) ?aF ?aO ?aB ?aS ?aL ?_; (case aP => exact rfl); (case aB => exact (by repeat (first | (with_reducible first | exact HB.out | apply zad | apply zaa | apply zac) | exact HB.out))); (case aF => exact (fun k_ hk => zdq (zco (by (with_reducible repeat (first | apply zai | apply zaj | apply zam)); exact HO_5.out)) k_ hk)); (case aO => exact (by (with_reducible repeat (first | apply zai | apply zaj | apply zam)); exact HO_6.out)); (case aS => exact (zan (by repeat (first | (with_reducible first | exact HB.out | apply zad | apply zaa | apply zac) | exact HB.out)))); (case aL => have := LMc11.out; omega); intro v460 w12 ho hb hg hat; rw [← Ny459.out] at ho; have n0_ := Aside0.mk (zdc (ok := (fun _ => True)) (by (with_reducible repeat (first | apply zai | apply zaj | apply zam)); exact zbg HO_5.out (fun _ hk => ⟨trivial, hk⟩)) hg hat); have n1_ := Aside0.mk (hb); have n2_ := Aside0.mk (ho); clear HO_5 HB HO_6; have HO_5 := n0_; have HB := n1_; have HO461 := n2_; clear n0_ n1_ n2_; clear ho hb hg hat))
       go_roundg k1
       case measure => have := HK1.out; omega
       case rel => exact ⟨(y459), (wrap64 (x7_1 - 1)), (by first | rfl | (simp; done) | (simp [*]; done)), H', ⟨by have := HK1.out; omega⟩, ⟨by (with_reducible repeat (first | apply zai | apply zaj | apply zam)); exact zbg HO_5.out (fun _ hk => hk.2)⟩, ⟨by (with_reducible repeat (first | apply zai | apply zaj | apply zam)); exact HO461.out⟩, ⟨by repeat (first | (with_reducible first | exact HB.out | apply zad | apply zaa | apply zac) | exact HB.out)⟩⟩
      ·rw [if_neg c11] at H
       exact absurd H (by simp)
     ·rw [if_neg c10] at H
      exact absurd H (by simp)
    ·rw [if_neg c9] at H
     exact absurd H (by simp)
   ·rw [if_neg c8] at H
    have c8b0 : decide (0 ≤ x7_1) = false := zbv c8
    clear c8
    obtain rfl := Option.some.inj H
    go_wp2
    go_ret
    exact ⟨_, by first | rfl | (simp [zaz, zba] <;> rfl) | (simp [*, zaz, zba] <;> rfl), by (with_reducible repeat (first | apply zai | apply zaj | apply zam)); exact zbg HO_6.out (fun _ hk => trivial), by repeat (first | (with_reducible first | exact HB.out | apply zad | apply zaa | apply zac) | exact HB.out)⟩
end Go.Proofs.Ytlalkldjpniakaa.P
