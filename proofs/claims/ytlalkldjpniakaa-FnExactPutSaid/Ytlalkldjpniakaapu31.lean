import Derived.Test.Ytlalkldjpniakaapu30
namespace Go.Proofs.Ytlalkldjpniakaa.P
open Go.RowKit Go.Proofs.YtlalkldjpniakaaW.PrintWords Go.Proofs.YtlalkldjpniakaaW.PrintLast Go.Proofs.YtlalkldjpniakaaW.PrintMore
attribute [local go_sem] zdj zdk zed zee zcy zcz zdl zdm   -- for this text's walks alone
set_option linter.unusedVariables false
set_option linter.unusedSimpArgs false

def impl_cloneItems.l0 : Nat → List (S34) → List (S34) → Int → Int → Option ((List (S34)))
 | 0, _, _, _, _ => none
 | k + 1, x3, x6, x7, x8 => if x8 < x7 then (if 0 ≤ x8 then (if x8 < (x6.length : Int) then ((impl_cloneItem.f ((rd_T34 x6 x8).f0) ((rd_T34 x6 x8).f1) ((rd_T34 x6 x8).f2) ((rd_T34 x6 x8).f3)).bind fun bt367 => (if x3.length < 2513169434916 then (impl_cloneItems.l0 k (x3 ++ [(⟨bt367.1, bt367.2.1, bt367.2.2.1, bt367.2.2.2⟩ : S34)]) x6 x7 (wrap64 (x8 + 1))) else (none))) else (none)) else (none)) else (some x3)
def impl_cloneItems.f (k : Nat) (l0 : List (S34)) : Option ((List (S34))) := impl_cloneItems.l0 k ([] : List (S34)) l0 (l0.length : Int) 0
theorem impl_cloneItems.mono_l : ∀ k, (∀ y0 y1 y2 y3, LeO (impl_cloneItems.l0 k y0 y1 y2 y3) (impl_cloneItems.l0 (k + 1) y0 y1 y2 y3))
 | 0 => fun _ _ _ _ r h => by simp [impl_cloneItems.l0] at h
 | k + 1 => by
  have ih0 := impl_cloneItems.mono_l k
  ·intro y0 y1 y2 y3
   unfold impl_cloneItems.l0
   repeat' first
   | (with_reducible exact ih0 _ _ _ _)
   | (with_reducible exact zcn _)
   | (with_reducible exact zda _)
   | (with_reducible refine zdh ?_ ?_)
   | (with_reducible refine zcs ?_ (fun _ => ?_))
   | exact ih0 _ _ _ _
theorem impl_cloneItems.mono : ∀ a0 k, LeO (impl_cloneItems.f k a0) (impl_cloneItems.f (k + 1) a0) := by
 intro a0 k
 have ih0 := impl_cloneItems.mono_l k
 unfold impl_cloneItems.f
 repeat' first
   | (with_reducible exact ih0 _ _ _ _)
   | (with_reducible exact zcn _)
   | (with_reducible exact zda _)
   | (with_reducible refine zdh ?_ ?_)
   | (with_reducible refine zcs ?_ (fun _ => ?_))
   | exact ih0 _ _ _ _
set_option maxHeartbeats 8000000 in
set_option maxRecDepth 100000 in
theorem impl_cloneItems.calls (k : Nat) (A0 : Option Addr) (c0 : Nat) (l0 : List (S34)) (r : List (S34)) (w : World) (hr0 : Kd.C k34 w A0 l0.length l0) (hc0 : l0.length ≤ c0) (h : impl_cloneItems.f k l0 = some r) :
  Calls Try.prog 96 #[.slice A0 l0.length c0] w fun e w' => ∃ v0_ : Value, e = .returned (v0_) ∧ Kd.S k34 34 w' w.heap.size (fun _ => True) v0_ r ∧ Below w.heap.size w w' := by
 have hu34 := Try.underlying34
 have HR0 := Aside0.mk hr0
 have HC0 := Aside0.mk hc0
 clear hr0 hc0
 have HB := Aside0.mk (zbt w.heap.size w)
 have H : (impl_cloneItems.l0 k ([] : List (S34)) l0 (l0.length : Int) 0) = some r := h
 clear h
 have H' := Aside0.mk H
 clear H
 go_enter Try.func96, Try.ntmps96
 go_wp2
 go_loopg [3, 8] k (fun kq v3 v8 w' => ∃ (x3_1 : List (S34)) (x8_1 : Int), v8 = .int .i64 x8_1 ∧ Aside0 (impl_cloneItems.l0 kq x3_1 l0 (l0.length : Int) x8_1 = some r) ∧ Aside0 (kq ≤ k) ∧ Aside0 (Kd.S k34 34 w' w.heap.size (fun _ => True) v3 x3_1) ∧ Aside0 (Below w.heap.size w w'))
 case atStart => exact ⟨(([] : List (S34))), (0), (by first | rfl | (simp; done) | (simp [*]; done)), H', ⟨zaw _⟩, ⟨by first | exact Kd.S_nil _ _ _ _ _ | exact Kd.N_nil _ _ _ _ _ | exact Kd.V_nil _ _ _ _ _ | exact Kd.Q_nil _ _ _ _ _ | exact Kd.R_nil _ _ _ _ _⟩, ⟨by repeat (first | (with_reducible first | exact HB.out | apply zae | apply zab | apply zac) | exact HB.out)⟩⟩
 case round =>
  clear H'
  obtain ⟨x3_1, x8_1, rfl, HA, HK1, HO_3, HB⟩ := hrel
  cases gk with
  | zero => exact absurd HA.out (by simp [impl_cloneItems.l0])
  | succ k1 =>
   have H := HA.out
   clear HA
   simp only [impl_cloneItems.l0] at H
   by_cases c2 : x8_1 < (l0.length : Int)
   ·rw [if_pos c2] at H
    have c2b0 : decide (x8_1 < (l0.length : Int)) = true := zas c2
    clear c2
    by_cases c3 : 0 ≤ x8_1
    ·rw [if_pos c3] at H
     have c3b0 : decide (0 ≤ x8_1) = true := zas c3
     clear c3
     by_cases c4 : x8_1 < (l0.length : Int)
     ·rw [if_pos c4] at H
      have c4b0 : decide (x8_1 < (l0.length : Int)) = true := zas c4
      clear c4
      replace H := zak.mp H
      obtain ⟨⟨t367, t368, t369, t370⟩, A50, H⟩ := H
      try dsimp only at H
      have A5 := Aside0.mk A50
      clear A50
      by_cases c6 : x3_1.length < 2513169434916
      ·rw [if_pos c6] at H
       have LMc6 := Aside0.mk c6
       clear c6
       obtain ⟨y373, hy373⟩ : ∃ y_ : List (S34), y_ = (x3_1 ++ [(⟨t367, t368, t369, t370⟩ : S34)]) := ⟨_, rfl⟩
       replace H : (impl_cloneItems.l0 k1 y373 l0 (l0.length : Int) (wrap64 (x8_1 + 1))) = some r := by first | (rw [hy373]; with_reducible first | exact H | exact bind_ofs H) | (with_reducible first | exact H | exact bind_ofs H) | (rw [hy373]; exact H) | exact H
       have Ny373 := Aside0.mk hy373
       clear hy373
       have H' := Aside0.mk H
       clear H
       have p365 : 0 ≤ (x8_1 : Int) := zad (by first | (with_reducible assumption) | assumption)
       have q365 : x8_1 < (l0.length : Int) := zad (by first | (with_reducible assumption) | assumption)
       obtain ⟨ad365, A365_3, c365_3, e365, hx365_0, hx365_1, hx365_2, hx365_3, hl365_3, hi365_3⟩ := at_T34 HR0.out x8_1 p365 q365
       cases e365
       replace hx365_0 := (HB.out.cell (World.block_lt_of_cell? w _ hx365_0)).trans hx365_0
       replace hx365_1 := (HB.out.cell (World.block_lt_of_cell? w _ hx365_1)).trans hx365_1
       replace hx365_2 := (HB.out.cell (World.block_lt_of_cell? w _ hx365_2)).trans hx365_2
       replace hx365_3 := (HB.out.cell (World.block_lt_of_cell? w _ hx365_3)).trans hx365_3
       have HR365_3 := Aside0.mk hi365_3
       have HC365_3 := Aside0.mk hl365_3
       clear hi365_3 hl365_3
       replace p365 := zay p365
       replace q365 := zay q365
       go_wp2_with (first | ((with_reducible refine zcc (N := 5) rfl ?_); refine zct ?hg (N := 5) ?hd (cs := #[.string (⟨#[]⟩ : ByteArray), .int .i64 0, .int .i64 0, .slice none 0 0]) (t := 34) ?hr ?_; (case hd => rfl); (case hg => rfl); (case hr => first | (go_simp; done) | (go_simp; rfl)); intro gb366 hg w7 hbox hb; have xb_ := below_ofs (by repeat (first | (with_reducible first | exact HB.out | apply zae | apply zab | apply zac) | exact HB.out)) hb; have n0_ := Aside0.mk (zcv (Kd.S_elderB (by (with_reducible repeat (first | apply zbl | apply zbm | apply zbu)); exact HO_3.out) gb366 (Nat.le_of_eq hg.symm)) hb); have n1_ := Aside0.mk (zai xb_ hb); have n2_ := Aside0.mk (hbox); have n3_ := Aside0.mk ((by rw [hg]; exact (zam xb_) : w.heap.size ≤ gb366)); have n4_ := Aside0.mk ((by rw [hg]; exact (zam xb_) : w.heap.size ≤ gb366)); clear HO_3 HB; have HO_3 := n0_; have HB := n1_; have BK366 := n2_; have GW366 := n3_; have GE366 := n4_; clear n0_ n1_ n2_ n3_ n4_; clear xb_ hb hbox hg; have hcz8_0 : w7.cell? ⟨gb366, 0, none⟩ = some (.string (⟨#[]⟩ : ByteArray)) := (zaf BK366.out 0).trans rfl; have hcz8_1 : w7.cell? ⟨gb366, 1, none⟩ = some (.int .i64 0) := (zaf BK366.out 1).trans rfl; have hcz8_2 : w7.cell? ⟨gb366, 2, none⟩ = some (.int .i64 0) := (zaf BK366.out 2).trans rfl; have hcz8_3 : w7.cell? ⟨gb366, 3, none⟩ = some (.slice none 0 0) := (zaf BK366.out 3).trans rfl; have hfz8_0 := zah BK366.out 0; have hfz8_1 := zah BK366.out 1; have hfz8_2 := zah BK366.out 2; have hfz8_3 := zah BK366.out 3) | ((with_reducible refine zbv (f := 104) rfl ?_); refine goesL_ (some 14) rfl rfl Try.func104 (by kernel_rfl) rfl #[.agg #[.string ((rd_T34 l0 x8_1).f0), .int .i64 ((rd_T34 l0 x8_1).f1), .int .i64 ((rd_T34 l0 x8_1).f2), .slice A365_3 ((rd_T34 l0 x8_1).f3).length c365_3]] rfl (by (try simp only [zat, zbe, zbh]); first | done | rfl) ?_; (with_reducible refine (impl_cloneItem.calls ((rd_T34 l0 x8_1).f0) ((rd_T34 l0 x8_1).f1) ((rd_T34 l0 x8_1).f2) _ _ ((rd_T34 l0 x8_1).f3) t367 t368 t369 t370 _ ?side1 ?side2 A5.out).mono ?_); (case side1 => exact zbf HR365_3.out (by repeat (first | (with_reducible first | exact HB.out | apply zae | apply zab | apply zac | refine zal ?_ GE366.out) | exact HB.out))); (case side2 => exact HC365_3.out); rintro e w9 ⟨v371, rfl, ho0, hb⟩; refine ⟨_, rfl, ?_⟩; have n0_ := Aside0.mk (zeg (by (with_reducible repeat (first | apply zbl | apply zbm | apply zbu)); exact (zdf (Kd.S_far (p := ⟨gb366, 3, none⟩) (Kd.S_far (p := ⟨gb366, 2, none⟩) (Kd.S_far (p := ⟨gb366, 1, none⟩) (Kd.S_far (p := ⟨gb366, 0, none⟩) (zdf HO_3.out (fun k_ hk => (⟨hk, hk.2⟩ : _ ∧ k_ ≠ gb366))) (fun _ hk => hk.2) (.string ((rd_T34 l0 x8_1).f0))) (fun _ hk => hk.2) (.int .i64 ((rd_T34 l0 x8_1).f1))) (fun _ hk => hk.2) (.int .i64 ((rd_T34 l0 x8_1).f2))) (fun _ hk => hk.2) (.slice A365_3 ((rd_T34 l0 x8_1).f3).length c365_3)) (fun _ h_ => h_.1))) (zdr ho0) hb); have n1_ := Aside0.mk (zbx ho0 (zam (by repeat (first | (with_reducible first | exact HB.out | apply zae | apply zab | apply zac | refine zal ?_ GE366.out) | exact HB.out)))); have n2_ := Aside0.mk (zce (g := gb366) (o := .cells #[.string ((rd_T34 l0 x8_1).f0), .int .i64 ((rd_T34 l0 x8_1).f1), .int .i64 ((rd_T34 l0 x8_1).f2), .slice A365_3 ((rd_T34 l0 x8_1).f3).length c365_3] 34 (0, 0)) (by (with_reducible repeat (first | refine zaq ?_ _ | refine zav ?_ | refine zar ?_ _)); refine zfe (cs := #[.string ((rd_T34 l0 x8_1).f0), .int .i64 ((rd_T34 l0 x8_1).f1), .int .i64 ((rd_T34 l0 x8_1).f2), .slice none 0 0]) ?_ 3 _ rfl; (with_reducible repeat (first | refine zaq ?_ _ | refine zav ?_ | refine zar ?_ _)); refine zfe (cs := #[.string ((rd_T34 l0 x8_1).f0), .int .i64 ((rd_T34 l0 x8_1).f1), .int .i64 0, .slice none 0 0]) ?_ 2 _ rfl; (with_reducible repeat (first | refine zaq ?_ _ | refine zav ?_ | refine zar ?_ _)); refine zfe (cs := #[.string ((rd_T34 l0 x8_1).f0), .int .i64 0, .int .i64 0, .slice none 0 0]) ?_ 1 _ rfl; (with_reducible repeat (first | refine zaq ?_ _ | refine zav ?_ | refine zar ?_ _)); refine zfe (cs := #[.string (⟨#[]⟩ : ByteArray), .int .i64 0, .int .i64 0, .slice none 0 0]) ?_ 0 _ rfl; (with_reducible repeat (first | refine zaq ?_ _ | refine zav ?_ | refine zar ?_ _)); exact BK366.out) hb); have n3_ := Aside0.mk (zai (by repeat (first | (with_reducible first | exact HB.out | apply zae | apply zab | apply zac | refine zal ?_ GE366.out) | exact HB.out)) hb); clear HO_3 BK366 HB; have HO_3 := n0_; have HO372 := n1_; have BK366 := n2_; have HB := n3_; clear n0_ n1_ n2_ n3_; clear hb ho0; obtain ⟨Ao11, co11, eo11⟩ := zci HO372.out; subst eo11) | ((with_reducible refine zcx (b := .append) (xs := #[.tmp 12, .tmp 15]) rfl ?_); at_builtin; refine zdx k34 (w0 := w) w.heap.size rfl (.tmp 12) (.tmp 15) 25 34 (.agg #[(.string ⟨#[]⟩), (.int .i64 0), (.int .i64 0), (.slice none 0 0)]) 56 rfl Try.underlying25 info34 rfl (by decide) (by omega) u3 x3_1 (⟨t367, t368, t369, t370⟩ : S34) [.string t367, .int .i64 t368, .int .i64 t369, .slice Ao11 t370.length co11] (fun k_ => k_ ≠ gb366) (fun k_ => some k_ = (.slice Ao11 t370.length co11 : Value).ownBlock) rfl rfl ?aP (fun k_ hk_ => ((zbr (ok' := fun k_ => ((fun k_ => k_ ≠ gb366)) k_ ∧ some k_ ≠ (u3 : Value).ownBlock) (zcu (zcr (HO372.out) (zdc HO_3.out) (by decide)) BK366.out (by decide)) (fun k_ hk => ⟨hk.2, hk.1.2⟩))).1 k_ hk_.symm) ?aF ?aO ?aB ?aS ?aL ?_; (case aP => exact zfj _ _ _ (⟨t367, t368, t369, t370⟩ : S34) (zbr (zdy rfl (zbr (ok' := fun k_ => ((fun k_ => k_ ≠ gb366)) k_ ∧ some k_ ≠ (u3 : Value).ownBlock) (zcu (zcr (HO372.out) (zdc HO_3.out) (by decide)) BK366.out (by decide)) (fun k_ hk => ⟨hk.2, hk.1.2⟩))) (fun _ h_ => h_))); (case aB => exact (by repeat (first | (with_reducible first | exact HB.out | apply zae | apply zab | apply zac | refine zal ?_ GE366.out) | exact HB.out))); (case aF => exact (fun k_ hk => zez (g := gb366) (o := .cells #[.string ((rd_T34 l0 x8_1).f0), .int .i64 ((rd_T34 l0 x8_1).f1), .int .i64 ((rd_T34 l0 x8_1).f2), .slice A365_3 ((rd_T34 l0 x8_1).f3).length c365_3] 34 (0, 0)) (by (with_reducible repeat (first | refine zaq ?_ _ | refine zav ?_ | refine zar ?_ _)); exact BK366.out) k_ hk)); (case aO => exact (by (with_reducible repeat (first | apply zbl | apply zbm | apply zbu)); exact zdf HO_3.out (fun k_ hk => ⟨hk.1.2, fun e_ => hk.2 e_⟩))); (case aS => exact (zam (by repeat (first | (with_reducible first | exact HB.out | apply zae | apply zab | apply zac | refine zal ?_ GE366.out) | exact HB.out)))); (case aL => have := LMc6.out; omega); intro v374 w10 ho hb hg hat; rw [← Ny373.out] at ho; have n0_ := Aside0.mk (zfb (g := gb366) (o := .cells #[.string ((rd_T34 l0 x8_1).f0), .int .i64 ((rd_T34 l0 x8_1).f1), .int .i64 ((rd_T34 l0 x8_1).f2), .slice A365_3 ((rd_T34 l0 x8_1).f3).length c365_3] 34 (0, 0)) (by (with_reducible repeat (first | refine zaq ?_ _ | refine zav ?_ | refine zar ?_ _)); exact BK366.out) hg (zfq HO_3.out (fun _ hk => hk.1.2))); have n1_ := Aside0.mk (hb); have n2_ := Aside0.mk (ho); clear BK366 HB HO_3 HO372; have BK366 := n0_; have HB := n1_; have HO375 := n2_; clear n0_ n1_ n2_; clear ho hb hg hat))
       go_roundg k1
       case measure => have := HK1.out; omega
       case rel => exact ⟨(y373), (wrap64 (x8_1 + 1)), (by first | rfl | (simp; done) | (simp [*]; done)), H', ⟨by have := HK1.out; omega⟩, ⟨by (with_reducible repeat (first | apply zbl | apply zbm | apply zbu)); exact zdf HO375.out (fun _ hk => trivial)⟩, ⟨by repeat (first | (with_reducible first | exact HB.out | apply zae | apply zab | apply zac | refine zal ?_ GE366.out) | exact HB.out)⟩⟩
      ·rw [if_neg c6] at H
       exact absurd H (by simp)
     ·rw [if_neg c4] at H
      exact absurd H (by simp)
    ·rw [if_neg c3] at H
     exact absurd H (by simp)
   ·rw [if_neg c2] at H
    have c2b0 : decide (x8_1 < (l0.length : Int)) = false := zbj c2
    clear c2
    obtain rfl := Option.some.inj H
    go_wp2
    go_ret
    exact ⟨_, by first | rfl | (simp [zbb, zbc] <;> rfl) | (simp [*, zbb, zbc] <;> rfl), by (with_reducible repeat (first | apply zbl | apply zbm | apply zbu)); exact HO_3.out, by repeat (first | (with_reducible first | exact HB.out | apply zae | apply zab | apply zac) | exact HB.out)⟩
end Go.Proofs.Ytlalkldjpniakaa.P
