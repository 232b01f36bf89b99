import Derived.Test.Ytlalkldjpniakaaqm9
import Derived.Test.Ytlalkldjpniakaaqm8
namespace Go.Proofs.Ytlalkldjpniakaa.P
open Go.RowKit Go.Proofs.YtlalkldjpniakaaW.PrintWords Go.Proofs.YtlalkldjpniakaaW.PrintLast Go.Proofs.YtlalkldjpniakaaW.PrintMore
attribute [local go_sem] zcm zcn zdd zde zbw zbx zco zcp   -- for this text's walks alone
set_option linter.unusedVariables false
set_option linter.unusedSimpArgs false
set_option maxHeartbeats 8000000
set_option maxRecDepth 100000

def spec_Put.l0 : Nat → List (S34) → List (S34) → Int → ByteArray → Int → Int → List Int → Option ((List (S34)) × Bool)
 | 0, _, _, _, _, _, _, _ => none
 | k + 1, x0, x6, x7, x828000, x828001, x828002, x828003 => if x7 < (x0.length : Int) then (if x828001 ≤ 0 then (if 0 ≤ x7 then ((spec_l13Item.f ((rd_T34 x0 x7).f0) ((rd_T34 x0 x7).f1) ((rd_T34 x0 x7).f2) ((rd_T34 x0 x7).f3)).bind fun bt832 => (if x6.length < 2513169434916 then (spec_Put.l0 k x0 (x6 ++ [(⟨bt832.1, bt832.2.1, bt832.2.2.1, bt832.2.2.2⟩ : S34)]) (wrap64 (x7 + 1)) x828000 x828001 x828002 x828003) else (none))) else (none)) else (if 0 ≤ x7 then (if ((rd_T34 x0 x7).f0).toList = x828000.toList then (if ((rd_T34 x0 x7).f1) = x828001 then (spec_Put.l0 k x0 x6 (wrap64 (x7 + 1)) x828000 x828001 x828002 x828003) else ((spec_l13Item.f ((rd_T34 x0 x7).f0) ((rd_T34 x0 x7).f1) ((rd_T34 x0 x7).f2) ((rd_T34 x0 x7).f3)).bind fun bt844 => (if x6.length < 2513169434916 then (spec_Put.l0 k x0 (x6 ++ [(⟨bt844.1, bt844.2.1, bt844.2.2.1, bt844.2.2.2⟩ : S34)]) (wrap64 (x7 + 1)) x828000 x828001 x828002 x828003) else (none)))) else ((spec_l13Item.f ((rd_T34 x0 x7).f0) ((rd_T34 x0 x7).f1) ((rd_T34 x0 x7).f2) ((rd_T34 x0 x7).f3)).bind fun bt854 => (if x6.length < 2513169434916 then (spec_Put.l0 k x0 (x6 ++ [(⟨bt854.1, bt854.2.1, bt854.2.2.1, bt854.2.2.2⟩ : S34)]) (wrap64 (x7 + 1)) x828000 x828001 x828002 x828003) else (none)))) else (none))) else ((spec_l13Item.f x828000 x828001 x828002 x828003).bind fun bt863 => (if x6.length < 2513169434916 then ((some (x6 ++ [(⟨bt863.1, bt863.2.1, bt863.2.2.1, bt863.2.2.2⟩ : S34)] : List (S34))).bind fun y869 => ((spec_QueueOk.f k y869).bind fun t872 => (if t872 = true then (some (y869, true)) else ((spec_l13Queue.f k x0).bind fun t873 => (some (t873, false)))))) else (none)))
def spec_Put.f (k : Nat) (l0 : List (S34)) (a1_0 : ByteArray) (a1_1 : Int) (a1_2 : Int) (l1_3 : List Int) : Option ((List (S34)) × Bool) := spec_Put.l0 k l0 (([] : List (S34))) 0 a1_0 a1_1 a1_2 l1_3
theorem spec_Put.mono_l : ∀ k, (∀ y0 y1 y2 y3 y4 y5 y6, LeO (spec_Put.l0 k y0 y1 y2 y3 y4 y5 y6) (spec_Put.l0 (k + 1) y0 y1 y2 y3 y4 y5 y6))
 | 0 => fun _ _ _ _ _ _ _ r h => by simp [spec_Put.l0] at h
 | k + 1 => by
  have ih0 := spec_Put.mono_l k
  ·intro y0 y1 y2 y3 y4 y5 y6
   unfold spec_Put.l0
   have m0 := @spec_QueueOk.mono
   have m1 := @spec_l13Queue.mono
   exact mt
theorem spec_Put.mono : ∀ a0 a1 a2 a3 a4 k, LeO (spec_Put.f k a0 a1 a2 a3 a4) (spec_Put.f (k + 1) a0 a1 a2 a3 a4) := by
 intro a0 a1 a2 a3 a4 k
 have ih0 := spec_Put.mono_l k
 unfold spec_Put.f
 have m0 := @spec_QueueOk.mono
 have m1 := @spec_l13Queue.mono
 exact mt
theorem spec_Put.calls (k : Nat) (A0 : Option Addr) (c0 : Nat) (l0 : List (S34)) (a1_0 : ByteArray) (a1_1 : Int) (a1_2 : Int) (A1_3 : Option Addr) (c1_3 : Nat) (l1_3 : List Int) (r1 : List (S34)) (r2 : Bool) (w : World) (hr0 : Kd.C k34 w A0 l0.length l0) (hc0 : l0.length ≤ c0) (hr1_3 : Kd.C (Kd.int .u8) w A1_3 l1_3.length l1_3) (hc1_3 : l1_3.length ≤ c1_3) (h : spec_Put.f k l0 a1_0 a1_1 a1_2 l1_3 = some (r1, r2)) :
  Calls Try.prog 61 #[.slice A0 l0.length c0, .agg #[.string a1_0, .int .i64 a1_1, .int .i64 a1_2, .slice A1_3 l1_3.length c1_3]] w fun e w' => ∃ v0_ : Value, e = .returned (.tuple #[v0_, .bool r2]) ∧ Kd.S k34 34 w' w.heap.size (fun _ => True) v0_ r1 ∧ Below w.heap.size w w' := by
 have hu34 := Try.underlying34
 have HR0 := Aside0.mk hr0
 have HC0 := Aside0.mk hc0
 clear hr0 hc0
 have HR1_3 := Aside0.mk hr1_3
 have HC1_3 := Aside0.mk hc1_3
 clear hr1_3 hc1_3
 have HB := Aside0.mk (zbk w.heap.size w)
 have H : (spec_Put.l0 k l0 (([] : List (S34))) 0 a1_0 a1_1 a1_2 l1_3) = some (r1, r2) := h
 clear h
 obtain ⟨y828, hy828⟩ : ∃ y_ : List (S34), y_ = (([] : List (S34))) := ⟨_, rfl⟩
 replace H : (spec_Put.l0 k l0 y828 0 a1_0 a1_1 a1_2 l1_3) = some (r1, r2) := jrw hy828 H
 have Ny828 := Aside0.mk hy828
 clear hy828
 have H' := Aside0.mk H
 clear H
 go_enter Try.func61, Try.ntmps61
 go_wp2_with (first | (refine jgd 3 ?_; refine bx 3 (#[.string a1_0, .int .i64 a1_1, .int .i64 a1_2, .slice A1_3 l1_3.length c1_3]) 34 ?_; intro gb827 hg w3 hbox hb; have xb_ := below_ofs bq hb; have n_ := jA4 (zab xb_ hb) (hbox) (ge0 hg xb_ : w.heap.size ≤ gb827) (ge0 hg xb_ : w.heap.size ≤ gb827); clear HB; obtain ⟨HB, BK827, GW827, GE827⟩ := n_; clear xb_ hb hbox hg) | (refine jgd 8 ?_; refine Kd.S_lit k34 _ 34 ?hg (N := 8) ?hd (xs := ([] : List (S34))) (inner := []) (ok := fun _ => True) (okp := fun _ => True) ?hr ?hp (fun _ hk => hk) trivial (zbk _ _) (zaf _) (by simp) ?_; (case hd => rfl); (case hg => rfl); (case hr => first | (go_simp; done) | (go_simp; rfl)); (case hp => exact (Reps.none _ _)); intro v829 w4 ho5 hb hg_ hnew_; clear hg_ hnew_; (first | rw [← Ny828.out] at ho5 | (simp only [Int.reduceToNat] at ho5; rw [← Ny828.out] at ho5)); have n_ := jA3 (zeg (Kd.S_newB ho5 (pB BK827.out)) (zak (bs1 GE827.out))) (jbb BK827.out hb) (zab (bs1 GE827.out) hb); clear BK827 HB; obtain ⟨HO830, BK827, HB⟩ := n_; clear hb ho5))
 go_loopg [6, 7] k (fun kq v6 v7 w' => ∃ (x6_1 : List (S34)) (x7_1 : Int), v7 = .int .i64 x7_1 ∧ Aside0 (spec_Put.l0 kq l0 x6_1 x7_1 a1_0 a1_1 a1_2 l1_3 = some (r1, r2)) ∧ Aside0 (kq ≤ k) ∧ Aside0 (Kd.S k34 34 w' w.heap.size (fun k_ => k_ ≠ gb827) v6 x6_1) ∧ Aside0 (w'.heap[gb827]? = some (.cells #[.string a1_0, .int .i64 a1_1, .int .i64 a1_2, (.slice A1_3 l1_3.length c1_3)] 34 (0, 0))) ∧ Aside0 (Below w.heap.size w w'))
 case atStart => exact ⟨(y828), (0), jer, H', ⟨zaf _⟩, ⟨by (with_reducible repeat (first | apply zdk | apply zdl | apply zdr)); exact zcx HO830.out (fun _ hk => hk.2)⟩, ⟨pB BK827.out⟩, ⟨bs1 GE827.out⟩⟩
 case round =>
  clear H'
  try clear c1
  try clear p2
  obtain ⟨x6_1, x7_1, rfl, HA, HK1, HO_6, BK827, HB⟩ := hrel
  cases gk with
  | zero => exact absurd HA.out (by simp [spec_Put.l0])
  | succ k1 =>
   have H := HA.out
   clear HA
   simp only [spec_Put.l0] at H
   by_cases c6 : x7_1 < (l0.length : Int)
   ·rw [if_pos c6] at H
    have c6b0 := zae c6
    clear c6
    by_cases c7 : a1_1 ≤ 0
    ·rw [if_pos c7] at H
     have c7b0 := zae c7
     clear c7
     by_cases c8 : 0 ≤ x7_1
     ·rw [if_pos c8] at H
      have c8b0 := zae c8
      clear c8
      obtain ⟨⟨t832, t833, t834, t835⟩, A9, H⟩ := bnd H
      try dsimp only at H
      by_cases c10 : x6_1.length < 2513169434916
      ·rw [if_pos c10] at H
       have LMc10 := Aside0.mk c10
       clear c10
       obtain ⟨y838, hy838⟩ : ∃ y_ : List (S34), y_ = (x6_1 ++ [(⟨t832, t833, t834, t835⟩ : S34)]) := ⟨_, rfl⟩
       replace H : (spec_Put.l0 k1 l0 y838 (wrap64 (x7_1 + 1)) a1_0 a1_1 a1_2 l1_3) = some (r1, r2) := jrw hy838 H
       have Ny838 := Aside0.mk hy838
       clear hy838
       have H' := Aside0.mk H
       clear H
       obtain ⟨hcz11_0, hcz11_1, hcz11_2, hcz11_3, hfz11_0, hfz11_1, hfz11_2, hfz11_3⟩ := cz4 BK827.out
       obtain ⟨p831, q831, ad831, A831_3, c831_3, e831, hx831_0, hx831_1, hx831_2, hx831_3, HC831_3, HR831_3⟩ := jel HR0.out HB.out x7_1
       cases e831
       go_wp2_with (first | (go_at_call 94; (with_reducible refine (spec_l13Item.calls ((rd_T34 l0 x7_1).f0) ((rd_T34 l0 x7_1).f1) ((rd_T34 l0 x7_1).f2) _ _ ((rd_T34 l0 x7_1).f3) t832 t833 t834 t835 _ ?side1 ?side2 A9.out).mono ?_); (case side1 => exact jcs HR831_3.out); (case side2 => exact HC831_3.out); rintro e w12 ⟨v836, rfl, ho0, hb⟩; have n_ := jA4 (zea (pS HO_6.out) (zbe ho0) hb) (zbc ho0 (zak (bs1 GE827.out))) (jbb BK827.out hb) (zab (bs1 GE827.out) hb); clear HO_6 BK827 HB; obtain ⟨HO_6, HO837, BK827, HB⟩ := n_; clear hb ho0; obtain ⟨Ao14, co14, eo14⟩ := zbm HO837.out; subst eo14) | ((with_reducible refine zcc (b := .append) (xs := #[.tmp 38, .tmp 44]) rfl ?_); at_builtin; refine zex k34 (w0 := w) w.heap.size rfl (.tmp 38) (.tmp 44) 25 34 (.agg #[(.string ⟨#[]⟩), (.int .i64 0), (.int .i64 0), (.slice none 0 0)]) 56 rfl Try.underlying25 info34 rfl (by decide) (by omega) u6 x6_1 (⟨t832, t833, t834, t835⟩ : S34) [.string t832, .int .i64 t833, .int .i64 t834, .slice Ao14 t835.length co14] (fun k_ => k_ ≠ gb827) (fun k_ => some k_ = (.slice Ao14 t835.length co14 : Value).ownBlock) rfl rfl ?aP (fun k_ hk_ => ((zav (ok' := fun k_ => ((fun k_ => k_ ≠ gb827)) k_ ∧ some k_ ≠ (u6 : Value).ownBlock) (zcb (zds (HO837.out) (zec HO_6.out) (by decide)) BK827.out (by decide)) (fun k_ hk => ⟨hk.2, hk.1.2⟩))).1 k_ hk_.symm) ?aF ?aO ?aB ?aS ?aL ?_; (case aP => exact k34_mkM _ _ _ (⟨t832, t833, t834, t835⟩ : S34) (zav (zfe rfl (zav (ok' := fun k_ => ((fun k_ => k_ ≠ gb827)) k_ ∧ some k_ ≠ (u6 : Value).ownBlock) (zcb (zds (HO837.out) (zec HO_6.out) (by decide)) BK827.out (by decide)) (fun k_ hk => ⟨hk.2, hk.1.2⟩))) (fun _ h_ => h_))); (case aB => exact (bs1 GE827.out)); (case aF => exact (fun k_ hk => zey (pB BK827.out) k_ hk)); (case aO => exact (by (with_reducible repeat (first | apply zdk | apply zdl | apply zdr)); exact zcx HO_6.out (fun k_ hk => ⟨hk.1, fun e_ => hk.2 e_⟩))); (case aS => exact (zak (bs1 GE827.out))); (case aL => have := LMc10.out; omega); intro v839 w13 ho hb hg hat; rw [← Ny838.out] at ho; have n_ := jA3 (zei (pB BK827.out) hg (Kd.S_away HO_6.out (fun _ hk => hk.1))) (hb) (ho); clear BK827 HB HO_6 HO837; obtain ⟨BK827, HB, HO840⟩ := n_; clear ho hb hg hat))
       repeat (go_quiet (first | (go_at_call 94; (with_reducible refine (spec_l13Item.calls ((rd_T34 l0 x7_1).f0) ((rd_T34 l0 x7_1).f1) ((rd_T34 l0 x7_1).f2) _ _ ((rd_T34 l0 x7_1).f3) t832 t833 t834 t835 _ ?side1 ?side2 A9.out).mono ?_); (case side1 => exact jcs HR831_3.out); (case side2 => exact HC831_3.out); rintro e w12 ⟨v836, rfl, ho0, hb⟩; have n_ := jA4 (zea (pS HO_6.out) (zbe ho0) hb) (zbc ho0 (zak (bs1 GE827.out))) (jbb BK827.out hb) (zab (bs1 GE827.out) hb); clear HO_6 BK827 HB; obtain ⟨HO_6, HO837, BK827, HB⟩ := n_; (try clear hb); (try clear hb2); (try clear hk); (try clear hi); (try clear ho0); obtain ⟨Ao14, co14, eo14⟩ := zbm HO837.out; subst eo14) | ((with_reducible refine zcc (b := .append) (xs := #[.tmp 38, .tmp 44]) rfl ?_); at_builtin; refine zex k34 (w0 := w) w.heap.size rfl (.tmp 38) (.tmp 44) 25 34 (.agg #[(.string ⟨#[]⟩), (.int .i64 0), (.int .i64 0), (.slice none 0 0)]) 56 rfl Try.underlying25 info34 rfl (by decide) (by omega) u6 x6_1 (⟨t832, t833, t834, t835⟩ : S34) [.string t832, .int .i64 t833, .int .i64 t834, .slice Ao14 t835.length co14] (fun k_ => k_ ≠ gb827) (fun k_ => some k_ = (.slice Ao14 t835.length co14 : Value).ownBlock) rfl rfl ?aP (fun k_ hk_ => ((zav (ok' := fun k_ => ((fun k_ => k_ ≠ gb827)) k_ ∧ some k_ ≠ (u6 : Value).ownBlock) (zcb (zds (HO837.out) (zec HO_6.out) (by decide)) BK827.out (by decide)) (fun k_ hk => ⟨hk.2, hk.1.2⟩))).1 k_ hk_.symm) ?aF ?aO ?aB ?aS ?aL ?_; (case aP => exact k34_mkM _ _ _ (⟨t832, t833, t834, t835⟩ : S34) (zav (zfe rfl (zav (ok' := fun k_ => ((fun k_ => k_ ≠ gb827)) k_ ∧ some k_ ≠ (u6 : Value).ownBlock) (zcb (zds (HO837.out) (zec HO_6.out) (by decide)) BK827.out (by decide)) (fun k_ hk => ⟨hk.2, hk.1.2⟩))) (fun _ h_ => h_))); (case aB => exact (bs1 GE827.out)); (case aF => exact (fun k_ hk => zey (pB BK827.out) k_ hk)); (case aO => exact (by (with_reducible repeat (first | apply zdk | apply zdl | apply zdr)); exact zcx HO_6.out (fun k_ hk => ⟨hk.1, fun e_ => hk.2 e_⟩))); (case aS => exact (zak (bs1 GE827.out))); (case aL => have := LMc10.out; omega); intro v839 w13 ho hb hg hat; rw [← Ny838.out] at ho; have n_ := jA3 (zei (pB BK827.out) hg (Kd.S_away HO_6.out (fun _ hk => hk.1))) (hb) (ho); clear BK827 HB HO_6 HO837; obtain ⟨BK827, HB, HO840⟩ := n_; clear ho hb hg hat)); try go_wp2_with (first | (go_at_call 94; (with_reducible refine (spec_l13Item.calls ((rd_T34 l0 x7_1).f0) ((rd_T34 l0 x7_1).f1) ((rd_T34 l0 x7_1).f2) _ _ ((rd_T34 l0 x7_1).f3) t832 t833 t834 t835 _ ?side1 ?side2 A9.out).mono ?_); (case side1 => exact jcs HR831_3.out); (case side2 => exact HC831_3.out); rintro e w12 ⟨v836, rfl, ho0, hb⟩; have n_ := jA4 (zea (pS HO_6.out) (zbe ho0) hb) (zbc ho0 (zak (bs1 GE827.out))) (jbb BK827.out hb) (zab (bs1 GE827.out) hb); clear HO_6 BK827 HB; obtain ⟨HO_6, HO837, BK827, HB⟩ := n_; (try clear hb); (try clear hb2); (try clear hk); (try clear hi); (try clear ho0); obtain ⟨Ao14, co14, eo14⟩ := zbm HO837.out; subst eo14) | ((with_reducible refine zcc (b := .append) (xs := #[.tmp 38, .tmp 44]) rfl ?_); at_builtin; refine zex k34 (w0 := w) w.heap.size rfl (.tmp 38) (.tmp 44) 25 34 (.agg #[(.string ⟨#[]⟩), (.int .i64 0), (.int .i64 0), (.slice none 0 0)]) 56 rfl Try.underlying25 info34 rfl (by decide) (by omega) u6 x6_1 (⟨t832, t833, t834, t835⟩ : S34) [.string t832, .int .i64 t833, .int .i64 t834, .slice Ao14 t835.length co14] (fun k_ => k_ ≠ gb827) (fun k_ => some k_ = (.slice Ao14 t835.length co14 : Value).ownBlock) rfl rfl ?aP (fun k_ hk_ => ((zav (ok' := fun k_ => ((fun k_ => k_ ≠ gb827)) k_ ∧ some k_ ≠ (u6 : Value).ownBlock) (zcb (zds (HO837.out) (zec HO_6.out) (by decide)) BK827.out (by decide)) (fun k_ hk => ⟨hk.2, hk.1.2⟩))).1 k_ hk_.symm) ?aF ?aO ?aB ?aS ?aL ?_; (case aP => exact k34_mkM _ _ _ (⟨t832, t833, t834, t835⟩ : S34) (zav (zfe rfl (zav (ok' := fun k_ => ((fun k_ => k_ ≠ gb827)) k_ ∧ some k_ ≠ (u6 : Value).ownBlock) (zcb (zds (HO837.out) (zec HO_6.out) (by decide)) BK827.out (by decide)) (fun k_ hk => ⟨hk.2, hk.1.2⟩))) (fun _ h_ => h_))); (case aB => exact (bs1 GE827.out)); (case aF => exact (fun k_ hk => zey (pB BK827.out) k_ hk)); (case aO => exact (by (with_reducible repeat (first | apply zdk | apply zdl | apply zdr)); exact zcx HO_6.out (fun k_ hk => ⟨hk.1, fun e_ => hk.2 e_⟩))); (case aS => exact (zak (bs1 GE827.out))); (case aL => have := LMc10.out; omega); intro v839 w13 ho hb hg hat; rw [← Ny838.out] at ho; have n_ := jA3 (zei (pB BK827.out) hg (Kd.S_away HO_6.out (fun _ hk => hk.1))) (hb) (ho); clear BK827 HB HO_6 HO837; obtain ⟨BK827, HB, HO840⟩ := n_; clear ho hb hg hat)))
       go_roundg k1
       case measure => have := HK1.out; omega
       case rel => exact ⟨(y838), (wrap64 (x7_1 + 1)), jer, H', ⟨by have := HK1.out; omega⟩, ⟨pS HO840.out⟩, ⟨pB BK827.out⟩, ⟨bs1 GE827.out⟩⟩
      ·rw [if_neg c10] at H
       exact absurd H (by simp)
     ·rw [if_neg c8] at H
      exact absurd H (by simp)
    ·rw [if_neg c7] at H
     have c7b0 := zas c7
     clear c7
     by_cases c15 : 0 ≤ x7_1
     ·rw [if_pos c15] at H
      have c15b0 := zae c15
      clear c15
      by_cases c16 : ((rd_T34 l0 x7_1).f0).toList = a1_0.toList
      ·rw [if_pos c16] at H
       have c16b0 := beqT c16
       have c16b1 := zau.mpr c16
       clear c16
       by_cases c17 : ((rd_T34 l0 x7_1).f1) = a1_1
       ·rw [if_pos c17] at H
        have c17b0 := beqT c17
        have c17b1 := zau.mpr c17
        clear c17
        have H' := Aside0.mk H
        clear H
        obtain ⟨hcz18_0, hcz18_1, hcz18_2, hcz18_3, hfz18_0, hfz18_1, hfz18_2, hfz18_3⟩ := cz4 BK827.out
        obtain ⟨p841, q841, ad841, A841_3, c841_3, e841, hx841_0, hx841_1, hx841_2, hx841_3, HC841_3, HR841_3⟩ := jel HR0.out HB.out x7_1
        cases e841
        obtain ⟨p842, q842, ad842, A842_3, c842_3, e842, hx842_0, hx842_1, hx842_2, hx842_3, HC842_3, HR842_3⟩ := jel HR0.out HB.out x7_1
        obtain rfl : ad841 = ad842 := (by injection e842)
        have ea_ := Option.some.inj (hx841_3.symm.trans hx842_3)
        injection ea_ with ea_ en_ ec_
        subst ea_
        subst ec_
        clear en_
        go_wp2
        repeat (go_quiet (fail); try go_wp2)
        go_roundg k1
        case measure => have := HK1.out; omega
        case rel => exact ⟨(x6_1), (wrap64 (x7_1 + 1)), jer, H', ⟨by have := HK1.out; omega⟩, ⟨pS HO_6.out⟩, ⟨pB BK827.out⟩, ⟨bs1 GE827.out⟩⟩
       ·rw [if_neg c17] at H
        have c17b0 := zao.mpr c17
        have c17b1 := zcs.mpr c17
        obtain ⟨⟨t844, t845, t846, t847⟩, A19, H⟩ := bnd H
        try dsimp only at H
        by_cases c20 : x6_1.length < 2513169434916
        ·rw [if_pos c20] at H
         have LMc20 := Aside0.mk c20
         clear c20
         obtain ⟨y850, hy850⟩ : ∃ y_ : List (S34), y_ = (x6_1 ++ [(⟨t844, t845, t846, t847⟩ : S34)]) := ⟨_, rfl⟩
         replace H : (spec_Put.l0 k1 l0 y850 (wrap64 (x7_1 + 1)) a1_0 a1_1 a1_2 l1_3) = some (r1, r2) := jrw hy850 H
         have Ny850 := Aside0.mk hy850
         clear hy850
         have H' := Aside0.mk H
         clear H
         obtain ⟨hcz21_0, hcz21_1, hcz21_2, hcz21_3, hfz21_0, hfz21_1, hfz21_2, hfz21_3⟩ := cz4 BK827.out
         obtain ⟨p841, q841, ad841, A841_3, c841_3, e841, hx841_0, hx841_1, hx841_2, hx841_3, HC841_3, HR841_3⟩ := jel HR0.out HB.out x7_1
         cases e841
         obtain ⟨p842, q842, ad842, A842_3, c842_3, e842, hx842_0, hx842_1, hx842_2, hx842_3, HC842_3, HR842_3⟩ := jel HR0.out HB.out x7_1
         obtain rfl : ad841 = ad842 := (by injection e842)
         have ea_ := Option.some.inj (hx841_3.symm.trans hx842_3)
         injection ea_ with ea_ en_ ec_
         subst ea_
         subst ec_
         clear en_
         obtain ⟨p843, q843, ad843, A843_3, c843_3, e843, hx843_0, hx843_1, hx843_2, hx843_3, HC843_3, HR843_3⟩ := jel HR0.out HB.out x7_1
         obtain rfl : ad841 = ad843 := (by injection e843)
         have ea_ := Option.some.inj (hx841_3.symm.trans hx843_3)
         injection ea_ with ea_ en_ ec_
         subst ea_
         subst ec_
         clear en_
         go_wp2_with (first | (go_at_call 94; (with_reducible refine (spec_l13Item.calls ((rd_T34 l0 x7_1).f0) ((rd_T34 l0 x7_1).f1) ((rd_T34 l0 x7_1).f2) _ _ ((rd_T34 l0 x7_1).f3) t844 t845 t846 t847 _ ?side1 ?side2 A19.out).mono ?_); (case side1 => exact jcs HR843_3.out); (case side2 => exact HC843_3.out); rintro e w22 ⟨v848, rfl, ho0, hb⟩; have n_ := jA4 (zea (pS HO_6.out) (zbe ho0) hb) (zbc ho0 (zak (bs1 GE827.out))) (jbb BK827.out hb) (zab (bs1 GE827.out) hb); clear HO_6 BK827 HB; obtain ⟨HO_6, HO849, BK827, HB⟩ := n_; clear hb ho0; obtain ⟨Ao24, co24, eo24⟩ := zbm HO849.out; subst eo24) | ((with_reducible refine zcc (b := .append) (xs := #[.tmp 38, .tmp 44]) rfl ?_); at_builtin; refine zex k34 (w0 := w) w.heap.size rfl (.tmp 38) (.tmp 44) 25 34 (.agg #[(.string ⟨#[]⟩), (.int .i64 0), (.int .i64 0), (.slice none 0 0)]) 56 rfl Try.underlying25 info34 rfl (by decide) (by omega) u6 x6_1 (⟨t844, t845, t846, t847⟩ : S34) [.string t844, .int .i64 t845, .int .i64 t846, .slice Ao24 t847.length co24] (fun k_ => k_ ≠ gb827) (fun k_ => some k_ = (.slice Ao24 t847.length co24 : Value).ownBlock) rfl rfl ?aP (fun k_ hk_ => ((zav (ok' := fun k_ => ((fun k_ => k_ ≠ gb827)) k_ ∧ some k_ ≠ (u6 : Value).ownBlock) (zcb (zds (HO849.out) (zec HO_6.out) (by decide)) BK827.out (by decide)) (fun k_ hk => ⟨hk.2, hk.1.2⟩))).1 k_ hk_.symm) ?aF ?aO ?aB ?aS ?aL ?_; (case aP => exact k34_mkM _ _ _ (⟨t844, t845, t846, t847⟩ : S34) (zav (zfe rfl (zav (ok' := fun k_ => ((fun k_ => k_ ≠ gb827)) k_ ∧ some k_ ≠ (u6 : Value).ownBlock) (zcb (zds (HO849.out) (zec HO_6.out) (by decide)) BK827.out (by decide)) (fun k_ hk => ⟨hk.2, hk.1.2⟩))) (fun _ h_ => h_))); (case aB => exact (bs1 GE827.out)); (case aF => exact (fun k_ hk => zey (pB BK827.out) k_ hk)); (case aO => exact (by (with_reducible repeat (first | apply zdk | apply zdl | apply zdr)); exact zcx HO_6.out (fun k_ hk => ⟨hk.1, fun e_ => hk.2 e_⟩))); (case aS => exact (zak (bs1 GE827.out))); (case aL => have := LMc20.out; omega); intro v851 w23 ho hb hg hat; rw [← Ny850.out] at ho; have n_ := jA3 (zei (pB BK827.out) hg (Kd.S_away HO_6.out (fun _ hk => hk.1))) (hb) (ho); clear BK827 HB HO_6 HO849; obtain ⟨BK827, HB, HO852⟩ := n_; clear ho hb hg hat))
         repeat (go_quiet (first | (go_at_call 94; (with_reducible refine (spec_l13Item.calls ((rd_T34 l0 x7_1).f0) ((rd_T34 l0 x7_1).f1) ((rd_T34 l0 x7_1).f2) _ _ ((rd_T34 l0 x7_1).f3) t844 t845 t846 t847 _ ?side1 ?side2 A19.out).mono ?_); (case side1 => exact jcs HR843_3.out); (case side2 => exact HC843_3.out); rintro e w22 ⟨v848, rfl, ho0, hb⟩; have n_ := jA4 (zea (pS HO_6.out) (zbe ho0) hb) (zbc ho0 (zak (bs1 GE827.out))) (jbb BK827.out hb) (zab (bs1 GE827.out) hb); clear HO_6 BK827 HB; obtain ⟨HO_6, HO849, BK827, HB⟩ := n_; (try clear hb); (try clear hb2); (try clear hk); (try clear hi); (try clear ho0); obtain ⟨Ao24, co24, eo24⟩ := zbm HO849.out; subst eo24) | ((with_reducible refine zcc (b := .append) (xs := #[.tmp 38, .tmp 44]) rfl ?_); at_builtin; refine zex k34 (w0 := w) w.heap.size rfl (.tmp 38) (.tmp 44) 25 34 (.agg #[(.string ⟨#[]⟩), (.int .i64 0), (.int .i64 0), (.slice none 0 0)]) 56 rfl Try.underlying25 info34 rfl (by decide) (by omega) u6 x6_1 (⟨t844, t845, t846, t847⟩ : S34) [.string t844, .int .i64 t845, .int .i64 t846, .slice Ao24 t847.length co24] (fun k_ => k_ ≠ gb827) (fun k_ => some k_ = (.slice Ao24 t847.length co24 : Value).ownBlock) rfl rfl ?aP (fun k_ hk_ => ((zav (ok' := fun k_ => ((fun k_ => k_ ≠ gb827)) k_ ∧ some k_ ≠ (u6 : Value).ownBlock) (zcb (zds (HO849.out) (zec HO_6.out) (by decide)) BK827.out (by decide)) (fun k_ hk => ⟨hk.2, hk.1.2⟩))).1 k_ hk_.symm) ?aF ?aO ?aB ?aS ?aL ?_; (case aP => exact k34_mkM _ _ _ (⟨t844, t845, t846, t847⟩ : S34) (zav (zfe rfl (zav (ok' := fun k_ => ((fun k_ => k_ ≠ gb827)) k_ ∧ some k_ ≠ (u6 : Value).ownBlock) (zcb (zds (HO849.out) (zec HO_6.out) (by decide)) BK827.out (by decide)) (fun k_ hk => ⟨hk.2, hk.1.2⟩))) (fun _ h_ => h_))); (case aB => exact (bs1 GE827.out)); (case aF => exact (fun k_ hk => zey (pB BK827.out) k_ hk)); (case aO => exact (by (with_reducible repeat (first | apply zdk | apply zdl | apply zdr)); exact zcx HO_6.out (fun k_ hk => ⟨hk.1, fun e_ => hk.2 e_⟩))); (case aS => exact (zak (bs1 GE827.out))); (case aL => have := LMc20.out; omega); intro v851 w23 ho hb hg hat; rw [← Ny850.out] at ho; have n_ := jA3 (zei (pB BK827.out) hg (Kd.S_away HO_6.out (fun _ hk => hk.1))) (hb) (ho); clear BK827 HB HO_6 HO849; obtain ⟨BK827, HB, HO852⟩ := n_; clear ho hb hg hat)); try go_wp2_with (first | (go_at_call 94; (with_reducible refine (spec_l13Item.calls ((rd_T34 l0 x7_1).f0) ((rd_T34 l0 x7_1).f1) ((rd_T34 l0 x7_1).f2) _ _ ((rd_T34 l0 x7_1).f3) t844 t845 t846 t847 _ ?side1 ?side2 A19.out).mono ?_); (case side1 => exact jcs HR843_3.out); (case side2 => exact HC843_3.out); rintro e w22 ⟨v848, rfl, ho0, hb⟩; have n_ := jA4 (zea (pS HO_6.out) (zbe ho0) hb) (zbc ho0 (zak (bs1 GE827.out))) (jbb BK827.out hb) (zab (bs1 GE827.out) hb); clear HO_6 BK827 HB; obtain ⟨HO_6, HO849, BK827, HB⟩ := n_; (try clear hb); (try clear hb2); (try clear hk); (try clear hi); (try clear ho0); obtain ⟨Ao24, co24, eo24⟩ := zbm HO849.out; subst eo24) | ((with_reducible refine zcc (b := .append) (xs := #[.tmp 38, .tmp 44]) rfl ?_); at_builtin; refine zex k34 (w0 := w) w.heap.size rfl (.tmp 38) (.tmp 44) 25 34 (.agg #[(.string ⟨#[]⟩), (.int .i64 0), (.int .i64 0), (.slice none 0 0)]) 56 rfl Try.underlying25 info34 rfl (by decide) (by omega) u6 x6_1 (⟨t844, t845, t846, t847⟩ : S34) [.string t844, .int .i64 t845, .int .i64 t846, .slice Ao24 t847.length co24] (fun k_ => k_ ≠ gb827) (fun k_ => some k_ = (.slice Ao24 t847.length co24 : Value).ownBlock) rfl rfl ?aP (fun k_ hk_ => ((zav (ok' := fun k_ => ((fun k_ => k_ ≠ gb827)) k_ ∧ some k_ ≠ (u6 : Value).ownBlock) (zcb (zds (HO849.out) (zec HO_6.out) (by decide)) BK827.out (by decide)) (fun k_ hk => ⟨hk.2, hk.1.2⟩))).1 k_ hk_.symm) ?aF ?aO ?aB ?aS ?aL ?_; (case aP => exact k34_mkM _ _ _ (⟨t844, t845, t846, t847⟩ : S34) (zav (zfe rfl (zav (ok' := fun k_ => ((fun k_ => k_ ≠ gb827)) k_ ∧ some k_ ≠ (u6 : Value).ownBlock) (zcb (zds (HO849.out) (zec HO_6.out) (by decide)) BK827.out (by decide)) (fun k_ hk => ⟨hk.2, hk.1.2⟩))) (fun _ h_ => h_))); (case aB => exact (bs1 GE827.out)); (case aF => exact (fun k_ hk => zey (pB BK827.out) k_ hk)); (case aO => exact (by (with_reducible repeat (first | apply zdk | apply zdl | apply zdr)); exact zcx HO_6.out (fun k_ hk => ⟨hk.1, fun e_ => hk.2 e_⟩))); (case aS => exact (zak (bs1 GE827.out))); (case aL => have := LMc20.out; omega); intro v851 w23 ho hb hg hat; rw [← Ny850.out] at ho; have n_ := jA3 (zei (pB BK827.out) hg (Kd.S_away HO_6.out (fun _ hk => hk.1))) (hb) (ho); clear BK827 HB HO_6 HO849; obtain ⟨BK827, HB, HO852⟩ := n_; clear ho hb hg hat)))
         go_roundg k1
         case measure => have := HK1.out; omega
         case rel => exact ⟨(y850), (wrap64 (x7_1 + 1)), jer, H', ⟨by have := HK1.out; omega⟩, ⟨pS HO852.out⟩, ⟨pB BK827.out⟩, ⟨bs1 GE827.out⟩⟩
        ·rw [if_neg c20] at H
         exact absurd H (by simp)
      ·rw [if_neg c16] at H
       have c16b0 := zao.mpr c16
       have c16b1 := zcs.mpr c16
       obtain ⟨⟨t854, t855, t856, t857⟩, A25, H⟩ := bnd H
       try dsimp only at H
       by_cases c26 : x6_1.length < 2513169434916
       ·rw [if_pos c26] at H
        have LMc26 := Aside0.mk c26
        clear c26
        obtain ⟨y860, hy860⟩ : ∃ y_ : List (S34), y_ = (x6_1 ++ [(⟨t854, t855, t856, t857⟩ : S34)]) := ⟨_, rfl⟩
        replace H : (spec_Put.l0 k1 l0 y860 (wrap64 (x7_1 + 1)) a1_0 a1_1 a1_2 l1_3) = some (r1, r2) := jrw hy860 H
        have Ny860 := Aside0.mk hy860
        clear hy860
        have H' := Aside0.mk H
        clear H
        obtain ⟨hcz27_0, hcz27_1, hcz27_2, hcz27_3, hfz27_0, hfz27_1, hfz27_2, hfz27_3⟩ := cz4 BK827.out
        obtain ⟨p841, q841, ad841, A841_3, c841_3, e841, hx841_0, hx841_1, hx841_2, hx841_3, HC841_3, HR841_3⟩ := jel HR0.out HB.out x7_1
        cases e841
        obtain ⟨p853, q853, ad853, A853_3, c853_3, e853, hx853_0, hx853_1, hx853_2, hx853_3, HC853_3, HR853_3⟩ := jel HR0.out HB.out x7_1
        obtain rfl : ad841 = ad853 := (by injection e853)
        have ea_ := Option.some.inj (hx841_3.symm.trans hx853_3)
        injection ea_ with ea_ en_ ec_
        subst ea_
        subst ec_
        clear en_
        go_wp2_with (first | (go_at_call 94; (with_reducible refine (spec_l13Item.calls ((rd_T34 l0 x7_1).f0) ((rd_T34 l0 x7_1).f1) ((rd_T34 l0 x7_1).f2) _ _ ((rd_T34 l0 x7_1).f3) t854 t855 t856 t857 _ ?side1 ?side2 A25.out).mono ?_); (case side1 => exact jcs HR853_3.out); (case side2 => exact HC853_3.out); rintro e w28 ⟨v858, rfl, ho0, hb⟩; have n_ := jA4 (zea (pS HO_6.out) (zbe ho0) hb) (zbc ho0 (zak (bs1 GE827.out))) (jbb BK827.out hb) (zab (bs1 GE827.out) hb); clear HO_6 BK827 HB; obtain ⟨HO_6, HO859, BK827, HB⟩ := n_; clear hb ho0; obtain ⟨Ao30, co30, eo30⟩ := zbm HO859.out; subst eo30) | ((with_reducible refine zcc (b := .append) (xs := #[.tmp 38, .tmp 44]) rfl ?_); at_builtin; refine zex k34 (w0 := w) w.heap.size rfl (.tmp 38) (.tmp 44) 25 34 (.agg #[(.string ⟨#[]⟩), (.int .i64 0), (.int .i64 0), (.slice none 0 0)]) 56 rfl Try.underlying25 info34 rfl (by decide) (by omega) u6 x6_1 (⟨t854, t855, t856, t857⟩ : S34) [.string t854, .int .i64 t855, .int .i64 t856, .slice Ao30 t857.length co30] (fun k_ => k_ ≠ gb827) (fun k_ => some k_ = (.slice Ao30 t857.length co30 : Value).ownBlock) rfl rfl ?aP (fun k_ hk_ => ((zav (ok' := fun k_ => ((fun k_ => k_ ≠ gb827)) k_ ∧ some k_ ≠ (u6 : Value).ownBlock) (zcb (zds (HO859.out) (zec HO_6.out) (by decide)) BK827.out (by decide)) (fun k_ hk => ⟨hk.2, hk.1.2⟩))).1 k_ hk_.symm) ?aF ?aO ?aB ?aS ?aL ?_; (case aP => exact k34_mkM _ _ _ (⟨t854, t855, t856, t857⟩ : S34) (zav (zfe rfl (zav (ok' := fun k_ => ((fun k_ => k_ ≠ gb827)) k_ ∧ some k_ ≠ (u6 : Value).ownBlock) (zcb (zds (HO859.out) (zec HO_6.out) (by decide)) BK827.out (by decide)) (fun k_ hk => ⟨hk.2, hk.1.2⟩))) (fun _ h_ => h_))); (case aB => exact (bs1 GE827.out)); (case aF => exact (fun k_ hk => zey (pB BK827.out) k_ hk)); (case aO => exact (by (with_reducible repeat (first | apply zdk | apply zdl | apply zdr)); exact zcx HO_6.out (fun k_ hk => ⟨hk.1, fun e_ => hk.2 e_⟩))); (case aS => exact (zak (bs1 GE827.out))); (case aL => have := LMc26.out; omega); intro v861 w29 ho hb hg hat; rw [← Ny860.out] at ho; have n_ := jA3 (zei (pB BK827.out) hg (Kd.S_away HO_6.out (fun _ hk => hk.1))) (hb) (ho); clear BK827 HB HO_6 HO859; obtain ⟨BK827, HB, HO862⟩ := n_; clear ho hb hg hat))
        repeat (go_quiet (first | (go_at_call 94; (with_reducible refine (spec_l13Item.calls ((rd_T34 l0 x7_1).f0) ((rd_T34 l0 x7_1).f1) ((rd_T34 l0 x7_1).f2) _ _ ((rd_T34 l0 x7_1).f3) t854 t855 t856 t857 _ ?side1 ?side2 A25.out).mono ?_); (case side1 => exact jcs HR853_3.out); (case side2 => exact HC853_3.out); rintro e w28 ⟨v858, rfl, ho0, hb⟩; have n_ := jA4 (zea (pS HO_6.out) (zbe ho0) hb) (zbc ho0 (zak (bs1 GE827.out))) (jbb BK827.out hb) (zab (bs1 GE827.out) hb); clear HO_6 BK827 HB; obtain ⟨HO_6, HO859, BK827, HB⟩ := n_; (try clear hb); (try clear hb2); (try clear hk); (try clear hi); (try clear ho0); obtain ⟨Ao30, co30, eo30⟩ := zbm HO859.out; subst eo30) | ((with_reducible refine zcc (b := .append) (xs := #[.tmp 38, .tmp 44]) rfl ?_); at_builtin; refine zex k34 (w0 := w) w.heap.size rfl (.tmp 38) (.tmp 44) 25 34 (.agg #[(.string ⟨#[]⟩), (.int .i64 0), (.int .i64 0), (.slice none 0 0)]) 56 rfl Try.underlying25 info34 rfl (by decide) (by omega) u6 x6_1 (⟨t854, t855, t856, t857⟩ : S34) [.string t854, .int .i64 t855, .int .i64 t856, .slice Ao30 t857.length co30] (fun k_ => k_ ≠ gb827) (fun k_ => some k_ = (.slice Ao30 t857.length co30 : Value).ownBlock) rfl rfl ?aP (fun k_ hk_ => ((zav (ok' := fun k_ => ((fun k_ => k_ ≠ gb827)) k_ ∧ some k_ ≠ (u6 : Value).ownBlock) (zcb (zds (HO859.out) (zec HO_6.out) (by decide)) BK827.out (by decide)) (fun k_ hk => ⟨hk.2, hk.1.2⟩))).1 k_ hk_.symm) ?aF ?aO ?aB ?aS ?aL ?_; (case aP => exact k34_mkM _ _ _ (⟨t854, t855, t856, t857⟩ : S34) (zav (zfe rfl (zav (ok' := fun k_ => ((fun k_ => k_ ≠ gb827)) k_ ∧ some k_ ≠ (u6 : Value).ownBlock) (zcb (zds (HO859.out) (zec HO_6.out) (by decide)) BK827.out (by decide)) (fun k_ hk => ⟨hk.2, hk.1.2⟩))) (fun _ h_ => h_))); (case aB => exact (bs1 GE827.out)); (case aF => exact (fun k_ hk => zey (pB BK827.out) k_ hk)); (case aO => exact (by (with_reducible repeat (first | apply zdk | apply zdl | apply zdr)); exact zcx HO_6.out (fun k_ hk => ⟨hk.1, fun e_ => hk.2 e_⟩))); (case aS => exact (zak (bs1 GE827.out))); (case aL => have := LMc26.out; omega); intro v861 w29 ho hb hg hat; rw [← Ny860.out] at ho; have n_ := jA3 (zei (pB BK827.out) hg (Kd.S_away HO_6.out (fun _ hk => hk.1))) (hb) (ho); clear BK827 HB HO_6 HO859; obtain ⟨BK827, HB, HO862⟩ := n_; clear ho hb hg hat)); try go_wp2_with (first | (go_at_call 94; (with_reducible refine (spec_l13Item.calls ((rd_T34 l0 x7_1).f0) ((rd_T34 l0 x7_1).f1) ((rd_T34 l0 x7_1).f2) _ _ ((rd_T34 l0 x7_1).f3) t854 t855 t856 t857 _ ?side1 ?side2 A25.out).mono ?_); (case side1 => exact jcs HR853_3.out); (case side2 => exact HC853_3.out); rintro e w28 ⟨v858, rfl, ho0, hb⟩; have n_ := jA4 (zea (pS HO_6.out) (zbe ho0) hb) (zbc ho0 (zak (bs1 GE827.out))) (jbb BK827.out hb) (zab (bs1 GE827.out) hb); clear HO_6 BK827 HB; obtain ⟨HO_6, HO859, BK827, HB⟩ := n_; (try clear hb); (try clear hb2); (try clear hk); (try clear hi); (try clear ho0); obtain ⟨Ao30, co30, eo30⟩ := zbm HO859.out; subst eo30) | ((with_reducible refine zcc (b := .append) (xs := #[.tmp 38, .tmp 44]) rfl ?_); at_builtin; refine zex k34 (w0 := w) w.heap.size rfl (.tmp 38) (.tmp 44) 25 34 (.agg #[(.string ⟨#[]⟩), (.int .i64 0), (.int .i64 0), (.slice none 0 0)]) 56 rfl Try.underlying25 info34 rfl (by decide) (by omega) u6 x6_1 (⟨t854, t855, t856, t857⟩ : S34) [.string t854, .int .i64 t855, .int .i64 t856, .slice Ao30 t857.length co30] (fun k_ => k_ ≠ gb827) (fun k_ => some k_ = (.slice Ao30 t857.length co30 : Value).ownBlock) rfl rfl ?aP (fun k_ hk_ => ((zav (ok' := fun k_ => ((fun k_ => k_ ≠ gb827)) k_ ∧ some k_ ≠ (u6 : Value).ownBlock) (zcb (zds (HO859.out) (zec HO_6.out) (by decide)) BK827.out (by decide)) (fun k_ hk => ⟨hk.2, hk.1.2⟩))).1 k_ hk_.symm) ?aF ?aO ?aB ?aS ?aL ?_; (case aP => exact k34_mkM _ _ _ (⟨t854, t855, t856, t857⟩ : S34) (zav (zfe rfl (zav (ok' := fun k_ => ((fun k_ => k_ ≠ gb827)) k_ ∧ some k_ ≠ (u6 : Value).ownBlock) (zcb (zds (HO859.out) (zec HO_6.out) (by decide)) BK827.out (by decide)) (fun k_ hk => ⟨hk.2, hk.1.2⟩))) (fun _ h_ => h_))); (case aB => exact (bs1 GE827.out)); (case aF => exact (fun k_ hk => zey (pB BK827.out) k_ hk)); (case aO => exact (by (with_reducible repeat (first | apply zdk | apply zdl | apply zdr)); exact zcx HO_6.out (fun k_ hk => ⟨hk.1, fun e_ => hk.2 e_⟩))); (case aS => exact (zak (bs1 GE827.out))); (case aL => have := LMc26.out; omega); intro v861 w29 ho hb hg hat; rw [← Ny860.out] at ho; have n_ := jA3 (zei (pB BK827.out) hg (Kd.S_away HO_6.out (fun _ hk => hk.1))) (hb) (ho); clear BK827 HB HO_6 HO859; obtain ⟨BK827, HB, HO862⟩ := n_; clear ho hb hg hat)))
        go_roundg k1
        case measure => have := HK1.out; omega
        case rel => exact ⟨(y860), (wrap64 (x7_1 + 1)), jer, H', ⟨by have := HK1.out; omega⟩, ⟨pS HO862.out⟩, ⟨pB BK827.out⟩, ⟨bs1 GE827.out⟩⟩
       ·rw [if_neg c26] at H
        exact absurd H (by simp)
     ·rw [if_neg c15] at H
      exact absurd H (by simp)
   ·rw [if_neg c6] at H
    have c6b0 := zas c6
    clear c6
    obtain ⟨⟨t863, t864, t865, t866⟩, A31, H⟩ := bnd H
    try dsimp only at H
    by_cases c32 : x6_1.length < 2513169434916
    ·rw [if_pos c32] at H
     have LMc32 := Aside0.mk c32
     clear c32
     obtain ⟨y869, hy869⟩ : ∃ y_ : List (S34), y_ = (x6_1 ++ [(⟨t863, t864, t865, t866⟩ : S34)]) := ⟨_, rfl⟩
     replace H := bto hy869 H
     have Ny869 := Aside0.mk hy869
     clear hy869
     obtain ⟨t872, A33, H⟩ := bnd H
     by_cases c34 : t872 = true
     ·subst c34
      rw [if_pos rfl] at H
      simp only [zbz, zcj] at H
      obtain ⟨rfl, rfl⟩ := H
      obtain ⟨hcz35_0, hcz35_1, hcz35_2, hcz35_3, hfz35_0, hfz35_1, hfz35_2, hfz35_3⟩ := cz4 BK827.out
      go_wp2_with (first | (go_at_call 94; (with_reducible refine (spec_l13Item.calls a1_0 a1_1 a1_2 _ _ l1_3 t863 t864 t865 t866 _ ?side1 ?side2 A31.out).mono ?_); (case side1 => exact jcs HR1_3.out); (case side2 => exact HC1_3.out); rintro e w36 ⟨v867, rfl, ho0, hb⟩; have n_ := jA4 (zea (pS HO_6.out) (zbe ho0) hb) (zbc ho0 (zak (bs1 GE827.out))) (jbb BK827.out hb) (zab (bs1 GE827.out) hb); clear HO_6 BK827 HB; obtain ⟨HO_6, HO868, BK827, HB⟩ := n_; clear hb ho0; obtain ⟨Ao38, co38, eo38⟩ := zbm HO868.out; subst eo38) | ((with_reducible refine zcc (b := .append) (xs := #[.tmp 46, .tmp 49]) rfl ?_); at_builtin; refine zex k34 (w0 := w) w.heap.size rfl (.tmp 46) (.tmp 49) 25 34 (.agg #[(.string ⟨#[]⟩), (.int .i64 0), (.int .i64 0), (.slice none 0 0)]) 56 rfl Try.underlying25 info34 rfl (by decide) (by omega) u6 x6_1 (⟨t863, t864, t865, t866⟩ : S34) [.string t863, .int .i64 t864, .int .i64 t865, .slice Ao38 t866.length co38] (fun k_ => k_ ≠ gb827) (fun k_ => some k_ = (.slice Ao38 t866.length co38 : Value).ownBlock) rfl rfl ?aP (fun k_ hk_ => ((zav (ok' := fun k_ => ((fun k_ => k_ ≠ gb827)) k_ ∧ some k_ ≠ (u6 : Value).ownBlock) (zcb (zds (HO868.out) (zec HO_6.out) (by decide)) BK827.out (by decide)) (fun k_ hk => ⟨hk.2, hk.1.2⟩))).1 k_ hk_.symm) ?aF ?aO ?aB ?aS ?aL ?_; (case aP => exact k34_mkM _ _ _ (⟨t863, t864, t865, t866⟩ : S34) (zav (zfe rfl (zav (ok' := fun k_ => ((fun k_ => k_ ≠ gb827)) k_ ∧ some k_ ≠ (u6 : Value).ownBlock) (zcb (zds (HO868.out) (zec HO_6.out) (by decide)) BK827.out (by decide)) (fun k_ hk => ⟨hk.2, hk.1.2⟩))) (fun _ h_ => h_))); (case aB => exact (bs1 GE827.out)); (case aF => exact (fun k_ hk => zey (pB BK827.out) k_ hk)); (case aO => exact (by (with_reducible repeat (first | apply zdk | apply zdl | apply zdr)); exact zcx HO_6.out (fun k_ hk => ⟨hk.1, fun e_ => hk.2 e_⟩))); (case aS => exact (zak (bs1 GE827.out))); (case aL => have := LMc32.out; omega); intro v870 w37 ho hb hg hat; rw [← Ny869.out] at ho; have n_ := jA3 (zei (pB BK827.out) hg (Kd.S_away HO_6.out (fun _ hk => hk.1))) (hb) (ho); clear BK827 HB HO_6 HO868; obtain ⟨BK827, HB, HO871⟩ := n_; clear ho hb hg hat; obtain ⟨Ao39, co39, eo39⟩ := Kd.S_slice HO871.out; subst eo39) | (go_at_call 42; (with_reducible refine (spec_QueueOk.calls k1 _ _ y869 true _ ?side1 ?side2 A33.out).mono ?_); (case side1 => repeat (first | exact (zdt HO871.out).2.2 | (with_reducible first | apply zcv | apply zdi | apply zdu))); (case side2 => exact (zdt HO871.out).2.1); rintro e w40 ⟨rfl, hb⟩; have n_ := jA3 (zdy (pS HO871.out) hb) (jbb BK827.out hb) (zab (bs1 GE827.out) hb); clear HO871 BK827 HB; obtain ⟨HO871, BK827, HB⟩ := n_; (try clear hb); (try clear hb2); (try clear hk); (try clear hi)))
      go_ret2
      exact ⟨_, jex, tqS HO871.out, (bs1 GE827.out)⟩
     ·replace c34 := zbn.mpr c34
      subst c34
      rw [if_neg (show ¬ (false = true) by decide)] at H
      obtain ⟨t873, A41, H⟩ := bnd H
      simp only [zbz, zcj] at H
      obtain ⟨rfl, rfl⟩ := H
      obtain ⟨hcz42_0, hcz42_1, hcz42_2, hcz42_3, hfz42_0, hfz42_1, hfz42_2, hfz42_3⟩ := cz4 BK827.out
      go_wp2_with (first | (go_at_call 94; (with_reducible refine (spec_l13Item.calls a1_0 a1_1 a1_2 _ _ l1_3 t863 t864 t865 t866 _ ?side1 ?side2 A31.out).mono ?_); (case side1 => exact jcs HR1_3.out); (case side2 => exact HC1_3.out); rintro e w43 ⟨v867, rfl, ho0, hb⟩; have n_ := jA4 (zea (pS HO_6.out) (zbe ho0) hb) (zbc ho0 (zak (bs1 GE827.out))) (jbb BK827.out hb) (zab (bs1 GE827.out) hb); clear HO_6 BK827 HB; obtain ⟨HO_6, HO868, BK827, HB⟩ := n_; clear hb ho0; obtain ⟨Ao45, co45, eo45⟩ := zbm HO868.out; subst eo45) | ((with_reducible refine zcc (b := .append) (xs := #[.tmp 46, .tmp 49]) rfl ?_); at_builtin; refine zex k34 (w0 := w) w.heap.size rfl (.tmp 46) (.tmp 49) 25 34 (.agg #[(.string ⟨#[]⟩), (.int .i64 0), (.int .i64 0), (.slice none 0 0)]) 56 rfl Try.underlying25 info34 rfl (by decide) (by omega) u6 x6_1 (⟨t863, t864, t865, t866⟩ : S34) [.string t863, .int .i64 t864, .int .i64 t865, .slice Ao45 t866.length co45] (fun k_ => k_ ≠ gb827) (fun k_ => some k_ = (.slice Ao45 t866.length co45 : Value).ownBlock) rfl rfl ?aP (fun k_ hk_ => ((zav (ok' := fun k_ => ((fun k_ => k_ ≠ gb827)) k_ ∧ some k_ ≠ (u6 : Value).ownBlock) (zcb (zds (HO868.out) (zec HO_6.out) (by decide)) BK827.out (by decide)) (fun k_ hk => ⟨hk.2, hk.1.2⟩))).1 k_ hk_.symm) ?aF ?aO ?aB ?aS ?aL ?_; (case aP => exact k34_mkM _ _ _ (⟨t863, t864, t865, t866⟩ : S34) (zav (zfe rfl (zav (ok' := fun k_ => ((fun k_ => k_ ≠ gb827)) k_ ∧ some k_ ≠ (u6 : Value).ownBlock) (zcb (zds (HO868.out) (zec HO_6.out) (by decide)) BK827.out (by decide)) (fun k_ hk => ⟨hk.2, hk.1.2⟩))) (fun _ h_ => h_))); (case aB => exact (bs1 GE827.out)); (case aF => exact (fun k_ hk => zey (pB BK827.out) k_ hk)); (case aO => exact (by (with_reducible repeat (first | apply zdk | apply zdl | apply zdr)); exact zcx HO_6.out (fun k_ hk => ⟨hk.1, fun e_ => hk.2 e_⟩))); (case aS => exact (zak (bs1 GE827.out))); (case aL => have := LMc32.out; omega); intro v870 w44 ho hb hg hat; rw [← Ny869.out] at ho; have n_ := jA3 (zei (pB BK827.out) hg (Kd.S_away HO_6.out (fun _ hk => hk.1))) (hb) (ho); clear BK827 HB HO_6 HO868; obtain ⟨BK827, HB, HO871⟩ := n_; clear ho hb hg hat; obtain ⟨Ao46, co46, eo46⟩ := Kd.S_slice HO871.out; subst eo46) | (go_at_call 42; (with_reducible refine (spec_QueueOk.calls k1 _ _ y869 false _ ?side1 ?side2 A33.out).mono ?_); (case side1 => repeat (first | exact (zdt HO871.out).2.2 | (with_reducible first | apply zcv | apply zdi | apply zdu))); (case side2 => exact (zdt HO871.out).2.1); rintro e w47 ⟨rfl, hb⟩; have n_ := jA3 (zdy (pS HO871.out) hb) (jbb BK827.out hb) (zab (bs1 GE827.out) hb); clear HO871 BK827 HB; obtain ⟨HO871, BK827, HB⟩ := n_; (try clear hb); (try clear hb2); (try clear hk); (try clear hi)) | (go_at_call 101; (with_reducible refine (spec_l13Queue.calls k1 _ _ l0 t873 _ ?side1 ?side2 A41.out).mono ?_); (case side1 => exact jcs HR0.out); (case side2 => exact HC0.out); rintro e w48 ⟨v874, rfl, ho0, hb⟩; have n_ := jA4 (zea (pS HO871.out) (Kd.S_base ho0) hb) (zeg (Kd.S_newB (Kd.S_new' ho0 (Kd.S_lt (pS HO871.out))) (pB BK827.out)) (zak (bs1 GE827.out))) (jbb BK827.out hb) (zab (bs1 GE827.out) hb); clear HO871 BK827 HB; obtain ⟨HO871, HO875, BK827, HB⟩ := n_; clear hb ho0))
      go_ret2
      exact ⟨_, jex, tqS HO875.out, (bs1 GE827.out)⟩
    ·rw [if_neg c32] at H
     exact absurd H (by simp)
def spec_l14Play.f (k : Nat) (l0 : List (S34)) (a1 : Int) (a2_0 : Int) (a2_1 : ByteArray) (a2_2 : Int) (a2_3 : Int) (l2_4 : List Int) : Option ((List (S34)) × Int) := if a2_0 = 1 then ((spec_l14Item.f a2_0 a2_1 a2_2 a2_3 l2_4).bind fun bt1082 => ((spec_Put.f k l0 bt1082.1 bt1082.2.1 bt1082.2.2.1 bt1082.2.2.2).bind fun bt1088 => (some (bt1088.1, a1)))) else (if a2_0 = 2 then ((spec_Take.f k l0 a2_1).bind fun bt1092 => (some (bt1092.2.2.2.2.1, a1))) else (if a2_0 = 3 then (if a2_3 ≥ a1 then ((spec_Due.f k l0 a2_3).bind fun t1102 => (some (t1102, a2_3))) else (some (l0, a1))) else (some (l0, a1))))
theorem spec_l14Play.mono : ∀ a0 a1 a2 a3 a4 a5 a6 k, LeO (spec_l14Play.f k a0 a1 a2 a3 a4 a5 a6) (spec_l14Play.f (k + 1) a0 a1 a2 a3 a4 a5 a6) := by
 intro a0 a1 a2 a3 a4 a5 a6 k
 unfold spec_l14Play.f
 have m0 := @spec_Due.mono
 have m1 := @spec_Put.mono
 have m2 := @spec_Take.mono
 exact mt
def spec_l14Play.T8 : Bool × List (List Nat × List Nat) := (true, [([], []), ([], []), ([1], [1]), ([0, 2], [0, 2]), ([], []), ([4], [4]), ([3, 3, 0, 1, 2, 3], [3]), ([5, 6, 0, 1, 2, 3, 4, 5, 6], [5])])
def spec_l14Play.B8 : List Nat := [0, 0, 2, 7, 0, 16, 15, 127]
theorem spec_l14Play.tab8 : rtab .any (opsOf Try.f123 8) = spec_l14Play.T8 := by kernel_rfl
theorem spec_l14Play.bits8 : waitsOk spec_l14Play.T8.2 spec_l14Play.B8 = true := by kernel_rfl
theorem spec_l14Play.calls (k : Nat) (P0_ : Nat → Prop) (A0 : Option Addr) (c0 : Nat) (l0 : List (S34)) (a1 : Int) (a2_0 : Int) (a2_1 : ByteArray) (a2_2 : Int) (a2_3 : Int) (A2_4 : Option Addr) (c2_4 : Nat) (l2_4 : List Int) (r1 : List (S34)) (r2 : Int) (w : World) (hs0 : Kd.V k34 34 w w.heap.size (fun k_ => P0_ k_) (.slice A0 l0.length c0) l0) (hr2_4 : Kd.C (Kd.int .u8) w A2_4 l2_4.length l2_4) (hc2_4 : l2_4.length ≤ c2_4) (h : spec_l14Play.f k l0 a1 a2_0 a2_1 a2_2 a2_3 l2_4 = some (r1, r2)) :
  Calls Try.prog 123 #[.slice A0 l0.length c0, .int .i64 a1, .agg #[.int .i64 a2_0, .string a2_1, .int .i64 a2_2, .int .i64 a2_3, .slice A2_4 l2_4.length c2_4]] w fun e w' => ∃ v0_ : Value, e = .returned (.tuple #[v0_, .int .i64 r2]) ∧ Kd.V k34 34 w' w.heap.size (fun k_ => (P0_ k_ ∨ w.heap.size ≤ k_)) v0_ r1 ∧ Below w.heap.size w w' := by
 have hu48 := Try.underlying48
 have HO0 := Aside0.mk (show Kd.V k34 34 w w.heap.size (fun k_ => (P0_ k_ ∨ w.heap.size ≤ k_)) (.slice A0 l0.length c0) l0 from zfm hs0 (fun k_ hk => .inl hk))
 have HR2_4 := Aside0.mk hr2_4
 have HC2_4 := Aside0.mk hc2_4
 clear hr2_4 hc2_4
 have HB := Aside0.mk (zbk w.heap.size w)
 have H : (if a2_0 = 1 then ((spec_l14Item.f a2_0 a2_1 a2_2 a2_3 l2_4).bind fun bt1082 => ((spec_Put.f k l0 bt1082.1 bt1082.2.1 bt1082.2.2.1 bt1082.2.2.2).bind fun bt1088 => (some (bt1088.1, a1)))) else (if a2_0 = 2 then ((spec_Take.f k l0 a2_1).bind fun bt1092 => (some (bt1092.2.2.2.2.1, a1))) else (if a2_0 = 3 then (if a2_3 ≥ a1 then ((spec_Due.f k l0 a2_3).bind fun t1102 => (some (t1102, a2_3))) else (some (l0, a1))) else (some (l0, a1))))) = some (r1, r2) := h
 clear h
 by_cases c4 : a2_0 = 1
 ·rw [if_pos c4] at H
  have c4b0 := beqT c4
  have c4b1 := zau.mpr c4
  clear c4
  obtain ⟨⟨t1082, t1083, t1084, t1085⟩, A5, H⟩ := bnd H
  try dsimp only at H
  obtain ⟨⟨t1088, t1091⟩, A6, H⟩ := bnd H
  try dsimp only at H
  simp only [zbz, zcj] at H
  obtain ⟨rfl, rfl⟩ := H
  go_enter Try.func123, Try.ntmps123
  go_wp2_with (first | (refine jgd 5 ?_; refine bx 5 (#[.int .i64 a2_0, .string a2_1, .int .i64 a2_2, .int .i64 a2_3, .slice A2_4 l2_4.length c2_4]) 48 ?_; intro gb1081 hg w7 hbox hb; have xb_ := below_ofs bq hb; have n_ := jA5 (zgi (Kd.V_elderB (pV HO0.out) gb1081 (zej hg.symm)) hb) (zab xb_ hb) (hbox) (ge0 hg xb_ : w.heap.size ≤ gb1081) (ge0 hg xb_ : w.heap.size ≤ gb1081); clear HO0 HB; obtain ⟨HO0, HB, BK1081, GW1081, GE1081⟩ := n_; clear xb_ hb hbox hg; obtain ⟨hcz8_0, hcz8_1, hcz8_2, hcz8_3, hcz8_4, hfz8_0, hfz8_1, hfz8_2, hfz8_3, hfz8_4⟩ := cz5 BK1081.out) | (refine jgc 92 ?_; refine jgs 15 Try.func92 #[.agg #[.int .i64 a2_0, .string a2_1, .int .i64 a2_2, .int .i64 a2_3, .slice A2_4 l2_4.length c2_4]] ?_; (with_reducible refine (spec_l14Item.calls a2_0 a2_1 a2_2 a2_3 _ _ l2_4 t1082 t1083 t1084 t1085 _ ?side1 ?side2 A5.out).mono ?_); (case side1 => exact jcs HR2_4.out); (case side2 => exact HC2_4.out); rintro e w9 ⟨v1086, rfl, ho0, hb⟩; refine ⟨_, rfl, ?_⟩; have n_ := jA4 (zfo (pV HO0.out) (zbe ho0) hb) (zbc (Kd.R_newM (M := fun k_ => (w.heap.size ≤ k_)) ho0 (zak (bs1 GE1081.out)) (fun k_ h_ => h_)) (zak (bs1 GE1081.out))) (jbb BK1081.out hb) (zab (bs1 GE1081.out) hb); clear HO0 BK1081 HB; obtain ⟨HO0, HO1087, BK1081, HB⟩ := n_; clear hb ho0; obtain ⟨Ao10, co10, eo10⟩ := zbm HO1087.out; subst eo10) | (refine jgc 61 ?_; refine jgs 16 Try.func61 #[.slice A0 l0.length c0, .agg #[.string t1082, .int .i64 t1083, .int .i64 t1084, .slice Ao10 t1085.length co10]] ?_; (with_reducible refine (spec_Put.calls k _ _ l0 t1082 t1083 t1084 _ _ t1085 t1088 t1091 _ ?side1 ?side2 ?side3 ?side4 A6.out).mono ?_); (case side1 => repeat (first | exact (zfy HO0.out).2.2 | (with_reducible first | apply zcv | apply zdi | apply zdu))); (case side2 => exact (zfy HO0.out).2.1); (case side3 => repeat (first | exact (zbq HO1087.out).2.2 | (with_reducible first | apply zcv | apply zdi | apply zdu))); (case side4 => exact (zbq HO1087.out).2.1); rintro e w11 ⟨v1089, rfl, ho0, hb⟩; refine ⟨_, rfl, ?_⟩; have n_ := jA5 (zfo (pV HO0.out) (by first | exact Kd.N_base ho0 | exact Kd.S_base ho0) hb) (zdj (pR HO1087.out) hb) (Kd.N_lower (zgh (ok' := fun k_ => (P0_ k_ ∨ w.heap.size ≤ k_) ∧ some k_ ≠ (.slice Ao10 t1085.length co10 : Value).ownBlock ∧ k_ ≠ gb1081) (Kd.S_N (zfv ho0)) (fun k_ hk_ => ⟨(.inr (zeb (zak (bs1 GE1081.out)) hk_.2.1)), (zdn (zcd (pR HO1087.out)) k_ hk_.2.1), (zey (pB BK1081.out) k_ hk_.2.1)⟩)) (zak (bs1 GE1081.out))) (jbb BK1081.out hb) (zab (bs1 GE1081.out) hb); clear HO0 HO1087 BK1081 HB; obtain ⟨HO0, HO1087, HO1090, BK1081, HB⟩ := n_; clear hb ho0))
  go_ret2
  exact ⟨_, jex, Kd.N_V (by (with_reducible repeat (first | apply Kd.N_alloc | apply Kd.N_drewN | apply Kd.N_drew)); exact zgh HO1090.out (fun _ hk => hk.1)), (bs1 GE1081.out)⟩
 ·rw [if_neg c4] at H
  have c4b0 := zao.mpr c4
  have c4b1 := zcs.mpr c4
  by_cases c12 : a2_0 = 2
  ·rw [if_pos c12] at H
   have c12b0 := beqT c12
   have c12b1 := zau.mpr c12
   clear c12
   obtain ⟨⟨t1092, t1093, t1094, t1095, t1098, t1101⟩, A13, H⟩ := bnd H
   try dsimp only at H
   simp only [zbz, zcj] at H
   obtain ⟨rfl, rfl⟩ := H
   go_enter Try.func123, Try.ntmps123
   go_wp2_with (first | (refine jgd 5 ?_; refine bx 5 (#[.int .i64 a2_0, .string a2_1, .int .i64 a2_2, .int .i64 a2_3, .slice A2_4 l2_4.length c2_4]) 48 ?_; intro gb1081 hg w14 hbox hb; have xb_ := below_ofs bq hb; have n_ := jA5 (zgi (Kd.V_elderB (pV HO0.out) gb1081 (zej hg.symm)) hb) (zab xb_ hb) (hbox) (ge0 hg xb_ : w.heap.size ≤ gb1081) (ge0 hg xb_ : w.heap.size ≤ gb1081); clear HO0 HB; obtain ⟨HO0, HB, BK1081, GW1081, GE1081⟩ := n_; clear xb_ hb hbox hg; obtain ⟨hcz15_0, hcz15_1, hcz15_2, hcz15_3, hcz15_4, hfz15_0, hfz15_1, hfz15_2, hfz15_3, hfz15_4⟩ := cz5 BK1081.out) | (refine jgc 44 ?_; refine jgs 25 Try.func44 #[.slice A0 l0.length c0, .string a2_1] ?_; (with_reducible refine (spec_Take.calls k _ _ l0 a2_1 t1092 t1093 t1094 t1095 t1098 t1101 _ ?side1 ?side2 A13.out).mono ?_); (case side1 => repeat (first | exact (zfy HO0.out).2.2 | (with_reducible first | apply zcv | apply zdi | apply zdu))); (case side2 => exact (zfy HO0.out).2.1); rintro e w16 ⟨v1096, v1099, rfl, ho0, ho1, hb⟩; refine ⟨_, rfl, ?_⟩; have n_ := jA5 (zfm (Kd.V_told (Kd.V_told (Kd.V_old (pV HO0.out) hb) (zbe ho0)) (by first | exact Kd.N_base ho1 | exact Kd.S_base ho1)) (fun _ h_ => h_.1)) (zbc (Kd.R_newM (M := fun k_ => (w.heap.size ≤ k_)) (zav (ok' := fun k_ => True) ho0 (fun _ hk_ => trivial)) (zak (bs1 GE1081.out)) (fun k_ h_ => h_)) (zak (bs1 GE1081.out))) (Kd.N_lower (zgh (ok' := fun k_ => (P0_ k_ ∨ w.heap.size ≤ k_) ∧ some k_ ≠ (v1096 : Value).ownBlock ∧ k_ ≠ gb1081) ho1 (fun k_ hk_ => ⟨(.inr (zeb (zak (bs1 GE1081.out)) hk_.1)), hk_.2, (zey (pB BK1081.out) k_ hk_.1)⟩)) (zak (bs1 GE1081.out))) (jbb BK1081.out hb) (zab (bs1 GE1081.out) hb); clear HO0 BK1081 HB; obtain ⟨HO0, HO1097, HO1100, BK1081, HB⟩ := n_; clear hb ho0; (try clear ho1)))
   go_ret2
   exact ⟨_, jex, Kd.N_V (by (with_reducible repeat (first | apply Kd.N_alloc | apply Kd.N_drewN | apply Kd.N_drew)); exact zgh HO1100.out (fun _ hk => hk.1)), (bs1 GE1081.out)⟩
  ·rw [if_neg c12] at H
   have c12b0 := zao.mpr c12
   have c12b1 := zcs.mpr c12
   by_cases c17 : a2_0 = 3
   ·rw [if_pos c17] at H
    have c17b0 := beqT c17
    have c17b1 := zau.mpr c17
    clear c17
    by_cases c18 : a2_3 ≥ a1
    ·rw [if_pos c18] at H
     have c18b0 := zae c18
     clear c18
     obtain ⟨t1102, A19, H⟩ := bnd H
     simp only [zbz, zcj] at H
     obtain ⟨rfl, rfl⟩ := H
     go_enter Try.func123, Try.ntmps123
     try go_wp2_with (first | (refine jgd 5 ?_; refine bx 5 (#[.int .i64 a2_0, .string a2_1, .int .i64 a2_2, .int .i64 a2_3, .slice A2_4 l2_4.length c2_4]) 48 ?_; intro gb1081 hg w20 hbox hb; have n_ := jA5 (zgi (Kd.V_elderB (pV HO0.out) gb1081 (zej hg.symm)) hb) (zab bq hb) (hbox) (ge0 hg bq : w.heap.size ≤ gb1081) (ge0 hg bq : w.heap.size ≤ gb1081); clear HO0 HB; obtain ⟨HO0, HB, BK1081, GW1081, GE1081⟩ := n_; clear hb hbox hg; obtain ⟨hcz21_0, hcz21_1, hcz21_2, hcz21_3, hcz21_4, hfz21_0, hfz21_1, hfz21_2, hfz21_3, hfz21_4⟩ := cz5 BK1081.out))
     have n_ := jA3 (Kd.V_drew HO0.out) (zbl BK1081.out) (zev HB.out)
     clear HO0 BK1081 HB
     obtain ⟨HO0, BK1081, HB⟩ := n_
     refine start_ (n := 8) (S := fun w' => w'.cell? ⟨gb1081, 0, none⟩ = some (.int .i64 a2_0) ∧ w'.cell? ⟨gb1081, 1, none⟩ = some (.string a2_1) ∧ w'.cell? ⟨gb1081, 2, none⟩ = some (.int .i64 a2_2) ∧ w'.cell? ⟨gb1081, 3, none⟩ = some (.int .i64 a2_3) ∧ w'.cell? ⟨gb1081, 4, none⟩ = some (.slice A2_4 l2_4.length c2_4)) (ds := []) #[false, false, false, false, false, false, false, false] (by kernel_rfl) rfl rfl ⟨(zbf BK1081.out 0).trans rfl, (zbf BK1081.out 1).trans rfl, (zbf BK1081.out 2).trans rfl, (zbf BK1081.out 3).trans rfl, (zbf BK1081.out 4).trans rfl⟩ (fun hHeld => ?_); refine zgf spec_l14Play.tab8 spec_l14Play.bits8 (fun HT_ HW_ => ?_)
     generalize w20.drew = w22 at HO0 BK1081 HB hHeld ⊢
     refine pu 0 35 HT_.out ?_
     refine pu 1 36 HT_.out ?_
     refine pu 4 39 HT_.out ?_
     refine tk 2 37 HT_.out HW_.out hHeld ?_
     refine tk 5 40 HT_.out HW_.out hHeld ?_
     refine one_ (i := 3) (N := some 38) #[true, true, true, true, true, true, false, false] rfl rfl (one_of HT_.out (by kernel_rfl)) (by decide) (fun K hK => ?_)
     refine goes_ Try.func38 (by kernel_rfl) rfl #[.slice A0 l0.length c0, .int .i64 a2_3] (by rfl) rfl rfl jhl ?_
     with_reducible refine (spec_Due.calls k _ _ l0 a2_3 t1102 _ ?side1 ?side2 A19.out).mono ?_
     (case side1 => repeat (first | exact (zfy HO0.out).2.2 | (with_reducible refine zcv ?_ _) | (with_reducible refine zdi ?_ _) | (with_reducible refine zdu ?_)))
     (case side2 => exact (zfy HO0.out).2.1)
     rintro e w23 ⟨v1103, rfl, ho0, hb⟩
     refine ⟨_, rfl, ?_⟩
     have n_ := jA4 (zfo (pV HO0.out) (by first | exact Kd.N_base ho0 | exact Kd.S_base ho0) hb) (Kd.N_lower (zgh (ok' := fun k_ => (P0_ k_ ∨ w.heap.size ≤ k_) ∧ k_ ≠ gb1081) (Kd.S_N (zfv ho0)) (fun k_ hk_ => ⟨(.inr (zeb (zak (bs1 GE1081.out)) hk_.2.1)), (zey (pB BK1081.out) k_ hk_.2.1)⟩)) (zak (bs1 GE1081.out))) (jbb BK1081.out hb) (zab (bs1 GE1081.out) hb)
     clear HO0 BK1081 HB
     obtain ⟨HO0, HO1104, BK1081, HB⟩ := n_
     (try clear hb)
     (try clear hb2)
     (try clear hk)
     (try clear hi)
     (try clear ho0)
     refine hK.out _ _ ⟨(zbf BK1081.out 0).trans rfl, (zbf BK1081.out 1).trans rfl, (zbf BK1081.out 2).trans rfl, (zbf BK1081.out 3).trans rfl, (zbf BK1081.out 4).trans rfl⟩ (fun hHeld => ?_)
     clear hK K
     refine norm_ (a' := ?_) ?_ ?_
     rotate_left
     ·show Act.put _ (some 38) _ = _
      simp only [Act.put, zal, zaw, zax, i64_w, i32_w]
      rfl
     refine pu 6 6 HT_.out ?_
     refine pu 7 7 HT_.out ?_
     refine done_ (done_of HT_.out (by kernel_rfl)) ?_
     try go_wp2
     go_ret2
     exact ⟨_, jex, Kd.N_V (by (with_reducible repeat (first | apply Kd.N_alloc | apply Kd.N_drewN | apply Kd.N_drew)); exact zgh HO1104.out (fun _ hk => hk.1)), (bs1 GE1081.out)⟩
    ·rw [if_neg c18] at H
     have c18b0 := zas c18
     clear c18
     simp only [zbz, zcj] at H
     obtain ⟨rfl, rfl⟩ := H
     go_enter Try.func123, Try.ntmps123
     go_wp2_with (first | (refine jgd 5 ?_; refine bx 5 (#[.int .i64 a2_0, .string a2_1, .int .i64 a2_2, .int .i64 a2_3, .slice A2_4 l2_4.length c2_4]) 48 ?_; intro gb1081 hg w24 hbox hb; have xb_ := below_ofs bq hb; have n_ := jA5 (zgi (Kd.V_elderB (pV HO0.out) gb1081 (zej hg.symm)) hb) (zab xb_ hb) (hbox) (ge0 hg xb_ : w.heap.size ≤ gb1081) (ge0 hg xb_ : w.heap.size ≤ gb1081); clear HO0 HB; obtain ⟨HO0, HB, BK1081, GW1081, GE1081⟩ := n_; clear xb_ hb hbox hg; obtain ⟨hcz25_0, hcz25_1, hcz25_2, hcz25_3, hcz25_4, hfz25_0, hfz25_1, hfz25_2, hfz25_3, hfz25_4⟩ := cz5 BK1081.out))
     go_ret2
     exact ⟨_, jex, by (with_reducible repeat (first | apply Kd.V_alloc | apply Kd.V_drewN | apply Kd.V_drew)); exact zfm HO0.out (fun _ hk => hk.1), (bs1 GE1081.out)⟩
   ·rw [if_neg c17] at H
    have c17b0 := zao.mpr c17
    have c17b1 := zcs.mpr c17
    simp only [zbz, zcj] at H
    obtain ⟨rfl, rfl⟩ := H
    go_enter Try.func123, Try.ntmps123
    go_wp2_with (first | (refine jgd 5 ?_; refine bx 5 (#[.int .i64 a2_0, .string a2_1, .int .i64 a2_2, .int .i64 a2_3, .slice A2_4 l2_4.length c2_4]) 48 ?_; intro gb1081 hg w26 hbox hb; have xb_ := below_ofs bq hb; have n_ := jA5 (zgi (Kd.V_elderB (pV HO0.out) gb1081 (zej hg.symm)) hb) (zab xb_ hb) (hbox) (ge0 hg xb_ : w.heap.size ≤ gb1081) (ge0 hg xb_ : w.heap.size ≤ gb1081); clear HO0 HB; obtain ⟨HO0, HB, BK1081, GW1081, GE1081⟩ := n_; clear xb_ hb hbox hg; obtain ⟨hcz27_0, hcz27_1, hcz27_2, hcz27_3, hcz27_4, hfz27_0, hfz27_1, hfz27_2, hfz27_3, hfz27_4⟩ := cz5 BK1081.out))
    go_ret2
    exact ⟨_, jex, by (with_reducible repeat (first | apply Kd.V_alloc | apply Kd.V_drewN | apply Kd.V_drew)); exact zfm HO0.out (fun _ hk => hk.1), (bs1 GE1081.out)⟩
def spec_Play.l0 : Nat → List Int → List (S34) → Int → Int → Option ((List (S34)) × Int × Int)
 | 0, _, _, _, _ => none
 | k + 1, x0, x5, x6, x7 => (spec_LineOf.f k x0 x7).bind fun bt1108 => (if bt1108.2.2.2.2.2.2 = true then ((spec_l14Play.f k x5 x6 bt1108.1 bt1108.2.1 bt1108.2.2.1 bt1108.2.2.2.1 bt1108.2.2.2.2.1).bind fun bt1118 => (spec_Play.l0 k x0 bt1118.1 bt1118.2 bt1108.2.2.2.2.2.1)) else (some (x5, x6, x7)))
def spec_Play.f (k : Nat) (l0 : List Int) : Option ((List (S34)) × Int × Int) := spec_Play.l0 k l0 (([] : List (S34))) 0 0
theorem spec_Play.mono_l : ∀ k, (∀ y0 y1 y2 y3, LeO (spec_Play.l0 k y0 y1 y2 y3) (spec_Play.l0 (k + 1) y0 y1 y2 y3))
 | 0 => fun _ _ _ _ r h => by simp [spec_Play.l0] at h
 | k + 1 => by
  have ih0 := spec_Play.mono_l k
  ·intro y0 y1 y2 y3
   unfold spec_Play.l0
   have m0 := @spec_LineOf.mono
   have m1 := @spec_l14Play.mono
   exact mt
theorem spec_Play.mono : ∀ a0 k, LeO (spec_Play.f k a0) (spec_Play.f (k + 1) a0) := by
 intro a0 k
 have ih0 := spec_Play.mono_l k
 unfold spec_Play.f
 have m0 := @spec_LineOf.mono
 have m1 := @spec_l14Play.mono
 exact mt
theorem spec_Play.calls (k : Nat) (A0 : Option Addr) (c0 : Nat) (l0 : List Int) (r1 : List (S34)) (r2 : Int) (r3 : Int) (w : World) (hr0 : Kd.C (Kd.int .u8) w A0 l0.length l0) (hc0 : l0.length ≤ c0) (h : spec_Play.f k l0 = some (r1, r2, r3)) :
  Calls Try.prog 69 #[.slice A0 l0.length c0] w fun e w' => ∃ v0_ : Value, e = .returned (.tuple #[v0_, .int .i64 r2, .int .i64 r3]) ∧ Kd.V k34 34 w' w.heap.size (fun k_ => (w.heap.size ≤ k_)) v0_ r1 ∧ Below w.heap.size w w' := by
 have hu48 := Try.underlying48
 have HR0 := Aside0.mk hr0
 have HC0 := Aside0.mk hc0
 clear hr0 hc0
 have HB := Aside0.mk (zbk w.heap.size w)
 have H : (spec_Play.l0 k l0 (([] : List (S34))) 0 0) = some (r1, r2, r3) := h
 clear h
 obtain ⟨y1105, hy1105⟩ : ∃ y_ : List (S34), y_ = (([] : List (S34))) := ⟨_, rfl⟩
 replace H : (spec_Play.l0 k l0 y1105 0 0) = some (r1, r2, r3) := jrw hy1105 H
 have Ny1105 := Aside0.mk hy1105
 clear hy1105
 have H' := Aside0.mk H
 clear H
 go_enter Try.func69, Try.ntmps69
 go_wp2_with (first | (refine jgd 11 ?_; refine Kd.S_lit k34 _ 34 ?hg (N := 11) ?hd (xs := ([] : List (S34))) (inner := []) (ok := fun _ => True) (okp := fun _ => True) ?hr ?hp (fun _ hk => hk) trivial (zbk _ _) (zaf _) (by simp) ?_; (case hd => rfl); (case hg => rfl); (case hr => first | (go_simp; done) | (go_simp; rfl)); (case hp => exact (Reps.none _ _)); intro v1106 w2 ho3 hb hg_ hnew_; have xb_ := below_ofs bq hb; clear hg_ hnew_; (first | rw [← Ny1105.out] at ho3 | (simp only [Int.reduceToNat] at ho3; rw [← Ny1105.out] at ho3)); have n_ := jA2 (zeg (Kd.S_newM (M := fun k_ => (w.heap.size ≤ k_)) ho3 (zak xb_) (fun k_ h_ => h_)) (zak xb_)) (zab xb_ hb); clear HB; obtain ⟨HO1107, HB⟩ := n_; clear xb_ hb ho3))
 go_loopg [5, 6, 7] k (fun kq v5 v6 v7 w' => ∃ (x5_1 : List (S34)) (x6_1 : Int) (x7_1 : Int), v6 = .int .i64 x6_1 ∧ v7 = .int .i64 x7_1 ∧ Aside0 (spec_Play.l0 kq l0 x5_1 x6_1 x7_1 = some (r1, r2, r3)) ∧ Aside0 (kq ≤ k) ∧ Aside0 (Kd.V k34 34 w' w.heap.size (fun k_ => (w.heap.size ≤ k_)) v5 x5_1) ∧ Aside0 (Below w.heap.size w w'))
 case atStart => exact ⟨(y1105), (0), (0), jer, jer, H', ⟨zaf _⟩, ⟨Kd.S_V (by (with_reducible repeat (first | apply zdk | apply zdl | apply zdr)); exact zcx HO1107.out (fun _ hk => hk.1))⟩, ⟨bq⟩⟩
 case round =>
  clear H'
  try clear p2
  obtain ⟨x5_1, x6_1, x7_1, rfl, rfl, HA, HK1, HO_5, HB⟩ := hrel
  cases gk with
  | zero => exact absurd HA.out (by simp [spec_Play.l0])
  | succ k1 =>
   have H := HA.out
   clear HA
   simp only [spec_Play.l0] at H
   obtain ⟨⟨t1108, t1109, t1110, t1111, t1112, t1115, t1116⟩, A4, H⟩ := bnd H
   try dsimp only at H
   by_cases c5 : t1116 = true
   ·subst c5
    rw [if_pos rfl] at H
    obtain ⟨⟨t1118, t1121⟩, A6, H⟩ := bnd H
    try dsimp only at H
    have H' := Aside0.mk H
    clear H
    go_wp2_with (first | (refine jgc 54 ?_; refine jgs 15 Try.func54 #[.slice A0 l0.length c0, .int .i64 x7_1] ?_; (with_reducible refine (spec_LineOf.calls k1 _ _ l0 x7_1 t1108 t1109 t1110 t1111 t1112 t1115 true _ ?side1 ?side2 A4.out).mono ?_); (case side1 => exact jcs HR0.out); (case side2 => exact HC0.out); rintro e w7 ⟨v1113, rfl, ho0, hb⟩; refine ⟨_, rfl, ?_⟩; have xb_ := below_ofs bq hb; have n_ := jA3 (zfo (pV HO_5.out) (zbe ho0) hb) (zbc (Kd.R_newM (M := fun k_ => (w.heap.size ≤ k_)) ho0 (zak xb_) (fun k_ h_ => h_)) (zak xb_)) (zab xb_ hb); clear HO_5 HB; obtain ⟨HO_5, HO1114, HB⟩ := n_; clear xb_ hb ho0) | (refine jgd 8 ?_; refine bx 8 (#[.int .i64 0, .string (⟨#[]⟩ : ByteArray), .int .i64 0, .int .i64 0, .slice none 0 0]) 48 ?_; intro gb1117 hg w8 hbox hb; have xb_ := below_ofs bq hb; have n_ := jA6 (zgi (Kd.V_elderB (pV HO_5.out) gb1117 (zej hg.symm)) hb) (zdj (pR HO1114.out) hb) (zab xb_ hb) (hbox) (ge0 hg xb_ : w.heap.size ≤ gb1117) (ge0 hg xb_ : w.heap.size ≤ gb1117); clear HO_5 HO1114 HB; obtain ⟨HO_5, HO1114, HB, BK1117, GW1117, GE1117⟩ := n_; clear xb_ hb hbox hg; obtain ⟨hcz9_0, hcz9_1, hcz9_2, hcz9_3, hcz9_4, hfz9_0, hfz9_1, hfz9_2, hfz9_3, hfz9_4⟩ := cz5 BK1117.out; obtain ⟨Ao10, co10, eo10⟩ := zbm HO1114.out; subst eo10) | ((with_reducible refine zdp (t := 48) (p := 8) rfl ?_); refine store_event (t := 48) (p := 8) (v := ?vo_w11) (w1 := (((((w8.setCell ⟨gb1117, 0, none⟩ (.int .i64 t1108)).setCell ⟨gb1117, 1, none⟩ (.string t1109)).setCell ⟨gb1117, 2, none⟩ (.int .i64 t1110)).setCell ⟨gb1117, 3, none⟩ (.int .i64 t1111)).setCell ⟨gb1117, 4, none⟩ (.slice Ao10 t1112.length co10))) ?hg ?ho ?hn ?hr ?_; (case ho => rfl); (case hg => rfl); (case hn => rfl); (case hr => first | (go_simp; done) | (go_simp; rfl)); intro w11 hw; have n0_ : Aside0 (Kd.V k34 34 w11 w.heap.size (fun k_ => (w.heap.size ≤ k_) ∧ some k_ ≠ (.slice Ao10 t1112.length co10 : Value).ownBlock ∧ k_ ≠ gb1117) u5 x5_1) := ⟨(by rw [hw]; exact (by (with_reducible repeat (first | apply Kd.V_alloc | apply Kd.V_drewN | apply Kd.V_drew)); exact zfm (Kd.V_far (p := ⟨gb1117, 4, none⟩) (Kd.V_far (p := ⟨gb1117, 3, none⟩) (Kd.V_far (p := ⟨gb1117, 2, none⟩) (Kd.V_far (p := ⟨gb1117, 1, none⟩) (Kd.V_far (p := ⟨gb1117, 0, none⟩) (zfm HO_5.out (fun k_ hk => (⟨hk, hk.2⟩ : _ ∧ k_ ≠ gb1117))) (fun _ hk => hk.2) (.int .i64 t1108)) (fun _ hk => hk.2) (.string t1109)) (fun _ hk => hk.2) (.int .i64 t1110)) (fun _ hk => hk.2) (.int .i64 t1111)) (fun _ hk => hk.2) (.slice Ao10 t1112.length co10)) (fun _ hk => ⟨hk.1.1.1, ⟨hk.1.1.2, hk.1.2⟩⟩)))⟩; have n1_ : Aside0 (Kd.R (Kd.int .u8) 5 w11 w.heap.size (fun k_ => (w.heap.size ≤ k_)) (.slice Ao10 t1112.length co10) t1112) := ⟨(by rw [hw]; exact (by (with_reducible repeat (first | apply zbo | apply zbp | apply zbs)); exact zav (zbt (p := ⟨gb1117, 4, none⟩) (zbt (p := ⟨gb1117, 3, none⟩) (zbt (p := ⟨gb1117, 2, none⟩) (zbt (p := ⟨gb1117, 1, none⟩) (zbt (p := ⟨gb1117, 0, none⟩) (zcb HO1114.out BK1117.out (by decide)) (fun _ hk => hk.2) (.int .i64 t1108)) (fun _ hk => hk.2) (.string t1109)) (fun _ hk => hk.2) (.int .i64 t1110)) (fun _ hk => hk.2) (.int .i64 t1111)) (fun _ hk => hk.2) (.slice Ao10 t1112.length co10)) (fun _ hk => hk.1.1)))⟩; have n2_ : Aside0 (w11.heap[gb1117]? = some (.cells #[.int .i64 t1108, .string t1109, .int .i64 t1110, .int .i64 t1111, .slice Ao10 t1112.length co10] 48 (0, 0))) := ⟨(by rw [hw]; exact (by (with_reducible repeat (first | refine zbg ?_ _ | refine zbl ?_ | refine zbh ?_ _)); refine zdh (cs := #[.int .i64 t1108, .string t1109, .int .i64 t1110, .int .i64 t1111, .slice none 0 0]) ?_ 4 _ rfl; (with_reducible repeat (first | refine zbg ?_ _ | refine zbl ?_ | refine zbh ?_ _)); refine zdh (cs := #[.int .i64 t1108, .string t1109, .int .i64 t1110, .int .i64 0, .slice none 0 0]) ?_ 3 _ rfl; (with_reducible repeat (first | refine zbg ?_ _ | refine zbl ?_ | refine zbh ?_ _)); refine zdh (cs := #[.int .i64 t1108, .string t1109, .int .i64 0, .int .i64 0, .slice none 0 0]) ?_ 2 _ rfl; (with_reducible repeat (first | refine zbg ?_ _ | refine zbl ?_ | refine zbh ?_ _)); refine zdh (cs := #[.int .i64 t1108, .string (⟨#[]⟩ : ByteArray), .int .i64 0, .int .i64 0, .slice none 0 0]) ?_ 1 _ rfl; (with_reducible repeat (first | refine zbg ?_ _ | refine zbl ?_ | refine zbh ?_ _)); refine zdh (cs := #[.int .i64 0, .string (⟨#[]⟩ : ByteArray), .int .i64 0, .int .i64 0, .slice none 0 0]) ?_ 0 _ rfl; (with_reducible repeat (first | refine zbg ?_ _ | refine zbl ?_ | refine zbh ?_ _)); exact BK1117.out))⟩; have n3_ : Aside0 (Below w.heap.size w w11) := ⟨(by rw [hw]; exact (bs1 GE1117.out))⟩; clear hw HO_5 HO1114 BK1117 HB; have HO_5 := n0_; have HO1114 := n1_; have BK1117 := n2_; have HB := n3_; clear n0_ n1_ n2_ n3_; obtain ⟨hcz12_0, hcz12_1, hcz12_2, hcz12_3, hcz12_4, hfz12_0, hfz12_1, hfz12_2, hfz12_3, hfz12_4⟩ := cz5 BK1117.out; obtain ⟨Ao13, co13, eo13⟩ := Kd.V_slice HO_5.out; subst eo13) | (refine jgc 123 ?_; refine jgs 28 Try.func123 #[.slice Ao13 x5_1.length co13, .int .i64 x6_1, .agg #[.int .i64 t1108, .string t1109, .int .i64 t1110, .int .i64 t1111, .slice Ao10 t1112.length co10]] ?_; (with_reducible refine (spec_l14Play.calls k1 (fun k_ => ((w.heap.size ≤ k_) ∧ (some k_ ≠ (.slice Ao10 t1112.length co10 : Value).ownBlock ∧ k_ ≠ gb1117))) _ _ x5_1 x6_1 t1108 t1109 t1110 t1111 _ _ t1112 t1118 t1121 _ ?side1 ?side2 ?side3 A6.out).mono ?_); (case side1 => exact HO_5.out); (case side2 => repeat (first | exact (zbq HO1114.out).2.2 | (with_reducible first | apply zcv | apply zdi | apply zdu))); (case side3 => exact (zbq HO1114.out).2.1); rintro e w14 ⟨v1119, rfl, ho0, hb⟩; refine ⟨_, rfl, ?_⟩; have n_ := jA5 (zgi (pV HO_5.out) hb) (zdj (pR HO1114.out) hb) (Kd.V_lower (zfm (ok' := fun k_ => (w.heap.size ≤ k_) ∧ some k_ ≠ (.slice Ao10 t1112.length co10 : Value).ownBlock ∧ k_ ≠ gb1117) ho0 (fun k_ hk_ => ⟨Or.elim hk_ (fun hs_ => hs_.1) (fun hn_ => (zeb (zak (bs1 GE1117.out)) hn_)), Or.elim hk_ (fun hs_ => hs_.2.1) (fun hn_ => (zdn (zcd (pR HO1114.out)) k_ hn_)), Or.elim hk_ (fun hs_ => hs_.2.2) (fun hn_ => (zey (pB BK1117.out) k_ hn_))⟩)) (zak (bs1 GE1117.out))) (jbb BK1117.out hb) (zab (bs1 GE1117.out) hb); clear HO_5 HO1114 BK1117 HB; obtain ⟨HO_5, HO1114, HO1120, BK1117, HB⟩ := n_; clear hb ho0))
    go_roundg k1
    case measure => have := HK1.out; omega
    case rel => exact ⟨(t1118), (t1121), (t1115), jer, jer, H', ⟨by have := HK1.out; omega⟩, ⟨by (with_reducible repeat (first | apply Kd.V_alloc | apply Kd.V_drewN | apply Kd.V_drew)); exact zfm HO1120.out (fun _ hk => hk.1)⟩, ⟨bs1 GE1117.out⟩⟩
   ·replace c5 := zbn.mpr c5
    subst c5
    rw [if_neg (show ¬ (false = true) by decide)] at H
    simp only [zbz, zcj] at H
    obtain ⟨rfl, rfl, rfl⟩ := H
    go_wp2_with (first | (refine jgc 54 ?_; refine jgs 15 Try.func54 #[.slice A0 l0.length c0, .int .i64 x7_1] ?_; (with_reducible refine (spec_LineOf.calls k1 _ _ l0 x7_1 t1108 t1109 t1110 t1111 t1112 t1115 false _ ?side1 ?side2 A4.out).mono ?_); (case side1 => exact jcs HR0.out); (case side2 => exact HC0.out); rintro e w15 ⟨v1113, rfl, ho0, hb⟩; refine ⟨_, rfl, ?_⟩; have xb_ := below_ofs bq hb; have n_ := jA3 (zfo (pV HO_5.out) (zbe ho0) hb) (zbc (Kd.R_newM (M := fun k_ => (w.heap.size ≤ k_)) ho0 (zak xb_) (fun k_ h_ => h_)) (zak xb_)) (zab xb_ hb); clear HO_5 HB; obtain ⟨HO_5, HO1114, HB⟩ := n_; clear xb_ hb ho0) | (refine jgd 8 ?_; refine bx 8 (#[.int .i64 0, .string (⟨#[]⟩ : ByteArray), .int .i64 0, .int .i64 0, .slice none 0 0]) 48 ?_; intro gb1117 hg w16 hbox hb; have xb_ := below_ofs bq hb; have n_ := jA6 (zgi (Kd.V_elderB (pV HO_5.out) gb1117 (zej hg.symm)) hb) (zdj (pR HO1114.out) hb) (zab xb_ hb) (hbox) (ge0 hg xb_ : w.heap.size ≤ gb1117) (ge0 hg xb_ : w.heap.size ≤ gb1117); clear HO_5 HO1114 HB; obtain ⟨HO_5, HO1114, HB, BK1117, GW1117, GE1117⟩ := n_; clear xb_ hb hbox hg; obtain ⟨hcz17_0, hcz17_1, hcz17_2, hcz17_3, hcz17_4, hfz17_0, hfz17_1, hfz17_2, hfz17_3, hfz17_4⟩ := cz5 BK1117.out; obtain ⟨Ao18, co18, eo18⟩ := zbm HO1114.out; subst eo18))
    go_ret3
    exact ⟨_, jex, by (with_reducible repeat (first | apply Kd.V_alloc | apply Kd.V_drewN | apply Kd.V_drew)); exact zfm (Kd.V_far (p := ⟨gb1117, 4, none⟩) (Kd.V_far (p := ⟨gb1117, 3, none⟩) (Kd.V_far (p := ⟨gb1117, 2, none⟩) (Kd.V_far (p := ⟨gb1117, 1, none⟩) (Kd.V_far (p := ⟨gb1117, 0, none⟩) (zfm HO_5.out (fun k_ hk => (⟨hk, hk.2⟩ : _ ∧ k_ ≠ gb1117))) (fun _ hk => hk.2) (.int .i64 t1108)) (fun _ hk => hk.2) (.string t1109)) (fun _ hk => hk.2) (.int .i64 t1110)) (fun _ hk => hk.2) (.int .i64 t1111)) (fun _ hk => hk.2) (.slice Ao18 t1112.length co18)) (fun _ hk => hk.1.1.1), (bs1 GE1117.out)⟩
end Go.Proofs.Ytlalkldjpniakaa.P
