import Derived.Test.Ytlalkldjpniakaapu22
import Derived.Test.Ytlalkldjpniakaapu9
import Derived.Test.Ytlalkldjpniakaapu31
namespace Go.Proofs.Ytlalkldjpniakaa.P
open Go.RowKit Go.Proofs.YtlalkldjpniakaaW.PrintWords Go.Proofs.YtlalkldjpniakaaW.PrintLast Go.Proofs.YtlalkldjpniakaaW.PrintMore
attribute [local go_sem] zdj zdk zed zee zcy zcz zdl zdm   -- for this text's walks alone
set_option linter.unusedVariables false
set_option linter.unusedSimpArgs false

def spec_Due.l0 : Nat → List (S34) → Int → List (S34) → Int → Option ((List (S34)))
 | 0, _, _, _, _ => none
 | k + 1, x0, x1, x5, x6 => if x6 < (x0.length : Int) then (if 0 ≤ x6 then (if ((rd_T34 x0 x6).f2) ≥ x1 then ((spec_l13Item.f ((rd_T34 x0 x6).f0) ((rd_T34 x0 x6).f1) ((rd_T34 x0 x6).f2) ((rd_T34 x0 x6).f3)).bind fun bt351 => (if x5.length < 2513169434916 then (spec_Due.l0 k x0 x1 (x5 ++ [(⟨bt351.1, bt351.2.1, bt351.2.2.1, bt351.2.2.2⟩ : S34)]) (wrap64 (x6 + 1))) else (none))) else (spec_Due.l0 k x0 x1 x5 (wrap64 (x6 + 1)))) else (none)) else (some x5)
def spec_Due.f (k : Nat) (l0 : List (S34)) (a1 : Int) : Option ((List (S34))) := spec_Due.l0 k l0 a1 (([] : List (S34))) 0
theorem spec_Due.mono_l : ∀ k, (∀ y0 y1 y2 y3, LeO (spec_Due.l0 k y0 y1 y2 y3) (spec_Due.l0 (k + 1) y0 y1 y2 y3))
 | 0 => fun _ _ _ _ r h => by simp [spec_Due.l0] at h
 | k + 1 => by
  have ih0 := spec_Due.mono_l k
  ·intro y0 y1 y2 y3
   unfold spec_Due.l0
   repeat' first
   | (with_reducible exact ih0 _ _ _ _)
   | (with_reducible exact zcn _)
   | (with_reducible exact zda _)
   | (with_reducible refine zdh ?_ ?_)
   | (with_reducible refine zcs ?_ (fun _ => ?_))
   | exact ih0 _ _ _ _
theorem spec_Due.mono : ∀ a0 a1 k, LeO (spec_Due.f k a0 a1) (spec_Due.f (k + 1) a0 a1) := by
 intro a0 a1 k
 have ih0 := spec_Due.mono_l k
 unfold spec_Due.f
 repeat' first
   | (with_reducible exact ih0 _ _ _ _)
   | (with_reducible exact zcn _)
   | (with_reducible exact zda _)
   | (with_reducible refine zdh ?_ ?_)
   | (with_reducible refine zcs ?_ (fun _ => ?_))
   | exact ih0 _ _ _ _
set_option maxHeartbeats 8000000 in
set_option maxRecDepth 100000 in
theorem spec_Due.calls (k : Nat) (A0 : Option Addr) (c0 : Nat) (l0 : List (S34)) (a1 : Int) (r : List (S34)) (w : World) (hr0 : Kd.C k34 w A0 l0.length l0) (hc0 : l0.length ≤ c0) (h : spec_Due.f k l0 a1 = some r) :
  Calls Try.prog 38 #[.slice A0 l0.length c0, .int .i64 a1] w fun e w' => ∃ v0_ : Value, e = .returned (v0_) ∧ Kd.S k34 34 w' w.heap.size (fun _ => True) v0_ r ∧ Below w.heap.size w w' := by
 have hu34 := Try.underlying34
 have HR0 := Aside0.mk hr0
 have HC0 := Aside0.mk hc0
 clear hr0 hc0
 have HB := Aside0.mk (zbt w.heap.size w)
 have H : (spec_Due.l0 k l0 a1 (([] : List (S34))) 0) = some r := h
 clear h
 obtain ⟨y346, hy346⟩ : ∃ y_ : List (S34), y_ = (([] : List (S34))) := ⟨_, rfl⟩
 replace H : (spec_Due.l0 k l0 a1 y346 0) = some r := by first | (rw [hy346]; with_reducible first | exact H | exact bind_ofs H) | (with_reducible first | exact H | exact bind_ofs H) | (rw [hy346]; exact H) | exact H
 have Ny346 := Aside0.mk hy346
 clear hy346
 have H' := Aside0.mk H
 clear H
 go_enter Try.func38, Try.ntmps38
 go_wp2_with (first | ((with_reducible refine zcc (N := 7) rfl ?_); refine Kd.S_lit k34 _ 34 ?hg (N := 7) ?hd (xs := ([] : List (S34))) (inner := []) (ok := fun _ => True) (okp := fun _ => True) ?hr ?hp (fun _ hk => hk) trivial (zbt _ _) (zaw _) (by simp) ?_; (case hd => rfl); (case hg => rfl); (case hr => first | (go_simp; done) | (go_simp; rfl)); (case hp => exact (zel _ _)); intro v347 w3 ho4 hb hg_ hnew_; have xb_ := below_ofs (by repeat (first | (with_reducible first | exact HB.out | apply zae | apply zab | apply zac) | exact HB.out)) hb; clear hg_ hnew_; (first | rw [← Ny346.out] at ho4 | (simp only [Int.reduceToNat] at ho4; rw [← Ny346.out] at ho4)); have n0_ := Aside0.mk (zef ho4 (zam xb_)); have n1_ := Aside0.mk (zai xb_ hb); clear HB; have HO348 := n0_; have HB := n1_; clear n0_ n1_; clear xb_ hb ho4))
 go_loopg [5, 6] k (fun kq v5 v6 w' => ∃ (x5_1 : List (S34)) (x6_1 : Int), v6 = .int .i64 x6_1 ∧ Aside0 (spec_Due.l0 kq l0 a1 x5_1 x6_1 = some r) ∧ Aside0 (kq ≤ k) ∧ Aside0 (Kd.S k34 34 w' w.heap.size (fun _ => True) v5 x5_1) ∧ Aside0 (Below w.heap.size w w'))
 case atStart => exact ⟨(y346), (0), (by first | rfl | (simp; done) | (simp [*]; done)), H', ⟨zaw _⟩, ⟨by (with_reducible repeat (first | apply zbl | apply zbm | apply zbu)); exact HO348.out⟩, ⟨by repeat (first | (with_reducible first | exact HB.out | apply zae | apply zab | apply zac) | exact HB.out)⟩⟩
 case round =>
  clear H'
  try clear p2
  try clear c3
  obtain ⟨x5_1, x6_1, rfl, HA, HK1, HO_5, HB⟩ := hrel
  cases gk with
  | zero => exact absurd HA.out (by simp [spec_Due.l0])
  | succ k1 =>
   have H := HA.out
   clear HA
   simp only [spec_Due.l0] at H
   by_cases c5 : x6_1 < (l0.length : Int)
   ·rw [if_pos c5] at H
    have c5b0 : decide (x6_1 < (l0.length : Int)) = true := zas c5
    clear c5
    by_cases c6 : 0 ≤ x6_1
    ·rw [if_pos c6] at H
     have c6b0 : decide (0 ≤ x6_1) = true := zas c6
     clear c6
     by_cases c7 : ((rd_T34 l0 x6_1).f2) ≥ a1
     ·rw [if_pos c7] at H
      have c7b0 : decide (a1 ≤ ((rd_T34 l0 x6_1).f2)) = true := zas c7
      clear c7
      replace H := zak.mp H
      obtain ⟨⟨t351, t352, t353, t354⟩, A80, H⟩ := H
      try dsimp only at H
      have A8 := Aside0.mk A80
      clear A80
      by_cases c9 : x5_1.length < 2513169434916
      ·rw [if_pos c9] at H
       have LMc9 := Aside0.mk c9
       clear c9
       obtain ⟨y357, hy357⟩ : ∃ y_ : List (S34), y_ = (x5_1 ++ [(⟨t351, t352, t353, t354⟩ : S34)]) := ⟨_, rfl⟩
       replace H : (spec_Due.l0 k1 l0 a1 y357 (wrap64 (x6_1 + 1))) = some r := by first | (rw [hy357]; with_reducible first | exact H | exact bind_ofs H) | (with_reducible first | exact H | exact bind_ofs H) | (rw [hy357]; exact H) | exact H
       have Ny357 := Aside0.mk hy357
       clear hy357
       have H' := Aside0.mk H
       clear H
       have p349 : 0 ≤ (x6_1 : Int) := zad (by first | (with_reducible assumption) | assumption)
       have q349 : x6_1 < (l0.length : Int) := zad (by first | (with_reducible assumption) | assumption)
       obtain ⟨ad349, A349_3, c349_3, e349, hx349_0, hx349_1, hx349_2, hx349_3, hl349_3, hi349_3⟩ := at_T34 HR0.out x6_1 p349 q349
       cases e349
       replace hx349_0 := (HB.out.cell (World.block_lt_of_cell? w _ hx349_0)).trans hx349_0
       replace hx349_1 := (HB.out.cell (World.block_lt_of_cell? w _ hx349_1)).trans hx349_1
       replace hx349_2 := (HB.out.cell (World.block_lt_of_cell? w _ hx349_2)).trans hx349_2
       replace hx349_3 := (HB.out.cell (World.block_lt_of_cell? w _ hx349_3)).trans hx349_3
       have HR349_3 := Aside0.mk hi349_3
       have HC349_3 := Aside0.mk hl349_3
       clear hi349_3 hl349_3
       replace p349 := zay p349
       replace q349 := zay q349
       have p350 : 0 ≤ (x6_1 : Int) := zad (by first | (with_reducible assumption) | assumption)
       have q350 : x6_1 < (l0.length : Int) := zad (by first | (with_reducible assumption) | assumption)
       obtain ⟨ad350, A350_3, c350_3, e350, hx350_0, hx350_1, hx350_2, hx350_3, hl350_3, hi350_3⟩ := at_T34 HR0.out x6_1 p350 q350
       obtain rfl : ad349 = ad350 := (by injection e350)
       replace hx350_0 := (HB.out.cell (World.block_lt_of_cell? w _ hx350_0)).trans hx350_0
       replace hx350_1 := (HB.out.cell (World.block_lt_of_cell? w _ hx350_1)).trans hx350_1
       replace hx350_2 := (HB.out.cell (World.block_lt_of_cell? w _ hx350_2)).trans hx350_2
       replace hx350_3 := (HB.out.cell (World.block_lt_of_cell? w _ hx350_3)).trans hx350_3
       have HR350_3 := Aside0.mk hi350_3
       have HC350_3 := Aside0.mk hl350_3
       clear hi350_3 hl350_3
       replace p350 := zay p350
       replace q350 := zay q350
       have ea_ := Option.some.inj (hx349_3.symm.trans hx350_3)
       injection ea_ with ea_ en_ ec_
       subst ea_
       subst ec_
       clear en_
       go_wp2_with (first | ((with_reducible refine zbv (f := 94) rfl ?_); refine goesL_ (some 26) rfl rfl Try.func94 (by kernel_rfl) rfl #[.agg #[.string ((rd_T34 l0 x6_1).f0), .int .i64 ((rd_T34 l0 x6_1).f1), .int .i64 ((rd_T34 l0 x6_1).f2), .slice A349_3 ((rd_T34 l0 x6_1).f3).length c349_3]] rfl (by (try simp only [zat, zbe, zbh]); first | done | rfl) ?_; (with_reducible refine (spec_l13Item.calls ((rd_T34 l0 x6_1).f0) ((rd_T34 l0 x6_1).f1) ((rd_T34 l0 x6_1).f2) _ _ ((rd_T34 l0 x6_1).f3) t351 t352 t353 t354 _ ?side1 ?side2 A8.out).mono ?_); (case side1 => repeat (first | exact (zbf HR350_3.out HB.out) | (with_reducible first | apply zbs | apply zbw | apply zcd))); (case side2 => exact HC350_3.out); rintro e w10 ⟨v355, rfl, ho0, hb⟩; refine ⟨_, rfl, ?_⟩; have xb_ := below_ofs (by repeat (first | (with_reducible first | exact HB.out | apply zae | apply zab | apply zac) | exact HB.out)) hb; have n0_ := Aside0.mk (zeg (by (with_reducible repeat (first | apply zbl | apply zbm | apply zbu)); exact HO_5.out) (zdr ho0) hb); have n1_ := Aside0.mk (zbx ho0 (zam xb_)); have n2_ := Aside0.mk (zai xb_ hb); clear HO_5 HB; have HO_5 := n0_; have HO356 := n1_; have HB := n2_; clear n0_ n1_ n2_; clear xb_ hb ho0; obtain ⟨Ao12, co12, eo12⟩ := zci HO356.out; subst eo12) | ((with_reducible refine zcx (b := .append) (xs := #[.tmp 21, .tmp 27]) rfl ?_); at_builtin; refine zdx k34 (w0 := w) w.heap.size rfl (.tmp 21) (.tmp 27) 25 34 (.agg #[(.string ⟨#[]⟩), (.int .i64 0), (.int .i64 0), (.slice none 0 0)]) 56 rfl Try.underlying25 info34 rfl (by decide) (by omega) u5 x5_1 (⟨t351, t352, t353, t354⟩ : S34) [.string t351, .int .i64 t352, .int .i64 t353, .slice Ao12 t354.length co12] (fun _ => True) (fun k_ => some k_ = (.slice Ao12 t354.length co12 : Value).ownBlock) rfl rfl ?aP (fun k_ hk_ => ((zbr (ok' := fun k_ => ((fun _ => True)) k_ ∧ some k_ ≠ (u5 : Value).ownBlock) (zcr (HO356.out) (zdc HO_5.out) (by decide)) (fun k_ hk => ⟨trivial, hk.2⟩))).1 k_ hk_.symm) ?aF ?aO ?aB ?aS ?aL ?_; (case aP => exact zfj _ _ _ (⟨t351, t352, t353, t354⟩ : S34) (zbr (zdy rfl (zbr (ok' := fun k_ => ((fun _ => True)) k_ ∧ some k_ ≠ (u5 : Value).ownBlock) (zcr (HO356.out) (zdc HO_5.out) (by decide)) (fun k_ hk => ⟨trivial, hk.2⟩))) (fun _ h_ => h_))); (case aB => exact (by repeat (first | (with_reducible first | exact HB.out | apply zae | apply zab | apply zac) | exact HB.out))); (case aF => exact (fun _ _ => trivial)); (case aO => exact (by (with_reducible repeat (first | apply zbl | apply zbm | apply zbu)); exact zdf HO_5.out (fun k_ hk => ⟨trivial, fun e_ => hk.2 e_⟩))); (case aS => exact (zam (by repeat (first | (with_reducible first | exact HB.out | apply zae | apply zab | apply zac) | exact HB.out)))); (case aL => have := LMc9.out; omega); intro v358 w11 ho hb hg hat; rw [← Ny357.out] at ho; have n0_ := Aside0.mk (hb); have n1_ := Aside0.mk (ho); clear HB HO_5 HO356; have HB := n0_; have HO359 := n1_; clear n0_ n1_; clear ho hb hg hat))
       go_roundg k1
       case measure => have := HK1.out; omega
       case rel => exact ⟨(y357), (wrap64 (x6_1 + 1)), (by first | rfl | (simp; done) | (simp [*]; done)), H', ⟨by have := HK1.out; omega⟩, ⟨by (with_reducible repeat (first | apply zbl | apply zbm | apply zbu)); exact HO359.out⟩, ⟨by repeat (first | (with_reducible first | exact HB.out | apply zae | apply zab | apply zac) | exact HB.out)⟩⟩
      ·rw [if_neg c9] at H
       exact absurd H (by simp)
     ·rw [if_neg c7] at H
      have c7b0 : decide (a1 ≤ ((rd_T34 l0 x6_1).f2)) = false := zbj c7
      clear c7
      have H' := Aside0.mk H
      clear H
      have p349 : 0 ≤ (x6_1 : Int) := zad (by first | (with_reducible assumption) | assumption)
      have q349 : x6_1 < (l0.length : Int) := zad (by first | (with_reducible assumption) | assumption)
      obtain ⟨ad349, A349_3, c349_3, e349, hx349_0, hx349_1, hx349_2, hx349_3, hl349_3, hi349_3⟩ := at_T34 HR0.out x6_1 p349 q349
      cases e349
      replace hx349_0 := (HB.out.cell (World.block_lt_of_cell? w _ hx349_0)).trans hx349_0
      replace hx349_1 := (HB.out.cell (World.block_lt_of_cell? w _ hx349_1)).trans hx349_1
      replace hx349_2 := (HB.out.cell (World.block_lt_of_cell? w _ hx349_2)).trans hx349_2
      replace hx349_3 := (HB.out.cell (World.block_lt_of_cell? w _ hx349_3)).trans hx349_3
      have HR349_3 := Aside0.mk hi349_3
      have HC349_3 := Aside0.mk hl349_3
      clear hi349_3 hl349_3
      replace p349 := zay p349
      replace q349 := zay q349
      go_wp2
      go_roundg k1
      case measure => have := HK1.out; omega
      case rel => exact ⟨(x5_1), (wrap64 (x6_1 + 1)), (by first | rfl | (simp; done) | (simp [*]; done)), H', ⟨by have := HK1.out; omega⟩, ⟨by (with_reducible repeat (first | apply zbl | apply zbm | apply zbu)); exact HO_5.out⟩, ⟨by repeat (first | (with_reducible first | exact HB.out | apply zae | apply zab | apply zac) | exact HB.out)⟩⟩
    ·rw [if_neg c6] at H
     exact absurd H (by simp)
   ·rw [if_neg c5] at H
    have c5b0 : decide (x6_1 < (l0.length : Int)) = false := zbj c5
    clear c5
    obtain rfl := Option.some.inj H
    go_wp2
    go_ret
    exact ⟨_, by first | rfl | (simp [zbb, zbc] <;> rfl) | (simp [*, zbb, zbc] <;> rfl), by (with_reducible repeat (first | apply zbl | apply zbm | apply zbu)); exact HO_5.out, by repeat (first | (with_reducible first | exact HB.out | apply zae | apply zab | apply zac) | exact HB.out)⟩
def impl_Due.f (k : Nat) (l0 : List (S34)) (a1 : Int) : Option (List (S34)) := (impl_cloneItems.f k l0).bind fun t => some (t.filter fun x => !decide (x.f2 < a1))
theorem impl_Due.mono : ∀ a0 a1 k, LeO (impl_Due.f k a0 a1) (impl_Due.f (k + 1) a0 a1) := by
 intro a0 a1 k
 unfold impl_Due.f
 exact zcs (impl_cloneItems.mono _ _) (fun _ => zcn _)
set_option maxHeartbeats 8000000 in
set_option maxRecDepth 100000 in
theorem impl_Due.calls (k : Nat) (A0 : Option Addr) (c0 : Nat) (l0 : List (S34)) (a1 : Int) (r : List (S34)) (w : World) (hr0 : Kd.C k34 w A0 l0.length l0) (hc0 : l0.length ≤ c0) (h : impl_Due.f k l0 a1 = some r) :
  Calls Try.prog 39 #[.slice A0 l0.length c0, .int .i64 a1] w fun e w' => ∃ v0_ : Value, e = .returned (v0_) ∧ Kd.S k34 34 w' w.heap.size (fun _ => True) v0_ r ∧ Below w.heap.size w w' := by
 unfold impl_Due.f at h
 replace h := zak.1 h
 obtain ⟨t, ht, h⟩ := h
 obtain rfl := Option.some.inj h
 have HR := Aside0.mk hr0
 have HC := Aside0.mk hc0
 have F := Aside0.mk ht
 have eg : ∀ args w, (callFunc 97 args).run Try.prog w = .ok (.enter 97 args) w := enters_of Try.func97 (by kernel_rfl) rfl
 clear h ht hr0 hc0
 go_enter Try.func39, Try.ntmps39
 go_wp2_with (first | (go_at_call 96; (with_reducible refine (impl_cloneItems.calls k _ _ l0 t _ (zbs HR.out _) HC.out F.out).mono ?_); rintro e w1 ⟨v1, rfl, ho, hb⟩; have HS := Aside0.mk ho; have HB := Aside0.mk hb; clear ho hb; obtain ⟨A1, c1, e1⟩ := zci (Kd.S_R HS.out); subst e1) | (go_at_call 95; refine Hid.out ?_))
 show Calls _ _ _ _ _
 have hsz : w.heap.size + 1 = (w.alloc (.cells #[.int .i64 a1] 3)).heap.size := by simp
 refine (items_delete (fun x => decide (x.f2 < a1)) _ _ w.heap.size _ (due_pred a1 w.heap.size) eg A1 c1 t w1 _ _ HS.out ?ho ?hne).mono ?_
 case ho => rw [HB.out.block _ (by omega)]; exact heap_alloc_new w _
 case hne => intro e_; have h1 := Kd.S_base HS.out _ e_.symm; omega
 rintro e w2 ⟨v2, rfl, hs, hg, hv⟩
 go_wp2_with (fail "none")
 go_ret
 replace hsz : w.heap.size ≤ (w.alloc (.cells #[.int .i64 a1] 3)).heap.size := by omega
 exact ⟨_, rfl, zdf (zef hs hsz) (fun _ _ => trivial), zen (((zbt _ w).alloc (zaw _) _).trans (HB.out.mono hsz)) _ (zdd hsz HB.out.size) hg (fun k hk => zdd hsz (Kd.S_base HS.out k hk))⟩
end Go.Proofs.Ytlalkldjpniakaa.P
