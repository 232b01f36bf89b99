import Derived.Test.Ytienlgcjohpphaam26
namespace Go.Proofs.Ytienlgcjohpphaa.P
open Go.RowKit Go.Proofs.YtienlgcjohpphaaW.PrintWords Go.Proofs.YtienlgcjohpphaaW.PrintLast Go.Proofs.YtienlgcjohpphaaW.PrintMore
attribute [local go_sem] zcz zda zdp zdq zcs zct zdb zdc   -- for this text's walks alone
set_option linter.unusedVariables false
set_option linter.unusedSimpArgs false

def impl_turned.l0 : Nat → List Int → List Int → List Int → Int → Int → Option (List Int)
 | 0, _, _, _, _, _ => none
 | k + 1, x0, x3, x9, x10, x11 => if x11 < x10 then (if 0 ≤ x11 then (if x11 < (x9.length : Int) then (if 0 ≤ (wrap64 ((wrap64 ((x0.length : Int) - 1)) - x11)) then (if (wrap64 ((wrap64 ((x0.length : Int) - 1)) - x11)) < (x3.length : Int) then (impl_turned.l0 k x0 (x3.set ((wrap64 ((wrap64 ((x0.length : Int) - 1)) - x11)) : Int).toNat (rd x9 x11)) x9 x10 (wrap64 (x11 + 1))) else (none)) else (none)) else (none)) else (none)) else (some x3)
def impl_turned.f (k : Nat) (l0 : List Int) : Option (List Int) := if 0 ≤ (l0.length : Int) then (if ((l0.length : Int) : Int).toNat ≤ 281474976710656 then (impl_turned.l0 k l0 (List.replicate ((l0.length : Int) : Int).toNat 0) l0 (l0.length : Int) 0) else (none)) else (none)
theorem impl_turned.mono_l : ∀ k, (∀ y0 y1 y2 y3 y4, LeO (impl_turned.l0 k y0 y1 y2 y3 y4) (impl_turned.l0 (k + 1) y0 y1 y2 y3 y4))
 | 0 => fun _ _ _ _ _ r h => by simp [impl_turned.l0] at h
 | k + 1 => by
  have ih0 := impl_turned.mono_l k
  ·intro y0 y1 y2 y3 y4
   unfold impl_turned.l0
   repeat' first
   | (with_reducible exact ih0 _ _ _ _ _)
   | (with_reducible exact zcj _)
   | (with_reducible exact zby _)
   | (with_reducible refine zcb ?_ ?_)
   | (with_reducible refine zbx ?_ (fun _ => ?_))
   | exact ih0 _ _ _ _ _
   | exact zby _
   | refine zcb ?_ ?_
   | refine zbx ?_ (fun _ => ?_)
theorem impl_turned.mono : ∀ a0 k, LeO (impl_turned.f k a0) (impl_turned.f (k + 1) a0) := by
 intro a0 k
 have ih0 := impl_turned.mono_l k
 unfold impl_turned.f
 repeat' first
   | (with_reducible exact ih0 _ _ _ _ _)
   | (with_reducible exact zcj _)
   | (with_reducible exact zby _)
   | (with_reducible refine zcb ?_ ?_)
   | (with_reducible refine zbx ?_ (fun _ => ?_))
   | exact ih0 _ _ _ _ _
   | exact zby _
   | refine zcb ?_ ?_
   | refine zbx ?_ (fun _ => ?_)
set_option maxHeartbeats 8000000 in
set_option maxRecDepth 100000 in
theorem impl_turned.calls (k : Nat) (A0 : Option Addr) (c0 : Nat) (l0 : List Int) (r : List Int) (w : World) (hr0 : Kd.C (Kd.int .u8) w A0 l0.length l0) (hc0 : l0.length ≤ c0) (h : impl_turned.f k l0 = some r) :
  Calls Try.prog 106 #[.slice A0 l0.length c0] w fun e w' => ∃ v0_ : Value, e = .returned (v0_) ∧ Kd.R (Kd.int .u8) 5 w' w.heap.size (fun _ => True) v0_ r ∧ Below w.heap.size w w' := by
 have HR0 := Aside0.mk hr0
 have HC0 := Aside0.mk hc0
 clear hr0 hc0
 have HB := Aside0.mk (zca w.heap.size w)
 have H : (if 0 ≤ (l0.length : Int) then (if ((l0.length : Int) : Int).toNat ≤ 281474976710656 then (impl_turned.l0 k l0 (List.replicate ((l0.length : Int) : Int).toNat 0) l0 (l0.length : Int) 0) else (none)) else (none)) = some r := h
 clear h
 by_cases c2 : 0 ≤ (l0.length : Int)
 ·rw [if_pos c2] at H
  have c2b0 := zbw c2
  have c2b1 : decide (0 ≤ (l0.length : Int)) = true := zbc c2
  clear c2
  by_cases c3 : ((l0.length : Int) : Int).toNat ≤ 281474976710656
  ·rw [if_pos c3] at H
   have c3b0 := zbw c3
   have c3b1 : decide (((l0.length : Int) : Int).toNat ≤ 281474976710656) = true := zbc c3
   clear c3
   obtain ⟨y426, hy426⟩ : ∃ y_ : List Int, y_ = (List.replicate ((l0.length : Int) : Int).toNat 0) := ⟨_, rfl⟩
   replace H : (impl_turned.l0 k l0 y426 l0 (l0.length : Int) 0) = some r := by first | (rw [hy426]; with_reducible exact H) | (have H2_ := (zbe _ _).symm.trans H; rw [hy426]; with_reducible exact H2_) | (have H2_ := (zbe _ _).symm.trans H; with_reducible exact H2_) | with_reducible exact H | (rw [hy426]; exact H) | exact H
   have Ny426 := Aside0.mk hy426
   clear hy426
   have H' := Aside0.mk H
   clear H
   go_enter Try.func106, Try.ntmps106
   go_wp2_with (first | ((with_reducible refine zdh (N := 8) rfl ?_); refine Kd.R_make (Kd.int .u8) _ 5 rfl (N := 8) rfl 23 _ _ rfl (l0.length : Int) rfl rfl Try.underlying23 (.int .u8 0) 1 info5 rfl (by decide) (by omega) 0 (ok := fun _ => True) (okp := fun _ => True) rfl (fun _ hk => hk) zcf (zbg (by first | (with_reducible assumption) | assumption)) (Nat.le_trans (Nat.mul_le_mul_right _ (zbg (by first | (with_reducible assumption) | assumption) : (l0.length : Int).toNat ≤ 281474976710656)) (by omega)) (zca _ _) (zbu _) ?_; intro v427 w4 ho5 hb hg_ hnew_; clear hg_ hnew_; (first | rw [← Ny426.out] at ho5 | (simp only [Int.reduceToNat] at ho5; rw [← Ny426.out] at ho5)); have n0_ := Aside0.mk (zbh ho5 (zbd (by repeat (first | (with_reducible first | exact HB.out | apply zah | apply zaf | apply zag) | exact HB.out)))); have n1_ := Aside0.mk (zbf (by repeat (first | (with_reducible first | exact HB.out | apply zah | apply zaf | apply zag) | exact HB.out)) hb); clear HB; have HO428 := n0_; have HB := n1_; clear n0_ n1_; clear hb ho5))
   go_loopg [11] k (fun kq v11 w' => ∃ (x3_1 : List Int) (x11_1 : Int), v11 = .int .i64 x11_1 ∧ Aside0 (impl_turned.l0 kq l0 x3_1 l0 (l0.length : Int) x11_1 = some r) ∧ Aside0 (kq ≤ k) ∧ Aside0 (Kd.R (Kd.int .u8) 5 w' w.heap.size (fun _ => True) v427 x3_1) ∧ Aside0 (Below w.heap.size w w'))
   case atStart => exact ⟨(y426), (0), (by first | rfl | (simp; done) | (simp [*]; done)), H', ⟨zbu _⟩, ⟨by (with_reducible repeat (first | apply zaa | apply zab | apply zac)); exact HO428.out⟩, ⟨by repeat (first | (with_reducible first | exact HB.out | apply zah | apply zaf | apply zag) | exact HB.out)⟩⟩
   case round =>
    clear H'
    try clear c1
    try clear c2
    try clear c2b0
    try clear c2b1
    try clear p2
    try clear c3
    try clear c3b0
    try clear c3b1
    obtain ⟨x3_1, x11_1, rfl, HA, HK1, HO_3, HB⟩ := hrel
    cases gk with
    | zero => exact absurd HA.out (by simp [impl_turned.l0])
    | succ k1 =>
     have H := HA.out
     clear HA
     simp only [impl_turned.l0] at H
     by_cases c6 : x11_1 < (l0.length : Int)
     ·rw [if_pos c6] at H
      have c6b0 : decide (x11_1 < (l0.length : Int)) = true := zbc c6
      clear c6
      by_cases c7 : 0 ≤ x11_1
      ·rw [if_pos c7] at H
       have c7b0 : decide (0 ≤ x11_1) = true := zbc c7
       clear c7
       by_cases c8 : x11_1 < (l0.length : Int)
       ·rw [if_pos c8] at H
        have c8b0 : decide (x11_1 < (l0.length : Int)) = true := zbc c8
        clear c8
        obtain ⟨ji9, hji9⟩ : ∃ j_ : Int, (wrap64 ((wrap64 ((l0.length : Int) - 1)) - x11_1)) = j_ := ⟨_, rfl⟩
        replace H : (if 0 ≤ (ji9) then (if (ji9) < (x3_1.length : Int) then (impl_turned.l0 k1 l0 (x3_1.set ((ji9) : Int).toNat (rd l0 x11_1)) l0 (l0.length : Int) (wrap64 (x11_1 + 1))) else (none)) else (none)) = some r := by first | (rw [hji9] at H; exact H) | (simp only [hji9] at H ⊢; exact H)
        have hji9w : (IntKind.i64.wrap ((wrap64 ((l0.length : Int) - 1)) - x11_1)) = ji9 := (i64_w _).trans hji9
        by_cases c10 : 0 ≤ (ji9)
        ·rw [if_pos c10] at H
         have c10b0 : decide (0 ≤ (ji9)) = true := zbc c10
         clear c10
         by_cases c11 : (ji9) < (x3_1.length : Int)
         ·rw [if_pos c11] at H
          have c11b0 : decide ((ji9) < (x3_1.length : Int)) = true := zbc c11
          clear c11
          obtain ⟨y430, hy430⟩ : ∃ y_ : List Int, y_ = (x3_1.set ((ji9) : Int).toNat (rd l0 x11_1)) := ⟨_, rfl⟩
          replace H : (impl_turned.l0 k1 l0 y430 l0 (l0.length : Int) (wrap64 (x11_1 + 1))) = some r := by first | (rw [hy430]; with_reducible exact H) | (have H2_ := (zbe _ _).symm.trans H; rw [hy430]; with_reducible exact H2_) | (have H2_ := (zbe _ _).symm.trans H; with_reducible exact H2_) | with_reducible exact H | (rw [hy430]; exact H) | exact H
          have Ny430 := Aside0.mk hy430
          clear hy430
          have H' := Aside0.mk H
          clear H
          have p429 : 0 ≤ (x11_1 : Int) := zbg (by first | (with_reducible assumption) | assumption)
          have q429 : x11_1 < (l0.length : Int) := zbg (by first | (with_reducible assumption) | assumption)
          obtain ⟨ad429, e429, hx429_0⟩ := zcg HR0.out x11_1 p429 q429
          cases e429
          replace hx429_0 := (HB.out.cell (World.block_lt_of_cell? w _ hx429_0)).trans hx429_0
          replace p429 := zbw p429
          replace q429 := zbw q429
          have p12 : 0 ≤ ((ji9) : Int) := zbg (by first | (with_reducible assumption) | assumption)
          have q12 : ((ji9) : Int) < ((x3_1.length : Int) : Int) := zbg (by first | (with_reducible assumption) | assumption)
          obtain ⟨go12, co12, eo12, gb12, gl12, cl12, HG12⟩ := Kd.R_form HO_3.out (by omega)
          (first | cases eo12 | (injection eo12 with ea_ en_ ec_; (first | subst ea_ | (injection ea_ with ea_; subst ea_)); subst ec_; clear en_))
          have GB12 := Aside0.mk gb12
          have GG12 := Aside0.mk HG12
          clear gb12 gl12 HG12
          obtain ⟨hx12_0, hf12_0⟩ := Kd.R_celln 0 HO_3.out ((ji9) : Int) p12 q12
          replace p12 := zbw p12
          replace q12 := zbw q12
          have HP13 := Kd.R_putg HO_3.out ((ji9) : Int) (rd l0 x11_1)
          go_wp2_with (first | ((with_reducible refine gate_store (t := 5) (p := 23) rfl ?_); refine store_event (t := 5) (p := 23) (v := ?vo_w14) (w1 := (wr.setCell ⟨go12, ((ji9) : Int).toNat, none⟩ (.int .u8 (rd l0 x11_1)))) ?hg ?ho ?hn ?hr ?_; (case ho => rfl); (case hg => rfl); (case hn => rfl); (case hr => first | (go_simp; done) | (go_simp; rfl)); intro w14 hw; have hg : wr.grownBy w14 (some go12) := (by rw [hw]; exact HP13.2); have hp_ : Kd.R (Kd.int .u8) 5 w14 w.heap.size (fun _ => True) (.slice (some ⟨go12, 0, none⟩) x3_1.length co12) y430 := (by rw [hw, Ny430.out]; exact HP13.1); clear HP13; have n0_ := Aside0.mk (hp_); have n1_ := Aside0.mk ((by rw [hw]; exact below_set (HB.out) GB12.out : Below w.heap.size w w14)); clear HO_3; clear HB; have HO_3 := n0_; have HB := n1_; clear n0_ n1_; clear hg hw hp_))
          go_roundg k1
          case measure => have := HK1.out; omega
          case rel => exact ⟨(y430), (wrap64 (x11_1 + 1)), (by first | rfl | (simp; done) | (simp [*]; done)), H', ⟨by have := HK1.out; omega⟩, ⟨by (with_reducible repeat (first | apply zaa | apply zab | apply zac)); exact HO_3.out⟩, ⟨by repeat (first | (with_reducible first | exact HB.out | apply zah | apply zaf | apply zag) | exact HB.out)⟩⟩
         ·rw [if_neg c11] at H
          exact absurd H (by simp)
        ·rw [if_neg c10] at H
         exact absurd H (by simp)
       ·rw [if_neg c8] at H
        exact absurd H (by simp)
      ·rw [if_neg c7] at H
       exact absurd H (by simp)
     ·rw [if_neg c6] at H
      have c6b0 : decide (x11_1 < (l0.length : Int)) = false := zbt c6
      clear c6
      obtain rfl := Option.some.inj H
      go_wp2
      go_ret
      exact ⟨_, by first | rfl | (simp [zbn, zbo] <;> rfl) | (simp [*, zbn, zbo] <;> rfl), by (with_reducible repeat (first | apply zaa | apply zab | apply zac)); exact HO_3.out, by repeat (first | (with_reducible first | exact HB.out | apply zah | apply zaf | apply zag) | exact HB.out)⟩
  ·rw [if_neg c3] at H
   exact absurd H (by simp)
 ·rw [if_neg c2] at H
  exact absurd H (by simp)
def impl_Great.f (k : Nat) (a0 : Int) (a1 : Int) : Option (List Int) := (impl_Little.f k a0 a1).bind fun t431 => ((impl_turned.f k t431).bind fun t434 => (some t434))
theorem impl_Great.mono : ∀ a0 a1 k, LeO (impl_Great.f k a0 a1) (impl_Great.f (k + 1) a0 a1) := by
 intro a0 a1 k
 unfold impl_Great.f
 repeat' first
   | (with_reducible exact impl_Little.mono _ _ _)
   | (with_reducible exact impl_turned.mono _ _)
   | (with_reducible exact zcj _)
   | (with_reducible exact zby _)
   | (with_reducible refine zcb ?_ ?_)
   | (with_reducible refine zbx ?_ (fun _ => ?_))
   | exact impl_Little.mono _ _ _
   | exact impl_turned.mono _ _
   | exact zby _
   | refine zcb ?_ ?_
   | refine zbx ?_ (fun _ => ?_)
set_option maxHeartbeats 8000000 in
set_option maxRecDepth 100000 in
theorem impl_Great.calls (k : Nat) (a0 : Int) (a1 : Int) (r : List Int) (w : World) (h : impl_Great.f k a0 a1 = some r) :
  Calls Try.prog 80 #[.int .i64 a0, .int .i64 a1] w fun e w' => ∃ v0_ : Value, e = .returned (v0_) ∧ Kd.R (Kd.int .u8) 5 w' w.heap.size (fun _ => True) v0_ r ∧ Below w.heap.size w w' := by
 have HB := Aside0.mk (zca w.heap.size w)
 have H : ((impl_Little.f k a0 a1).bind fun t431 => ((impl_turned.f k t431).bind fun t434 => (some t434))) = some r := h
 clear h
 replace H := zas.mp H
 obtain ⟨t431, A30, H⟩ := H
 replace H : ((impl_turned.f k t431).bind fun t434 => (some t434)) = some r := H
 have A3 := Aside0.mk A30
 clear A30
 replace H := zas.mp H
 obtain ⟨t434, A40, H⟩ := H
 replace H : (some t434) = some r := H
 have A4 := Aside0.mk A40
 clear A40
 obtain rfl := Option.some.inj H
 go_enter Try.func80, Try.ntmps80
 go_wp2_with (first | ((with_reducible refine zax (f := 87) rfl ?_); refine goesL_ (some 7) rfl rfl Try.func87 (by kernel_rfl) rfl #[.int .i64 a0, .int .i64 a1] rfl (by (try simp only [zal, zar, zat]); first | done | rfl | (simp only [zae, zad]; rfl) | (simp only [zae, zad]; rw [zao (zaw.mpr (zba (by assumption)))])) ?_; (with_reducible refine (impl_Little.calls k a0 a1 t431 _ A3.out).mono ?_); rintro e w5 ⟨v432, rfl, ho0, hb⟩; refine ⟨_, rfl, ?_⟩; have n0_ := Aside0.mk (zbh ho0 (zbd (by repeat (first | (with_reducible first | exact HB.out | apply zah | apply zaf | apply zag) | exact HB.out)))); have n1_ := Aside0.mk (zbf (by repeat (first | (with_reducible first | exact HB.out | apply zah | apply zaf | apply zag) | exact HB.out)) hb); clear HB; have HO433 := n0_; have HB := n1_; clear n0_ n1_; (try clear hb); (try clear hb2); (try clear hk); (try clear hi); (try clear ho0); obtain ⟨Ao6, co6, eo6⟩ := zbi HO433.out; subst eo6) | ((with_reducible refine zax (f := 106) rfl ?_); refine goesL_ (some 8) rfl rfl Try.func106 (by kernel_rfl) rfl #[.slice Ao6 t431.length co6] rfl (by (try simp only [zal, zar, zat]); first | done | rfl | (simp only [zae, zad]; rfl) | (simp only [zae, zad]; rw [zao (zaw.mpr (zba (by assumption)))])) ?_; (with_reducible refine (impl_turned.calls k _ _ t431 t434 _ ?side1 ?side2 A4.out).mono ?_); (case side1 => repeat (first | exact (zak HO433.out).2.2 | (with_reducible refine zau ?_ _) | (with_reducible refine zav ?_ _) | (with_reducible refine zaz ?_))); (case side2 => exact (zak HO433.out).2.1); rintro e w7 ⟨v435, rfl, ho0, hb⟩; refine ⟨_, rfl, ?_⟩; have n0_ := Aside0.mk (zaj (by (with_reducible repeat (first | apply zaa | apply zab | apply zac)); exact HO433.out) (zap ho0) hb); have n1_ := Aside0.mk (zbh (zaq ho0 (zay (by (with_reducible repeat (first | apply zaa | apply zab | apply zac)); exact HO433.out))) (zbd (by repeat (first | (with_reducible first | exact HB.out | apply zah | apply zaf | apply zag) | exact HB.out)))); have n2_ := Aside0.mk (zbf (by repeat (first | (with_reducible first | exact HB.out | apply zah | apply zaf | apply zag) | exact HB.out)) hb); clear HO433; clear HB; have HO433 := n0_; have HO436 := n1_; have HB := n2_; clear n0_ n1_ n2_; (try clear hb); (try clear hb2); (try clear hk); (try clear hi); (try clear ho0)))
 go_ret
 exact ⟨_, by first | rfl | (simp [zbn, zbo] <;> rfl) | (simp [*, zbn, zbo] <;> rfl), by (with_reducible repeat (first | apply zaa | apply zab | apply zac)); exact zbm HO436.out (fun _ hk => zcf), by repeat (first | (with_reducible first | exact HB.out | apply zah | apply zaf | apply zag) | exact HB.out)⟩
end Go.Proofs.Ytienlgcjohpphaa.P
