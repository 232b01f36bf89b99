import Derived.Test.Ytdineaebljpfaaal10
namespace Go.Proofs.Ytdineaebljpfaaa.P
open Go.RowKit Go.Proofs.YtdineaebljpfaaaW.PrintWords Go.Proofs.YtdineaebljpfaaaW.PrintLast Go.Proofs.YtdineaebljpfaaaW.PrintMore
attribute [local go_sem] max2_int min2_int max_two min_two zeq zer max_four min_four   -- for this text's walks alone
set_option linter.unusedVariables false
set_option linter.unusedSimpArgs false

set_option maxHeartbeats 8000000 in
set_option maxRecDepth 100000 in
theorem impl_LetterOf.calls2 (k : Nat) (P0_ : Nat → Prop) (A0 : Option Addr) (c0 : Nat) (l0 : List Int) (r1 : Int) (r2 : List Int) (r3 : List Int) (r4 : Bool) (w : World) (hs0 : Kd.V (Kd.int .u8) 5 w w.heap.size (fun k_ => P0_ k_) (.slice A0 l0.length c0) l0) (h : impl_LetterOf.f k l0 = some (r1, r2, r3, r4)) (hq4 : Aside0 (r4 = false)) :
  Calls Try.prog 11 #[.slice A0 l0.length c0] w fun e w' => ∃ v1_ v2_ : Value, e = .returned (.tuple #[.agg #[.int .i64 r1, v1_, v2_], .bool r4]) ∧ Kd.R (Kd.int .u8) 5 w' w.heap.size (fun k_ => (w.heap.size ≤ k_) ∧ some k_ ≠ (v2_ : Value).ownBlock) v1_ r2 ∧ Kd.R (Kd.int .u8) 5 w' w.heap.size (fun k_ => (w.heap.size ≤ k_) ∧ some k_ ≠ (v1_ : Value).ownBlock) v2_ r3 ∧ Below w.heap.size w w' := by
 have hu24 := Try.underlying24
 have HO0 := Aside0.mk (show Kd.V (Kd.int .u8) 5 w w.heap.size (fun k_ => (P0_ k_ ∨ w.heap.size ≤ k_)) (.slice A0 l0.length c0) l0 from zar hs0 (fun k_ hk => .inl hk))
 have HB := Aside0.mk (zcq w.heap.size w)
 have H : (if (l0.length : Int) < 35 then (impl_LetterOf.j0 k l0 true) else (if 0 < (l0.length : Int) then (impl_LetterOf.j0 k l0 ((rd l0 0) != 1)) else (none))) = some (r1, r2, r3, r4) := h
 clear h
 have HC2 := Aside0.mk H
 clear H
 go_enter Try.func11, Try.ntmps11
 go_upto_region 1 with (first | ((with_reducible refine zef (N := 2) rfl ?_); refine zdw ?hg (N := 2) ?hd (cs := #[.int .i64 0, .slice none 0 0, .slice none 0 0]) (t := 24) ?hr ?_; (case hd => rfl); (case hg => rfl); (case hr => first | (go_simp; done) | (go_simp; rfl)); intro gb130 hg w3 hbox hb; have xb_ := below_ofs (by repeat (first | (with_reducible first | exact HB.out | apply zah | apply zab | apply zaf) | exact HB.out)) hb; have n0_ := Aside0.mk (zcj (zci (by (with_reducible repeat (first | apply zak | apply zal | apply zap)); exact HO0.out) gb130 (zbp hg.symm)) hb); have n1_ := Aside0.mk (zbh xb_ hb); have n2_ := Aside0.mk (hbox); have n3_ := Aside0.mk ((by rw [hg]; exact (zat xb_) : w.heap.size ≤ gb130)); have n4_ := Aside0.mk ((by rw [hg]; exact (zat xb_) : w.heap.size ≤ gb130)); clear HO0 HB; have HO0 := n0_; have HB := n1_; have BK130 := n2_; have GW130 := n3_; have GE130 := n4_; clear n0_ n1_ n2_ n3_ n4_; clear xb_ hb hbox hg))
 (try simp only [Act.put, zaa, zac, zad])
 go_cut [13] (fun v13 wc => ∃ (kq : Nat) (x13_1 : Bool), v13 = .bool x13_1 ∧ Aside0 (impl_LetterOf.j0 kq l0 x13_1 = some (r1, r2, r3, r4)) ∧ Aside0 (kq ≤ k) ∧ Aside0 (Kd.V (Kd.int .u8) 5 wc w.heap.size (fun k_ => (P0_ k_ ∨ w.heap.size ≤ k_) ∧ k_ ≠ gb130) (.slice A0 l0.length c0) l0) ∧ Aside0 (wc.heap[gb130]? = some (.cells #[.int .i64 0, (.slice none 0 0), (.slice none 0 0)] 24 (0, 0))) ∧ Aside0 (Below w.heap.size w wc))
 case first =>
  have H := HC2.out
  clear HC2
  by_cases c4 : (l0.length : Int) < 35
  ·rw [if_pos c4] at H
   have c4b0 : decide ((l0.length : Int) < 35) = true := zbo c4
   have c4b1 : decide (l0.length < 35) = true := zbo (by omega)
   clear c4
   (first | rw [c4b0] | (simp only [i64_w, i32_w]; rw [c4b0]) | skip)
   have H' := Aside0.mk H
   clear H
   go_wp2
   go_meet
   case rel => exact ⟨_, (true), (by first | rfl | (simp; done) | (simp [*]; done)), H', ⟨by first | omega | exact zbq _⟩, ⟨by (with_reducible repeat (first | apply zak | apply zal | apply zap)); exact HO0.out⟩, ⟨by (with_reducible repeat (first | refine zai ?_ _ | refine zao ?_ | refine zaj ?_ _)); exact BK130.out⟩, ⟨by repeat (first | (with_reducible first | exact HB.out | apply zah | apply zab | apply zaf | refine zag ?_ GE130.out) | exact HB.out)⟩⟩
  ·rw [if_neg c4] at H
   have c4b0 : decide ((l0.length : Int) < 35) = false := zcv c4
   have c4b1 : decide (l0.length < 35) = false := zcv (by omega)
   clear c4
   (first | rw [c4b0] | (simp only [i64_w, i32_w]; rw [c4b0]) | skip)
   by_cases c5 : 0 < (l0.length : Int)
   ·rw [if_pos c5] at H
    have c5b0 : decide (0 < (l0.length : Int)) = true := zbo c5
    have c5b1 : decide (0 < l0.length) = true := zbo (by omega)
    clear c5
    have H' := Aside0.mk H
    clear H
    have p131 : 0 ≤ (0 : Int) := (by omega)
    have q131 : 0 < (l0.length : Int) := zbj (by first | (with_reducible assumption) | assumption)
    obtain ⟨ad131, e131, hx131_0⟩ := zek (zct HO0.out).2.2 0 p131 q131
    cases e131
    have qi131 : (0 < l0.length) = True := zcw (by omega)
    (try rw [show ((0 : Int)).toNat = 0 from rfl] at hx131_0)
    (try rw [Addr.add_zero'] at hx131_0)
    replace p131 := zcw p131
    replace q131 := zcw q131
    go_wp2
    go_meet
    case rel => exact ⟨_, (((rd l0 0) != 1)), (by first | rfl | (simp; done) | (simp [*]; done)), H', ⟨by first | omega | exact zbq _⟩, ⟨by (with_reducible repeat (first | apply zak | apply zal | apply zap)); exact HO0.out⟩, ⟨by (with_reducible repeat (first | refine zai ?_ _ | refine zao ?_ | refine zaj ?_ _)); exact BK130.out⟩, ⟨by repeat (first | (with_reducible first | exact HB.out | apply zah | apply zab | apply zaf | refine zag ?_ GE130.out) | exact HB.out)⟩⟩
   ·rw [if_neg c5] at H
    exact absurd H (by simp)
 case rest =>
  clear HC2
  try clear c1
  try clear p1
  try clear q1
  try clear hx1
  try clear qi1
  try clear p2
  try clear c4
  try clear c4b0
  try clear c4b1
  try clear c5
  try clear c5b0
  try clear c5b1
  try clear hx131_0
  try clear p131
  try clear q131
  obtain ⟨kq, x13_1, rfl, HA, HJ1, HO_0, BK130, HB⟩ := hcut
  cases kq with
  | zero => exact absurd HA.out (by simp [impl_LetterOf.j0])
  | succ kj1 =>
   have H := HA.out
   clear HA
   simp only [impl_LetterOf.j0] at H
   by_cases c6 : x13_1 = true
   ·subst c6
    have H1 : (some (0, ([] : List Int), ([] : List Int), false)) = some (r1, r2, r3, r4) := by rw [if_pos rfl] at H; exact H
    clear H
    have H := H1
    clear H1
    simp only [zdp, zeg] at H
    obtain ⟨rfl, rfl, rfl, rfl⟩ := H
    have hcz7_0 : wc.cell? ⟨gb130, 0, none⟩ = some (.int .i64 0) := (zbc BK130.out 0).trans rfl
    have hcz7_1 : wc.cell? ⟨gb130, 1, none⟩ = some (.slice none 0 0) := (zbc BK130.out 1).trans rfl
    have hcz7_2 : wc.cell? ⟨gb130, 2, none⟩ = some (.slice none 0 0) := (zbc BK130.out 2).trans rfl
    have hfz7_0 := zau BK130.out 0
    have hfz7_1 := zau BK130.out 1
    have hfz7_2 := zau BK130.out 2
    go_wp2
    refine bodyPost_ret (results_ct rfl _ _ gb130 24 #[.int .i64 0, .slice none 0 0, .slice none 0 0] (0, 0) _ rfl (by (with_reducible repeat (first | refine zai ?_ _ | refine zao ?_ | refine zaj ?_ _)); refine zdl (cs := #[.int .i64 0, .slice none 0 0, .slice none 0 0]) ?_ 2 _ rfl; (with_reducible repeat (first | refine zai ?_ _ | refine zao ?_ | refine zaj ?_ _)); refine zdl (cs := #[.int .i64 0, .slice none 0 0, .slice none 0 0]) ?_ 1 _ rfl; (with_reducible repeat (first | refine zai ?_ _ | refine zao ?_ | refine zaj ?_ _)); refine zdl (cs := #[.int .i64 0, .slice none 0 0, .slice none 0 0]) ?_ 0 _ rfl; (with_reducible repeat (first | refine zai ?_ _ | refine zao ?_ | refine zaj ?_ _)); exact BK130.out) Try.underlying24 rfl (by kernel_rfl)) rfl ?_
    exact ⟨_, _, by first | rfl | (simp [zcd, zce] <;> rfl) | (simp [*, zcd, zce] <;> rfl), by first | exact Kd.R_nil _ _ _ _ _ | exact Kd.N_nil _ _ _ _ _ | exact Kd.V_nil _ _ _ _ _ | exact Kd.Q_nil _ _ _ _ _ | exact Kd.S_nil _ _ _ _ _, by first | exact Kd.R_nil _ _ _ _ _ | exact Kd.N_nil _ _ _ _ _ | exact Kd.V_nil _ _ _ _ _ | exact Kd.Q_nil _ _ _ _ _ | exact Kd.S_nil _ _ _ _ _, by repeat (first | (with_reducible first | exact HB.out | apply zah | apply zab | apply zaf | refine zag ?_ GE130.out) | exact HB.out)⟩
   ·replace c6 := zdk.mpr c6
    subst c6
    have H1 : (if 1 < (l0.length : Int) then (if 2 < (l0.length : Int) then (if 3 ≤ 35 then (if 35 ≤ (l0.length : Int) then ((impl_joined.f (([((l0.take 35).drop 3)] : List (List Int)))).bind fun t142 => ((impl_joined.f (([(l0.drop 35)] : List (List Int)))).bind fun t153 => ((impl_LetterOk.f (Go.bits .or .i64 (wrap64 ((wrap64 (rd l0 1)) * 256)) (wrap64 (rd l0 2))) t142 t153).bind fun t157 => (if t157 = true then (some (Go.bits .or .i64 (wrap64 ((wrap64 (rd l0 1)) * 256)) (wrap64 (rd l0 2)), t142, t153, true)) else (some (0, ([] : List Int), ([] : List Int), false)))))) else (none)) else (none)) else (none)) else (none)) = some (r1, r2, r3, r4) := by rw [if_neg (show ¬ (false = true) by decide)] at H; exact H
    clear H
    have H := H1
    clear H1
    by_cases c8 : 1 < (l0.length : Int)
    ·rw [if_pos c8] at H
     have c8b0 : decide (1 < (l0.length : Int)) = true := zbo c8
     have c8b1 : decide (1 < l0.length) = true := zbo (by omega)
     clear c8
     by_cases c9 : 2 < (l0.length : Int)
     ·rw [if_pos c9] at H
      have c9b0 : decide (2 < (l0.length : Int)) = true := zbo c9
      have c9b1 : decide (2 < l0.length) = true := zbo (by omega)
      clear c9
      by_cases c10 : 3 ≤ 35
      ·rw [if_pos c10] at H
       have c10b0 := zcw c10
       have c10b1 : decide (3 ≤ 35) = true := zbo c10
       clear c10
       by_cases c11 : 35 ≤ (l0.length : Int)
       ·rw [if_pos c11] at H
        have c11b0 := zcw c11
        have c11b1 : decide (35 ≤ (l0.length : Int)) = true := zbo c11
        clear c11
        obtain ⟨y134, hy134⟩ : ∃ y_ : List Int, y_ = ((l0.take 35).drop 3) := ⟨_, rfl⟩
        replace H : ((impl_joined.f (([y134] : List (List Int)))).bind fun t142 => ((impl_joined.f (([(l0.drop 35)] : List (List Int)))).bind fun t153 => ((impl_LetterOk.f (Go.bits .or .i64 (wrap64 ((wrap64 (rd l0 1)) * 256)) (wrap64 (rd l0 2))) t142 t153).bind fun t157 => (if t157 = true then (some (Go.bits .or .i64 (wrap64 ((wrap64 (rd l0 1)) * 256)) (wrap64 (rd l0 2)), t142, t153, true)) else (some (0, ([] : List Int), ([] : List Int), false)))))) = some (r1, r2, r3, r4) := by first | (rw [hy134]; with_reducible first | exact H | exact bind_ofs H) | (with_reducible first | exact H | exact bind_ofs H) | (rw [hy134]; exact H) | exact H
        have Ny134 := Aside0.mk hy134
        clear hy134
        obtain ⟨y139, hy139⟩ : ∃ y_ : List (List Int), y_ = (([y134] : List (List Int))) := ⟨_, rfl⟩
        replace H : ((impl_joined.f y139).bind fun t142 => ((impl_joined.f (([(l0.drop 35)] : List (List Int)))).bind fun t153 => ((impl_LetterOk.f (Go.bits .or .i64 (wrap64 ((wrap64 (rd l0 1)) * 256)) (wrap64 (rd l0 2))) t142 t153).bind fun t157 => (if t157 = true then (some (Go.bits .or .i64 (wrap64 ((wrap64 (rd l0 1)) * 256)) (wrap64 (rd l0 2)), t142, t153, true)) else (some (0, ([] : List Int), ([] : List Int), false)))))) = some (r1, r2, r3, r4) := by first | (rw [hy139]; with_reducible first | exact H | exact bind_ofs H) | (with_reducible first | exact H | exact bind_ofs H) | (rw [hy139]; exact H) | exact H
        have Ny139 := Aside0.mk hy139
        clear hy139
        replace H := zbm.mp H
        obtain ⟨t142, A120, H⟩ := H
        try dsimp only at H
        have A12 := Aside0.mk A120
        clear A120
        have c13b0 := zcw (zbj (by first | (with_reducible assumption) | assumption) : 35 ≤ (l0.length : Int))
        obtain ⟨y145, hy145⟩ : ∃ y_ : List Int, y_ = (l0.drop 35) := ⟨_, rfl⟩
        replace H : ((impl_joined.f (([y145] : List (List Int)))).bind fun t153 => ((impl_LetterOk.f (Go.bits .or .i64 (wrap64 ((wrap64 (rd l0 1)) * 256)) (wrap64 (rd l0 2))) t142 t153).bind fun t157 => (if t157 = true then (some (Go.bits .or .i64 (wrap64 ((wrap64 (rd l0 1)) * 256)) (wrap64 (rd l0 2)), t142, t153, true)) else (some (0, ([] : List Int), ([] : List Int), false))))) = some (r1, r2, r3, r4) := by first | (rw [hy145]; with_reducible first | exact H | exact bind_ofs H) | (with_reducible first | exact H | exact bind_ofs H) | (rw [hy145]; exact H) | exact H
        have Ny145 := Aside0.mk hy145
        clear hy145
        obtain ⟨y150, hy150⟩ : ∃ y_ : List (List Int), y_ = (([y145] : List (List Int))) := ⟨_, rfl⟩
        replace H : ((impl_joined.f y150).bind fun t153 => ((impl_LetterOk.f (Go.bits .or .i64 (wrap64 ((wrap64 (rd l0 1)) * 256)) (wrap64 (rd l0 2))) t142 t153).bind fun t157 => (if t157 = true then (some (Go.bits .or .i64 (wrap64 ((wrap64 (rd l0 1)) * 256)) (wrap64 (rd l0 2)), t142, t153, true)) else (some (0, ([] : List Int), ([] : List Int), false))))) = some (r1, r2, r3, r4) := by first | (rw [hy150]; with_reducible first | exact H | exact bind_ofs H) | (with_reducible first | exact H | exact bind_ofs H) | (rw [hy150]; exact H) | exact H
        have Ny150 := Aside0.mk hy150
        clear hy150
        replace H := zbm.mp H
        obtain ⟨t153, A140, H⟩ := H
        try dsimp only at H
        have A14 := Aside0.mk A140
        clear A140
        replace H := zbm.mp H
        obtain ⟨t157, A150, H⟩ := H
        try dsimp only at H
        have A15 := Aside0.mk A150
        clear A150
        by_cases c16 : t157 = true
        ·exfalso
         rw [if_pos c16] at H
         simp only [zdp, zeg] at H
         have h4_ := H.2.2.2.trans hq4.out
         cases h4_
        ·replace c16 := zdk.mpr c16
         subst c16
         have H1 : (some (0, ([] : List Int), ([] : List Int), false)) = some (r1, r2, r3, r4) := by rw [if_neg (show ¬ (false = true) by decide)] at H; exact H
         clear H
         have H := H1
         clear H1
         simp only [zdp, zeg] at H
         obtain ⟨rfl, rfl, rfl, rfl⟩ := H
         try go_wp2
         have n0_ := Aside0.mk (zap HO_0.out)
         have n1_ := Aside0.mk (zao BK130.out)
         have n2_ := Aside0.mk (zaf HB.out)
         clear HO_0
         clear BK130
         clear HB
         have HO_0 := n0_
         have BK130 := n1_
         have HB := n2_
         clear n0_ n1_ n2_
         have p132 : 0 ≤ (1 : Int) := (by omega)
         have q132 : 1 < (l0.length : Int) := zbj (by first | (with_reducible assumption) | assumption)
         obtain ⟨ad132, e132, hx132_0⟩ := zek (zct HO_0.out).2.2 1 p132 q132
         cases e132
         (try simp only [show (1 : Int).toNat = 1 from rfl, Nat.reduceMul, Nat.reduceEqDiff, Go.Addr.add, ↓reduceIte] at hx132_0)
         have qi132 : (1 < l0.length) = True := zcw (by omega)
         (try rw [show ((1 : Int)).toNat = 1 from rfl] at hx132_0)
         replace p132 := zcw p132
         replace q132 := zcw q132
         have p133 : 0 ≤ (2 : Int) := (by omega)
         have q133 : 2 < (l0.length : Int) := zbj (by first | (with_reducible assumption) | assumption)
         obtain ⟨ad133, e133, hx133_0⟩ := zek (zct HO_0.out).2.2 2 p133 q133
         obtain rfl : ad132 = ad133 := (by injection e133)
         (try simp only [show (2 : Int).toNat = 2 from rfl, Nat.reduceMul, Nat.reduceEqDiff, Go.Addr.add, ↓reduceIte] at hx133_0)
         have qi133 : (2 < l0.length) = True := zcw (by omega)
         (try rw [show ((2 : Int)).toNat = 2 from rfl] at hx133_0)
         replace p133 := zcw p133
         replace q133 := zcw q133
         have q43 : (35 : Int) ≤ ((l0.length : Int) : Int) := zbj (by first | (with_reducible assumption) | assumption)
         obtain ⟨i043, hi043, _, hsz43, _⟩ := info_parts info5
         have hroom43 : l0.length ≤ c0 := (zct HO_0.out).2.1
         have hC43 : Kd.F (Kd.int .u8) _ _ (some ad132) l0.length l0 := (Kd.V_at (base := w.heap.size) HO_0.out).2.2
         have ql43 : (3 : Int) ≤ (35 : Int) := (by omega)
         (try clear hcut18); have hcut43 := cut_mid (P := Try.prog) 22 5 .i64 .i64 Try.underlying22 hi043 1 hsz43 (some ad132) l0.length c0 3 35 (by omega) ql43 q43 hroom43
         have hr43 := Kd.F_mid (lo := (3 : Int).toNat) (hi := (35 : Int).toNat) (c := c0) hC43 (by omega) (by omega) hroom43
         obtain ⟨A43, hA43⟩ : ∃ A1, A1 = (if c0 = (3 : Int).toNat then (some ad132) else ((some ad132) : Option Addr).map (·.add ((3 : Int).toNat * 1))) := ⟨_, rfl⟩
         obtain ⟨c43, hc43⟩ : ∃ c1, c1 = c0 - (3 : Int).toNat := ⟨_, rfl⟩
         have hy43 : y134.length = (35 : Int).toNat - (3 : Int).toNat := (by rw [Ny134.out, zbn, zbr] <;> omega)
         rw [show ((l0).take (35 : Int).toNat).drop (3 : Int).toNat = y134 from Ny134.out.symm] at hr43
         replace hr43 : Kd.F (Kd.int .u8) _ _ A43 y134.length y134 := (by rw [hA43]; exact hr43)
         rw [← hy43, ← hA43, ← hc43] at hcut43
         have HO138 := Aside0.mk (show Kd.V (Kd.int .u8) 5 _ w.heap.size _ (.slice A43 y134.length c43) y134 from Kd.V_mk (by rw [hy43, hc43]; exact zec (zdb (by omega) hroom43) _) hr43)
         have HC138 := Aside0.mk (show y134.length ≤ c43 from by rw [hy43, hc43]; exact zec (zdb (by omega) hroom43) _)
         clear hr43 hC43 hroom43 hi043 hsz43 hc43
         have KY43 := Aside0.mk hy43
         have KA43 := Aside0.mk hA43
         clear hy43 hA43
         replace q43 := zcw q43
         have q44 : (35 : Int) ≤ ((l0.length : Int) : Int) := zbj (by first | (with_reducible assumption) | assumption)
         obtain ⟨i044, hi044, _, hsz44, _⟩ := info_parts info5
         have hroom44 : l0.length ≤ c0 := (zct HO_0.out).2.1
         have hC44 : Kd.F (Kd.int .u8) _ _ (some ad132) l0.length l0 := (Kd.V_at (base := w.heap.size) HO_0.out).2.2
         have hcut44 := cut_from (P := Try.prog) 22 5 .i64 Try.underlying22 hi044 1 hsz44 (some ad132) l0.length c0 35 (by omega) q44
         have hr44 := Kd.F_cut (m := (35 : Int).toNat) (c := c0) hC44 (by omega) hroom44
         obtain ⟨A44, hA44⟩ : ∃ A1, A1 = (if c0 = (35 : Int).toNat then (some ad132) else ((some ad132) : Option Addr).map (·.add ((35 : Int).toNat * 1))) := ⟨_, rfl⟩
         obtain ⟨c44, hc44⟩ : ∃ c1, c1 = c0 - (35 : Int).toNat := ⟨_, rfl⟩
         have hy44 : y145.length = l0.length - (35 : Int).toNat := (by rw [Ny145.out, zbn] <;> omega)
         rw [show (l0).drop (35 : Int).toNat = y145 from Ny145.out.symm] at hr44
         replace hr44 : Kd.F (Kd.int .u8) _ _ A44 y145.length y145 := (by rw [hA44]; exact hr44)
         rw [← hy44, ← hA44, ← hc44] at hcut44
         have HO149 := Aside0.mk (show Kd.V (Kd.int .u8) 5 _ w.heap.size _ (.slice A44 y145.length c44) y145 from Kd.V_mk (by rw [hy44, hc44]; exact zec hroom44 _) hr44)
         have HC149 := Aside0.mk (show y145.length ≤ c44 from by rw [hy44, hc44]; exact zec hroom44 _)
         clear hr44 hC44 hroom44 hi044 hsz44 hc44
         have KY44 := Aside0.mk hy44
         have KA44 := Aside0.mk hA44
         clear hy44 hA44
         replace q44 := zcw q44
         refine start_ (n := 21) (S := fun w' => w'.cell? ⟨ad132.block, ad132.off + 1, none⟩ = some (.int .u8 (rd l0 1)) ∧ w'.cell? ⟨ad132.block, ad132.off + 2, none⟩ = some (.int .u8 (rd l0 2))) (ds := []) #[false, false, false, false, false, false, false, false, false, false, false, false, false, false, false, false, false, false, false, false, false] (by kernel_rfl) rfl rfl ⟨hx132_0, hx133_0⟩ (fun hHeld => ?_); refine with_tabW impl_LetterOf.tab3 impl_LetterOf.bits3 (fun HT_ HW_ => ?_)
         generalize wc.drew = w42 at HO_0 BK130 HB HO138 HO149 hx132_0 hx133_0 hHeld ⊢
         refine pure_ (i := 0) (N := some 15) (v := ?_) (a' := ?_) #[true, false, false, false, false, false, false, false, false, false, false, false, false, false, false, false, false, false, false, false, false] rfl rfl (any_of HT_.out (by kernel_rfl)) (fun _ _ _ h => h) (Or.inl ⟨by rfl, ?_⟩) ?_ ?_
         rotate_left
         ·intro w'
          go_simp
          with_reducible rfl
         rotate_left
         ·simp only [Act.put, zaa, zac, zad, i64_w, i32_w]
          rfl
         refine pure_ (i := 1) (N := some 16) (v := ?_) (a' := ?_) #[true, true, false, false, false, false, false, false, false, false, false, false, false, false, false, false, false, false, false, false, false] rfl rfl (any_of HT_.out (by kernel_rfl)) (fun _ _ _ h => h) (Or.inl ⟨by rfl, ?_⟩) ?_ ?_
         rotate_left
         ·intro w'
          go_simp
          with_reducible rfl
         rotate_left
         ·simp only [Act.put, zaa, zac, zad, i64_w, i32_w]
          rfl
         refine pure_ (i := 5) (N := some 20) (v := ?_) (a' := ?_) #[true, true, false, false, false, true, false, false, false, false, false, false, false, false, false, false, false, false, false, false, false] rfl rfl (any_of HT_.out (by kernel_rfl)) (fun _ _ _ h => h) (Or.inl ⟨by rfl, ?_⟩) ?_ ?_
         rotate_left
         ·intro w'
          go_simp
          with_reducible rfl
         rotate_left
         ·simp only [Act.put, zaa, zac, zad, i64_w, i32_w]
          rfl
         refine pure_ (i := 6) (N := some 21) (v := ?_) (a' := ?_) #[true, true, false, false, false, true, true, false, false, false, false, false, false, false, false, false, false, false, false, false, false] rfl rfl (any_of HT_.out (by kernel_rfl)) (fun _ _ _ h => h) (Or.inl ⟨by rfl, ?_⟩) ?_ ?_
         rotate_left
         ·intro w'
          go_simp
          with_reducible rfl
         rotate_left
         ·simp only [Act.put, zaa, zac, zad, i64_w, i32_w]
          rfl
         refine pure_ (i := 10) (N := some 25) (v := ?_) (a' := ?_) #[true, true, false, false, false, true, true, false, false, false, true, false, false, false, false, false, false, false, false, false, false] rfl rfl (any_of HT_.out (by kernel_rfl)) (fun _ _ _ h => h) (Or.inl ⟨by rfl, ?_⟩) ?_ ?_
         rotate_left
         ·intro w'
          go_simp
          with_reducible rfl
         rotate_left
         ·simp only [Act.put, zaa, zac, zad, i64_w, i32_w]
          rfl
         refine pure_ (i := 11) (N := some 26) (v := ?_) (a' := ?_) #[true, true, false, false, false, true, true, false, false, false, true, true, false, false, false, false, false, false, false, false, false] rfl rfl (any_of HT_.out (by kernel_rfl)) (fun _ _ _ h => h) (Or.inl ⟨by rfl, ?_⟩) ?_ ?_
         rotate_left
         ·intro w'
          go_simp
          with_reducible rfl
         rotate_left
         ·simp only [Act.put, zaa, zac, zad, i64_w, i32_w]
          rfl
         refine pure_ (i := 14) (N := some 29) (v := ?_) (a' := ?_) #[true, true, false, false, false, true, true, false, false, false, true, true, false, false, true, false, false, false, false, false, false] rfl rfl (any_of HT_.out (by kernel_rfl)) (fun _ _ _ h => h) (Or.inl ⟨by rfl, ?_⟩) ?_ ?_
         rotate_left
         ·intro w'
          go_simp
          with_reducible rfl
         rotate_left
         ·simp only [Act.put, zaa, zac, zad, i64_w, i32_w]
          rfl
         refine pure_ (i := 15) (N := some 30) (v := ?_) (a' := ?_) #[true, true, false, false, false, true, true, false, false, false, true, true, false, false, true, true, false, false, false, false, false] rfl rfl (any_of HT_.out (by kernel_rfl)) (fun _ _ _ h => h) (Or.inl ⟨by rfl, ?_⟩) ?_ ?_
         rotate_left
         ·intro w'
          go_simp
          with_reducible rfl
         rotate_left
         ·simp only [Act.put, zaa, zac, zad, i64_w, i32_w]
          rfl
         refine take_ (i := 2) (N := some 17) (v := ?_) (a' := ?_) #[true, true, true, false, false, true, true, false, false, false, true, true, false, false, true, true, false, false, false, false, false] rfl rfl (take_ofW HT_.out HW_.out (by kernel_rfl)) (fun _ _ _ h => h) (Or.inl ⟨by rfl, ?_⟩) hHeld ?_ ?_
         rotate_left
         ·rintro w' ⟨s0, s1⟩
          go_simp
          with_reducible rfl
         rotate_left
         ·simp only [Act.put, zaa, zac, zad, i64_w, i32_w]
          rfl
         refine pure_ (i := 3) (N := some 18) (v := ?_) (a' := ?_) #[true, true, true, true, false, true, true, false, false, false, true, true, false, false, true, true, false, false, false, false, false] rfl rfl (any_of HT_.out (by kernel_rfl)) (fun _ _ _ h => h) (Or.inl ⟨by rfl, ?_⟩) ?_ ?_
         rotate_left
         ·intro w'
          go_simp
          with_reducible rfl
         rotate_left
         ·simp only [Act.put, zaa, zac, zad, i64_w, i32_w]
          rfl
         refine pure_ (i := 4) (N := some 19) (v := ?_) (a' := ?_) #[true, true, true, true, true, true, true, false, false, false, true, true, false, false, true, true, false, false, false, false, false] rfl rfl (any_of HT_.out (by kernel_rfl)) (fun _ _ _ h => h) (Or.inl ⟨by rfl, ?_⟩) ?_ ?_
         rotate_left
         ·intro w'
          go_simp
          with_reducible rfl
         rotate_left
         ·simp only [Act.put, zaa, zac, zad, i64_w, i32_w]
          rfl
         refine take_ (i := 7) (N := some 22) (v := ?_) (a' := ?_) #[true, true, true, true, true, true, true, true, false, false, true, true, false, false, true, true, false, false, false, false, false] rfl rfl (take_ofW HT_.out HW_.out (by kernel_rfl)) (fun _ _ _ h => h) (Or.inl ⟨by rfl, ?_⟩) hHeld ?_ ?_
         rotate_left
         ·rintro w' ⟨s0, s1⟩
          go_simp
          with_reducible rfl
         rotate_left
         ·simp only [Act.put, zaa, zac, zad, i64_w, i32_w]
          rfl
         refine pure_ (i := 8) (N := some 23) (v := ?_) (a' := ?_) #[true, true, true, true, true, true, true, true, true, false, true, true, false, false, true, true, false, false, false, false, false] rfl rfl (any_of HT_.out (by kernel_rfl)) (fun _ _ _ h => h) (Or.inl ⟨by rfl, ?_⟩) ?_ ?_
         rotate_left
         ·intro w'
          go_simp
          with_reducible rfl
         rotate_left
         ·simp only [Act.put, zaa, zac, zad, i64_w, i32_w]
          rfl
         refine pure_ (i := 9) (N := some 24) (v := ?_) (a' := ?_) #[true, true, true, true, true, true, true, true, true, true, true, true, false, false, true, true, false, false, false, false, false] rfl rfl (any_of HT_.out (by kernel_rfl)) (fun _ _ _ h => h) (Or.inl ⟨by rfl, ?_⟩) ?_ ?_
         rotate_left
         ·intro w'
          go_simp
          with_reducible rfl
         rotate_left
         ·simp only [Act.put, zaa, zac, zad, i64_w, i32_w]
          rfl
         refine join_ (σ := Value × Value × Value × Value × Nat) 1 #[true, true, true, true, true, true, true, true, true, true, true, true, true, true, true, true, true, true, true, true, false] (fun s_ => [(27, s_.1), (28, s_.2.1), (31, s_.2.2.1), (32, s_.2.2.2.1), (4, .pointer (some ⟨s_.2.2.2.2, 0, none⟩)), (33, .agg #[.int .i64 (Go.bits .or .i64 (wrap64 ((wrap64 (rd l0 1)) * 256)) (wrap64 (rd l0 2))), s_.2.1, s_.2.2.2.1])]) (fun s_ w' => (w'.cell? ⟨ad132.block, ad132.off + 1, none⟩ = some (.int .u8 (rd l0 1)) ∧ w'.cell? ⟨ad132.block, ad132.off + 2, none⟩ = some (.int .u8 (rd l0 2))) ∧ (Kd.V (Kd.int .u8) 5 w' w.heap.size (fun k_ => (P0_ k_ ∨ w.heap.size ≤ k_) ∧ some k_ ≠ (s_.1 : Value).ownBlock ∧ some k_ ≠ (s_.2.1 : Value).ownBlock ∧ some k_ ≠ (s_.2.2.1 : Value).ownBlock ∧ some k_ ≠ (s_.2.2.2.1 : Value).ownBlock ∧ k_ ≠ gb130 ∧ k_ ≠ s_.2.2.2.2) (.slice A43 y134.length c43) y134) ∧ (Kd.N (Kd.slice 5 (Kd.int .u8)) 22 w' w.heap.size (fun k_ => (P0_ k_ ∨ w.heap.size ≤ k_) ∧ some k_ ≠ (s_.2.1 : Value).ownBlock ∧ some k_ ≠ (s_.2.2.1 : Value).ownBlock ∧ some k_ ≠ (s_.2.2.2.1 : Value).ownBlock ∧ k_ ≠ gb130 ∧ k_ ≠ s_.2.2.2.2) s_.1 y139) ∧ (Kd.R (Kd.int .u8) 5 w' w.heap.size (fun k_ => (w.heap.size ≤ k_) ∧ some k_ ≠ (s_.2.2.2.1 : Value).ownBlock) s_.2.1 t142) ∧ (Kd.V (Kd.int .u8) 5 w' w.heap.size (fun k_ => (P0_ k_ ∨ w.heap.size ≤ k_) ∧ some k_ ≠ (s_.1 : Value).ownBlock ∧ some k_ ≠ (s_.2.1 : Value).ownBlock ∧ some k_ ≠ (s_.2.2.1 : Value).ownBlock ∧ some k_ ≠ (s_.2.2.2.1 : Value).ownBlock ∧ k_ ≠ gb130 ∧ k_ ≠ s_.2.2.2.2) (.slice A44 y145.length c44) y145) ∧ (Kd.N (Kd.slice 5 (Kd.int .u8)) 22 w' w.heap.size (fun k_ => (P0_ k_ ∨ w.heap.size ≤ k_) ∧ some k_ ≠ (s_.1 : Value).ownBlock ∧ some k_ ≠ (s_.2.1 : Value).ownBlock ∧ some k_ ≠ (s_.2.2.2.1 : Value).ownBlock ∧ k_ ≠ gb130 ∧ k_ ≠ s_.2.2.2.2) s_.2.2.1 y150) ∧ (Kd.R (Kd.int .u8) 5 w' w.heap.size (fun k_ => (w.heap.size ≤ k_) ∧ some k_ ≠ (s_.2.1 : Value).ownBlock) s_.2.2.2.1 t153) ∧ (Kd.V (Kd.int .u8) 5 w' w.heap.size (fun k_ => (P0_ k_ ∨ w.heap.size ≤ k_) ∧ some k_ ≠ (s_.1 : Value).ownBlock ∧ some k_ ≠ (s_.2.1 : Value).ownBlock ∧ some k_ ≠ (s_.2.2.1 : Value).ownBlock ∧ some k_ ≠ (s_.2.2.2.1 : Value).ownBlock ∧ k_ ≠ gb130 ∧ k_ ≠ s_.2.2.2.2) (.slice (some ad132) l0.length c0) l0) ∧ (w'.heap[gb130]? = some (.cells #[.int .i64 0, .slice none 0 0, .slice none 0 0] 24 (0, 0))) ∧ (w'.heap[s_.2.2.2.2]? = some (.cells #[.int .i64 0, .slice none 0 0, .slice none 0 0] 24 (0, 0))) ∧ (w.heap.size ≤ s_.2.2.2.2) ∧ (w.heap.size ≤ s_.2.2.2.2) ∧ (gb130 ≠ s_.2.2.2.2) ∧ (s_.2.2.2.2 ≠ gb130) ∧ (Below w.heap.size w w')) ?_ ?_
         rotate_left
         ·intro hJ12_13_16_17_19
          refine join_ (σ := Value × Value × Value × Value) 2 #[true, true, true, true, true, true, true, true, true, true, true, true, true, true, true, true, true, true, true, false, false] (fun s_ => [(27, s_.1), (28, s_.2.1), (31, s_.2.2.1), (32, s_.2.2.2), (33, .agg #[.int .i64 (Go.bits .or .i64 (wrap64 ((wrap64 (rd l0 1)) * 256)) (wrap64 (rd l0 2))), s_.2.1, s_.2.2.2])]) (fun s_ w' => (w'.cell? ⟨ad132.block, ad132.off + 1, none⟩ = some (.int .u8 (rd l0 1)) ∧ w'.cell? ⟨ad132.block, ad132.off + 2, none⟩ = some (.int .u8 (rd l0 2))) ∧ (Kd.V (Kd.int .u8) 5 w' w.heap.size (fun k_ => (P0_ k_ ∨ w.heap.size ≤ k_) ∧ some k_ ≠ (s_.1 : Value).ownBlock ∧ some k_ ≠ (s_.2.1 : Value).ownBlock ∧ some k_ ≠ (s_.2.2.1 : Value).ownBlock ∧ some k_ ≠ (s_.2.2.2 : Value).ownBlock ∧ k_ ≠ gb130) (.slice A43 y134.length c43) y134) ∧ (Kd.N (Kd.slice 5 (Kd.int .u8)) 22 w' w.heap.size (fun k_ => (P0_ k_ ∨ w.heap.size ≤ k_) ∧ some k_ ≠ (s_.2.1 : Value).ownBlock ∧ some k_ ≠ (s_.2.2.1 : Value).ownBlock ∧ some k_ ≠ (s_.2.2.2 : Value).ownBlock ∧ k_ ≠ gb130) s_.1 y139) ∧ (Kd.R (Kd.int .u8) 5 w' w.heap.size (fun k_ => (w.heap.size ≤ k_) ∧ some k_ ≠ (s_.2.2.2 : Value).ownBlock) s_.2.1 t142) ∧ (Kd.V (Kd.int .u8) 5 w' w.heap.size (fun k_ => (P0_ k_ ∨ w.heap.size ≤ k_) ∧ some k_ ≠ (s_.1 : Value).ownBlock ∧ some k_ ≠ (s_.2.1 : Value).ownBlock ∧ some k_ ≠ (s_.2.2.1 : Value).ownBlock ∧ some k_ ≠ (s_.2.2.2 : Value).ownBlock ∧ k_ ≠ gb130) (.slice A44 y145.length c44) y145) ∧ (Kd.N (Kd.slice 5 (Kd.int .u8)) 22 w' w.heap.size (fun k_ => (P0_ k_ ∨ w.heap.size ≤ k_) ∧ some k_ ≠ (s_.1 : Value).ownBlock ∧ some k_ ≠ (s_.2.1 : Value).ownBlock ∧ some k_ ≠ (s_.2.2.2 : Value).ownBlock ∧ k_ ≠ gb130) s_.2.2.1 y150) ∧ (Kd.R (Kd.int .u8) 5 w' w.heap.size (fun k_ => (w.heap.size ≤ k_) ∧ some k_ ≠ (s_.2.1 : Value).ownBlock) s_.2.2.2 t153) ∧ (Kd.V (Kd.int .u8) 5 w' w.heap.size (fun k_ => (P0_ k_ ∨ w.heap.size ≤ k_) ∧ some k_ ≠ (s_.1 : Value).ownBlock ∧ some k_ ≠ (s_.2.1 : Value).ownBlock ∧ some k_ ≠ (s_.2.2.1 : Value).ownBlock ∧ some k_ ≠ (s_.2.2.2 : Value).ownBlock ∧ k_ ≠ gb130) (.slice (some ad132) l0.length c0) l0) ∧ (w'.heap[gb130]? = some (.cells #[.int .i64 0, .slice none 0 0, .slice none 0 0] 24 (0, 0))) ∧ (Below w.heap.size w w')) ?_ ?_
          rotate_left
          ·intro hJ12_13_16_17
           refine join_ (σ := Value × Value × Value × Nat) 3 #[true, true, true, true, true, true, true, true, true, true, true, true, true, true, true, true, true, false, false, true, false] (fun s_ => [(27, s_.1), (28, s_.2.1), (31, s_.2.2.1), (4, .pointer (some ⟨s_.2.2.2, 0, none⟩))]) (fun s_ w' => (w'.cell? ⟨ad132.block, ad132.off + 1, none⟩ = some (.int .u8 (rd l0 1)) ∧ w'.cell? ⟨ad132.block, ad132.off + 2, none⟩ = some (.int .u8 (rd l0 2))) ∧ (Kd.V (Kd.int .u8) 5 w' w.heap.size (fun k_ => (P0_ k_ ∨ w.heap.size ≤ k_) ∧ some k_ ≠ (s_.1 : Value).ownBlock ∧ some k_ ≠ (s_.2.1 : Value).ownBlock ∧ some k_ ≠ (s_.2.2.1 : Value).ownBlock ∧ k_ ≠ gb130 ∧ k_ ≠ s_.2.2.2) (.slice A43 y134.length c43) y134) ∧ (Kd.N (Kd.slice 5 (Kd.int .u8)) 22 w' w.heap.size (fun k_ => (P0_ k_ ∨ w.heap.size ≤ k_) ∧ some k_ ≠ (s_.2.1 : Value).ownBlock ∧ some k_ ≠ (s_.2.2.1 : Value).ownBlock ∧ k_ ≠ gb130 ∧ k_ ≠ s_.2.2.2) s_.1 y139) ∧ (Kd.R (Kd.int .u8) 5 w' w.heap.size (fun k_ => (w.heap.size ≤ k_)) s_.2.1 t142) ∧ (Kd.V (Kd.int .u8) 5 w' w.heap.size (fun k_ => (P0_ k_ ∨ w.heap.size ≤ k_) ∧ some k_ ≠ (s_.1 : Value).ownBlock ∧ some k_ ≠ (s_.2.1 : Value).ownBlock ∧ some k_ ≠ (s_.2.2.1 : Value).ownBlock ∧ k_ ≠ gb130 ∧ k_ ≠ s_.2.2.2) (.slice A44 y145.length c44) y145) ∧ (Kd.N (Kd.slice 5 (Kd.int .u8)) 22 w' w.heap.size (fun k_ => (P0_ k_ ∨ w.heap.size ≤ k_) ∧ some k_ ≠ (s_.1 : Value).ownBlock ∧ some k_ ≠ (s_.2.1 : Value).ownBlock ∧ k_ ≠ gb130 ∧ k_ ≠ s_.2.2.2) s_.2.2.1 y150) ∧ (Kd.V (Kd.int .u8) 5 w' w.heap.size (fun k_ => (P0_ k_ ∨ w.heap.size ≤ k_) ∧ some k_ ≠ (s_.1 : Value).ownBlock ∧ some k_ ≠ (s_.2.1 : Value).ownBlock ∧ some k_ ≠ (s_.2.2.1 : Value).ownBlock ∧ k_ ≠ gb130 ∧ k_ ≠ s_.2.2.2) (.slice (some ad132) l0.length c0) l0) ∧ (w'.heap[gb130]? = some (.cells #[.int .i64 0, .slice none 0 0, .slice none 0 0] 24 (0, 0))) ∧ (w'.heap[s_.2.2.2]? = some (.cells #[.int .i64 0, .slice none 0 0, .slice none 0 0] 24 (0, 0))) ∧ (w.heap.size ≤ s_.2.2.2) ∧ (w.heap.size ≤ s_.2.2.2) ∧ (gb130 ≠ s_.2.2.2) ∧ (s_.2.2.2 ≠ gb130) ∧ (Below w.heap.size w w')) ?_ ?_
           rotate_left
           ·intro hJ12_13_16_19
            refine join_ (σ := Value × Value × Value) 4 #[true, true, true, true, true, true, true, true, true, true, true, true, true, true, true, true, true, false, false, false, false] (fun s_ => [(27, s_.1), (28, s_.2.1), (31, s_.2.2)]) (fun s_ w' => (w'.cell? ⟨ad132.block, ad132.off + 1, none⟩ = some (.int .u8 (rd l0 1)) ∧ w'.cell? ⟨ad132.block, ad132.off + 2, none⟩ = some (.int .u8 (rd l0 2))) ∧ (Kd.V (Kd.int .u8) 5 w' w.heap.size (fun k_ => (P0_ k_ ∨ w.heap.size ≤ k_) ∧ some k_ ≠ (s_.1 : Value).ownBlock ∧ some k_ ≠ (s_.2.1 : Value).ownBlock ∧ some k_ ≠ (s_.2.2 : Value).ownBlock ∧ k_ ≠ gb130) (.slice A43 y134.length c43) y134) ∧ (Kd.N (Kd.slice 5 (Kd.int .u8)) 22 w' w.heap.size (fun k_ => (P0_ k_ ∨ w.heap.size ≤ k_) ∧ some k_ ≠ (s_.2.1 : Value).ownBlock ∧ some k_ ≠ (s_.2.2 : Value).ownBlock ∧ k_ ≠ gb130) s_.1 y139) ∧ (Kd.R (Kd.int .u8) 5 w' w.heap.size (fun k_ => (w.heap.size ≤ k_)) s_.2.1 t142) ∧ (Kd.V (Kd.int .u8) 5 w' w.heap.size (fun k_ => (P0_ k_ ∨ w.heap.size ≤ k_) ∧ some k_ ≠ (s_.1 : Value).ownBlock ∧ some k_ ≠ (s_.2.1 : Value).ownBlock ∧ some k_ ≠ (s_.2.2 : Value).ownBlock ∧ k_ ≠ gb130) (.slice A44 y145.length c44) y145) ∧ (Kd.N (Kd.slice 5 (Kd.int .u8)) 22 w' w.heap.size (fun k_ => (P0_ k_ ∨ w.heap.size ≤ k_) ∧ some k_ ≠ (s_.1 : Value).ownBlock ∧ some k_ ≠ (s_.2.1 : Value).ownBlock ∧ k_ ≠ gb130) s_.2.2 y150) ∧ (Kd.V (Kd.int .u8) 5 w' w.heap.size (fun k_ => (P0_ k_ ∨ w.heap.size ≤ k_) ∧ some k_ ≠ (s_.1 : Value).ownBlock ∧ some k_ ≠ (s_.2.1 : Value).ownBlock ∧ some k_ ≠ (s_.2.2 : Value).ownBlock ∧ k_ ≠ gb130) (.slice (some ad132) l0.length c0) l0) ∧ (w'.heap[gb130]? = some (.cells #[.int .i64 0, .slice none 0 0, .slice none 0 0] 24 (0, 0))) ∧ (Below w.heap.size w w')) ?_ ?_
            rotate_left
            ·intro hJ12_13_16
             refine join_ (σ := Value × Value × Nat) 4 #[true, true, true, true, true, true, true, true, true, true, true, true, true, true, true, true, false, false, false, true, false] (fun s_ => [(27, s_.1), (28, s_.2.1), (4, .pointer (some ⟨s_.2.2, 0, none⟩))]) (fun s_ w' => (w'.cell? ⟨ad132.block, ad132.off + 1, none⟩ = some (.int .u8 (rd l0 1)) ∧ w'.cell? ⟨ad132.block, ad132.off + 2, none⟩ = some (.int .u8 (rd l0 2))) ∧ (Kd.V (Kd.int .u8) 5 w' w.heap.size (fun k_ => (P0_ k_ ∨ w.heap.size ≤ k_) ∧ some k_ ≠ (s_.1 : Value).ownBlock ∧ some k_ ≠ (s_.2.1 : Value).ownBlock ∧ k_ ≠ gb130 ∧ k_ ≠ s_.2.2) (.slice A43 y134.length c43) y134) ∧ (Kd.N (Kd.slice 5 (Kd.int .u8)) 22 w' w.heap.size (fun k_ => (P0_ k_ ∨ w.heap.size ≤ k_) ∧ some k_ ≠ (s_.2.1 : Value).ownBlock ∧ k_ ≠ gb130 ∧ k_ ≠ s_.2.2) s_.1 y139) ∧ (Kd.R (Kd.int .u8) 5 w' w.heap.size (fun k_ => (w.heap.size ≤ k_)) s_.2.1 t142) ∧ (Kd.V (Kd.int .u8) 5 w' w.heap.size (fun k_ => (P0_ k_ ∨ w.heap.size ≤ k_) ∧ some k_ ≠ (s_.1 : Value).ownBlock ∧ some k_ ≠ (s_.2.1 : Value).ownBlock ∧ k_ ≠ gb130 ∧ k_ ≠ s_.2.2) (.slice A44 y145.length c44) y145) ∧ (Kd.V (Kd.int .u8) 5 w' w.heap.size (fun k_ => (P0_ k_ ∨ w.heap.size ≤ k_) ∧ some k_ ≠ (s_.1 : Value).ownBlock ∧ some k_ ≠ (s_.2.1 : Value).ownBlock ∧ k_ ≠ gb130 ∧ k_ ≠ s_.2.2) (.slice (some ad132) l0.length c0) l0) ∧ (w'.heap[gb130]? = some (.cells #[.int .i64 0, .slice none 0 0, .slice none 0 0] 24 (0, 0))) ∧ (w'.heap[s_.2.2]? = some (.cells #[.int .i64 0, .slice none 0 0, .slice none 0 0] 24 (0, 0))) ∧ (w.heap.size ≤ s_.2.2) ∧ (w.heap.size ≤ s_.2.2) ∧ (gb130 ≠ s_.2.2) ∧ (s_.2.2 ≠ gb130) ∧ (Below w.heap.size w w')) ?_ ?_
             rotate_left
             ·intro hJ12_13_19
              refine join_ (σ := Value × Value × Nat) 4 #[true, true, true, true, true, true, true, true, true, true, true, true, true, false, true, true, true, false, false, true, false] (fun s_ => [(27, s_.1), (31, s_.2.1), (4, .pointer (some ⟨s_.2.2, 0, none⟩))]) (fun s_ w' => (w'.cell? ⟨ad132.block, ad132.off + 1, none⟩ = some (.int .u8 (rd l0 1)) ∧ w'.cell? ⟨ad132.block, ad132.off + 2, none⟩ = some (.int .u8 (rd l0 2))) ∧ (Kd.V (Kd.int .u8) 5 w' w.heap.size (fun k_ => (P0_ k_ ∨ w.heap.size ≤ k_) ∧ some k_ ≠ (s_.1 : Value).ownBlock ∧ some k_ ≠ (s_.2.1 : Value).ownBlock ∧ k_ ≠ gb130 ∧ k_ ≠ s_.2.2) (.slice A43 y134.length c43) y134) ∧ (Kd.N (Kd.slice 5 (Kd.int .u8)) 22 w' w.heap.size (fun k_ => (P0_ k_ ∨ w.heap.size ≤ k_) ∧ some k_ ≠ (s_.2.1 : Value).ownBlock ∧ k_ ≠ gb130 ∧ k_ ≠ s_.2.2) s_.1 y139) ∧ (Kd.V (Kd.int .u8) 5 w' w.heap.size (fun k_ => (P0_ k_ ∨ w.heap.size ≤ k_) ∧ some k_ ≠ (s_.1 : Value).ownBlock ∧ some k_ ≠ (s_.2.1 : Value).ownBlock ∧ k_ ≠ gb130 ∧ k_ ≠ s_.2.2) (.slice A44 y145.length c44) y145) ∧ (Kd.N (Kd.slice 5 (Kd.int .u8)) 22 w' w.heap.size (fun k_ => (P0_ k_ ∨ w.heap.size ≤ k_) ∧ some k_ ≠ (s_.1 : Value).ownBlock ∧ k_ ≠ gb130 ∧ k_ ≠ s_.2.2) s_.2.1 y150) ∧ (Kd.V (Kd.int .u8) 5 w' w.heap.size (fun k_ => (P0_ k_ ∨ w.heap.size ≤ k_) ∧ some k_ ≠ (s_.1 : Value).ownBlock ∧ some k_ ≠ (s_.2.1 : Value).ownBlock ∧ k_ ≠ gb130 ∧ k_ ≠ s_.2.2) (.slice (some ad132) l0.length c0) l0) ∧ (w'.heap[gb130]? = some (.cells #[.int .i64 0, .slice none 0 0, .slice none 0 0] 24 (0, 0))) ∧ (w'.heap[s_.2.2]? = some (.cells #[.int .i64 0, .slice none 0 0, .slice none 0 0] 24 (0, 0))) ∧ (w.heap.size ≤ s_.2.2) ∧ (w.heap.size ≤ s_.2.2) ∧ (gb130 ≠ s_.2.2) ∧ (s_.2.2 ≠ gb130) ∧ (Below w.heap.size w w')) ?_ ?_
              rotate_left
              ·intro hJ12_16_19
               refine join_ (σ := Value × Value) 5 #[true, true, true, true, true, true, true, true, true, true, true, true, true, true, true, true, false, false, false, false, false] (fun s_ => [(27, s_.1), (28, s_.2)]) (fun s_ w' => (w'.cell? ⟨ad132.block, ad132.off + 1, none⟩ = some (.int .u8 (rd l0 1)) ∧ w'.cell? ⟨ad132.block, ad132.off + 2, none⟩ = some (.int .u8 (rd l0 2))) ∧ (Kd.V (Kd.int .u8) 5 w' w.heap.size (fun k_ => (P0_ k_ ∨ w.heap.size ≤ k_) ∧ some k_ ≠ (s_.1 : Value).ownBlock ∧ some k_ ≠ (s_.2 : Value).ownBlock ∧ k_ ≠ gb130) (.slice A43 y134.length c43) y134) ∧ (Kd.N (Kd.slice 5 (Kd.int .u8)) 22 w' w.heap.size (fun k_ => (P0_ k_ ∨ w.heap.size ≤ k_) ∧ some k_ ≠ (s_.2 : Value).ownBlock ∧ k_ ≠ gb130) s_.1 y139) ∧ (Kd.R (Kd.int .u8) 5 w' w.heap.size (fun k_ => (w.heap.size ≤ k_)) s_.2 t142) ∧ (Kd.V (Kd.int .u8) 5 w' w.heap.size (fun k_ => (P0_ k_ ∨ w.heap.size ≤ k_) ∧ some k_ ≠ (s_.1 : Value).ownBlock ∧ some k_ ≠ (s_.2 : Value).ownBlock ∧ k_ ≠ gb130) (.slice A44 y145.length c44) y145) ∧ (Kd.V (Kd.int .u8) 5 w' w.heap.size (fun k_ => (P0_ k_ ∨ w.heap.size ≤ k_) ∧ some k_ ≠ (s_.1 : Value).ownBlock ∧ some k_ ≠ (s_.2 : Value).ownBlock ∧ k_ ≠ gb130) (.slice (some ad132) l0.length c0) l0) ∧ (w'.heap[gb130]? = some (.cells #[.int .i64 0, .slice none 0 0, .slice none 0 0] 24 (0, 0))) ∧ (Below w.heap.size w w')) ?_ ?_
               rotate_left
               ·intro hJ12_13
                refine join_ (σ := Value × Value) 5 #[true, true, true, true, true, true, true, true, true, true, true, true, true, false, true, true, true, false, false, false, false] (fun s_ => [(27, s_.1), (31, s_.2)]) (fun s_ w' => (w'.cell? ⟨ad132.block, ad132.off + 1, none⟩ = some (.int .u8 (rd l0 1)) ∧ w'.cell? ⟨ad132.block, ad132.off + 2, none⟩ = some (.int .u8 (rd l0 2))) ∧ (Kd.V (Kd.int .u8) 5 w' w.heap.size (fun k_ => (P0_ k_ ∨ w.heap.size ≤ k_) ∧ some k_ ≠ (s_.1 : Value).ownBlock ∧ some k_ ≠ (s_.2 : Value).ownBlock ∧ k_ ≠ gb130) (.slice A43 y134.length c43) y134) ∧ (Kd.N (Kd.slice 5 (Kd.int .u8)) 22 w' w.heap.size (fun k_ => (P0_ k_ ∨ w.heap.size ≤ k_) ∧ some k_ ≠ (s_.2 : Value).ownBlock ∧ k_ ≠ gb130) s_.1 y139) ∧ (Kd.V (Kd.int .u8) 5 w' w.heap.size (fun k_ => (P0_ k_ ∨ w.heap.size ≤ k_) ∧ some k_ ≠ (s_.1 : Value).ownBlock ∧ some k_ ≠ (s_.2 : Value).ownBlock ∧ k_ ≠ gb130) (.slice A44 y145.length c44) y145) ∧ (Kd.N (Kd.slice 5 (Kd.int .u8)) 22 w' w.heap.size (fun k_ => (P0_ k_ ∨ w.heap.size ≤ k_) ∧ some k_ ≠ (s_.1 : Value).ownBlock ∧ k_ ≠ gb130) s_.2 y150) ∧ (Kd.V (Kd.int .u8) 5 w' w.heap.size (fun k_ => (P0_ k_ ∨ w.heap.size ≤ k_) ∧ some k_ ≠ (s_.1 : Value).ownBlock ∧ some k_ ≠ (s_.2 : Value).ownBlock ∧ k_ ≠ gb130) (.slice (some ad132) l0.length c0) l0) ∧ (w'.heap[gb130]? = some (.cells #[.int .i64 0, .slice none 0 0, .slice none 0 0] 24 (0, 0))) ∧ (Below w.heap.size w w')) ?_ ?_
                rotate_left
                ·intro hJ12_16
                 refine join_ (σ := Value × Nat) 5 #[true, true, true, true, true, true, true, true, true, true, true, true, true, false, true, true, false, false, false, true, false] (fun s_ => [(27, s_.1), (4, .pointer (some ⟨s_.2, 0, none⟩))]) (fun s_ w' => (w'.cell? ⟨ad132.block, ad132.off + 1, none⟩ = some (.int .u8 (rd l0 1)) ∧ w'.cell? ⟨ad132.block, ad132.off + 2, none⟩ = some (.int .u8 (rd l0 2))) ∧ (Kd.V (Kd.int .u8) 5 w' w.heap.size (fun k_ => (P0_ k_ ∨ w.heap.size ≤ k_) ∧ some k_ ≠ (s_.1 : Value).ownBlock ∧ k_ ≠ gb130 ∧ k_ ≠ s_.2) (.slice A43 y134.length c43) y134) ∧ (Kd.N (Kd.slice 5 (Kd.int .u8)) 22 w' w.heap.size (fun k_ => (P0_ k_ ∨ w.heap.size ≤ k_) ∧ k_ ≠ gb130 ∧ k_ ≠ s_.2) s_.1 y139) ∧ (Kd.V (Kd.int .u8) 5 w' w.heap.size (fun k_ => (P0_ k_ ∨ w.heap.size ≤ k_) ∧ some k_ ≠ (s_.1 : Value).ownBlock ∧ k_ ≠ gb130 ∧ k_ ≠ s_.2) (.slice A44 y145.length c44) y145) ∧ (Kd.V (Kd.int .u8) 5 w' w.heap.size (fun k_ => (P0_ k_ ∨ w.heap.size ≤ k_) ∧ some k_ ≠ (s_.1 : Value).ownBlock ∧ k_ ≠ gb130 ∧ k_ ≠ s_.2) (.slice (some ad132) l0.length c0) l0) ∧ (w'.heap[gb130]? = some (.cells #[.int .i64 0, .slice none 0 0, .slice none 0 0] 24 (0, 0))) ∧ (w'.heap[s_.2]? = some (.cells #[.int .i64 0, .slice none 0 0, .slice none 0 0] 24 (0, 0))) ∧ (w.heap.size ≤ s_.2) ∧ (w.heap.size ≤ s_.2) ∧ (gb130 ≠ s_.2) ∧ (s_.2 ≠ gb130) ∧ (Below w.heap.size w w')) ?_ ?_
                 rotate_left
                 ·intro hJ12_19
                  refine join_ (σ := Value × Nat) 5 #[true, true, true, true, true, true, true, true, true, true, true, true, false, false, true, true, true, false, false, true, false] (fun s_ => [(31, s_.1), (4, .pointer (some ⟨s_.2, 0, none⟩))]) (fun s_ w' => (w'.cell? ⟨ad132.block, ad132.off + 1, none⟩ = some (.int .u8 (rd l0 1)) ∧ w'.cell? ⟨ad132.block, ad132.off + 2, none⟩ = some (.int .u8 (rd l0 2))) ∧ (Kd.V (Kd.int .u8) 5 w' w.heap.size (fun k_ => (P0_ k_ ∨ w.heap.size ≤ k_) ∧ some k_ ≠ (s_.1 : Value).ownBlock ∧ k_ ≠ gb130 ∧ k_ ≠ s_.2) (.slice A43 y134.length c43) y134) ∧ (Kd.V (Kd.int .u8) 5 w' w.heap.size (fun k_ => (P0_ k_ ∨ w.heap.size ≤ k_) ∧ some k_ ≠ (s_.1 : Value).ownBlock ∧ k_ ≠ gb130 ∧ k_ ≠ s_.2) (.slice A44 y145.length c44) y145) ∧ (Kd.N (Kd.slice 5 (Kd.int .u8)) 22 w' w.heap.size (fun k_ => (P0_ k_ ∨ w.heap.size ≤ k_) ∧ k_ ≠ gb130 ∧ k_ ≠ s_.2) s_.1 y150) ∧ (Kd.V (Kd.int .u8) 5 w' w.heap.size (fun k_ => (P0_ k_ ∨ w.heap.size ≤ k_) ∧ some k_ ≠ (s_.1 : Value).ownBlock ∧ k_ ≠ gb130 ∧ k_ ≠ s_.2) (.slice (some ad132) l0.length c0) l0) ∧ (w'.heap[gb130]? = some (.cells #[.int .i64 0, .slice none 0 0, .slice none 0 0] 24 (0, 0))) ∧ (w'.heap[s_.2]? = some (.cells #[.int .i64 0, .slice none 0 0, .slice none 0 0] 24 (0, 0))) ∧ (w.heap.size ≤ s_.2) ∧ (w.heap.size ≤ s_.2) ∧ (gb130 ≠ s_.2) ∧ (s_.2 ≠ gb130) ∧ (Below w.heap.size w w')) ?_ ?_
                  rotate_left
                  ·intro hJ16_19
                   refine join_ (σ := Value) 6 #[true, true, true, true, true, true, true, true, true, true, true, true, true, false, true, true, false, false, false, false, false] (fun s_ => [(27, s_)]) (fun s_ w' => (w'.cell? ⟨ad132.block, ad132.off + 1, none⟩ = some (.int .u8 (rd l0 1)) ∧ w'.cell? ⟨ad132.block, ad132.off + 2, none⟩ = some (.int .u8 (rd l0 2))) ∧ (Kd.V (Kd.int .u8) 5 w' w.heap.size (fun k_ => (P0_ k_ ∨ w.heap.size ≤ k_) ∧ some k_ ≠ (s_ : Value).ownBlock ∧ k_ ≠ gb130) (.slice A43 y134.length c43) y134) ∧ (Kd.N (Kd.slice 5 (Kd.int .u8)) 22 w' w.heap.size (fun k_ => (P0_ k_ ∨ w.heap.size ≤ k_) ∧ k_ ≠ gb130) s_ y139) ∧ (Kd.V (Kd.int .u8) 5 w' w.heap.size (fun k_ => (P0_ k_ ∨ w.heap.size ≤ k_) ∧ some k_ ≠ (s_ : Value).ownBlock ∧ k_ ≠ gb130) (.slice A44 y145.length c44) y145) ∧ (Kd.V (Kd.int .u8) 5 w' w.heap.size (fun k_ => (P0_ k_ ∨ w.heap.size ≤ k_) ∧ some k_ ≠ (s_ : Value).ownBlock ∧ k_ ≠ gb130) (.slice (some ad132) l0.length c0) l0) ∧ (w'.heap[gb130]? = some (.cells #[.int .i64 0, .slice none 0 0, .slice none 0 0] 24 (0, 0))) ∧ (Below w.heap.size w w')) ?_ ?_
                   rotate_left
                   ·intro hJ12
                    refine join_ (σ := Value) 6 #[true, true, true, true, true, true, true, true, true, true, true, true, false, false, true, true, true, false, false, false, false] (fun s_ => [(31, s_)]) (fun s_ w' => (w'.cell? ⟨ad132.block, ad132.off + 1, none⟩ = some (.int .u8 (rd l0 1)) ∧ w'.cell? ⟨ad132.block, ad132.off + 2, none⟩ = some (.int .u8 (rd l0 2))) ∧ (Kd.V (Kd.int .u8) 5 w' w.heap.size (fun k_ => (P0_ k_ ∨ w.heap.size ≤ k_) ∧ some k_ ≠ (s_ : Value).ownBlock ∧ k_ ≠ gb130) (.slice A43 y134.length c43) y134) ∧ (Kd.V (Kd.int .u8) 5 w' w.heap.size (fun k_ => (P0_ k_ ∨ w.heap.size ≤ k_) ∧ some k_ ≠ (s_ : Value).ownBlock ∧ k_ ≠ gb130) (.slice A44 y145.length c44) y145) ∧ (Kd.N (Kd.slice 5 (Kd.int .u8)) 22 w' w.heap.size (fun k_ => (P0_ k_ ∨ w.heap.size ≤ k_) ∧ k_ ≠ gb130) s_ y150) ∧ (Kd.V (Kd.int .u8) 5 w' w.heap.size (fun k_ => (P0_ k_ ∨ w.heap.size ≤ k_) ∧ some k_ ≠ (s_ : Value).ownBlock ∧ k_ ≠ gb130) (.slice (some ad132) l0.length c0) l0) ∧ (w'.heap[gb130]? = some (.cells #[.int .i64 0, .slice none 0 0, .slice none 0 0] 24 (0, 0))) ∧ (Below w.heap.size w w')) ?_ ?_
                    rotate_left
                    ·intro hJ16
                     refine join_ (σ := Nat) 6 #[true, true, true, true, true, true, true, true, true, true, true, true, false, false, true, true, false, false, false, true, false] (fun s_ => [(4, .pointer (some ⟨s_, 0, none⟩))]) (fun s_ w' => (w'.cell? ⟨ad132.block, ad132.off + 1, none⟩ = some (.int .u8 (rd l0 1)) ∧ w'.cell? ⟨ad132.block, ad132.off + 2, none⟩ = some (.int .u8 (rd l0 2))) ∧ (Kd.V (Kd.int .u8) 5 w' w.heap.size (fun k_ => (P0_ k_ ∨ w.heap.size ≤ k_) ∧ k_ ≠ gb130 ∧ k_ ≠ s_) (.slice A43 y134.length c43) y134) ∧ (Kd.V (Kd.int .u8) 5 w' w.heap.size (fun k_ => (P0_ k_ ∨ w.heap.size ≤ k_) ∧ k_ ≠ gb130 ∧ k_ ≠ s_) (.slice A44 y145.length c44) y145) ∧ (Kd.V (Kd.int .u8) 5 w' w.heap.size (fun k_ => (P0_ k_ ∨ w.heap.size ≤ k_) ∧ k_ ≠ gb130 ∧ k_ ≠ s_) (.slice (some ad132) l0.length c0) l0) ∧ (w'.heap[gb130]? = some (.cells #[.int .i64 0, .slice none 0 0, .slice none 0 0] 24 (0, 0))) ∧ (w'.heap[s_]? = some (.cells #[.int .i64 0, .slice none 0 0, .slice none 0 0] 24 (0, 0))) ∧ (w.heap.size ≤ s_) ∧ (w.heap.size ≤ s_) ∧ (gb130 ≠ s_) ∧ (s_ ≠ gb130) ∧ (Below w.heap.size w w')) ?_ ?_
                     rotate_left
                     ·intro hJ19
                      refine three_ (i := 12) (j := 16) (k := 19) (Ni := some 27) (Nj := some 31) (Nk := some 4) #[true, true, true, true, true, true, true, true, true, true, true, true, true, false, true, true, false, false, false, false, false] #[true, true, true, true, true, true, true, true, true, true, true, true, false, false, true, true, true, false, false, false, false] #[true, true, true, true, true, true, true, true, true, true, true, true, false, false, true, true, false, false, false, true, false] rfl rfl rfl rfl rfl rfl (three_of HT_.out (by kernel_rfl)) (by decide) (by decide) (by decide) (fun K hK => ?_) (fun K hK => ?_) (fun K hK => ?_)
                      ·skip
                       refine zdg (Kd.slice 5 (Kd.int .u8)) _ 22 ?hg (N' := 27) ?hd (xs := ([y134] : List (List Int))) (inner := [.slice A43 y134.length c43]) (ok := (fun k_ => (P0_ k_ ∨ w.heap.size ≤ k_) ∧ k_ ≠ gb130)) (okp := (fun k_ => (P0_ k_ ∨ w.heap.size ≤ k_) ∧ k_ ≠ gb130)) ?hr ?hp (fun _ hk => hk) ((show ∀ k_, w42.heap.size ≤ k_ → (fun k_ => (P0_ k_ ∨ w.heap.size ≤ k_) ∧ k_ ≠ gb130) k_ from fun k_ hk => ⟨(.inr (zdb (zat (by repeat (first | (with_reducible first | exact HB.out | apply zah | apply zab | apply zaf | refine zag ?_ GE130.out) | exact HB.out))) hk)), zdn (g := gb130) (o := .cells #[.int .i64 0, .slice none 0 0, .slice none 0 0] 24 (0, 0)) (by (with_reducible repeat (first | refine zai ?_ _ | refine zao ?_ | refine zaj ?_ _)); exact BK130.out) k_ hk⟩) _ (zbq _)) (zcq _ _) (zbq _) (by simp) ?_; (case hd => rfl); (case hg => rfl); (case hr => first | (go_simp; done) | (go_simp; rfl)); (case hp => exact (zep (show Kd.FK (Kd.slice 5 (Kd.int .u8)) _ _ y134 [.slice A43 y134.length c43] from (zdc (zct (zar (ok' := (fun k_ => (P0_ k_ ∨ w.heap.size ≤ k_) ∧ k_ ≠ gb130)) (HO138.out) (fun k_ hk => ⟨hk.1, hk.2⟩))).2.1 (Kd.V_F (zar (ok' := (fun k_ => (P0_ k_ ∨ w.heap.size ≤ k_) ∧ k_ ≠ gb130)) (HO138.out) (fun k_ hk => ⟨hk.1, hk.2⟩))))) (zds _ _)))
                       intro v140 w45 ho46 hb hg_ hnew_
                       have HS0_ := (hb.cell (World.block_lt_of_cell? _ _ (hHeld.1))).trans (hHeld.1)
                       have HS1_ := (hb.cell (World.block_lt_of_cell? _ _ (hHeld.2))).trans (hHeld.2)
                       clear hg_ hnew_
                       (first | rw [← Ny139.out] at ho46 | (simp only [Int.reduceToNat] at ho46; rw [← Ny139.out] at ho46))
                       have n0_ := Aside0.mk (zbd (by (with_reducible repeat (first | apply zak | apply zal | apply zap)); exact HO_0.out) (zby ho46) hb)
                       have n1_ := Aside0.mk (zbd (by (with_reducible repeat (first | apply zak | apply zal | apply zap)); exact HO138.out) (zby ho46) hb)
                       have n2_ := Aside0.mk (zbd (by (with_reducible repeat (first | apply zak | apply zal | apply zap)); exact HO149.out) (zby ho46) hb)
                       have n3_ := Aside0.mk (zea ho46 (zat (by repeat (first | (with_reducible first | exact HB.out | apply zah | apply zab | apply zaf | refine zag ?_ GE130.out) | exact HB.out))))
                       have n4_ := Aside0.mk (zbf (g := gb130) (o := .cells #[.int .i64 0, .slice none 0 0, .slice none 0 0] 24 (0, 0)) (by (with_reducible repeat (first | refine zai ?_ _ | refine zao ?_ | refine zaj ?_ _)); exact BK130.out) hb)
                       have n5_ := Aside0.mk (zbh (by repeat (first | (with_reducible first | exact HB.out | apply zah | apply zab | apply zaf | refine zag ?_ GE130.out) | exact HB.out)) hb)
                       clear HO_0
                       clear HO138
                       clear HO149
                       clear BK130
                       clear HB
                       have HO_0 := n0_
                       have HO138 := n1_
                       have HO149 := n2_
                       have HO141 := n3_
                       have BK130 := n4_
                       have HB := n5_
                       clear n0_ n1_ n2_ n3_ n4_ n5_
                       clear hb ho46
                       refine hK.out _ _ ⟨HS0_, HS1_⟩ (fun hHeld => ?_)
                       clear hK K
                       refine norm_ (a' := ?_) ?_ ?_
                       rotate_left
                       ·show Act.put _ (some 27) _ = _
                        simp only [Act.put, zaa, zac, zad, i64_w, i32_w]
                        rfl
                       exact norm_ (by first | (simp only [putAll, Act.put, zaa, zac, zad]; done) | (simp only [putAll, Act.put, zaa, zac, zad]; rfl)) (hJ12 (v140) _ ⟨hHeld, (by (with_reducible repeat (first | apply zak | apply zal | apply zap)); exact zar HO138.out (fun _ hk => ⟨hk.1.1, ⟨hk.2, hk.1.2⟩⟩)), (by (with_reducible repeat (first | apply zav | apply zaw | apply zbb)); exact HO141.out), (by (with_reducible repeat (first | apply zak | apply zal | apply zap)); exact zar HO149.out (fun _ hk => ⟨hk.1.1, ⟨hk.2, hk.1.2⟩⟩)), (by (with_reducible repeat (first | apply zak | apply zal | apply zap)); exact zar HO_0.out (fun _ hk => ⟨hk.1.1, ⟨hk.2, hk.1.2⟩⟩)), (by (with_reducible repeat (first | refine zai ?_ _ | refine zao ?_ | refine zaj ?_ _)); exact BK130.out), (by repeat (first | (with_reducible first | exact HB.out | apply zah | apply zab | apply zaf | refine zag ?_ GE130.out) | exact HB.out))⟩)
                      ·skip
                       refine zdg (Kd.slice 5 (Kd.int .u8)) _ 22 ?hg (N' := 31) ?hd (xs := ([y145] : List (List Int))) (inner := [.slice A44 y145.length c44]) (ok := (fun k_ => (P0_ k_ ∨ w.heap.size ≤ k_) ∧ k_ ≠ gb130)) (okp := (fun k_ => (P0_ k_ ∨ w.heap.size ≤ k_) ∧ k_ ≠ gb130)) ?hr ?hp (fun _ hk => hk) ((show ∀ k_, w42.heap.size ≤ k_ → (fun k_ => (P0_ k_ ∨ w.heap.size ≤ k_) ∧ k_ ≠ gb130) k_ from fun k_ hk => ⟨(.inr (zdb (zat (by repeat (first | (with_reducible first | exact HB.out | apply zah | apply zab | apply zaf | refine zag ?_ GE130.out) | exact HB.out))) hk)), zdn (g := gb130) (o := .cells #[.int .i64 0, .slice none 0 0, .slice none 0 0] 24 (0, 0)) (by (with_reducible repeat (first | refine zai ?_ _ | refine zao ?_ | refine zaj ?_ _)); exact BK130.out) k_ hk⟩) _ (zbq _)) (zcq _ _) (zbq _) (by simp) ?_; (case hd => rfl); (case hg => rfl); (case hr => first | (go_simp; done) | (go_simp; rfl)); (case hp => exact (zep (show Kd.FK (Kd.slice 5 (Kd.int .u8)) _ _ y145 [.slice A44 y145.length c44] from (zdc (zct (zar (ok' := (fun k_ => (P0_ k_ ∨ w.heap.size ≤ k_) ∧ k_ ≠ gb130)) (HO149.out) (fun k_ hk => ⟨hk.1, hk.2⟩))).2.1 (Kd.V_F (zar (ok' := (fun k_ => (P0_ k_ ∨ w.heap.size ≤ k_) ∧ k_ ≠ gb130)) (HO149.out) (fun k_ hk => ⟨hk.1, hk.2⟩))))) (zds _ _)))
                       intro v151 w45 ho46 hb hg_ hnew_
                       have HS0_ := (hb.cell (World.block_lt_of_cell? _ _ (hHeld.1))).trans (hHeld.1)
                       have HS1_ := (hb.cell (World.block_lt_of_cell? _ _ (hHeld.2))).trans (hHeld.2)
                       clear hg_ hnew_
                       (first | rw [← Ny150.out] at ho46 | (simp only [Int.reduceToNat] at ho46; rw [← Ny150.out] at ho46))
                       have n0_ := Aside0.mk (zbd (by (with_reducible repeat (first | apply zak | apply zal | apply zap)); exact HO_0.out) (zby ho46) hb)
                       have n1_ := Aside0.mk (zbd (by (with_reducible repeat (first | apply zak | apply zal | apply zap)); exact HO138.out) (zby ho46) hb)
                       have n2_ := Aside0.mk (zbd (by (with_reducible repeat (first | apply zak | apply zal | apply zap)); exact HO149.out) (zby ho46) hb)
                       have n3_ := Aside0.mk (zea ho46 (zat (by repeat (first | (with_reducible first | exact HB.out | apply zah | apply zab | apply zaf | refine zag ?_ GE130.out) | exact HB.out))))
                       have n4_ := Aside0.mk (zbf (g := gb130) (o := .cells #[.int .i64 0, .slice none 0 0, .slice none 0 0] 24 (0, 0)) (by (with_reducible repeat (first | refine zai ?_ _ | refine zao ?_ | refine zaj ?_ _)); exact BK130.out) hb)
                       have n5_ := Aside0.mk (zbh (by repeat (first | (with_reducible first | exact HB.out | apply zah | apply zab | apply zaf | refine zag ?_ GE130.out) | exact HB.out)) hb)
                       clear HO_0
                       clear HO138
                       clear HO149
                       clear BK130
                       clear HB
                       have HO_0 := n0_
                       have HO138 := n1_
                       have HO149 := n2_
                       have HO152 := n3_
                       have BK130 := n4_
                       have HB := n5_
                       clear n0_ n1_ n2_ n3_ n4_ n5_
                       clear hb ho46
                       refine hK.out _ _ ⟨HS0_, HS1_⟩ (fun hHeld => ?_)
                       clear hK K
                       refine norm_ (a' := ?_) ?_ ?_
                       rotate_left
                       ·show Act.put _ (some 31) _ = _
                        simp only [Act.put, zaa, zac, zad, i64_w, i32_w]
                        rfl
                       exact norm_ (by first | (simp only [putAll, Act.put, zaa, zac, zad]; done) | (simp only [putAll, Act.put, zaa, zac, zad]; rfl)) (hJ16 (v151) _ ⟨hHeld, (by (with_reducible repeat (first | apply zak | apply zal | apply zap)); exact zar HO138.out (fun _ hk => ⟨hk.1.1, ⟨hk.2, hk.1.2⟩⟩)), (by (with_reducible repeat (first | apply zak | apply zal | apply zap)); exact zar HO149.out (fun _ hk => ⟨hk.1.1, ⟨hk.2, hk.1.2⟩⟩)), (by (with_reducible repeat (first | apply zav | apply zaw | apply zbb)); exact HO152.out), (by (with_reducible repeat (first | apply zak | apply zal | apply zap)); exact zar HO_0.out (fun _ hk => ⟨hk.1.1, ⟨hk.2, hk.1.2⟩⟩)), (by (with_reducible repeat (first | refine zai ?_ _ | refine zao ?_ | refine zaj ?_ _)); exact BK130.out), (by repeat (first | (with_reducible first | exact HB.out | apply zah | apply zab | apply zaf | refine zag ?_ GE130.out) | exact HB.out))⟩)
                      ·skip
                       refine box_step ?hg (N := 4) ?hd (cs := #[.int .i64 0, .slice none 0 0, .slice none 0 0]) (t := 24) ?hr ?_; (case hd => rfl); (case hg => rfl); (case hr => first | (go_simp; done) | (go_simp; rfl))
                       intro gb156 hg w45 hbox hb
                       have HS0_ := (hb.cell (World.block_lt_of_cell? _ _ (hHeld.1))).trans (hHeld.1)
                       have HS1_ := (hb.cell (World.block_lt_of_cell? _ _ (hHeld.2))).trans (hHeld.2)
                       have n0_ := Aside0.mk (zcj (zci (by (with_reducible repeat (first | apply zak | apply zal | apply zap)); exact HO_0.out) gb156 (zbp hg.symm)) hb)
                       have n1_ := Aside0.mk (zcj (zci (by (with_reducible repeat (first | apply zak | apply zal | apply zap)); exact HO138.out) gb156 (zbp hg.symm)) hb)
                       have n2_ := Aside0.mk (zcj (zci (by (with_reducible repeat (first | apply zak | apply zal | apply zap)); exact HO149.out) gb156 (zbp hg.symm)) hb)
                       have n3_ := Aside0.mk (zbf (g := gb130) (o := .cells #[.int .i64 0, .slice none 0 0, .slice none 0 0] 24 (0, 0)) (by (with_reducible repeat (first | refine zai ?_ _ | refine zao ?_ | refine zaj ?_ _)); exact BK130.out) hb)
                       have n4_ := Aside0.mk (zbh (by repeat (first | (with_reducible first | exact HB.out | apply zah | apply zab | apply zaf | refine zag ?_ GE130.out) | exact HB.out)) hb)
                       have n5_ := Aside0.mk (hbox)
                       have n6_ := Aside0.mk ((by rw [hg]; exact (zat (by repeat (first | (with_reducible first | exact HB.out | apply zah | apply zab | apply zaf | refine zag ?_ GE130.out) | exact HB.out))) : w.heap.size ≤ gb156))
                       have n7_ := Aside0.mk ((by rw [hg]; exact (zat (by repeat (first | (with_reducible first | exact HB.out | apply zah | apply zab | apply zaf | refine zag ?_ GE130.out) | exact HB.out))) : w.heap.size ≤ gb156))
                       have n8_ := Aside0.mk ((by rw [hg]; exact zcb (blk_lt (g := gb130) (o := .cells #[.int .i64 0, .slice none 0 0, .slice none 0 0] 24 (0, 0)) (by (with_reducible repeat (first | refine zai ?_ _ | refine zao ?_ | refine zaj ?_ _)); exact BK130.out)) : gb130 ≠ gb156))
                       have n9_ := Aside0.mk ((by rw [hg]; exact zdj (blk_lt (g := gb130) (o := .cells #[.int .i64 0, .slice none 0 0, .slice none 0 0] 24 (0, 0)) (by (with_reducible repeat (first | refine zai ?_ _ | refine zao ?_ | refine zaj ?_ _)); exact BK130.out)) : gb156 ≠ gb130))
                       clear HO_0
                       clear HO138
                       clear HO149
                       clear BK130
                       clear HB
                       have HO_0 := n0_
                       have HO138 := n1_
                       have HO149 := n2_
                       have BK130 := n3_
                       have HB := n4_
                       have BK156 := n5_
                       have GW156 := n6_
                       have GE156 := n7_
                       have NB130_156 := n8_
                       have NB156_130 := n9_
                       clear n0_ n1_ n2_ n3_ n4_ n5_ n6_ n7_ n8_ n9_
                       clear hb hbox hg
                       refine hK.out _ _ ⟨HS0_, HS1_⟩ (fun hHeld => ?_)
                       clear hK K
                       refine norm_ (a' := ?_) ?_ ?_
                       rotate_left
                       ·show Act.put _ (some 4) _ = _
                        simp only [Act.put, zaa, zac, zad, i64_w, i32_w]
                        rfl
                       exact norm_ (by first | (simp only [putAll, Act.put, zaa, zac, zad]; done) | (simp only [putAll, Act.put, zaa, zac, zad]; rfl)) (hJ19 (gb156) _ ⟨hHeld, (by (with_reducible repeat (first | apply zak | apply zal | apply zap)); exact zar HO138.out (fun _ hk => ⟨hk.1.1, ⟨hk.1.2, hk.2⟩⟩)), (by (with_reducible repeat (first | apply zak | apply zal | apply zap)); exact zar HO149.out (fun _ hk => ⟨hk.1.1, ⟨hk.1.2, hk.2⟩⟩)), (by (with_reducible repeat (first | apply zak | apply zal | apply zap)); exact zar HO_0.out (fun _ hk => ⟨hk.1.1, ⟨hk.1.2, hk.2⟩⟩)), (by (with_reducible repeat (first | refine zai ?_ _ | refine zao ?_ | refine zaj ?_ _)); exact BK130.out), (by (with_reducible repeat (first | refine zai ?_ _ | refine zao ?_ | refine zaj ?_ _)); exact BK156.out), GW156.out, GE156.out, NB130_156.out, NB156_130.out, (by repeat (first | (with_reducible first | exact HB.out | apply zah | apply zab | apply zaf | refine zag ?_ GE130.out | refine zag ?_ GE156.out) | exact HB.out))⟩)
                     ·skip
                      rintro gb156 w46 ⟨hS_, h0_, h1_, h2_, h3_, h4_, h5_, h6_, h7_, h8_, h9_⟩
                      have n0_ : Aside0 (Kd.V (Kd.int .u8) 5 w46 w.heap.size (fun k_ => (P0_ k_ ∨ w.heap.size ≤ k_) ∧ k_ ≠ gb130 ∧ k_ ≠ gb156) (.slice A43 y134.length c43) y134) := ⟨h0_⟩
                      have n1_ : Aside0 (Kd.V (Kd.int .u8) 5 w46 w.heap.size (fun k_ => (P0_ k_ ∨ w.heap.size ≤ k_) ∧ k_ ≠ gb130 ∧ k_ ≠ gb156) (.slice A44 y145.length c44) y145) := ⟨h1_⟩
                      have n2_ : Aside0 (Kd.V (Kd.int .u8) 5 w46 w.heap.size (fun k_ => (P0_ k_ ∨ w.heap.size ≤ k_) ∧ k_ ≠ gb130 ∧ k_ ≠ gb156) (.slice (some ad132) l0.length c0) l0) := ⟨h2_⟩
                      have n3_ : Aside0 (w46.heap[gb130]? = some (.cells #[.int .i64 0, .slice none 0 0, .slice none 0 0] 24 (0, 0))) := ⟨h3_⟩
                      have n4_ : Aside0 (w46.heap[gb156]? = some (.cells #[.int .i64 0, .slice none 0 0, .slice none 0 0] 24 (0, 0))) := ⟨h4_⟩
                      have n5_ : Aside0 (w.heap.size ≤ gb156) := ⟨h5_⟩
                      have n6_ : Aside0 (w.heap.size ≤ gb156) := ⟨h6_⟩
                      have n7_ : Aside0 (gb130 ≠ gb156) := ⟨h7_⟩
                      have n8_ : Aside0 (gb156 ≠ gb130) := ⟨h8_⟩
                      have n9_ : Aside0 (Below w.heap.size w w46) := ⟨h9_⟩
                      clear HO_0
                      clear BK130
                      clear HB
                      clear h0_ h1_ h2_ h3_ h4_ h5_ h6_ h7_ h8_ h9_
                      have HO138 := n0_
                      have HO149 := n1_
                      have HO_0 := n2_
                      have BK130 := n3_
                      have BK156 := n4_
                      have GW156 := n5_
                      have GE156 := n6_
                      have NB130_156 := n7_
                      have NB156_130 := n8_
                      have HB := n9_
                      clear n0_ n1_ n2_ n3_ n4_ n5_ n6_ n7_ n8_ n9_
                      have hHeld : w46.cell? ⟨ad132.block, ad132.off + 1, none⟩ = some (.int .u8 (rd l0 1)) ∧ w46.cell? ⟨ad132.block, ad132.off + 2, none⟩ = some (.int .u8 (rd l0 2)) := hS_
                      refine norm_ (a' := ?_) ?_ ?_
                      rotate_left
                      ·simp only [putAll, Act.put, zaa, zac, zad]
                       rfl
                      refine two_ (i := 12) (j := 16) (Ni := some 27) (Nj := some 31) #[true, true, true, true, true, true, true, true, true, true, true, true, true, false, true, true, false, false, false, true, false] #[true, true, true, true, true, true, true, true, true, true, true, true, false, false, true, true, true, false, false, true, false] rfl rfl rfl rfl (two_of HT_.out (by kernel_rfl)) (by decide) (by decide) (fun K hK => ?_) (fun K hK => ?_)
                      ·skip
                       refine zdg (Kd.slice 5 (Kd.int .u8)) _ 22 ?hg (N' := 27) ?hd (xs := ([y134] : List (List Int))) (inner := [.slice A43 y134.length c43]) (ok := (fun k_ => (P0_ k_ ∨ w.heap.size ≤ k_) ∧ k_ ≠ gb130 ∧ k_ ≠ gb156)) (okp := (fun k_ => (P0_ k_ ∨ w.heap.size ≤ k_) ∧ k_ ≠ gb130 ∧ k_ ≠ gb156)) ?hr ?hp (fun _ hk => hk) ((show ∀ k_, w46.heap.size ≤ k_ → (fun k_ => (P0_ k_ ∨ w.heap.size ≤ k_) ∧ k_ ≠ gb130 ∧ k_ ≠ gb156) k_ from fun k_ hk => ⟨(.inr (zdb (zat (by repeat (first | (with_reducible first | exact HB.out | apply zah | apply zab | apply zaf | refine zag ?_ GE130.out | refine zag ?_ GE156.out) | exact HB.out))) hk)), zdn (g := gb130) (o := .cells #[.int .i64 0, .slice none 0 0, .slice none 0 0] 24 (0, 0)) (by (with_reducible repeat (first | refine zai ?_ _ | refine zao ?_ | refine zaj ?_ _)); exact BK130.out) k_ hk, zdn (g := gb156) (o := .cells #[.int .i64 0, .slice none 0 0, .slice none 0 0] 24 (0, 0)) (by (with_reducible repeat (first | refine zai ?_ _ | refine zao ?_ | refine zaj ?_ _)); exact BK156.out) k_ hk⟩) _ (zbq _)) (zcq _ _) (zbq _) (by simp) ?_; (case hd => rfl); (case hg => rfl); (case hr => first | (go_simp; done) | (go_simp; rfl)); (case hp => exact (zep (show Kd.FK (Kd.slice 5 (Kd.int .u8)) _ _ y134 [.slice A43 y134.length c43] from (zdc (zct (zar (ok' := (fun k_ => (P0_ k_ ∨ w.heap.size ≤ k_) ∧ k_ ≠ gb130 ∧ k_ ≠ gb156)) (HO138.out) (fun k_ hk => ⟨hk.1, ⟨hk.2.1, hk.2.2⟩⟩))).2.1 (Kd.V_F (zar (ok' := (fun k_ => (P0_ k_ ∨ w.heap.size ≤ k_) ∧ k_ ≠ gb130 ∧ k_ ≠ gb156)) (HO138.out) (fun k_ hk => ⟨hk.1, ⟨hk.2.1, hk.2.2⟩⟩))))) (zds _ _)))
                       intro v140 w47 ho48 hb hg_ hnew_
                       have HS0_ := (hb.cell (World.block_lt_of_cell? _ _ (hHeld.1))).trans (hHeld.1)
                       have HS1_ := (hb.cell (World.block_lt_of_cell? _ _ (hHeld.2))).trans (hHeld.2)
                       clear hg_ hnew_
                       (first | rw [← Ny139.out] at ho48 | (simp only [Int.reduceToNat] at ho48; rw [← Ny139.out] at ho48))
                       have n0_ := Aside0.mk (zbd (by (with_reducible repeat (first | apply zak | apply zal | apply zap)); exact HO_0.out) (zby ho48) hb)
                       have n1_ := Aside0.mk (zbd (by (with_reducible repeat (first | apply zak | apply zal | apply zap)); exact HO138.out) (zby ho48) hb)
                       have n2_ := Aside0.mk (zbd (by (with_reducible repeat (first | apply zak | apply zal | apply zap)); exact HO149.out) (zby ho48) hb)
                       have n3_ := Aside0.mk (zea ho48 (zat (by repeat (first | (with_reducible first | exact HB.out | apply zah | apply zab | apply zaf | refine zag ?_ GE130.out | refine zag ?_ GE156.out) | exact HB.out))))
                       have n4_ := Aside0.mk (zbf (g := gb130) (o := .cells #[.int .i64 0, .slice none 0 0, .slice none 0 0] 24 (0, 0)) (by (with_reducible repeat (first | refine zai ?_ _ | refine zao ?_ | refine zaj ?_ _)); exact BK130.out) hb)
                       have n5_ := Aside0.mk (zbf (g := gb156) (o := .cells #[.int .i64 0, .slice none 0 0, .slice none 0 0] 24 (0, 0)) (by (with_reducible repeat (first | refine zai ?_ _ | refine zao ?_ | refine zaj ?_ _)); exact BK156.out) hb)
                       have n6_ := Aside0.mk (zbh (by repeat (first | (with_reducible first | exact HB.out | apply zah | apply zab | apply zaf | refine zag ?_ GE130.out | refine zag ?_ GE156.out) | exact HB.out)) hb)
                       clear HO_0
                       clear HO138
                       clear HO149
                       clear BK130
                       clear BK156
                       clear HB
                       have HO_0 := n0_
                       have HO138 := n1_
                       have HO149 := n2_
                       have HO141 := n3_
                       have BK130 := n4_
                       have BK156 := n5_
                       have HB := n6_
                       clear n0_ n1_ n2_ n3_ n4_ n5_ n6_
                       clear hb ho48
                       refine hK.out _ _ ⟨HS0_, HS1_⟩ (fun hHeld => ?_)
                       clear hK K
                       refine norm_ (a' := ?_) ?_ ?_
                       rotate_left
                       ·show Act.put _ (some 27) _ = _
                        simp only [Act.put, zaa, zac, zad, i64_w, i32_w]
                        rfl
                       exact norm_ (by first | (simp only [putAll, Act.put, zaa, zac, zad]; done) | (simp only [putAll, Act.put, zaa, zac, zad]; rfl)) (hJ12_19 (v140, gb156) _ ⟨hHeld, (by (with_reducible repeat (first | apply zak | apply zal | apply zap)); exact zar HO138.out (fun _ hk => ⟨hk.1.1, ⟨hk.2, ⟨hk.1.2.1, hk.1.2.2⟩⟩⟩)), (by (with_reducible repeat (first | apply zav | apply zaw | apply zbb)); exact HO141.out), (by (with_reducible repeat (first | apply zak | apply zal | apply zap)); exact zar HO149.out (fun _ hk => ⟨hk.1.1, ⟨hk.2, ⟨hk.1.2.1, hk.1.2.2⟩⟩⟩)), (by (with_reducible repeat (first | apply zak | apply zal | apply zap)); exact zar HO_0.out (fun _ hk => ⟨hk.1.1, ⟨hk.2, ⟨hk.1.2.1, hk.1.2.2⟩⟩⟩)), (by (with_reducible repeat (first | refine zai ?_ _ | refine zao ?_ | refine zaj ?_ _)); exact BK130.out), (by (with_reducible repeat (first | refine zai ?_ _ | refine zao ?_ | refine zaj ?_ _)); exact BK156.out), GW156.out, GE156.out, NB130_156.out, NB156_130.out, (by repeat (first | (with_reducible first | exact HB.out | apply zah | apply zab | apply zaf | refine zag ?_ GE130.out | refine zag ?_ GE156.out) | exact HB.out))⟩)
                      ·skip
                       refine zdg (Kd.slice 5 (Kd.int .u8)) _ 22 ?hg (N' := 31) ?hd (xs := ([y145] : List (List Int))) (inner := [.slice A44 y145.length c44]) (ok := (fun k_ => (P0_ k_ ∨ w.heap.size ≤ k_) ∧ k_ ≠ gb130 ∧ k_ ≠ gb156)) (okp := (fun k_ => (P0_ k_ ∨ w.heap.size ≤ k_) ∧ k_ ≠ gb130 ∧ k_ ≠ gb156)) ?hr ?hp (fun _ hk => hk) ((show ∀ k_, w46.heap.size ≤ k_ → (fun k_ => (P0_ k_ ∨ w.heap.size ≤ k_) ∧ k_ ≠ gb130 ∧ k_ ≠ gb156) k_ from fun k_ hk => ⟨(.inr (zdb (zat (by repeat (first | (with_reducible first | exact HB.out | apply zah | apply zab | apply zaf | refine zag ?_ GE130.out | refine zag ?_ GE156.out) | exact HB.out))) hk)), zdn (g := gb130) (o := .cells #[.int .i64 0, .slice none 0 0, .slice none 0 0] 24 (0, 0)) (by (with_reducible repeat (first | refine zai ?_ _ | refine zao ?_ | refine zaj ?_ _)); exact BK130.out) k_ hk, zdn (g := gb156) (o := .cells #[.int .i64 0, .slice none 0 0, .slice none 0 0] 24 (0, 0)) (by (with_reducible repeat (first | refine zai ?_ _ | refine zao ?_ | refine zaj ?_ _)); exact BK156.out) k_ hk⟩) _ (zbq _)) (zcq _ _) (zbq _) (by simp) ?_; (case hd => rfl); (case hg => rfl); (case hr => first | (go_simp; done) | (go_simp; rfl)); (case hp => exact (zep (show Kd.FK (Kd.slice 5 (Kd.int .u8)) _ _ y145 [.slice A44 y145.length c44] from (zdc (zct (zar (ok' := (fun k_ => (P0_ k_ ∨ w.heap.size ≤ k_) ∧ k_ ≠ gb130 ∧ k_ ≠ gb156)) (HO149.out) (fun k_ hk => ⟨hk.1, ⟨hk.2.1, hk.2.2⟩⟩))).2.1 (Kd.V_F (zar (ok' := (fun k_ => (P0_ k_ ∨ w.heap.size ≤ k_) ∧ k_ ≠ gb130 ∧ k_ ≠ gb156)) (HO149.out) (fun k_ hk => ⟨hk.1, ⟨hk.2.1, hk.2.2⟩⟩))))) (zds _ _)))
                       intro v151 w47 ho48 hb hg_ hnew_
                       have HS0_ := (hb.cell (World.block_lt_of_cell? _ _ (hHeld.1))).trans (hHeld.1)
                       have HS1_ := (hb.cell (World.block_lt_of_cell? _ _ (hHeld.2))).trans (hHeld.2)
                       clear hg_ hnew_
                       (first | rw [← Ny150.out] at ho48 | (simp only [Int.reduceToNat] at ho48; rw [← Ny150.out] at ho48))
                       have n0_ := Aside0.mk (zbd (by (with_reducible repeat (first | apply zak | apply zal | apply zap)); exact HO_0.out) (zby ho48) hb)
                       have n1_ := Aside0.mk (zbd (by (with_reducible repeat (first | apply zak | apply zal | apply zap)); exact HO138.out) (zby ho48) hb)
                       have n2_ := Aside0.mk (zbd (by (with_reducible repeat (first | apply zak | apply zal | apply zap)); exact HO149.out) (zby ho48) hb)
                       have n3_ := Aside0.mk (zea ho48 (zat (by repeat (first | (with_reducible first | exact HB.out | apply zah | apply zab | apply zaf | refine zag ?_ GE130.out | refine zag ?_ GE156.out) | exact HB.out))))
                       have n4_ := Aside0.mk (zbf (g := gb130) (o := .cells #[.int .i64 0, .slice none 0 0, .slice none 0 0] 24 (0, 0)) (by (with_reducible repeat (first | refine zai ?_ _ | refine zao ?_ | refine zaj ?_ _)); exact BK130.out) hb)
                       have n5_ := Aside0.mk (zbf (g := gb156) (o := .cells #[.int .i64 0, .slice none 0 0, .slice none 0 0] 24 (0, 0)) (by (with_reducible repeat (first | refine zai ?_ _ | refine zao ?_ | refine zaj ?_ _)); exact BK156.out) hb)
                       have n6_ := Aside0.mk (zbh (by repeat (first | (with_reducible first | exact HB.out | apply zah | apply zab | apply zaf | refine zag ?_ GE130.out | refine zag ?_ GE156.out) | exact HB.out)) hb)
                       clear HO_0
                       clear HO138
                       clear HO149
                       clear BK130
                       clear BK156
                       clear HB
                       have HO_0 := n0_
                       have HO138 := n1_
                       have HO149 := n2_
                       have HO152 := n3_
                       have BK130 := n4_
                       have BK156 := n5_
                       have HB := n6_
                       clear n0_ n1_ n2_ n3_ n4_ n5_ n6_
                       clear hb ho48
                       refine hK.out _ _ ⟨HS0_, HS1_⟩ (fun hHeld => ?_)
                       clear hK K
                       refine norm_ (a' := ?_) ?_ ?_
                       rotate_left
                       ·show Act.put _ (some 31) _ = _
                        simp only [Act.put, zaa, zac, zad, i64_w, i32_w]
                        rfl
                       exact norm_ (by first | (simp only [putAll, Act.put, zaa, zac, zad]; done) | (simp only [putAll, Act.put, zaa, zac, zad]; rfl)) (hJ16_19 (v151, gb156) _ ⟨hHeld, (by (with_reducible repeat (first | apply zak | apply zal | apply zap)); exact zar HO138.out (fun _ hk => ⟨hk.1.1, ⟨hk.2, ⟨hk.1.2.1, hk.1.2.2⟩⟩⟩)), (by (with_reducible repeat (first | apply zak | apply zal | apply zap)); exact zar HO149.out (fun _ hk => ⟨hk.1.1, ⟨hk.2, ⟨hk.1.2.1, hk.1.2.2⟩⟩⟩)), (by (with_reducible repeat (first | apply zav | apply zaw | apply zbb)); exact HO152.out), (by (with_reducible repeat (first | apply zak | apply zal | apply zap)); exact zar HO_0.out (fun _ hk => ⟨hk.1.1, ⟨hk.2, ⟨hk.1.2.1, hk.1.2.2⟩⟩⟩)), (by (with_reducible repeat (first | refine zai ?_ _ | refine zao ?_ | refine zaj ?_ _)); exact BK130.out), (by (with_reducible repeat (first | refine zai ?_ _ | refine zao ?_ | refine zaj ?_ _)); exact BK156.out), GW156.out, GE156.out, NB130_156.out, NB156_130.out, (by repeat (first | (with_reducible first | exact HB.out | apply zah | apply zab | apply zaf | refine zag ?_ GE130.out | refine zag ?_ GE156.out) | exact HB.out))⟩)
                    ·skip
                     rintro v151 w47 ⟨hS_, h0_, h1_, h2_, h3_, h4_, h5_⟩
                     have n0_ : Aside0 (Kd.V (Kd.int .u8) 5 w47 w.heap.size (fun k_ => (P0_ k_ ∨ w.heap.size ≤ k_) ∧ some k_ ≠ (v151 : Value).ownBlock ∧ k_ ≠ gb130) (.slice A43 y134.length c43) y134) := ⟨h0_⟩
                     have n1_ : Aside0 (Kd.V (Kd.int .u8) 5 w47 w.heap.size (fun k_ => (P0_ k_ ∨ w.heap.size ≤ k_) ∧ some k_ ≠ (v151 : Value).ownBlock ∧ k_ ≠ gb130) (.slice A44 y145.length c44) y145) := ⟨h1_⟩
                     have n2_ : Aside0 (Kd.N (Kd.slice 5 (Kd.int .u8)) 22 w47 w.heap.size (fun k_ => (P0_ k_ ∨ w.heap.size ≤ k_) ∧ k_ ≠ gb130) v151 y150) := ⟨h2_⟩
                     have n3_ : Aside0 (Kd.V (Kd.int .u8) 5 w47 w.heap.size (fun k_ => (P0_ k_ ∨ w.heap.size ≤ k_) ∧ some k_ ≠ (v151 : Value).ownBlock ∧ k_ ≠ gb130) (.slice (some ad132) l0.length c0) l0) := ⟨h3_⟩
                     have n4_ : Aside0 (w47.heap[gb130]? = some (.cells #[.int .i64 0, .slice none 0 0, .slice none 0 0] 24 (0, 0))) := ⟨h4_⟩
                     have n5_ : Aside0 (Below w.heap.size w w47) := ⟨h5_⟩
                     clear HO_0
                     clear BK130
                     clear HB
                     clear h0_ h1_ h2_ h3_ h4_ h5_
                     have HO138 := n0_
                     have HO149 := n1_
                     have HO152 := n2_
                     have HO_0 := n3_
                     have BK130 := n4_
                     have HB := n5_
                     clear n0_ n1_ n2_ n3_ n4_ n5_
                     have hHeld : w47.cell? ⟨ad132.block, ad132.off + 1, none⟩ = some (.int .u8 (rd l0 1)) ∧ w47.cell? ⟨ad132.block, ad132.off + 2, none⟩ = some (.int .u8 (rd l0 2)) := hS_
                     refine norm_ (a' := ?_) ?_ ?_
                     rotate_left
                     ·simp only [putAll, Act.put, zaa, zac, zad]
                      rfl
                     refine two_ (i := 12) (j := 19) (Ni := some 27) (Nj := some 4) #[true, true, true, true, true, true, true, true, true, true, true, true, true, false, true, true, true, false, false, false, false] #[true, true, true, true, true, true, true, true, true, true, true, true, false, false, true, true, true, false, false, true, false] rfl rfl rfl rfl (two_of HT_.out (by kernel_rfl)) (by decide) (by decide) (fun K hK => ?_) (fun K hK => ?_)
                     ·skip
                      refine zdg (Kd.slice 5 (Kd.int .u8)) _ 22 ?hg (N' := 27) ?hd (xs := ([y134] : List (List Int))) (inner := [.slice A43 y134.length c43]) (ok := (fun k_ => (P0_ k_ ∨ w.heap.size ≤ k_) ∧ some k_ ≠ (v151 : Value).ownBlock ∧ k_ ≠ gb130)) (okp := (fun k_ => (P0_ k_ ∨ w.heap.size ≤ k_) ∧ some k_ ≠ (v151 : Value).ownBlock ∧ k_ ≠ gb130)) ?hr ?hp (fun _ hk => hk) ((show ∀ k_, w47.heap.size ≤ k_ → (fun k_ => (P0_ k_ ∨ w.heap.size ≤ k_) ∧ some k_ ≠ (v151 : Value).ownBlock ∧ k_ ≠ gb130) k_ from fun k_ hk => ⟨(.inr (zdb (zat (by repeat (first | (with_reducible first | exact HB.out | apply zah | apply zab | apply zaf | refine zag ?_ GE130.out) | exact HB.out))) hk)), zel (Kd.N_lt (by (with_reducible repeat (first | apply zav | apply zaw | apply zbb)); exact HO152.out)) k_ hk, zdn (g := gb130) (o := .cells #[.int .i64 0, .slice none 0 0, .slice none 0 0] 24 (0, 0)) (by (with_reducible repeat (first | refine zai ?_ _ | refine zao ?_ | refine zaj ?_ _)); exact BK130.out) k_ hk⟩) _ (zbq _)) (zcq _ _) (zbq _) (by simp) ?_; (case hd => rfl); (case hg => rfl); (case hr => first | (go_simp; done) | (go_simp; rfl)); (case hp => exact (zep (show Kd.FK (Kd.slice 5 (Kd.int .u8)) _ _ y134 [.slice A43 y134.length c43] from (zdc (zct (zar (ok' := (fun k_ => (P0_ k_ ∨ w.heap.size ≤ k_) ∧ some k_ ≠ (v151 : Value).ownBlock ∧ k_ ≠ gb130)) (HO138.out) (fun k_ hk => ⟨hk.1, ⟨hk.2.1, hk.2.2⟩⟩))).2.1 (Kd.V_F (zar (ok' := (fun k_ => (P0_ k_ ∨ w.heap.size ≤ k_) ∧ some k_ ≠ (v151 : Value).ownBlock ∧ k_ ≠ gb130)) (HO138.out) (fun k_ hk => ⟨hk.1, ⟨hk.2.1, hk.2.2⟩⟩))))) (zds _ _)))
                      intro v140 w48 ho49 hb hg_ hnew_
                      have HS0_ := (hb.cell (World.block_lt_of_cell? _ _ (hHeld.1))).trans (hHeld.1)
                      have HS1_ := (hb.cell (World.block_lt_of_cell? _ _ (hHeld.2))).trans (hHeld.2)
                      clear hg_ hnew_
                      (first | rw [← Ny139.out] at ho49 | (simp only [Int.reduceToNat] at ho49; rw [← Ny139.out] at ho49))
                      have n0_ := Aside0.mk (zbd (by (with_reducible repeat (first | apply zak | apply zal | apply zap)); exact HO_0.out) (zby ho49) hb)
                      have n1_ := Aside0.mk (zbd (by (with_reducible repeat (first | apply zak | apply zal | apply zap)); exact HO138.out) (zby ho49) hb)
                      have n2_ := Aside0.mk (zbd (by (with_reducible repeat (first | apply zak | apply zal | apply zap)); exact HO149.out) (zby ho49) hb)
                      have n3_ := Aside0.mk (zcu (by (with_reducible repeat (first | apply zav | apply zaw | apply zbb)); exact HO152.out) (zby ho49) hb)
                      have n4_ := Aside0.mk (zea ho49 (zat (by repeat (first | (with_reducible first | exact HB.out | apply zah | apply zab | apply zaf | refine zag ?_ GE130.out) | exact HB.out))))
                      have n5_ := Aside0.mk (zbf (g := gb130) (o := .cells #[.int .i64 0, .slice none 0 0, .slice none 0 0] 24 (0, 0)) (by (with_reducible repeat (first | refine zai ?_ _ | refine zao ?_ | refine zaj ?_ _)); exact BK130.out) hb)
                      have n6_ := Aside0.mk (zbh (by repeat (first | (with_reducible first | exact HB.out | apply zah | apply zab | apply zaf | refine zag ?_ GE130.out) | exact HB.out)) hb)
                      clear HO_0
                      clear HO138
                      clear HO149
                      clear HO152
                      clear BK130
                      clear HB
                      have HO_0 := n0_
                      have HO138 := n1_
                      have HO149 := n2_
                      have HO152 := n3_
                      have HO141 := n4_
                      have BK130 := n5_
                      have HB := n6_
                      clear n0_ n1_ n2_ n3_ n4_ n5_ n6_
                      clear hb ho49
                      refine hK.out _ _ ⟨HS0_, HS1_⟩ (fun hHeld => ?_)
                      clear hK K
                      refine norm_ (a' := ?_) ?_ ?_
                      rotate_left
                      ·show Act.put _ (some 27) _ = _
                       simp only [Act.put, zaa, zac, zad, i64_w, i32_w]
                       rfl
                      exact norm_ (by first | (simp only [putAll, Act.put, zaa, zac, zad]; done) | (simp only [putAll, Act.put, zaa, zac, zad]; rfl)) (hJ12_16 (v140, v151) _ ⟨hHeld, (by (with_reducible repeat (first | apply zak | apply zal | apply zap)); exact zar HO138.out (fun _ hk => ⟨hk.1.1, ⟨hk.2, ⟨hk.1.2.1, hk.1.2.2⟩⟩⟩)), (by (with_reducible repeat (first | apply zav | apply zaw | apply zbb)); exact HO141.out), (by (with_reducible repeat (first | apply zak | apply zal | apply zap)); exact zar HO149.out (fun _ hk => ⟨hk.1.1, ⟨hk.2, ⟨hk.1.2.1, hk.1.2.2⟩⟩⟩)), (by (with_reducible repeat (first | apply zav | apply zaw | apply zbb)); exact zck HO152.out (fun _ hk => ⟨hk.1.1, ⟨hk.2, hk.1.2⟩⟩)), (by (with_reducible repeat (first | apply zak | apply zal | apply zap)); exact zar HO_0.out (fun _ hk => ⟨hk.1.1, ⟨hk.2, ⟨hk.1.2.1, hk.1.2.2⟩⟩⟩)), (by (with_reducible repeat (first | refine zai ?_ _ | refine zao ?_ | refine zaj ?_ _)); exact BK130.out), (by repeat (first | (with_reducible first | exact HB.out | apply zah | apply zab | apply zaf | refine zag ?_ GE130.out) | exact HB.out))⟩)
                     ·skip
                      refine box_step ?hg (N := 4) ?hd (cs := #[.int .i64 0, .slice none 0 0, .slice none 0 0]) (t := 24) ?hr ?_; (case hd => rfl); (case hg => rfl); (case hr => first | (go_simp; done) | (go_simp; rfl))
                      intro gb156 hg w48 hbox hb
                      have HS0_ := (hb.cell (World.block_lt_of_cell? _ _ (hHeld.1))).trans (hHeld.1)
                      have HS1_ := (hb.cell (World.block_lt_of_cell? _ _ (hHeld.2))).trans (hHeld.2)
                      have n0_ := Aside0.mk (zcj (zci (by (with_reducible repeat (first | apply zak | apply zal | apply zap)); exact HO_0.out) gb156 (zbp hg.symm)) hb)
                      have n1_ := Aside0.mk (zcj (zci (by (with_reducible repeat (first | apply zak | apply zal | apply zap)); exact HO138.out) gb156 (zbp hg.symm)) hb)
                      have n2_ := Aside0.mk (zcj (zci (by (with_reducible repeat (first | apply zak | apply zal | apply zap)); exact HO149.out) gb156 (zbp hg.symm)) hb)
                      have n3_ := Aside0.mk (zdt (zdz (by (with_reducible repeat (first | apply zav | apply zaw | apply zbb)); exact HO152.out) gb156 (zbp hg.symm)) hb)
                      have n4_ := Aside0.mk (zbf (g := gb130) (o := .cells #[.int .i64 0, .slice none 0 0, .slice none 0 0] 24 (0, 0)) (by (with_reducible repeat (first | refine zai ?_ _ | refine zao ?_ | refine zaj ?_ _)); exact BK130.out) hb)
                      have n5_ := Aside0.mk (zbh (by repeat (first | (with_reducible first | exact HB.out | apply zah | apply zab | apply zaf | refine zag ?_ GE130.out) | exact HB.out)) hb)
                      have n6_ := Aside0.mk (hbox)
                      have n7_ := Aside0.mk ((by rw [hg]; exact (zat (by repeat (first | (with_reducible first | exact HB.out | apply zah | apply zab | apply zaf | refine zag ?_ GE130.out) | exact HB.out))) : w.heap.size ≤ gb156))
                      have n8_ := Aside0.mk ((by rw [hg]; exact (zat (by repeat (first | (with_reducible first | exact HB.out | apply zah | apply zab | apply zaf | refine zag ?_ GE130.out) | exact HB.out))) : w.heap.size ≤ gb156))
                      have n9_ := Aside0.mk ((by rw [hg]; exact zcb (blk_lt (g := gb130) (o := .cells #[.int .i64 0, .slice none 0 0, .slice none 0 0] 24 (0, 0)) (by (with_reducible repeat (first | refine zai ?_ _ | refine zao ?_ | refine zaj ?_ _)); exact BK130.out)) : gb130 ≠ gb156))
                      have n10_ := Aside0.mk ((by rw [hg]; exact zdj (blk_lt (g := gb130) (o := .cells #[.int .i64 0, .slice none 0 0, .slice none 0 0] 24 (0, 0)) (by (with_reducible repeat (first | refine zai ?_ _ | refine zao ?_ | refine zaj ?_ _)); exact BK130.out)) : gb156 ≠ gb130))
                      clear HO_0
                      clear HO138
                      clear HO149
                      clear HO152
                      clear BK130
                      clear HB
                      have HO_0 := n0_
                      have HO138 := n1_
                      have HO149 := n2_
                      have HO152 := n3_
                      have BK130 := n4_
                      have HB := n5_
                      have BK156 := n6_
                      have GW156 := n7_
                      have GE156 := n8_
                      have NB130_156 := n9_
                      have NB156_130 := n10_
                      clear n0_ n1_ n2_ n3_ n4_ n5_ n6_ n7_ n8_ n9_ n10_
                      clear hb hbox hg
                      refine hK.out _ _ ⟨HS0_, HS1_⟩ (fun hHeld => ?_)
                      clear hK K
                      refine norm_ (a' := ?_) ?_ ?_
                      rotate_left
                      ·show Act.put _ (some 4) _ = _
                       simp only [Act.put, zaa, zac, zad, i64_w, i32_w]
                       rfl
                      exact norm_ (by first | (simp only [putAll, Act.put, zaa, zac, zad]; done) | (simp only [putAll, Act.put, zaa, zac, zad]; rfl)) (hJ16_19 (v151, gb156) _ ⟨hHeld, (by (with_reducible repeat (first | apply zak | apply zal | apply zap)); exact zar HO138.out (fun _ hk => ⟨hk.1.1, ⟨hk.1.2.1, ⟨hk.1.2.2, hk.2⟩⟩⟩)), (by (with_reducible repeat (first | apply zak | apply zal | apply zap)); exact zar HO149.out (fun _ hk => ⟨hk.1.1, ⟨hk.1.2.1, ⟨hk.1.2.2, hk.2⟩⟩⟩)), (by (with_reducible repeat (first | apply zav | apply zaw | apply zbb)); exact zck HO152.out (fun _ hk => ⟨hk.1.1, ⟨hk.1.2, hk.2⟩⟩)), (by (with_reducible repeat (first | apply zak | apply zal | apply zap)); exact zar HO_0.out (fun _ hk => ⟨hk.1.1, ⟨hk.1.2.1, ⟨hk.1.2.2, hk.2⟩⟩⟩)), (by (with_reducible repeat (first | refine zai ?_ _ | refine zao ?_ | refine zaj ?_ _)); exact BK130.out), (by (with_reducible repeat (first | refine zai ?_ _ | refine zao ?_ | refine zaj ?_ _)); exact BK156.out), GW156.out, GE156.out, NB130_156.out, NB156_130.out, (by repeat (first | (with_reducible first | exact HB.out | apply zah | apply zab | apply zaf | refine zag ?_ GE130.out | refine zag ?_ GE156.out) | exact HB.out))⟩)
                   ·skip
                    rintro v140 w47 ⟨hS_, h0_, h1_, h2_, h3_, h4_, h5_⟩
                    have n0_ : Aside0 (Kd.V (Kd.int .u8) 5 w47 w.heap.size (fun k_ => (P0_ k_ ∨ w.heap.size ≤ k_) ∧ some k_ ≠ (v140 : Value).ownBlock ∧ k_ ≠ gb130) (.slice A43 y134.length c43) y134) := ⟨h0_⟩
                    have n1_ : Aside0 (Kd.N (Kd.slice 5 (Kd.int .u8)) 22 w47 w.heap.size (fun k_ => (P0_ k_ ∨ w.heap.size ≤ k_) ∧ k_ ≠ gb130) v140 y139) := ⟨h1_⟩
                    have n2_ : Aside0 (Kd.V (Kd.int .u8) 5 w47 w.heap.size (fun k_ => (P0_ k_ ∨ w.heap.size ≤ k_) ∧ some k_ ≠ (v140 : Value).ownBlock ∧ k_ ≠ gb130) (.slice A44 y145.length c44) y145) := ⟨h2_⟩
                    have n3_ : Aside0 (Kd.V (Kd.int .u8) 5 w47 w.heap.size (fun k_ => (P0_ k_ ∨ w.heap.size ≤ k_) ∧ some k_ ≠ (v140 : Value).ownBlock ∧ k_ ≠ gb130) (.slice (some ad132) l0.length c0) l0) := ⟨h3_⟩
                    have n4_ : Aside0 (w47.heap[gb130]? = some (.cells #[.int .i64 0, .slice none 0 0, .slice none 0 0] 24 (0, 0))) := ⟨h4_⟩
                    have n5_ : Aside0 (Below w.heap.size w w47) := ⟨h5_⟩
                    clear HO_0
                    clear BK130
                    clear HB
                    clear h0_ h1_ h2_ h3_ h4_ h5_
                    have HO138 := n0_
                    have HO141 := n1_
                    have HO149 := n2_
                    have HO_0 := n3_
                    have BK130 := n4_
                    have HB := n5_
                    clear n0_ n1_ n2_ n3_ n4_ n5_
                    have hHeld : w47.cell? ⟨ad132.block, ad132.off + 1, none⟩ = some (.int .u8 (rd l0 1)) ∧ w47.cell? ⟨ad132.block, ad132.off + 2, none⟩ = some (.int .u8 (rd l0 2)) := hS_
                    obtain ⟨Ao48, co48, eo48⟩ := Kd.N_slice HO141.out
                    (first | subst eo48 | (injection eo48 with f1_ f2_ f3_; have f4_ := f1_.symm; have f5_ := f3_.symm; clear f1_ f2_ f3_; subst f4_; subst f5_))
                    refine norm_ (a' := ?_) ?_ ?_
                    rotate_left
                    ·simp only [putAll, Act.put, zaa, zac, zad]
                     rfl
                    refine three_ (i := 13) (j := 16) (k := 19) (Ni := some 28) (Nj := some 31) (Nk := some 4) #[true, true, true, true, true, true, true, true, true, true, true, true, true, true, true, true, false, false, false, false, false] #[true, true, true, true, true, true, true, true, true, true, true, true, true, false, true, true, true, false, false, false, false] #[true, true, true, true, true, true, true, true, true, true, true, true, true, false, true, true, false, false, false, true, false] rfl rfl rfl rfl rfl rfl (three_of HT_.out (by kernel_rfl)) (by decide) (by decide) (by decide) (fun K hK => ?_) (fun K hK => ?_) (fun K hK => ?_)
                    ·skip
                     refine goes_ Try.func35 (by kernel_rfl) rfl #[.slice Ao48 y139.length co48] (by rfl) rfl rfl (by (try simp only [zbg, zbs, zbt]); first | done | rfl | (simp only [zbn, zbr]; rfl) | (simp only [zbn, zbr]; rw [zdm (zee.mpr (zem (by assumption)))])) ?_
                     with_reducible refine (impl_joined.calls _ _ y139 t142 _ ?side1 ?side2 A12.out).mono ?_
                     (case side1 => repeat (first | exact (zdi HO141.out).2.2 | (with_reducible refine zbu ?_ _) | (with_reducible refine zbv ?_ _) | (with_reducible refine zca ?_)))
                     (case side2 => exact (zdi HO141.out).2.1)
                     rintro e w49 ⟨v143, rfl, ho0, hb⟩
                     have HS0_ := (hb.cell (World.block_lt_of_cell? _ _ (hHeld.1))).trans (hHeld.1)
                     have HS1_ := (hb.cell (World.block_lt_of_cell? _ _ (hHeld.2))).trans (hHeld.2)
                     refine ⟨_, rfl, ?_⟩
                     have n0_ := Aside0.mk (zbd (by (with_reducible repeat (first | apply zak | apply zal | apply zap)); exact HO_0.out) (zbl ho0) hb)
                     have n1_ := Aside0.mk (zbd (by (with_reducible repeat (first | apply zak | apply zal | apply zap)); exact HO138.out) (zbl ho0) hb)
                     have n2_ := Aside0.mk (zbd (by (with_reducible repeat (first | apply zak | apply zal | apply zap)); exact HO149.out) (zbl ho0) hb)
                     have n3_ := Aside0.mk (zcu (by (with_reducible repeat (first | apply zav | apply zaw | apply zbb)); exact HO141.out) (zbl ho0) hb)
                     have n4_ := Aside0.mk (zdd (Kd.R_newM (M := fun k_ => (w.heap.size ≤ k_)) ho0 (zat (by repeat (first | (with_reducible first | exact HB.out | apply zah | apply zab | apply zaf | refine zag ?_ GE130.out) | exact HB.out))) (fun k_ h_ => h_)) (zat (by repeat (first | (with_reducible first | exact HB.out | apply zah | apply zab | apply zaf | refine zag ?_ GE130.out) | exact HB.out))))
                     have n5_ := Aside0.mk (zbf (g := gb130) (o := .cells #[.int .i64 0, .slice none 0 0, .slice none 0 0] 24 (0, 0)) (by (with_reducible repeat (first | refine zai ?_ _ | refine zao ?_ | refine zaj ?_ _)); exact BK130.out) hb)
                     have n6_ := Aside0.mk (zbh (by repeat (first | (with_reducible first | exact HB.out | apply zah | apply zab | apply zaf | refine zag ?_ GE130.out) | exact HB.out)) hb)
                     clear HO_0
                     clear HO138
                     clear HO149
                     clear HO141
                     clear BK130
                     clear HB
                     have HO_0 := n0_
                     have HO138 := n1_
                     have HO149 := n2_
                     have HO141 := n3_
                     have HO144 := n4_
                     have BK130 := n5_
                     have HB := n6_
                     clear n0_ n1_ n2_ n3_ n4_ n5_ n6_
                     (try clear hb)
                     (try clear hb2)
                     (try clear hk)
                     (try clear hi)
                     (try clear ho0)
                     refine hK.out _ _ ⟨HS0_, HS1_⟩ (fun hHeld => ?_)
                     clear hK K
                     refine norm_ (a' := ?_) ?_ ?_
                     rotate_left
                     ·show Act.put _ (some 28) _ = _
                      simp only [Act.put, zaa, zac, zad, i64_w, i32_w]
                      rfl
                     exact norm_ (by first | (simp only [putAll, Act.put, zaa, zac, zad]; done) | (simp only [putAll, Act.put, zaa, zac, zad]; rfl)) (hJ12_13 (.slice Ao48 y139.length co48, v143) _ ⟨hHeld, (by (with_reducible repeat (first | apply zak | apply zal | apply zap)); exact zar HO138.out (fun _ hk => ⟨hk.1.1, ⟨hk.1.2.1, ⟨hk.2, hk.1.2.2⟩⟩⟩)), (by (with_reducible repeat (first | apply zav | apply zaw | apply zbb)); exact zck HO141.out (fun _ hk => ⟨hk.1.1, ⟨hk.2, hk.1.2⟩⟩)), (by (with_reducible repeat (first | apply zam | apply zan | apply zaq)); exact zaz HO144.out (fun _ hk => hk.1)), (by (with_reducible repeat (first | apply zak | apply zal | apply zap)); exact zar HO149.out (fun _ hk => ⟨hk.1.1, ⟨hk.1.2.1, ⟨hk.2, hk.1.2.2⟩⟩⟩)), (by (with_reducible repeat (first | apply zak | apply zal | apply zap)); exact zar HO_0.out (fun _ hk => ⟨hk.1.1, ⟨hk.1.2.1, ⟨hk.2, hk.1.2.2⟩⟩⟩)), (by (with_reducible repeat (first | refine zai ?_ _ | refine zao ?_ | refine zaj ?_ _)); exact BK130.out), (by repeat (first | (with_reducible first | exact HB.out | apply zah | apply zab | apply zaf | refine zag ?_ GE130.out) | exact HB.out))⟩)
                    ·skip
                     refine zdg (Kd.slice 5 (Kd.int .u8)) _ 22 ?hg (N' := 31) ?hd (xs := ([y145] : List (List Int))) (inner := [.slice A44 y145.length c44]) (ok := (fun k_ => (P0_ k_ ∨ w.heap.size ≤ k_) ∧ some k_ ≠ (.slice Ao48 y139.length co48 : Value).ownBlock ∧ k_ ≠ gb130)) (okp := (fun k_ => (P0_ k_ ∨ w.heap.size ≤ k_) ∧ some k_ ≠ (.slice Ao48 y139.length co48 : Value).ownBlock ∧ k_ ≠ gb130)) ?hr ?hp (fun _ hk => hk) ((show ∀ k_, w47.heap.size ≤ k_ → (fun k_ => (P0_ k_ ∨ w.heap.size ≤ k_) ∧ some k_ ≠ (.slice Ao48 y139.length co48 : Value).ownBlock ∧ k_ ≠ gb130) k_ from fun k_ hk => ⟨(.inr (zdb (zat (by repeat (first | (with_reducible first | exact HB.out | apply zah | apply zab | apply zaf | refine zag ?_ GE130.out) | exact HB.out))) hk)), zel (Kd.N_lt (by (with_reducible repeat (first | apply zav | apply zaw | apply zbb)); exact HO141.out)) k_ hk, zdn (g := gb130) (o := .cells #[.int .i64 0, .slice none 0 0, .slice none 0 0] 24 (0, 0)) (by (with_reducible repeat (first | refine zai ?_ _ | refine zao ?_ | refine zaj ?_ _)); exact BK130.out) k_ hk⟩) _ (zbq _)) (zcq _ _) (zbq _) (by simp) ?_; (case hd => rfl); (case hg => rfl); (case hr => first | (go_simp; done) | (go_simp; rfl)); (case hp => exact (zep (show Kd.FK (Kd.slice 5 (Kd.int .u8)) _ _ y145 [.slice A44 y145.length c44] from (zdc (zct (zar (ok' := (fun k_ => (P0_ k_ ∨ w.heap.size ≤ k_) ∧ some k_ ≠ (.slice Ao48 y139.length co48 : Value).ownBlock ∧ k_ ≠ gb130)) (HO149.out) (fun k_ hk => ⟨hk.1, ⟨hk.2.1, hk.2.2⟩⟩))).2.1 (Kd.V_F (zar (ok' := (fun k_ => (P0_ k_ ∨ w.heap.size ≤ k_) ∧ some k_ ≠ (.slice Ao48 y139.length co48 : Value).ownBlock ∧ k_ ≠ gb130)) (HO149.out) (fun k_ hk => ⟨hk.1, ⟨hk.2.1, hk.2.2⟩⟩))))) (zds _ _)))
                     intro v151 w48 ho49 hb hg_ hnew_
                     have HS0_ := (hb.cell (World.block_lt_of_cell? _ _ (hHeld.1))).trans (hHeld.1)
                     have HS1_ := (hb.cell (World.block_lt_of_cell? _ _ (hHeld.2))).trans (hHeld.2)
                     clear hg_ hnew_
                     (first | rw [← Ny150.out] at ho49 | (simp only [Int.reduceToNat] at ho49; rw [← Ny150.out] at ho49))
                     have n0_ := Aside0.mk (zbd (by (with_reducible repeat (first | apply zak | apply zal | apply zap)); exact HO_0.out) (zby ho49) hb)
                     have n1_ := Aside0.mk (zbd (by (with_reducible repeat (first | apply zak | apply zal | apply zap)); exact HO138.out) (zby ho49) hb)
                     have n2_ := Aside0.mk (zbd (by (with_reducible repeat (first | apply zak | apply zal | apply zap)); exact HO149.out) (zby ho49) hb)
                     have n3_ := Aside0.mk (zcu (by (with_reducible repeat (first | apply zav | apply zaw | apply zbb)); exact HO141.out) (zby ho49) hb)
                     have n4_ := Aside0.mk (zea ho49 (zat (by repeat (first | (with_reducible first | exact HB.out | apply zah | apply zab | apply zaf | refine zag ?_ GE130.out) | exact HB.out))))
                     have n5_ := Aside0.mk (zbf (g := gb130) (o := .cells #[.int .i64 0, .slice none 0 0, .slice none 0 0] 24 (0, 0)) (by (with_reducible repeat (first | refine zai ?_ _ | refine zao ?_ | refine zaj ?_ _)); exact BK130.out) hb)
                     have n6_ := Aside0.mk (zbh (by repeat (first | (with_reducible first | exact HB.out | apply zah | apply zab | apply zaf | refine zag ?_ GE130.out) | exact HB.out)) hb)
                     clear HO_0
                     clear HO138
                     clear HO149
                     clear HO141
                     clear BK130
                     clear HB
                     have HO_0 := n0_
                     have HO138 := n1_
                     have HO149 := n2_
                     have HO141 := n3_
                     have HO152 := n4_
                     have BK130 := n5_
                     have HB := n6_
                     clear n0_ n1_ n2_ n3_ n4_ n5_ n6_
                     clear hb ho49
                     refine hK.out _ _ ⟨HS0_, HS1_⟩ (fun hHeld => ?_)
                     clear hK K
                     refine norm_ (a' := ?_) ?_ ?_
                     rotate_left
                     ·show Act.put _ (some 31) _ = _
                      simp only [Act.put, zaa, zac, zad, i64_w, i32_w]
                      rfl
                     exact norm_ (by first | (simp only [putAll, Act.put, zaa, zac, zad]; done) | (simp only [putAll, Act.put, zaa, zac, zad]; rfl)) (hJ12_16 ((.slice Ao48 y139.length co48), v151) _ ⟨hHeld, (by (with_reducible repeat (first | apply zak | apply zal | apply zap)); exact zar HO138.out (fun _ hk => ⟨hk.1.1, ⟨hk.1.2.1, ⟨hk.2, hk.1.2.2⟩⟩⟩)), (by (with_reducible repeat (first | apply zav | apply zaw | apply zbb)); exact zck HO141.out (fun _ hk => ⟨hk.1.1, ⟨hk.2, hk.1.2⟩⟩)), (by (with_reducible repeat (first | apply zak | apply zal | apply zap)); exact zar HO149.out (fun _ hk => ⟨hk.1.1, ⟨hk.1.2.1, ⟨hk.2, hk.1.2.2⟩⟩⟩)), (by (with_reducible repeat (first | apply zav | apply zaw | apply zbb)); exact HO152.out), (by (with_reducible repeat (first | apply zak | apply zal | apply zap)); exact zar HO_0.out (fun _ hk => ⟨hk.1.1, ⟨hk.1.2.1, ⟨hk.2, hk.1.2.2⟩⟩⟩)), (by (with_reducible repeat (first | refine zai ?_ _ | refine zao ?_ | refine zaj ?_ _)); exact BK130.out), (by repeat (first | (with_reducible first | exact HB.out | apply zah | apply zab | apply zaf | refine zag ?_ GE130.out) | exact HB.out))⟩)
                    ·skip
                     refine box_step ?hg (N := 4) ?hd (cs := #[.int .i64 0, .slice none 0 0, .slice none 0 0]) (t := 24) ?hr ?_; (case hd => rfl); (case hg => rfl); (case hr => first | (go_simp; done) | (go_simp; rfl))
                     intro gb156 hg w48 hbox hb
                     have HS0_ := (hb.cell (World.block_lt_of_cell? _ _ (hHeld.1))).trans (hHeld.1)
                     have HS1_ := (hb.cell (World.block_lt_of_cell? _ _ (hHeld.2))).trans (hHeld.2)
                     have n0_ := Aside0.mk (zcj (zci (by (with_reducible repeat (first | apply zak | apply zal | apply zap)); exact HO_0.out) gb156 (zbp hg.symm)) hb)
                     have n1_ := Aside0.mk (zcj (zci (by (with_reducible repeat (first | apply zak | apply zal | apply zap)); exact HO138.out) gb156 (zbp hg.symm)) hb)
                     have n2_ := Aside0.mk (zcj (zci (by (with_reducible repeat (first | apply zak | apply zal | apply zap)); exact HO149.out) gb156 (zbp hg.symm)) hb)
                     have n3_ := Aside0.mk (zdt (zdz (by (with_reducible repeat (first | apply zav | apply zaw | apply zbb)); exact HO141.out) gb156 (zbp hg.symm)) hb)
                     have n4_ := Aside0.mk (zbf (g := gb130) (o := .cells #[.int .i64 0, .slice none 0 0, .slice none 0 0] 24 (0, 0)) (by (with_reducible repeat (first | refine zai ?_ _ | refine zao ?_ | refine zaj ?_ _)); exact BK130.out) hb)
                     have n5_ := Aside0.mk (zbh (by repeat (first | (with_reducible first | exact HB.out | apply zah | apply zab | apply zaf | refine zag ?_ GE130.out) | exact HB.out)) hb)
                     have n6_ := Aside0.mk (hbox)
                     have n7_ := Aside0.mk ((by rw [hg]; exact (zat (by repeat (first | (with_reducible first | exact HB.out | apply zah | apply zab | apply zaf | refine zag ?_ GE130.out) | exact HB.out))) : w.heap.size ≤ gb156))
                     have n8_ := Aside0.mk ((by rw [hg]; exact (zat (by repeat (first | (with_reducible first | exact HB.out | apply zah | apply zab | apply zaf | refine zag ?_ GE130.out) | exact HB.out))) : w.heap.size ≤ gb156))
                     have n9_ := Aside0.mk ((by rw [hg]; exact zcb (blk_lt (g := gb130) (o := .cells #[.int .i64 0, .slice none 0 0, .slice none 0 0] 24 (0, 0)) (by (with_reducible repeat (first | refine zai ?_ _ | refine zao ?_ | refine zaj ?_ _)); exact BK130.out)) : gb130 ≠ gb156))
                     have n10_ := Aside0.mk ((by rw [hg]; exact zdj (blk_lt (g := gb130) (o := .cells #[.int .i64 0, .slice none 0 0, .slice none 0 0] 24 (0, 0)) (by (with_reducible repeat (first | refine zai ?_ _ | refine zao ?_ | refine zaj ?_ _)); exact BK130.out)) : gb156 ≠ gb130))
                     clear HO_0
                     clear HO138
                     clear HO149
                     clear HO141
                     clear BK130
                     clear HB
                     have HO_0 := n0_
                     have HO138 := n1_
                     have HO149 := n2_
                     have HO141 := n3_
                     have BK130 := n4_
                     have HB := n5_
                     have BK156 := n6_
                     have GW156 := n7_
                     have GE156 := n8_
                     have NB130_156 := n9_
                     have NB156_130 := n10_
                     clear n0_ n1_ n2_ n3_ n4_ n5_ n6_ n7_ n8_ n9_ n10_
                     clear hb hbox hg
                     refine hK.out _ _ ⟨HS0_, HS1_⟩ (fun hHeld => ?_)
                     clear hK K
                     refine norm_ (a' := ?_) ?_ ?_
                     rotate_left
                     ·show Act.put _ (some 4) _ = _
                      simp only [Act.put, zaa, zac, zad, i64_w, i32_w]
                      rfl
                     exact norm_ (by first | (simp only [putAll, Act.put, zaa, zac, zad]; done) | (simp only [putAll, Act.put, zaa, zac, zad]; rfl)) (hJ12_19 ((.slice Ao48 y139.length co48), gb156) _ ⟨hHeld, (by (with_reducible repeat (first | apply zak | apply zal | apply zap)); exact zar HO138.out (fun _ hk => ⟨hk.1.1, ⟨hk.1.2.1, ⟨hk.1.2.2, hk.2⟩⟩⟩)), (by (with_reducible repeat (first | apply zav | apply zaw | apply zbb)); exact zck HO141.out (fun _ hk => ⟨hk.1.1, ⟨hk.1.2, hk.2⟩⟩)), (by (with_reducible repeat (first | apply zak | apply zal | apply zap)); exact zar HO149.out (fun _ hk => ⟨hk.1.1, ⟨hk.1.2.1, ⟨hk.1.2.2, hk.2⟩⟩⟩)), (by (with_reducible repeat (first | apply zak | apply zal | apply zap)); exact zar HO_0.out (fun _ hk => ⟨hk.1.1, ⟨hk.1.2.1, ⟨hk.1.2.2, hk.2⟩⟩⟩)), (by (with_reducible repeat (first | refine zai ?_ _ | refine zao ?_ | refine zaj ?_ _)); exact BK130.out), (by (with_reducible repeat (first | refine zai ?_ _ | refine zao ?_ | refine zaj ?_ _)); exact BK156.out), GW156.out, GE156.out, NB130_156.out, NB156_130.out, (by repeat (first | (with_reducible first | exact HB.out | apply zah | apply zab | apply zaf | refine zag ?_ GE130.out | refine zag ?_ GE156.out) | exact HB.out))⟩)
                  ·skip
                   rintro ⟨v151, gb156⟩ w48 ⟨hS_, h0_, h1_, h2_, h3_, h4_, h5_, h6_, h7_, h8_, h9_, h10_⟩
                   have n0_ : Aside0 (Kd.V (Kd.int .u8) 5 w48 w.heap.size (fun k_ => (P0_ k_ ∨ w.heap.size ≤ k_) ∧ some k_ ≠ (v151 : Value).ownBlock ∧ k_ ≠ gb130 ∧ k_ ≠ gb156) (.slice A43 y134.length c43) y134) := ⟨h0_⟩
                   have n1_ : Aside0 (Kd.V (Kd.int .u8) 5 w48 w.heap.size (fun k_ => (P0_ k_ ∨ w.heap.size ≤ k_) ∧ some k_ ≠ (v151 : Value).ownBlock ∧ k_ ≠ gb130 ∧ k_ ≠ gb156) (.slice A44 y145.length c44) y145) := ⟨h1_⟩
                   have n2_ : Aside0 (Kd.N (Kd.slice 5 (Kd.int .u8)) 22 w48 w.heap.size (fun k_ => (P0_ k_ ∨ w.heap.size ≤ k_) ∧ k_ ≠ gb130 ∧ k_ ≠ gb156) v151 y150) := ⟨h2_⟩
                   have n3_ : Aside0 (Kd.V (Kd.int .u8) 5 w48 w.heap.size (fun k_ => (P0_ k_ ∨ w.heap.size ≤ k_) ∧ some k_ ≠ (v151 : Value).ownBlock ∧ k_ ≠ gb130 ∧ k_ ≠ gb156) (.slice (some ad132) l0.length c0) l0) := ⟨h3_⟩
                   have n4_ : Aside0 (w48.heap[gb130]? = some (.cells #[.int .i64 0, .slice none 0 0, .slice none 0 0] 24 (0, 0))) := ⟨h4_⟩
                   have n5_ : Aside0 (w48.heap[gb156]? = some (.cells #[.int .i64 0, .slice none 0 0, .slice none 0 0] 24 (0, 0))) := ⟨h5_⟩
                   have n6_ : Aside0 (w.heap.size ≤ gb156) := ⟨h6_⟩
                   have n7_ : Aside0 (w.heap.size ≤ gb156) := ⟨h7_⟩
                   have n8_ : Aside0 (gb130 ≠ gb156) := ⟨h8_⟩
                   have n9_ : Aside0 (gb156 ≠ gb130) := ⟨h9_⟩
                   have n10_ : Aside0 (Below w.heap.size w w48) := ⟨h10_⟩
                   clear HO_0
                   clear BK130
                   clear HB
                   clear h0_ h1_ h2_ h3_ h4_ h5_ h6_ h7_ h8_ h9_ h10_
                   have HO138 := n0_
                   have HO149 := n1_
                   have HO152 := n2_
                   have HO_0 := n3_
                   have BK130 := n4_
                   have BK156 := n5_
                   have GW156 := n6_
                   have GE156 := n7_
                   have NB130_156 := n8_
                   have NB156_130 := n9_
                   have HB := n10_
                   clear n0_ n1_ n2_ n3_ n4_ n5_ n6_ n7_ n8_ n9_ n10_
                   have hHeld : w48.cell? ⟨ad132.block, ad132.off + 1, none⟩ = some (.int .u8 (rd l0 1)) ∧ w48.cell? ⟨ad132.block, ad132.off + 2, none⟩ = some (.int .u8 (rd l0 2)) := hS_
                   refine norm_ (a' := ?_) ?_ ?_
                   rotate_left
                   ·simp only [putAll, Act.put, zaa, zac, zad]
                    rfl
                   refine one_ (i := 12) (N := some 27) #[true, true, true, true, true, true, true, true, true, true, true, true, true, false, true, true, true, false, false, true, false] rfl rfl (one_of HT_.out (by kernel_rfl)) (by decide) (fun K hK => ?_)
                   refine zdg (Kd.slice 5 (Kd.int .u8)) _ 22 ?hg (N' := 27) ?hd (xs := ([y134] : List (List Int))) (inner := [.slice A43 y134.length c43]) (ok := (fun k_ => (P0_ k_ ∨ w.heap.size ≤ k_) ∧ some k_ ≠ (v151 : Value).ownBlock ∧ k_ ≠ gb130 ∧ k_ ≠ gb156)) (okp := (fun k_ => (P0_ k_ ∨ w.heap.size ≤ k_) ∧ some k_ ≠ (v151 : Value).ownBlock ∧ k_ ≠ gb130 ∧ k_ ≠ gb156)) ?hr ?hp (fun _ hk => hk) ((show ∀ k_, w48.heap.size ≤ k_ → (fun k_ => (P0_ k_ ∨ w.heap.size ≤ k_) ∧ some k_ ≠ (v151 : Value).ownBlock ∧ k_ ≠ gb130 ∧ k_ ≠ gb156) k_ from fun k_ hk => ⟨(.inr (zdb (zat (by repeat (first | (with_reducible first | exact HB.out | apply zah | apply zab | apply zaf | refine zag ?_ GE130.out | refine zag ?_ GE156.out) | exact HB.out))) hk)), zel (Kd.N_lt (by (with_reducible repeat (first | apply zav | apply zaw | apply zbb)); exact HO152.out)) k_ hk, zdn (g := gb130) (o := .cells #[.int .i64 0, .slice none 0 0, .slice none 0 0] 24 (0, 0)) (by (with_reducible repeat (first | refine zai ?_ _ | refine zao ?_ | refine zaj ?_ _)); exact BK130.out) k_ hk, zdn (g := gb156) (o := .cells #[.int .i64 0, .slice none 0 0, .slice none 0 0] 24 (0, 0)) (by (with_reducible repeat (first | refine zai ?_ _ | refine zao ?_ | refine zaj ?_ _)); exact BK156.out) k_ hk⟩) _ (zbq _)) (zcq _ _) (zbq _) (by simp) ?_; (case hd => rfl); (case hg => rfl); (case hr => first | (go_simp; done) | (go_simp; rfl)); (case hp => exact (zep (show Kd.FK (Kd.slice 5 (Kd.int .u8)) _ _ y134 [.slice A43 y134.length c43] from (zdc (zct (zar (ok' := (fun k_ => (P0_ k_ ∨ w.heap.size ≤ k_) ∧ some k_ ≠ (v151 : Value).ownBlock ∧ k_ ≠ gb130 ∧ k_ ≠ gb156)) (HO138.out) (fun k_ hk => ⟨hk.1, ⟨hk.2.1, ⟨hk.2.2.1, hk.2.2.2⟩⟩⟩))).2.1 (Kd.V_F (zar (ok' := (fun k_ => (P0_ k_ ∨ w.heap.size ≤ k_) ∧ some k_ ≠ (v151 : Value).ownBlock ∧ k_ ≠ gb130 ∧ k_ ≠ gb156)) (HO138.out) (fun k_ hk => ⟨hk.1, ⟨hk.2.1, ⟨hk.2.2.1, hk.2.2.2⟩⟩⟩))))) (zds _ _)))
                   intro v140 w49 ho50 hb hg_ hnew_
                   have HS0_ := (hb.cell (World.block_lt_of_cell? _ _ (hHeld.1))).trans (hHeld.1)
                   have HS1_ := (hb.cell (World.block_lt_of_cell? _ _ (hHeld.2))).trans (hHeld.2)
                   clear hg_ hnew_
                   (first | rw [← Ny139.out] at ho50 | (simp only [Int.reduceToNat] at ho50; rw [← Ny139.out] at ho50))
                   have n0_ := Aside0.mk (zbd (by (with_reducible repeat (first | apply zak | apply zal | apply zap)); exact HO_0.out) (zby ho50) hb)
                   have n1_ := Aside0.mk (zbd (by (with_reducible repeat (first | apply zak | apply zal | apply zap)); exact HO138.out) (zby ho50) hb)
                   have n2_ := Aside0.mk (zbd (by (with_reducible repeat (first | apply zak | apply zal | apply zap)); exact HO149.out) (zby ho50) hb)
                   have n3_ := Aside0.mk (zcu (by (with_reducible repeat (first | apply zav | apply zaw | apply zbb)); exact HO152.out) (zby ho50) hb)
                   have n4_ := Aside0.mk (zea ho50 (zat (by repeat (first | (with_reducible first | exact HB.out | apply zah | apply zab | apply zaf | refine zag ?_ GE130.out | refine zag ?_ GE156.out) | exact HB.out))))
                   have n5_ := Aside0.mk (zbf (g := gb130) (o := .cells #[.int .i64 0, .slice none 0 0, .slice none 0 0] 24 (0, 0)) (by (with_reducible repeat (first | refine zai ?_ _ | refine zao ?_ | refine zaj ?_ _)); exact BK130.out) hb)
                   have n6_ := Aside0.mk (zbf (g := gb156) (o := .cells #[.int .i64 0, .slice none 0 0, .slice none 0 0] 24 (0, 0)) (by (with_reducible repeat (first | refine zai ?_ _ | refine zao ?_ | refine zaj ?_ _)); exact BK156.out) hb)
                   have n7_ := Aside0.mk (zbh (by repeat (first | (with_reducible first | exact HB.out | apply zah | apply zab | apply zaf | refine zag ?_ GE130.out | refine zag ?_ GE156.out) | exact HB.out)) hb)
                   clear HO_0
                   clear HO138
                   clear HO149
                   clear HO152
                   clear BK130
                   clear BK156
                   clear HB
                   have HO_0 := n0_
                   have HO138 := n1_
                   have HO149 := n2_
                   have HO152 := n3_
                   have HO141 := n4_
                   have BK130 := n5_
                   have BK156 := n6_
                   have HB := n7_
                   clear n0_ n1_ n2_ n3_ n4_ n5_ n6_ n7_
                   clear hb ho50
                   refine hK.out _ _ ⟨HS0_, HS1_⟩ (fun hHeld => ?_)
                   clear hK K
                   refine norm_ (a' := ?_) ?_ ?_
                   rotate_left
                   ·show Act.put _ (some 27) _ = _
                    simp only [Act.put, zaa, zac, zad, i64_w, i32_w]
                    rfl
                   exact norm_ (by first | (simp only [putAll, Act.put, zaa, zac, zad]; done) | (simp only [putAll, Act.put, zaa, zac, zad]; rfl)) (hJ12_16_19 (v140, v151, gb156) _ ⟨hHeld, (by (with_reducible repeat (first | apply zak | apply zal | apply zap)); exact zar HO138.out (fun _ hk => ⟨hk.1.1, ⟨hk.2, ⟨hk.1.2.1, ⟨hk.1.2.2.1, hk.1.2.2.2⟩⟩⟩⟩)), (by (with_reducible repeat (first | apply zav | apply zaw | apply zbb)); exact HO141.out), (by (with_reducible repeat (first | apply zak | apply zal | apply zap)); exact zar HO149.out (fun _ hk => ⟨hk.1.1, ⟨hk.2, ⟨hk.1.2.1, ⟨hk.1.2.2.1, hk.1.2.2.2⟩⟩⟩⟩)), (by (with_reducible repeat (first | apply zav | apply zaw | apply zbb)); exact zck HO152.out (fun _ hk => ⟨hk.1.1, ⟨hk.2, ⟨hk.1.2.1, hk.1.2.2⟩⟩⟩)), (by (with_reducible repeat (first | apply zak | apply zal | apply zap)); exact zar HO_0.out (fun _ hk => ⟨hk.1.1, ⟨hk.2, ⟨hk.1.2.1, ⟨hk.1.2.2.1, hk.1.2.2.2⟩⟩⟩⟩)), (by (with_reducible repeat (first | refine zai ?_ _ | refine zao ?_ | refine zaj ?_ _)); exact BK130.out), (by (with_reducible repeat (first | refine zai ?_ _ | refine zao ?_ | refine zaj ?_ _)); exact BK156.out), GW156.out, GE156.out, NB130_156.out, NB156_130.out, (by repeat (first | (with_reducible first | exact HB.out | apply zah | apply zab | apply zaf | refine zag ?_ GE130.out | refine zag ?_ GE156.out) | exact HB.out))⟩)
                 ·skip
                  rintro ⟨v140, gb156⟩ w48 ⟨hS_, h0_, h1_, h2_, h3_, h4_, h5_, h6_, h7_, h8_, h9_, h10_⟩
                  have n0_ : Aside0 (Kd.V (Kd.int .u8) 5 w48 w.heap.size (fun k_ => (P0_ k_ ∨ w.heap.size ≤ k_) ∧ some k_ ≠ (v140 : Value).ownBlock ∧ k_ ≠ gb130 ∧ k_ ≠ gb156) (.slice A43 y134.length c43) y134) := ⟨h0_⟩
                  have n1_ : Aside0 (Kd.N (Kd.slice 5 (Kd.int .u8)) 22 w48 w.heap.size (fun k_ => (P0_ k_ ∨ w.heap.size ≤ k_) ∧ k_ ≠ gb130 ∧ k_ ≠ gb156) v140 y139) := ⟨h1_⟩
                  have n2_ : Aside0 (Kd.V (Kd.int .u8) 5 w48 w.heap.size (fun k_ => (P0_ k_ ∨ w.heap.size ≤ k_) ∧ some k_ ≠ (v140 : Value).ownBlock ∧ k_ ≠ gb130 ∧ k_ ≠ gb156) (.slice A44 y145.length c44) y145) := ⟨h2_⟩
                  have n3_ : Aside0 (Kd.V (Kd.int .u8) 5 w48 w.heap.size (fun k_ => (P0_ k_ ∨ w.heap.size ≤ k_) ∧ some k_ ≠ (v140 : Value).ownBlock ∧ k_ ≠ gb130 ∧ k_ ≠ gb156) (.slice (some ad132) l0.length c0) l0) := ⟨h3_⟩
                  have n4_ : Aside0 (w48.heap[gb130]? = some (.cells #[.int .i64 0, .slice none 0 0, .slice none 0 0] 24 (0, 0))) := ⟨h4_⟩
                  have n5_ : Aside0 (w48.heap[gb156]? = some (.cells #[.int .i64 0, .slice none 0 0, .slice none 0 0] 24 (0, 0))) := ⟨h5_⟩
                  have n6_ : Aside0 (w.heap.size ≤ gb156) := ⟨h6_⟩
                  have n7_ : Aside0 (w.heap.size ≤ gb156) := ⟨h7_⟩
                  have n8_ : Aside0 (gb130 ≠ gb156) := ⟨h8_⟩
                  have n9_ : Aside0 (gb156 ≠ gb130) := ⟨h9_⟩
                  have n10_ : Aside0 (Below w.heap.size w w48) := ⟨h10_⟩
                  clear HO_0
                  clear BK130
                  clear HB
                  clear h0_ h1_ h2_ h3_ h4_ h5_ h6_ h7_ h8_ h9_ h10_
                  have HO138 := n0_
                  have HO141 := n1_
                  have HO149 := n2_
                  have HO_0 := n3_
                  have BK130 := n4_
                  have BK156 := n5_
                  have GW156 := n6_
                  have GE156 := n7_
                  have NB130_156 := n8_
                  have NB156_130 := n9_
                  have HB := n10_
                  clear n0_ n1_ n2_ n3_ n4_ n5_ n6_ n7_ n8_ n9_ n10_
                  have hHeld : w48.cell? ⟨ad132.block, ad132.off + 1, none⟩ = some (.int .u8 (rd l0 1)) ∧ w48.cell? ⟨ad132.block, ad132.off + 2, none⟩ = some (.int .u8 (rd l0 2)) := hS_
                  obtain ⟨Ao49, co49, eo49⟩ := Kd.N_slice HO141.out
                  (first | subst eo49 | (injection eo49 with f1_ f2_ f3_; have f4_ := f1_.symm; have f5_ := f3_.symm; clear f1_ f2_ f3_; subst f4_; subst f5_))
                  refine norm_ (a' := ?_) ?_ ?_
                  rotate_left
                  ·simp only [putAll, Act.put, zaa, zac, zad]
                   rfl
                  refine two_ (i := 13) (j := 16) (Ni := some 28) (Nj := some 31) #[true, true, true, true, true, true, true, true, true, true, true, true, true, true, true, true, false, false, false, true, false] #[true, true, true, true, true, true, true, true, true, true, true, true, true, false, true, true, true, false, false, true, false] rfl rfl rfl rfl (two_of HT_.out (by kernel_rfl)) (by decide) (by decide) (fun K hK => ?_) (fun K hK => ?_)
                  ·skip
                   refine goes_ Try.func35 (by kernel_rfl) rfl #[.slice Ao49 y139.length co49] (by rfl) rfl rfl (by (try simp only [zbg, zbs, zbt]); first | done | rfl | (simp only [zbn, zbr]; rfl) | (simp only [zbn, zbr]; rw [zdm (zee.mpr (zem (by assumption)))])) ?_
                   with_reducible refine (impl_joined.calls _ _ y139 t142 _ ?side1 ?side2 A12.out).mono ?_
                   (case side1 => repeat (first | exact (zdi HO141.out).2.2 | (with_reducible refine zbu ?_ _) | (with_reducible refine zbv ?_ _) | (with_reducible refine zca ?_)))
                   (case side2 => exact (zdi HO141.out).2.1)
                   rintro e w50 ⟨v143, rfl, ho0, hb⟩
                   have HS0_ := (hb.cell (World.block_lt_of_cell? _ _ (hHeld.1))).trans (hHeld.1)
                   have HS1_ := (hb.cell (World.block_lt_of_cell? _ _ (hHeld.2))).trans (hHeld.2)
                   refine ⟨_, rfl, ?_⟩
                   have n0_ := Aside0.mk (zbd (by (with_reducible repeat (first | apply zak | apply zal | apply zap)); exact HO_0.out) (zbl ho0) hb)
                   have n1_ := Aside0.mk (zbd (by (with_reducible repeat (first | apply zak | apply zal | apply zap)); exact HO138.out) (zbl ho0) hb)
                   have n2_ := Aside0.mk (zbd (by (with_reducible repeat (first | apply zak | apply zal | apply zap)); exact HO149.out) (zbl ho0) hb)
                   have n3_ := Aside0.mk (zcu (by (with_reducible repeat (first | apply zav | apply zaw | apply zbb)); exact HO141.out) (zbl ho0) hb)
                   have n4_ := Aside0.mk (zdd (Kd.R_newM (M := fun k_ => (w.heap.size ≤ k_)) ho0 (zat (by repeat (first | (with_reducible first | exact HB.out | apply zah | apply zab | apply zaf | refine zag ?_ GE130.out | refine zag ?_ GE156.out) | exact HB.out))) (fun k_ h_ => h_)) (zat (by repeat (first | (with_reducible first | exact HB.out | apply zah | apply zab | apply zaf | refine zag ?_ GE130.out | refine zag ?_ GE156.out) | exact HB.out))))
                   have n5_ := Aside0.mk (zbf (g := gb130) (o := .cells #[.int .i64 0, .slice none 0 0, .slice none 0 0] 24 (0, 0)) (by (with_reducible repeat (first | refine zai ?_ _ | refine zao ?_ | refine zaj ?_ _)); exact BK130.out) hb)
                   have n6_ := Aside0.mk (zbf (g := gb156) (o := .cells #[.int .i64 0, .slice none 0 0, .slice none 0 0] 24 (0, 0)) (by (with_reducible repeat (first | refine zai ?_ _ | refine zao ?_ | refine zaj ?_ _)); exact BK156.out) hb)
                   have n7_ := Aside0.mk (zbh (by repeat (first | (with_reducible first | exact HB.out | apply zah | apply zab | apply zaf | refine zag ?_ GE130.out | refine zag ?_ GE156.out) | exact HB.out)) hb)
                   clear HO_0
                   clear HO138
                   clear HO149
                   clear HO141
                   clear BK130
                   clear BK156
                   clear HB
                   have HO_0 := n0_
                   have HO138 := n1_
                   have HO149 := n2_
                   have HO141 := n3_
                   have HO144 := n4_
                   have BK130 := n5_
                   have BK156 := n6_
                   have HB := n7_
                   clear n0_ n1_ n2_ n3_ n4_ n5_ n6_ n7_
                   (try clear hb)
                   (try clear hb2)
                   (try clear hk)
                   (try clear hi)
                   (try clear ho0)
                   refine hK.out _ _ ⟨HS0_, HS1_⟩ (fun hHeld => ?_)
                   clear hK K
                   refine norm_ (a' := ?_) ?_ ?_
                   rotate_left
                   ·show Act.put _ (some 28) _ = _
                    simp only [Act.put, zaa, zac, zad, i64_w, i32_w]
                    rfl
                   exact norm_ (by first | (simp only [putAll, Act.put, zaa, zac, zad]; done) | (simp only [putAll, Act.put, zaa, zac, zad]; rfl)) (hJ12_13_19 (.slice Ao49 y139.length co49, v143, gb156) _ ⟨hHeld, (by (with_reducible repeat (first | apply zak | apply zal | apply zap)); exact zar HO138.out (fun _ hk => ⟨hk.1.1, ⟨hk.1.2.1, ⟨hk.2, ⟨hk.1.2.2.1, hk.1.2.2.2⟩⟩⟩⟩)), (by (with_reducible repeat (first | apply zav | apply zaw | apply zbb)); exact zck HO141.out (fun _ hk => ⟨hk.1.1, ⟨hk.2, ⟨hk.1.2.1, hk.1.2.2⟩⟩⟩)), (by (with_reducible repeat (first | apply zam | apply zan | apply zaq)); exact zaz HO144.out (fun _ hk => hk.1)), (by (with_reducible repeat (first | apply zak | apply zal | apply zap)); exact zar HO149.out (fun _ hk => ⟨hk.1.1, ⟨hk.1.2.1, ⟨hk.2, ⟨hk.1.2.2.1, hk.1.2.2.2⟩⟩⟩⟩)), (by (with_reducible repeat (first | apply zak | apply zal | apply zap)); exact zar HO_0.out (fun _ hk => ⟨hk.1.1, ⟨hk.1.2.1, ⟨hk.2, ⟨hk.1.2.2.1, hk.1.2.2.2⟩⟩⟩⟩)), (by (with_reducible repeat (first | refine zai ?_ _ | refine zao ?_ | refine zaj ?_ _)); exact BK130.out), (by (with_reducible repeat (first | refine zai ?_ _ | refine zao ?_ | refine zaj ?_ _)); exact BK156.out), GW156.out, GE156.out, NB130_156.out, NB156_130.out, (by repeat (first | (with_reducible first | exact HB.out | apply zah | apply zab | apply zaf | refine zag ?_ GE130.out | refine zag ?_ GE156.out) | exact HB.out))⟩)
                  ·skip
                   refine zdg (Kd.slice 5 (Kd.int .u8)) _ 22 ?hg (N' := 31) ?hd (xs := ([y145] : List (List Int))) (inner := [.slice A44 y145.length c44]) (ok := (fun k_ => (P0_ k_ ∨ w.heap.size ≤ k_) ∧ some k_ ≠ (.slice Ao49 y139.length co49 : Value).ownBlock ∧ k_ ≠ gb130 ∧ k_ ≠ gb156)) (okp := (fun k_ => (P0_ k_ ∨ w.heap.size ≤ k_) ∧ some k_ ≠ (.slice Ao49 y139.length co49 : Value).ownBlock ∧ k_ ≠ gb130 ∧ k_ ≠ gb156)) ?hr ?hp (fun _ hk => hk) ((show ∀ k_, w48.heap.size ≤ k_ → (fun k_ => (P0_ k_ ∨ w.heap.size ≤ k_) ∧ some k_ ≠ (.slice Ao49 y139.length co49 : Value).ownBlock ∧ k_ ≠ gb130 ∧ k_ ≠ gb156) k_ from fun k_ hk => ⟨(.inr (zdb (zat (by repeat (first | (with_reducible first | exact HB.out | apply zah | apply zab | apply zaf | refine zag ?_ GE130.out | refine zag ?_ GE156.out) | exact HB.out))) hk)), zel (Kd.N_lt (by (with_reducible repeat (first | apply zav | apply zaw | apply zbb)); exact HO141.out)) k_ hk, zdn (g := gb130) (o := .cells #[.int .i64 0, .slice none 0 0, .slice none 0 0] 24 (0, 0)) (by (with_reducible repeat (first | refine zai ?_ _ | refine zao ?_ | refine zaj ?_ _)); exact BK130.out) k_ hk, zdn (g := gb156) (o := .cells #[.int .i64 0, .slice none 0 0, .slice none 0 0] 24 (0, 0)) (by (with_reducible repeat (first | refine zai ?_ _ | refine zao ?_ | refine zaj ?_ _)); exact BK156.out) k_ hk⟩) _ (zbq _)) (zcq _ _) (zbq _) (by simp) ?_; (case hd => rfl); (case hg => rfl); (case hr => first | (go_simp; done) | (go_simp; rfl)); (case hp => exact (zep (show Kd.FK (Kd.slice 5 (Kd.int .u8)) _ _ y145 [.slice A44 y145.length c44] from (zdc (zct (zar (ok' := (fun k_ => (P0_ k_ ∨ w.heap.size ≤ k_) ∧ some k_ ≠ (.slice Ao49 y139.length co49 : Value).ownBlock ∧ k_ ≠ gb130 ∧ k_ ≠ gb156)) (HO149.out) (fun k_ hk => ⟨hk.1, ⟨hk.2.1, ⟨hk.2.2.1, hk.2.2.2⟩⟩⟩))).2.1 (Kd.V_F (zar (ok' := (fun k_ => (P0_ k_ ∨ w.heap.size ≤ k_) ∧ some k_ ≠ (.slice Ao49 y139.length co49 : Value).ownBlock ∧ k_ ≠ gb130 ∧ k_ ≠ gb156)) (HO149.out) (fun k_ hk => ⟨hk.1, ⟨hk.2.1, ⟨hk.2.2.1, hk.2.2.2⟩⟩⟩))))) (zds _ _)))
                   intro v151 w49 ho50 hb hg_ hnew_
                   have HS0_ := (hb.cell (World.block_lt_of_cell? _ _ (hHeld.1))).trans (hHeld.1)
                   have HS1_ := (hb.cell (World.block_lt_of_cell? _ _ (hHeld.2))).trans (hHeld.2)
                   clear hg_ hnew_
                   (first | rw [← Ny150.out] at ho50 | (simp only [Int.reduceToNat] at ho50; rw [← Ny150.out] at ho50))
                   have n0_ := Aside0.mk (zbd (by (with_reducible repeat (first | apply zak | apply zal | apply zap)); exact HO_0.out) (zby ho50) hb)
                   have n1_ := Aside0.mk (zbd (by (with_reducible repeat (first | apply zak | apply zal | apply zap)); exact HO138.out) (zby ho50) hb)
                   have n2_ := Aside0.mk (zbd (by (with_reducible repeat (first | apply zak | apply zal | apply zap)); exact HO149.out) (zby ho50) hb)
                   have n3_ := Aside0.mk (zcu (by (with_reducible repeat (first | apply zav | apply zaw | apply zbb)); exact HO141.out) (zby ho50) hb)
                   have n4_ := Aside0.mk (zea ho50 (zat (by repeat (first | (with_reducible first | exact HB.out | apply zah | apply zab | apply zaf | refine zag ?_ GE130.out | refine zag ?_ GE156.out) | exact HB.out))))
                   have n5_ := Aside0.mk (zbf (g := gb130) (o := .cells #[.int .i64 0, .slice none 0 0, .slice none 0 0] 24 (0, 0)) (by (with_reducible repeat (first | refine zai ?_ _ | refine zao ?_ | refine zaj ?_ _)); exact BK130.out) hb)
                   have n6_ := Aside0.mk (zbf (g := gb156) (o := .cells #[.int .i64 0, .slice none 0 0, .slice none 0 0] 24 (0, 0)) (by (with_reducible repeat (first | refine zai ?_ _ | refine zao ?_ | refine zaj ?_ _)); exact BK156.out) hb)
                   have n7_ := Aside0.mk (zbh (by repeat (first | (with_reducible first | exact HB.out | apply zah | apply zab | apply zaf | refine zag ?_ GE130.out | refine zag ?_ GE156.out) | exact HB.out)) hb)
                   clear HO_0
                   clear HO138
                   clear HO149
                   clear HO141
                   clear BK130
                   clear BK156
                   clear HB
                   have HO_0 := n0_
                   have HO138 := n1_
                   have HO149 := n2_
                   have HO141 := n3_
                   have HO152 := n4_
                   have BK130 := n5_
                   have BK156 := n6_
                   have HB := n7_
                   clear n0_ n1_ n2_ n3_ n4_ n5_ n6_ n7_
                   clear hb ho50
                   refine hK.out _ _ ⟨HS0_, HS1_⟩ (fun hHeld => ?_)
                   clear hK K
                   refine norm_ (a' := ?_) ?_ ?_
                   rotate_left
                   ·show Act.put _ (some 31) _ = _
                    simp only [Act.put, zaa, zac, zad, i64_w, i32_w]
                    rfl
                   exact norm_ (by first | (simp only [putAll, Act.put, zaa, zac, zad]; done) | (simp only [putAll, Act.put, zaa, zac, zad]; rfl)) (hJ12_16_19 ((.slice Ao49 y139.length co49), v151, gb156) _ ⟨hHeld, (by (with_reducible repeat (first | apply zak | apply zal | apply zap)); exact zar HO138.out (fun _ hk => ⟨hk.1.1, ⟨hk.1.2.1, ⟨hk.2, ⟨hk.1.2.2.1, hk.1.2.2.2⟩⟩⟩⟩)), (by (with_reducible repeat (first | apply zav | apply zaw | apply zbb)); exact zck HO141.out (fun _ hk => ⟨hk.1.1, ⟨hk.2, ⟨hk.1.2.1, hk.1.2.2⟩⟩⟩)), (by (with_reducible repeat (first | apply zak | apply zal | apply zap)); exact zar HO149.out (fun _ hk => ⟨hk.1.1, ⟨hk.1.2.1, ⟨hk.2, ⟨hk.1.2.2.1, hk.1.2.2.2⟩⟩⟩⟩)), (by (with_reducible repeat (first | apply zav | apply zaw | apply zbb)); exact HO152.out), (by (with_reducible repeat (first | apply zak | apply zal | apply zap)); exact zar HO_0.out (fun _ hk => ⟨hk.1.1, ⟨hk.1.2.1, ⟨hk.2, ⟨hk.1.2.2.1, hk.1.2.2.2⟩⟩⟩⟩)), (by (with_reducible repeat (first | refine zai ?_ _ | refine zao ?_ | refine zaj ?_ _)); exact BK130.out), (by (with_reducible repeat (first | refine zai ?_ _ | refine zao ?_ | refine zaj ?_ _)); exact BK156.out), GW156.out, GE156.out, NB130_156.out, NB156_130.out, (by repeat (first | (with_reducible first | exact HB.out | apply zah | apply zab | apply zaf | refine zag ?_ GE130.out | refine zag ?_ GE156.out) | exact HB.out))⟩)
                ·skip
                 rintro ⟨v140, v151⟩ w49 ⟨hS_, h0_, h1_, h2_, h3_, h4_, h5_, h6_⟩
                 have n0_ : Aside0 (Kd.V (Kd.int .u8) 5 w49 w.heap.size (fun k_ => (P0_ k_ ∨ w.heap.size ≤ k_) ∧ some k_ ≠ (v140 : Value).ownBlock ∧ some k_ ≠ (v151 : Value).ownBlock ∧ k_ ≠ gb130) (.slice A43 y134.length c43) y134) := ⟨h0_⟩
                 have n1_ : Aside0 (Kd.N (Kd.slice 5 (Kd.int .u8)) 22 w49 w.heap.size (fun k_ => (P0_ k_ ∨ w.heap.size ≤ k_) ∧ some k_ ≠ (v151 : Value).ownBlock ∧ k_ ≠ gb130) v140 y139) := ⟨h1_⟩
                 have n2_ : Aside0 (Kd.V (Kd.int .u8) 5 w49 w.heap.size (fun k_ => (P0_ k_ ∨ w.heap.size ≤ k_) ∧ some k_ ≠ (v140 : Value).ownBlock ∧ some k_ ≠ (v151 : Value).ownBlock ∧ k_ ≠ gb130) (.slice A44 y145.length c44) y145) := ⟨h2_⟩
                 have n3_ : Aside0 (Kd.N (Kd.slice 5 (Kd.int .u8)) 22 w49 w.heap.size (fun k_ => (P0_ k_ ∨ w.heap.size ≤ k_) ∧ some k_ ≠ (v140 : Value).ownBlock ∧ k_ ≠ gb130) v151 y150) := ⟨h3_⟩
                 have n4_ : Aside0 (Kd.V (Kd.int .u8) 5 w49 w.heap.size (fun k_ => (P0_ k_ ∨ w.heap.size ≤ k_) ∧ some k_ ≠ (v140 : Value).ownBlock ∧ some k_ ≠ (v151 : Value).ownBlock ∧ k_ ≠ gb130) (.slice (some ad132) l0.length c0) l0) := ⟨h4_⟩
                 have n5_ : Aside0 (w49.heap[gb130]? = some (.cells #[.int .i64 0, .slice none 0 0, .slice none 0 0] 24 (0, 0))) := ⟨h5_⟩
                 have n6_ : Aside0 (Below w.heap.size w w49) := ⟨h6_⟩
                 clear HO_0
                 clear BK130
                 clear HB
                 clear h0_ h1_ h2_ h3_ h4_ h5_ h6_
                 have HO138 := n0_
                 have HO141 := n1_
                 have HO149 := n2_
                 have HO152 := n3_
                 have HO_0 := n4_
                 have BK130 := n5_
                 have HB := n6_
                 clear n0_ n1_ n2_ n3_ n4_ n5_ n6_
                 have hHeld : w49.cell? ⟨ad132.block, ad132.off + 1, none⟩ = some (.int .u8 (rd l0 1)) ∧ w49.cell? ⟨ad132.block, ad132.off + 2, none⟩ = some (.int .u8 (rd l0 2)) := hS_
                 obtain ⟨Ao50, co50, eo50⟩ := Kd.N_slice HO141.out
                 (first | subst eo50 | (injection eo50 with f1_ f2_ f3_; have f4_ := f1_.symm; have f5_ := f3_.symm; clear f1_ f2_ f3_; subst f4_; subst f5_))
                 refine norm_ (a' := ?_) ?_ ?_
                 rotate_left
                 ·simp only [putAll, Act.put, zaa, zac, zad]
                  rfl
                 refine two_ (i := 13) (j := 19) (Ni := some 28) (Nj := some 4) #[true, true, true, true, true, true, true, true, true, true, true, true, true, true, true, true, true, false, false, false, false] #[true, true, true, true, true, true, true, true, true, true, true, true, true, false, true, true, true, false, false, true, false] rfl rfl rfl rfl (two_of HT_.out (by kernel_rfl)) (by decide) (by decide) (fun K hK => ?_) (fun K hK => ?_)
                 ·skip
                  refine goes_ Try.func35 (by kernel_rfl) rfl #[.slice Ao50 y139.length co50] (by rfl) rfl rfl (by (try simp only [zbg, zbs, zbt]); first | done | rfl | (simp only [zbn, zbr]; rfl) | (simp only [zbn, zbr]; rw [zdm (zee.mpr (zem (by assumption)))])) ?_
                  with_reducible refine (impl_joined.calls _ _ y139 t142 _ ?side1 ?side2 A12.out).mono ?_
                  (case side1 => repeat (first | exact (zdi HO141.out).2.2 | (with_reducible refine zbu ?_ _) | (with_reducible refine zbv ?_ _) | (with_reducible refine zca ?_)))
                  (case side2 => exact (zdi HO141.out).2.1)
                  rintro e w51 ⟨v143, rfl, ho0, hb⟩
                  have HS0_ := (hb.cell (World.block_lt_of_cell? _ _ (hHeld.1))).trans (hHeld.1)
                  have HS1_ := (hb.cell (World.block_lt_of_cell? _ _ (hHeld.2))).trans (hHeld.2)
                  refine ⟨_, rfl, ?_⟩
                  have n0_ := Aside0.mk (zbd (by (with_reducible repeat (first | apply zak | apply zal | apply zap)); exact HO_0.out) (zbl ho0) hb)
                  have n1_ := Aside0.mk (zbd (by (with_reducible repeat (first | apply zak | apply zal | apply zap)); exact HO138.out) (zbl ho0) hb)
                  have n2_ := Aside0.mk (zbd (by (with_reducible repeat (first | apply zak | apply zal | apply zap)); exact HO149.out) (zbl ho0) hb)
                  have n3_ := Aside0.mk (zcu (by (with_reducible repeat (first | apply zav | apply zaw | apply zbb)); exact HO141.out) (zbl ho0) hb)
                  have n4_ := Aside0.mk (zcu (by (with_reducible repeat (first | apply zav | apply zaw | apply zbb)); exact HO152.out) (zbl ho0) hb)
                  have n5_ := Aside0.mk (zdd (Kd.R_newM (M := fun k_ => (w.heap.size ≤ k_)) ho0 (zat (by repeat (first | (with_reducible first | exact HB.out | apply zah | apply zab | apply zaf | refine zag ?_ GE130.out) | exact HB.out))) (fun k_ h_ => h_)) (zat (by repeat (first | (with_reducible first | exact HB.out | apply zah | apply zab | apply zaf | refine zag ?_ GE130.out) | exact HB.out))))
                  have n6_ := Aside0.mk (zbf (g := gb130) (o := .cells #[.int .i64 0, .slice none 0 0, .slice none 0 0] 24 (0, 0)) (by (with_reducible repeat (first | refine zai ?_ _ | refine zao ?_ | refine zaj ?_ _)); exact BK130.out) hb)
                  have n7_ := Aside0.mk (zbh (by repeat (first | (with_reducible first | exact HB.out | apply zah | apply zab | apply zaf | refine zag ?_ GE130.out) | exact HB.out)) hb)
                  clear HO_0
                  clear HO138
                  clear HO149
                  clear HO141
                  clear HO152
                  clear BK130
                  clear HB
                  have HO_0 := n0_
                  have HO138 := n1_
                  have HO149 := n2_
                  have HO141 := n3_
                  have HO152 := n4_
                  have HO144 := n5_
                  have BK130 := n6_
                  have HB := n7_
                  clear n0_ n1_ n2_ n3_ n4_ n5_ n6_ n7_
                  (try clear hb)
                  (try clear hb2)
                  (try clear hk)
                  (try clear hi)
                  (try clear ho0)
                  refine hK.out _ _ ⟨HS0_, HS1_⟩ (fun hHeld => ?_)
                  clear hK K
                  refine norm_ (a' := ?_) ?_ ?_
                  rotate_left
                  ·show Act.put _ (some 28) _ = _
                   simp only [Act.put, zaa, zac, zad, i64_w, i32_w]
                   rfl
                  exact norm_ (by first | (simp only [putAll, Act.put, zaa, zac, zad]; done) | (simp only [putAll, Act.put, zaa, zac, zad]; rfl)) (hJ12_13_16 (.slice Ao50 y139.length co50, v143, v151) _ ⟨hHeld, (by (with_reducible repeat (first | apply zak | apply zal | apply zap)); exact zar HO138.out (fun _ hk => ⟨hk.1.1, ⟨hk.1.2.1, ⟨hk.2, ⟨hk.1.2.2.1, hk.1.2.2.2⟩⟩⟩⟩)), (by (with_reducible repeat (first | apply zav | apply zaw | apply zbb)); exact zck HO141.out (fun _ hk => ⟨hk.1.1, ⟨hk.2, ⟨hk.1.2.1, hk.1.2.2⟩⟩⟩)), (by (with_reducible repeat (first | apply zam | apply zan | apply zaq)); exact zaz HO144.out (fun _ hk => hk.1)), (by (with_reducible repeat (first | apply zak | apply zal | apply zap)); exact zar HO149.out (fun _ hk => ⟨hk.1.1, ⟨hk.1.2.1, ⟨hk.2, ⟨hk.1.2.2.1, hk.1.2.2.2⟩⟩⟩⟩)), (by (with_reducible repeat (first | apply zav | apply zaw | apply zbb)); exact zck HO152.out (fun _ hk => ⟨hk.1.1, ⟨hk.1.2.1, ⟨hk.2, hk.1.2.2⟩⟩⟩)), (by (with_reducible repeat (first | apply zak | apply zal | apply zap)); exact zar HO_0.out (fun _ hk => ⟨hk.1.1, ⟨hk.1.2.1, ⟨hk.2, ⟨hk.1.2.2.1, hk.1.2.2.2⟩⟩⟩⟩)), (by (with_reducible repeat (first | refine zai ?_ _ | refine zao ?_ | refine zaj ?_ _)); exact BK130.out), (by repeat (first | (with_reducible first | exact HB.out | apply zah | apply zab | apply zaf | refine zag ?_ GE130.out) | exact HB.out))⟩)
                 ·skip
                  refine box_step ?hg (N := 4) ?hd (cs := #[.int .i64 0, .slice none 0 0, .slice none 0 0]) (t := 24) ?hr ?_; (case hd => rfl); (case hg => rfl); (case hr => first | (go_simp; done) | (go_simp; rfl))
                  intro gb156 hg w50 hbox hb
                  have HS0_ := (hb.cell (World.block_lt_of_cell? _ _ (hHeld.1))).trans (hHeld.1)
                  have HS1_ := (hb.cell (World.block_lt_of_cell? _ _ (hHeld.2))).trans (hHeld.2)
                  have n0_ := Aside0.mk (zcj (zci (by (with_reducible repeat (first | apply zak | apply zal | apply zap)); exact HO_0.out) gb156 (zbp hg.symm)) hb)
                  have n1_ := Aside0.mk (zcj (zci (by (with_reducible repeat (first | apply zak | apply zal | apply zap)); exact HO138.out) gb156 (zbp hg.symm)) hb)
                  have n2_ := Aside0.mk (zcj (zci (by (with_reducible repeat (first | apply zak | apply zal | apply zap)); exact HO149.out) gb156 (zbp hg.symm)) hb)
                  have n3_ := Aside0.mk (zdt (zdz (by (with_reducible repeat (first | apply zav | apply zaw | apply zbb)); exact HO141.out) gb156 (zbp hg.symm)) hb)
                  have n4_ := Aside0.mk (zdt (zdz (by (with_reducible repeat (first | apply zav | apply zaw | apply zbb)); exact HO152.out) gb156 (zbp hg.symm)) hb)
                  have n5_ := Aside0.mk (zbf (g := gb130) (o := .cells #[.int .i64 0, .slice none 0 0, .slice none 0 0] 24 (0, 0)) (by (with_reducible repeat (first | refine zai ?_ _ | refine zao ?_ | refine zaj ?_ _)); exact BK130.out) hb)
                  have n6_ := Aside0.mk (zbh (by repeat (first | (with_reducible first | exact HB.out | apply zah | apply zab | apply zaf | refine zag ?_ GE130.out) | exact HB.out)) hb)
                  have n7_ := Aside0.mk (hbox)
                  have n8_ := Aside0.mk ((by rw [hg]; exact (zat (by repeat (first | (with_reducible first | exact HB.out | apply zah | apply zab | apply zaf | refine zag ?_ GE130.out) | exact HB.out))) : w.heap.size ≤ gb156))
                  have n9_ := Aside0.mk ((by rw [hg]; exact (zat (by repeat (first | (with_reducible first | exact HB.out | apply zah | apply zab | apply zaf | refine zag ?_ GE130.out) | exact HB.out))) : w.heap.size ≤ gb156))
                  have n10_ := Aside0.mk ((by rw [hg]; exact zcb (blk_lt (g := gb130) (o := .cells #[.int .i64 0, .slice none 0 0, .slice none 0 0] 24 (0, 0)) (by (with_reducible repeat (first | refine zai ?_ _ | refine zao ?_ | refine zaj ?_ _)); exact BK130.out)) : gb130 ≠ gb156))
                  have n11_ := Aside0.mk ((by rw [hg]; exact zdj (blk_lt (g := gb130) (o := .cells #[.int .i64 0, .slice none 0 0, .slice none 0 0] 24 (0, 0)) (by (with_reducible repeat (first | refine zai ?_ _ | refine zao ?_ | refine zaj ?_ _)); exact BK130.out)) : gb156 ≠ gb130))
                  clear HO_0
                  clear HO138
                  clear HO149
                  clear HO141
                  clear HO152
                  clear BK130
                  clear HB
                  have HO_0 := n0_
                  have HO138 := n1_
                  have HO149 := n2_
                  have HO141 := n3_
                  have HO152 := n4_
                  have BK130 := n5_
                  have HB := n6_
                  have BK156 := n7_
                  have GW156 := n8_
                  have GE156 := n9_
                  have NB130_156 := n10_
                  have NB156_130 := n11_
                  clear n0_ n1_ n2_ n3_ n4_ n5_ n6_ n7_ n8_ n9_ n10_ n11_
                  clear hb hbox hg
                  refine hK.out _ _ ⟨HS0_, HS1_⟩ (fun hHeld => ?_)
                  clear hK K
                  refine norm_ (a' := ?_) ?_ ?_
                  rotate_left
                  ·show Act.put _ (some 4) _ = _
                   simp only [Act.put, zaa, zac, zad, i64_w, i32_w]
                   rfl
                  exact norm_ (by first | (simp only [putAll, Act.put, zaa, zac, zad]; done) | (simp only [putAll, Act.put, zaa, zac, zad]; rfl)) (hJ12_16_19 ((.slice Ao50 y139.length co50), v151, gb156) _ ⟨hHeld, (by (with_reducible repeat (first | apply zak | apply zal | apply zap)); exact zar HO138.out (fun _ hk => ⟨hk.1.1, ⟨hk.1.2.1, ⟨hk.1.2.2.1, ⟨hk.1.2.2.2, hk.2⟩⟩⟩⟩)), (by (with_reducible repeat (first | apply zav | apply zaw | apply zbb)); exact zck HO141.out (fun _ hk => ⟨hk.1.1, ⟨hk.1.2.1, ⟨hk.1.2.2, hk.2⟩⟩⟩)), (by (with_reducible repeat (first | apply zak | apply zal | apply zap)); exact zar HO149.out (fun _ hk => ⟨hk.1.1, ⟨hk.1.2.1, ⟨hk.1.2.2.1, ⟨hk.1.2.2.2, hk.2⟩⟩⟩⟩)), (by (with_reducible repeat (first | apply zav | apply zaw | apply zbb)); exact zck HO152.out (fun _ hk => ⟨hk.1.1, ⟨hk.1.2.1, ⟨hk.1.2.2, hk.2⟩⟩⟩)), (by (with_reducible repeat (first | apply zak | apply zal | apply zap)); exact zar HO_0.out (fun _ hk => ⟨hk.1.1, ⟨hk.1.2.1, ⟨hk.1.2.2.1, ⟨hk.1.2.2.2, hk.2⟩⟩⟩⟩)), (by (with_reducible repeat (first | refine zai ?_ _ | refine zao ?_ | refine zaj ?_ _)); exact BK130.out), (by (with_reducible repeat (first | refine zai ?_ _ | refine zao ?_ | refine zaj ?_ _)); exact BK156.out), GW156.out, GE156.out, NB130_156.out, NB156_130.out, (by repeat (first | (with_reducible first | exact HB.out | apply zah | apply zab | apply zaf | refine zag ?_ GE130.out | refine zag ?_ GE156.out) | exact HB.out))⟩)
               ·skip
                rintro ⟨v140, v143⟩ w49 ⟨hS_, h0_, h1_, h2_, h3_, h4_, h5_, h6_⟩
                have n0_ : Aside0 (Kd.V (Kd.int .u8) 5 w49 w.heap.size (fun k_ => (P0_ k_ ∨ w.heap.size ≤ k_) ∧ some k_ ≠ (v140 : Value).ownBlock ∧ some k_ ≠ (v143 : Value).ownBlock ∧ k_ ≠ gb130) (.slice A43 y134.length c43) y134) := ⟨h0_⟩
                have n1_ : Aside0 (Kd.N (Kd.slice 5 (Kd.int .u8)) 22 w49 w.heap.size (fun k_ => (P0_ k_ ∨ w.heap.size ≤ k_) ∧ some k_ ≠ (v143 : Value).ownBlock ∧ k_ ≠ gb130) v140 y139) := ⟨h1_⟩
                have n2_ : Aside0 (Kd.R (Kd.int .u8) 5 w49 w.heap.size (fun k_ => (w.heap.size ≤ k_)) v143 t142) := ⟨h2_⟩
                have n3_ : Aside0 (Kd.V (Kd.int .u8) 5 w49 w.heap.size (fun k_ => (P0_ k_ ∨ w.heap.size ≤ k_) ∧ some k_ ≠ (v140 : Value).ownBlock ∧ some k_ ≠ (v143 : Value).ownBlock ∧ k_ ≠ gb130) (.slice A44 y145.length c44) y145) := ⟨h3_⟩
                have n4_ : Aside0 (Kd.V (Kd.int .u8) 5 w49 w.heap.size (fun k_ => (P0_ k_ ∨ w.heap.size ≤ k_) ∧ some k_ ≠ (v140 : Value).ownBlock ∧ some k_ ≠ (v143 : Value).ownBlock ∧ k_ ≠ gb130) (.slice (some ad132) l0.length c0) l0) := ⟨h4_⟩
                have n5_ : Aside0 (w49.heap[gb130]? = some (.cells #[.int .i64 0, .slice none 0 0, .slice none 0 0] 24 (0, 0))) := ⟨h5_⟩
                have n6_ : Aside0 (Below w.heap.size w w49) := ⟨h6_⟩
                clear HO_0
                clear BK130
                clear HB
                clear h0_ h1_ h2_ h3_ h4_ h5_ h6_
                have HO138 := n0_
                have HO141 := n1_
                have HO144 := n2_
                have HO149 := n3_
                have HO_0 := n4_
                have BK130 := n5_
                have HB := n6_
                clear n0_ n1_ n2_ n3_ n4_ n5_ n6_
                have hHeld : w49.cell? ⟨ad132.block, ad132.off + 1, none⟩ = some (.int .u8 (rd l0 1)) ∧ w49.cell? ⟨ad132.block, ad132.off + 2, none⟩ = some (.int .u8 (rd l0 2)) := hS_
                refine norm_ (a' := ?_) ?_ ?_
                rotate_left
                ·simp only [putAll, Act.put, zaa, zac, zad]
                 rfl
                refine two_ (i := 16) (j := 19) (Ni := some 31) (Nj := some 4) #[true, true, true, true, true, true, true, true, true, true, true, true, true, true, true, true, true, false, false, false, false] #[true, true, true, true, true, true, true, true, true, true, true, true, true, true, true, true, false, false, false, true, false] rfl rfl rfl rfl (two_of HT_.out (by kernel_rfl)) (by decide) (by decide) (fun K hK => ?_) (fun K hK => ?_)
                ·skip
                 refine zdg (Kd.slice 5 (Kd.int .u8)) _ 22 ?hg (N' := 31) ?hd (xs := ([y145] : List (List Int))) (inner := [.slice A44 y145.length c44]) (ok := (fun k_ => (P0_ k_ ∨ w.heap.size ≤ k_) ∧ some k_ ≠ (v140 : Value).ownBlock ∧ some k_ ≠ (v143 : Value).ownBlock ∧ k_ ≠ gb130)) (okp := (fun k_ => (P0_ k_ ∨ w.heap.size ≤ k_) ∧ some k_ ≠ (v140 : Value).ownBlock ∧ some k_ ≠ (v143 : Value).ownBlock ∧ k_ ≠ gb130)) ?hr ?hp (fun _ hk => hk) ((show ∀ k_, w49.heap.size ≤ k_ → (fun k_ => (P0_ k_ ∨ w.heap.size ≤ k_) ∧ some k_ ≠ (v140 : Value).ownBlock ∧ some k_ ≠ (v143 : Value).ownBlock ∧ k_ ≠ gb130) k_ from fun k_ hk => ⟨(.inr (zdb (zat (by repeat (first | (with_reducible first | exact HB.out | apply zah | apply zab | apply zaf | refine zag ?_ GE130.out) | exact HB.out))) hk)), zel (Kd.N_lt (by (with_reducible repeat (first | apply zav | apply zaw | apply zbb)); exact HO141.out)) k_ hk, zel (zdf (by (with_reducible repeat (first | apply zam | apply zan | apply zaq)); exact HO144.out)) k_ hk, zdn (g := gb130) (o := .cells #[.int .i64 0, .slice none 0 0, .slice none 0 0] 24 (0, 0)) (by (with_reducible repeat (first | refine zai ?_ _ | refine zao ?_ | refine zaj ?_ _)); exact BK130.out) k_ hk⟩) _ (zbq _)) (zcq _ _) (zbq _) (by simp) ?_; (case hd => rfl); (case hg => rfl); (case hr => first | (go_simp; done) | (go_simp; rfl)); (case hp => exact (zep (show Kd.FK (Kd.slice 5 (Kd.int .u8)) _ _ y145 [.slice A44 y145.length c44] from (zdc (zct (zar (ok' := (fun k_ => (P0_ k_ ∨ w.heap.size ≤ k_) ∧ some k_ ≠ (v140 : Value).ownBlock ∧ some k_ ≠ (v143 : Value).ownBlock ∧ k_ ≠ gb130)) (HO149.out) (fun k_ hk => ⟨hk.1, ⟨hk.2.1, ⟨hk.2.2.1, hk.2.2.2⟩⟩⟩))).2.1 (Kd.V_F (zar (ok' := (fun k_ => (P0_ k_ ∨ w.heap.size ≤ k_) ∧ some k_ ≠ (v140 : Value).ownBlock ∧ some k_ ≠ (v143 : Value).ownBlock ∧ k_ ≠ gb130)) (HO149.out) (fun k_ hk => ⟨hk.1, ⟨hk.2.1, ⟨hk.2.2.1, hk.2.2.2⟩⟩⟩))))) (zds _ _)))
                 intro v151 w50 ho51 hb hg_ hnew_
                 have HS0_ := (hb.cell (World.block_lt_of_cell? _ _ (hHeld.1))).trans (hHeld.1)
                 have HS1_ := (hb.cell (World.block_lt_of_cell? _ _ (hHeld.2))).trans (hHeld.2)
                 clear hg_ hnew_
                 (first | rw [← Ny150.out] at ho51 | (simp only [Int.reduceToNat] at ho51; rw [← Ny150.out] at ho51))
                 have n0_ := Aside0.mk (zbd (by (with_reducible repeat (first | apply zak | apply zal | apply zap)); exact HO_0.out) (zby ho51) hb)
                 have n1_ := Aside0.mk (zbd (by (with_reducible repeat (first | apply zak | apply zal | apply zap)); exact HO138.out) (zby ho51) hb)
                 have n2_ := Aside0.mk (zbd (by (with_reducible repeat (first | apply zak | apply zal | apply zap)); exact HO149.out) (zby ho51) hb)
                 have n3_ := Aside0.mk (zcu (by (with_reducible repeat (first | apply zav | apply zaw | apply zbb)); exact HO141.out) (zby ho51) hb)
                 have n4_ := Aside0.mk (zbe (by (with_reducible repeat (first | apply zam | apply zan | apply zaq)); exact HO144.out) hb)
                 have n5_ := Aside0.mk (zea ho51 (zat (by repeat (first | (with_reducible first | exact HB.out | apply zah | apply zab | apply zaf | refine zag ?_ GE130.out) | exact HB.out))))
                 have n6_ := Aside0.mk (zbf (g := gb130) (o := .cells #[.int .i64 0, .slice none 0 0, .slice none 0 0] 24 (0, 0)) (by (with_reducible repeat (first | refine zai ?_ _ | refine zao ?_ | refine zaj ?_ _)); exact BK130.out) hb)
                 have n7_ := Aside0.mk (zbh (by repeat (first | (with_reducible first | exact HB.out | apply zah | apply zab | apply zaf | refine zag ?_ GE130.out) | exact HB.out)) hb)
                 clear HO_0
                 clear HO138
                 clear HO149
                 clear HO141
                 clear HO144
                 clear BK130
                 clear HB
                 have HO_0 := n0_
                 have HO138 := n1_
                 have HO149 := n2_
                 have HO141 := n3_
                 have HO144 := n4_
                 have HO152 := n5_
                 have BK130 := n6_
                 have HB := n7_
                 clear n0_ n1_ n2_ n3_ n4_ n5_ n6_ n7_
                 clear hb ho51
                 refine hK.out _ _ ⟨HS0_, HS1_⟩ (fun hHeld => ?_)
                 clear hK K
                 refine norm_ (a' := ?_) ?_ ?_
                 rotate_left
                 ·show Act.put _ (some 31) _ = _
                  simp only [Act.put, zaa, zac, zad, i64_w, i32_w]
                  rfl
                 exact norm_ (by first | (simp only [putAll, Act.put, zaa, zac, zad]; done) | (simp only [putAll, Act.put, zaa, zac, zad]; rfl)) (hJ12_13_16 (v140, v143, v151) _ ⟨hHeld, (by (with_reducible repeat (first | apply zak | apply zal | apply zap)); exact zar HO138.out (fun _ hk => ⟨hk.1.1, ⟨hk.1.2.1, ⟨hk.1.2.2.1, ⟨hk.2, hk.1.2.2.2⟩⟩⟩⟩)), (by (with_reducible repeat (first | apply zav | apply zaw | apply zbb)); exact zck HO141.out (fun _ hk => ⟨hk.1.1, ⟨hk.1.2.1, ⟨hk.2, hk.1.2.2⟩⟩⟩)), (by (with_reducible repeat (first | apply zam | apply zan | apply zaq)); exact HO144.out), (by (with_reducible repeat (first | apply zak | apply zal | apply zap)); exact zar HO149.out (fun _ hk => ⟨hk.1.1, ⟨hk.1.2.1, ⟨hk.1.2.2.1, ⟨hk.2, hk.1.2.2.2⟩⟩⟩⟩)), (by (with_reducible repeat (first | apply zav | apply zaw | apply zbb)); exact HO152.out), (by (with_reducible repeat (first | apply zak | apply zal | apply zap)); exact zar HO_0.out (fun _ hk => ⟨hk.1.1, ⟨hk.1.2.1, ⟨hk.1.2.2.1, ⟨hk.2, hk.1.2.2.2⟩⟩⟩⟩)), (by (with_reducible repeat (first | refine zai ?_ _ | refine zao ?_ | refine zaj ?_ _)); exact BK130.out), (by repeat (first | (with_reducible first | exact HB.out | apply zah | apply zab | apply zaf | refine zag ?_ GE130.out) | exact HB.out))⟩)
                ·skip
                 refine box_step ?hg (N := 4) ?hd (cs := #[.int .i64 0, .slice none 0 0, .slice none 0 0]) (t := 24) ?hr ?_; (case hd => rfl); (case hg => rfl); (case hr => first | (go_simp; done) | (go_simp; rfl))
                 intro gb156 hg w50 hbox hb
                 have HS0_ := (hb.cell (World.block_lt_of_cell? _ _ (hHeld.1))).trans (hHeld.1)
                 have HS1_ := (hb.cell (World.block_lt_of_cell? _ _ (hHeld.2))).trans (hHeld.2)
                 have n0_ := Aside0.mk (zcj (zci (by (with_reducible repeat (first | apply zak | apply zal | apply zap)); exact HO_0.out) gb156 (zbp hg.symm)) hb)
                 have n1_ := Aside0.mk (zcj (zci (by (with_reducible repeat (first | apply zak | apply zal | apply zap)); exact HO138.out) gb156 (zbp hg.symm)) hb)
                 have n2_ := Aside0.mk (zcj (zci (by (with_reducible repeat (first | apply zak | apply zal | apply zap)); exact HO149.out) gb156 (zbp hg.symm)) hb)
                 have n3_ := Aside0.mk (zdt (zdz (by (with_reducible repeat (first | apply zav | apply zaw | apply zbb)); exact HO141.out) gb156 (zbp hg.symm)) hb)
                 have n4_ := Aside0.mk (zbe (by (with_reducible repeat (first | apply zam | apply zan | apply zaq)); exact HO144.out) hb)
                 have n5_ := Aside0.mk (zbf (g := gb130) (o := .cells #[.int .i64 0, .slice none 0 0, .slice none 0 0] 24 (0, 0)) (by (with_reducible repeat (first | refine zai ?_ _ | refine zao ?_ | refine zaj ?_ _)); exact BK130.out) hb)
                 have n6_ := Aside0.mk (zbh (by repeat (first | (with_reducible first | exact HB.out | apply zah | apply zab | apply zaf | refine zag ?_ GE130.out) | exact HB.out)) hb)
                 have n7_ := Aside0.mk (hbox)
                 have n8_ := Aside0.mk ((by rw [hg]; exact (zat (by repeat (first | (with_reducible first | exact HB.out | apply zah | apply zab | apply zaf | refine zag ?_ GE130.out) | exact HB.out))) : w.heap.size ≤ gb156))
                 have n9_ := Aside0.mk ((by rw [hg]; exact (zat (by repeat (first | (with_reducible first | exact HB.out | apply zah | apply zab | apply zaf | refine zag ?_ GE130.out) | exact HB.out))) : w.heap.size ≤ gb156))
                 have n10_ := Aside0.mk ((by rw [hg]; exact zcb (blk_lt (g := gb130) (o := .cells #[.int .i64 0, .slice none 0 0, .slice none 0 0] 24 (0, 0)) (by (with_reducible repeat (first | refine zai ?_ _ | refine zao ?_ | refine zaj ?_ _)); exact BK130.out)) : gb130 ≠ gb156))
                 have n11_ := Aside0.mk ((by rw [hg]; exact zdj (blk_lt (g := gb130) (o := .cells #[.int .i64 0, .slice none 0 0, .slice none 0 0] 24 (0, 0)) (by (with_reducible repeat (first | refine zai ?_ _ | refine zao ?_ | refine zaj ?_ _)); exact BK130.out)) : gb156 ≠ gb130))
                 clear HO_0
                 clear HO138
                 clear HO149
                 clear HO141
                 clear HO144
                 clear BK130
                 clear HB
                 have HO_0 := n0_
                 have HO138 := n1_
                 have HO149 := n2_
                 have HO141 := n3_
                 have HO144 := n4_
                 have BK130 := n5_
                 have HB := n6_
                 have BK156 := n7_
                 have GW156 := n8_
                 have GE156 := n9_
                 have NB130_156 := n10_
                 have NB156_130 := n11_
                 clear n0_ n1_ n2_ n3_ n4_ n5_ n6_ n7_ n8_ n9_ n10_ n11_
                 clear hb hbox hg
                 refine hK.out _ _ ⟨HS0_, HS1_⟩ (fun hHeld => ?_)
                 clear hK K
                 refine norm_ (a' := ?_) ?_ ?_
                 rotate_left
                 ·show Act.put _ (some 4) _ = _
                  simp only [Act.put, zaa, zac, zad, i64_w, i32_w]
                  rfl
                 exact norm_ (by first | (simp only [putAll, Act.put, zaa, zac, zad]; done) | (simp only [putAll, Act.put, zaa, zac, zad]; rfl)) (hJ12_13_19 (v140, v143, gb156) _ ⟨hHeld, (by (with_reducible repeat (first | apply zak | apply zal | apply zap)); exact zar HO138.out (fun _ hk => ⟨hk.1.1, ⟨hk.1.2.1, ⟨hk.1.2.2.1, ⟨hk.1.2.2.2, hk.2⟩⟩⟩⟩)), (by (with_reducible repeat (first | apply zav | apply zaw | apply zbb)); exact zck HO141.out (fun _ hk => ⟨hk.1.1, ⟨hk.1.2.1, ⟨hk.1.2.2, hk.2⟩⟩⟩)), (by (with_reducible repeat (first | apply zam | apply zan | apply zaq)); exact HO144.out), (by (with_reducible repeat (first | apply zak | apply zal | apply zap)); exact zar HO149.out (fun _ hk => ⟨hk.1.1, ⟨hk.1.2.1, ⟨hk.1.2.2.1, ⟨hk.1.2.2.2, hk.2⟩⟩⟩⟩)), (by (with_reducible repeat (first | apply zak | apply zal | apply zap)); exact zar HO_0.out (fun _ hk => ⟨hk.1.1, ⟨hk.1.2.1, ⟨hk.1.2.2.1, ⟨hk.1.2.2.2, hk.2⟩⟩⟩⟩)), (by (with_reducible repeat (first | refine zai ?_ _ | refine zao ?_ | refine zaj ?_ _)); exact BK130.out), (by (with_reducible repeat (first | refine zai ?_ _ | refine zao ?_ | refine zaj ?_ _)); exact BK156.out), GW156.out, GE156.out, NB130_156.out, NB156_130.out, (by repeat (first | (with_reducible first | exact HB.out | apply zah | apply zab | apply zaf | refine zag ?_ GE130.out | refine zag ?_ GE156.out) | exact HB.out))⟩)
              ·skip
               rintro ⟨v140, v151, gb156⟩ w50 ⟨hS_, h0_, h1_, h2_, h3_, h4_, h5_, h6_, h7_, h8_, h9_, h10_, h11_⟩
               have n0_ : Aside0 (Kd.V (Kd.int .u8) 5 w50 w.heap.size (fun k_ => (P0_ k_ ∨ w.heap.size ≤ k_) ∧ some k_ ≠ (v140 : Value).ownBlock ∧ some k_ ≠ (v151 : Value).ownBlock ∧ k_ ≠ gb130 ∧ k_ ≠ gb156) (.slice A43 y134.length c43) y134) := ⟨h0_⟩
               have n1_ : Aside0 (Kd.N (Kd.slice 5 (Kd.int .u8)) 22 w50 w.heap.size (fun k_ => (P0_ k_ ∨ w.heap.size ≤ k_) ∧ some k_ ≠ (v151 : Value).ownBlock ∧ k_ ≠ gb130 ∧ k_ ≠ gb156) v140 y139) := ⟨h1_⟩
               have n2_ : Aside0 (Kd.V (Kd.int .u8) 5 w50 w.heap.size (fun k_ => (P0_ k_ ∨ w.heap.size ≤ k_) ∧ some k_ ≠ (v140 : Value).ownBlock ∧ some k_ ≠ (v151 : Value).ownBlock ∧ k_ ≠ gb130 ∧ k_ ≠ gb156) (.slice A44 y145.length c44) y145) := ⟨h2_⟩
               have n3_ : Aside0 (Kd.N (Kd.slice 5 (Kd.int .u8)) 22 w50 w.heap.size (fun k_ => (P0_ k_ ∨ w.heap.size ≤ k_) ∧ some k_ ≠ (v140 : Value).ownBlock ∧ k_ ≠ gb130 ∧ k_ ≠ gb156) v151 y150) := ⟨h3_⟩
               have n4_ : Aside0 (Kd.V (Kd.int .u8) 5 w50 w.heap.size (fun k_ => (P0_ k_ ∨ w.heap.size ≤ k_) ∧ some k_ ≠ (v140 : Value).ownBlock ∧ some k_ ≠ (v151 : Value).ownBlock ∧ k_ ≠ gb130 ∧ k_ ≠ gb156) (.slice (some ad132) l0.length c0) l0) := ⟨h4_⟩
               have n5_ : Aside0 (w50.heap[gb130]? = some (.cells #[.int .i64 0, .slice none 0 0, .slice none 0 0] 24 (0, 0))) := ⟨h5_⟩
               have n6_ : Aside0 (w50.heap[gb156]? = some (.cells #[.int .i64 0, .slice none 0 0, .slice none 0 0] 24 (0, 0))) := ⟨h6_⟩
               have n7_ : Aside0 (w.heap.size ≤ gb156) := ⟨h7_⟩
               have n8_ : Aside0 (w.heap.size ≤ gb156) := ⟨h8_⟩
               have n9_ : Aside0 (gb130 ≠ gb156) := ⟨h9_⟩
               have n10_ : Aside0 (gb156 ≠ gb130) := ⟨h10_⟩
               have n11_ : Aside0 (Below w.heap.size w w50) := ⟨h11_⟩
               clear HO_0
               clear BK130
               clear HB
               clear h0_ h1_ h2_ h3_ h4_ h5_ h6_ h7_ h8_ h9_ h10_ h11_
               have HO138 := n0_
               have HO141 := n1_
               have HO149 := n2_
               have HO152 := n3_
               have HO_0 := n4_
               have BK130 := n5_
               have BK156 := n6_
               have GW156 := n7_
               have GE156 := n8_
               have NB130_156 := n9_
               have NB156_130 := n10_
               have HB := n11_
               clear n0_ n1_ n2_ n3_ n4_ n5_ n6_ n7_ n8_ n9_ n10_ n11_
               have hHeld : w50.cell? ⟨ad132.block, ad132.off + 1, none⟩ = some (.int .u8 (rd l0 1)) ∧ w50.cell? ⟨ad132.block, ad132.off + 2, none⟩ = some (.int .u8 (rd l0 2)) := hS_
               obtain ⟨Ao51, co51, eo51⟩ := Kd.N_slice HO141.out
               (first | subst eo51 | (injection eo51 with f1_ f2_ f3_; have f4_ := f1_.symm; have f5_ := f3_.symm; clear f1_ f2_ f3_; subst f4_; subst f5_))
               refine norm_ (a' := ?_) ?_ ?_
               rotate_left
               ·simp only [putAll, Act.put, zaa, zac, zad]
                rfl
               refine one_ (i := 13) (N := some 28) #[true, true, true, true, true, true, true, true, true, true, true, true, true, true, true, true, true, false, false, true, false] rfl rfl (one_of HT_.out (by kernel_rfl)) (by decide) (fun K hK => ?_)
               refine goes_ Try.func35 (by kernel_rfl) rfl #[.slice Ao51 y139.length co51] (by rfl) rfl rfl (by (try simp only [zbg, zbs, zbt]); first | done | rfl | (simp only [zbn, zbr]; rfl) | (simp only [zbn, zbr]; rw [zdm (zee.mpr (zem (by assumption)))])) ?_
               with_reducible refine (impl_joined.calls _ _ y139 t142 _ ?side1 ?side2 A12.out).mono ?_
               (case side1 => repeat (first | exact (zdi HO141.out).2.2 | (with_reducible refine zbu ?_ _) | (with_reducible refine zbv ?_ _) | (with_reducible refine zca ?_)))
               (case side2 => exact (zdi HO141.out).2.1)
               rintro e w52 ⟨v143, rfl, ho0, hb⟩
               have HS0_ := (hb.cell (World.block_lt_of_cell? _ _ (hHeld.1))).trans (hHeld.1)
               have HS1_ := (hb.cell (World.block_lt_of_cell? _ _ (hHeld.2))).trans (hHeld.2)
               refine ⟨_, rfl, ?_⟩
               have n0_ := Aside0.mk (zbd (by (with_reducible repeat (first | apply zak | apply zal | apply zap)); exact HO_0.out) (zbl ho0) hb)
               have n1_ := Aside0.mk (zbd (by (with_reducible repeat (first | apply zak | apply zal | apply zap)); exact HO138.out) (zbl ho0) hb)
               have n2_ := Aside0.mk (zbd (by (with_reducible repeat (first | apply zak | apply zal | apply zap)); exact HO149.out) (zbl ho0) hb)
               have n3_ := Aside0.mk (zcu (by (with_reducible repeat (first | apply zav | apply zaw | apply zbb)); exact HO141.out) (zbl ho0) hb)
               have n4_ := Aside0.mk (zcu (by (with_reducible repeat (first | apply zav | apply zaw | apply zbb)); exact HO152.out) (zbl ho0) hb)
               have n5_ := Aside0.mk (zdd (Kd.R_newM (M := fun k_ => (w.heap.size ≤ k_)) ho0 (zat (by repeat (first | (with_reducible first | exact HB.out | apply zah | apply zab | apply zaf | refine zag ?_ GE130.out | refine zag ?_ GE156.out) | exact HB.out))) (fun k_ h_ => h_)) (zat (by repeat (first | (with_reducible first | exact HB.out | apply zah | apply zab | apply zaf | refine zag ?_ GE130.out | refine zag ?_ GE156.out) | exact HB.out))))
               have n6_ := Aside0.mk (zbf (g := gb130) (o := .cells #[.int .i64 0, .slice none 0 0, .slice none 0 0] 24 (0, 0)) (by (with_reducible repeat (first | refine zai ?_ _ | refine zao ?_ | refine zaj ?_ _)); exact BK130.out) hb)
               have n7_ := Aside0.mk (zbf (g := gb156) (o := .cells #[.int .i64 0, .slice none 0 0, .slice none 0 0] 24 (0, 0)) (by (with_reducible repeat (first | refine zai ?_ _ | refine zao ?_ | refine zaj ?_ _)); exact BK156.out) hb)
               have n8_ := Aside0.mk (zbh (by repeat (first | (with_reducible first | exact HB.out | apply zah | apply zab | apply zaf | refine zag ?_ GE130.out | refine zag ?_ GE156.out) | exact HB.out)) hb)
               clear HO_0
               clear HO138
               clear HO149
               clear HO141
               clear HO152
               clear BK130
               clear BK156
               clear HB
               have HO_0 := n0_
               have HO138 := n1_
               have HO149 := n2_
               have HO141 := n3_
               have HO152 := n4_
               have HO144 := n5_
               have BK130 := n6_
               have BK156 := n7_
               have HB := n8_
               clear n0_ n1_ n2_ n3_ n4_ n5_ n6_ n7_ n8_
               (try clear hb)
               (try clear hb2)
               (try clear hk)
               (try clear hi)
               (try clear ho0)
               refine hK.out _ _ ⟨HS0_, HS1_⟩ (fun hHeld => ?_)
               clear hK K
               refine norm_ (a' := ?_) ?_ ?_
               rotate_left
               ·show Act.put _ (some 28) _ = _
                simp only [Act.put, zaa, zac, zad, i64_w, i32_w]
                rfl
               exact norm_ (by first | (simp only [putAll, Act.put, zaa, zac, zad]; done) | (simp only [putAll, Act.put, zaa, zac, zad]; rfl)) (hJ12_13_16_19 (.slice Ao51 y139.length co51, v143, v151, gb156) _ ⟨hHeld, (by (with_reducible repeat (first | apply zak | apply zal | apply zap)); exact zar HO138.out (fun _ hk => ⟨hk.1.1, ⟨hk.1.2.1, ⟨hk.2, ⟨hk.1.2.2.1, ⟨hk.1.2.2.2.1, hk.1.2.2.2.2⟩⟩⟩⟩⟩)), (by (with_reducible repeat (first | apply zav | apply zaw | apply zbb)); exact zck HO141.out (fun _ hk => ⟨hk.1.1, ⟨hk.2, ⟨hk.1.2.1, ⟨hk.1.2.2.1, hk.1.2.2.2⟩⟩⟩⟩)), (by (with_reducible repeat (first | apply zam | apply zan | apply zaq)); exact zaz HO144.out (fun _ hk => hk.1)), (by (with_reducible repeat (first | apply zak | apply zal | apply zap)); exact zar HO149.out (fun _ hk => ⟨hk.1.1, ⟨hk.1.2.1, ⟨hk.2, ⟨hk.1.2.2.1, ⟨hk.1.2.2.2.1, hk.1.2.2.2.2⟩⟩⟩⟩⟩)), (by (with_reducible repeat (first | apply zav | apply zaw | apply zbb)); exact zck HO152.out (fun _ hk => ⟨hk.1.1, ⟨hk.1.2.1, ⟨hk.2, ⟨hk.1.2.2.1, hk.1.2.2.2⟩⟩⟩⟩)), (by (with_reducible repeat (first | apply zak | apply zal | apply zap)); exact zar HO_0.out (fun _ hk => ⟨hk.1.1, ⟨hk.1.2.1, ⟨hk.2, ⟨hk.1.2.2.1, ⟨hk.1.2.2.2.1, hk.1.2.2.2.2⟩⟩⟩⟩⟩)), (by (with_reducible repeat (first | refine zai ?_ _ | refine zao ?_ | refine zaj ?_ _)); exact BK130.out), (by (with_reducible repeat (first | refine zai ?_ _ | refine zao ?_ | refine zaj ?_ _)); exact BK156.out), GW156.out, GE156.out, NB130_156.out, NB156_130.out, (by repeat (first | (with_reducible first | exact HB.out | apply zah | apply zab | apply zaf | refine zag ?_ GE130.out | refine zag ?_ GE156.out) | exact HB.out))⟩)
             ·skip
              rintro ⟨v140, v143, gb156⟩ w50 ⟨hS_, h0_, h1_, h2_, h3_, h4_, h5_, h6_, h7_, h8_, h9_, h10_, h11_⟩
              have n0_ : Aside0 (Kd.V (Kd.int .u8) 5 w50 w.heap.size (fun k_ => (P0_ k_ ∨ w.heap.size ≤ k_) ∧ some k_ ≠ (v140 : Value).ownBlock ∧ some k_ ≠ (v143 : Value).ownBlock ∧ k_ ≠ gb130 ∧ k_ ≠ gb156) (.slice A43 y134.length c43) y134) := ⟨h0_⟩
              have n1_ : Aside0 (Kd.N (Kd.slice 5 (Kd.int .u8)) 22 w50 w.heap.size (fun k_ => (P0_ k_ ∨ w.heap.size ≤ k_) ∧ some k_ ≠ (v143 : Value).ownBlock ∧ k_ ≠ gb130 ∧ k_ ≠ gb156) v140 y139) := ⟨h1_⟩
              have n2_ : Aside0 (Kd.R (Kd.int .u8) 5 w50 w.heap.size (fun k_ => (w.heap.size ≤ k_)) v143 t142) := ⟨h2_⟩
              have n3_ : Aside0 (Kd.V (Kd.int .u8) 5 w50 w.heap.size (fun k_ => (P0_ k_ ∨ w.heap.size ≤ k_) ∧ some k_ ≠ (v140 : Value).ownBlock ∧ some k_ ≠ (v143 : Value).ownBlock ∧ k_ ≠ gb130 ∧ k_ ≠ gb156) (.slice A44 y145.length c44) y145) := ⟨h3_⟩
              have n4_ : Aside0 (Kd.V (Kd.int .u8) 5 w50 w.heap.size (fun k_ => (P0_ k_ ∨ w.heap.size ≤ k_) ∧ some k_ ≠ (v140 : Value).ownBlock ∧ some k_ ≠ (v143 : Value).ownBlock ∧ k_ ≠ gb130 ∧ k_ ≠ gb156) (.slice (some ad132) l0.length c0) l0) := ⟨h4_⟩
              have n5_ : Aside0 (w50.heap[gb130]? = some (.cells #[.int .i64 0, .slice none 0 0, .slice none 0 0] 24 (0, 0))) := ⟨h5_⟩
              have n6_ : Aside0 (w50.heap[gb156]? = some (.cells #[.int .i64 0, .slice none 0 0, .slice none 0 0] 24 (0, 0))) := ⟨h6_⟩
              have n7_ : Aside0 (w.heap.size ≤ gb156) := ⟨h7_⟩
              have n8_ : Aside0 (w.heap.size ≤ gb156) := ⟨h8_⟩
              have n9_ : Aside0 (gb130 ≠ gb156) := ⟨h9_⟩
              have n10_ : Aside0 (gb156 ≠ gb130) := ⟨h10_⟩
              have n11_ : Aside0 (Below w.heap.size w w50) := ⟨h11_⟩
              clear HO_0
              clear BK130
              clear HB
              clear h0_ h1_ h2_ h3_ h4_ h5_ h6_ h7_ h8_ h9_ h10_ h11_
              have HO138 := n0_
              have HO141 := n1_
              have HO144 := n2_
              have HO149 := n3_
              have HO_0 := n4_
              have BK130 := n5_
              have BK156 := n6_
              have GW156 := n7_
              have GE156 := n8_
              have NB130_156 := n9_
              have NB156_130 := n10_
              have HB := n11_
              clear n0_ n1_ n2_ n3_ n4_ n5_ n6_ n7_ n8_ n9_ n10_ n11_
              have hHeld : w50.cell? ⟨ad132.block, ad132.off + 1, none⟩ = some (.int .u8 (rd l0 1)) ∧ w50.cell? ⟨ad132.block, ad132.off + 2, none⟩ = some (.int .u8 (rd l0 2)) := hS_
              refine norm_ (a' := ?_) ?_ ?_
              rotate_left
              ·simp only [putAll, Act.put, zaa, zac, zad]
               rfl
              refine one_ (i := 16) (N := some 31) #[true, true, true, true, true, true, true, true, true, true, true, true, true, true, true, true, true, false, false, true, false] rfl rfl (one_of HT_.out (by kernel_rfl)) (by decide) (fun K hK => ?_)
              refine zdg (Kd.slice 5 (Kd.int .u8)) _ 22 ?hg (N' := 31) ?hd (xs := ([y145] : List (List Int))) (inner := [.slice A44 y145.length c44]) (ok := (fun k_ => (P0_ k_ ∨ w.heap.size ≤ k_) ∧ some k_ ≠ (v140 : Value).ownBlock ∧ some k_ ≠ (v143 : Value).ownBlock ∧ k_ ≠ gb130 ∧ k_ ≠ gb156)) (okp := (fun k_ => (P0_ k_ ∨ w.heap.size ≤ k_) ∧ some k_ ≠ (v140 : Value).ownBlock ∧ some k_ ≠ (v143 : Value).ownBlock ∧ k_ ≠ gb130 ∧ k_ ≠ gb156)) ?hr ?hp (fun _ hk => hk) ((show ∀ k_, w50.heap.size ≤ k_ → (fun k_ => (P0_ k_ ∨ w.heap.size ≤ k_) ∧ some k_ ≠ (v140 : Value).ownBlock ∧ some k_ ≠ (v143 : Value).ownBlock ∧ k_ ≠ gb130 ∧ k_ ≠ gb156) k_ from fun k_ hk => ⟨(.inr (zdb (zat (by repeat (first | (with_reducible first | exact HB.out | apply zah | apply zab | apply zaf | refine zag ?_ GE130.out | refine zag ?_ GE156.out) | exact HB.out))) hk)), zel (Kd.N_lt (by (with_reducible repeat (first | apply zav | apply zaw | apply zbb)); exact HO141.out)) k_ hk, zel (zdf (by (with_reducible repeat (first | apply zam | apply zan | apply zaq)); exact HO144.out)) k_ hk, zdn (g := gb130) (o := .cells #[.int .i64 0, .slice none 0 0, .slice none 0 0] 24 (0, 0)) (by (with_reducible repeat (first | refine zai ?_ _ | refine zao ?_ | refine zaj ?_ _)); exact BK130.out) k_ hk, zdn (g := gb156) (o := .cells #[.int .i64 0, .slice none 0 0, .slice none 0 0] 24 (0, 0)) (by (with_reducible repeat (first | refine zai ?_ _ | refine zao ?_ | refine zaj ?_ _)); exact BK156.out) k_ hk⟩) _ (zbq _)) (zcq _ _) (zbq _) (by simp) ?_; (case hd => rfl); (case hg => rfl); (case hr => first | (go_simp; done) | (go_simp; rfl)); (case hp => exact (zep (show Kd.FK (Kd.slice 5 (Kd.int .u8)) _ _ y145 [.slice A44 y145.length c44] from (zdc (zct (zar (ok' := (fun k_ => (P0_ k_ ∨ w.heap.size ≤ k_) ∧ some k_ ≠ (v140 : Value).ownBlock ∧ some k_ ≠ (v143 : Value).ownBlock ∧ k_ ≠ gb130 ∧ k_ ≠ gb156)) (HO149.out) (fun k_ hk => ⟨hk.1, ⟨hk.2.1, ⟨hk.2.2.1, ⟨hk.2.2.2.1, hk.2.2.2.2⟩⟩⟩⟩))).2.1 (Kd.V_F (zar (ok' := (fun k_ => (P0_ k_ ∨ w.heap.size ≤ k_) ∧ some k_ ≠ (v140 : Value).ownBlock ∧ some k_ ≠ (v143 : Value).ownBlock ∧ k_ ≠ gb130 ∧ k_ ≠ gb156)) (HO149.out) (fun k_ hk => ⟨hk.1, ⟨hk.2.1, ⟨hk.2.2.1, ⟨hk.2.2.2.1, hk.2.2.2.2⟩⟩⟩⟩))))) (zds _ _)))
              intro v151 w51 ho52 hb hg_ hnew_
              have HS0_ := (hb.cell (World.block_lt_of_cell? _ _ (hHeld.1))).trans (hHeld.1)
              have HS1_ := (hb.cell (World.block_lt_of_cell? _ _ (hHeld.2))).trans (hHeld.2)
              clear hg_ hnew_
              (first | rw [← Ny150.out] at ho52 | (simp only [Int.reduceToNat] at ho52; rw [← Ny150.out] at ho52))
              have n0_ := Aside0.mk (zbd (by (with_reducible repeat (first | apply zak | apply zal | apply zap)); exact HO_0.out) (zby ho52) hb)
              have n1_ := Aside0.mk (zbd (by (with_reducible repeat (first | apply zak | apply zal | apply zap)); exact HO138.out) (zby ho52) hb)
              have n2_ := Aside0.mk (zbd (by (with_reducible repeat (first | apply zak | apply zal | apply zap)); exact HO149.out) (zby ho52) hb)
              have n3_ := Aside0.mk (zcu (by (with_reducible repeat (first | apply zav | apply zaw | apply zbb)); exact HO141.out) (zby ho52) hb)
              have n4_ := Aside0.mk (zbe (by (with_reducible repeat (first | apply zam | apply zan | apply zaq)); exact HO144.out) hb)
              have n5_ := Aside0.mk (zea ho52 (zat (by repeat (first | (with_reducible first | exact HB.out | apply zah | apply zab | apply zaf | refine zag ?_ GE130.out | refine zag ?_ GE156.out) | exact HB.out))))
              have n6_ := Aside0.mk (zbf (g := gb130) (o := .cells #[.int .i64 0, .slice none 0 0, .slice none 0 0] 24 (0, 0)) (by (with_reducible repeat (first | refine zai ?_ _ | refine zao ?_ | refine zaj ?_ _)); exact BK130.out) hb)
              have n7_ := Aside0.mk (zbf (g := gb156) (o := .cells #[.int .i64 0, .slice none 0 0, .slice none 0 0] 24 (0, 0)) (by (with_reducible repeat (first | refine zai ?_ _ | refine zao ?_ | refine zaj ?_ _)); exact BK156.out) hb)
              have n8_ := Aside0.mk (zbh (by repeat (first | (with_reducible first | exact HB.out | apply zah | apply zab | apply zaf | refine zag ?_ GE130.out | refine zag ?_ GE156.out) | exact HB.out)) hb)
              clear HO_0
              clear HO138
              clear HO149
              clear HO141
              clear HO144
              clear BK130
              clear BK156
              clear HB
              have HO_0 := n0_
              have HO138 := n1_
              have HO149 := n2_
              have HO141 := n3_
              have HO144 := n4_
              have HO152 := n5_
              have BK130 := n6_
              have BK156 := n7_
              have HB := n8_
              clear n0_ n1_ n2_ n3_ n4_ n5_ n6_ n7_ n8_
              clear hb ho52
              refine hK.out _ _ ⟨HS0_, HS1_⟩ (fun hHeld => ?_)
              clear hK K
              refine norm_ (a' := ?_) ?_ ?_
              rotate_left
              ·show Act.put _ (some 31) _ = _
               simp only [Act.put, zaa, zac, zad, i64_w, i32_w]
               rfl
              exact norm_ (by first | (simp only [putAll, Act.put, zaa, zac, zad]; done) | (simp only [putAll, Act.put, zaa, zac, zad]; rfl)) (hJ12_13_16_19 (v140, v143, v151, gb156) _ ⟨hHeld, (by (with_reducible repeat (first | apply zak | apply zal | apply zap)); exact zar HO138.out (fun _ hk => ⟨hk.1.1, ⟨hk.1.2.1, ⟨hk.1.2.2.1, ⟨hk.2, ⟨hk.1.2.2.2.1, hk.1.2.2.2.2⟩⟩⟩⟩⟩)), (by (with_reducible repeat (first | apply zav | apply zaw | apply zbb)); exact zck HO141.out (fun _ hk => ⟨hk.1.1, ⟨hk.1.2.1, ⟨hk.2, ⟨hk.1.2.2.1, hk.1.2.2.2⟩⟩⟩⟩)), (by (with_reducible repeat (first | apply zam | apply zan | apply zaq)); exact HO144.out), (by (with_reducible repeat (first | apply zak | apply zal | apply zap)); exact zar HO149.out (fun _ hk => ⟨hk.1.1, ⟨hk.1.2.1, ⟨hk.1.2.2.1, ⟨hk.2, ⟨hk.1.2.2.2.1, hk.1.2.2.2.2⟩⟩⟩⟩⟩)), (by (with_reducible repeat (first | apply zav | apply zaw | apply zbb)); exact HO152.out), (by (with_reducible repeat (first | apply zak | apply zal | apply zap)); exact zar HO_0.out (fun _ hk => ⟨hk.1.1, ⟨hk.1.2.1, ⟨hk.1.2.2.1, ⟨hk.2, ⟨hk.1.2.2.2.1, hk.1.2.2.2.2⟩⟩⟩⟩⟩)), (by (with_reducible repeat (first | refine zai ?_ _ | refine zao ?_ | refine zaj ?_ _)); exact BK130.out), (by (with_reducible repeat (first | refine zai ?_ _ | refine zao ?_ | refine zaj ?_ _)); exact BK156.out), GW156.out, GE156.out, NB130_156.out, NB156_130.out, (by repeat (first | (with_reducible first | exact HB.out | apply zah | apply zab | apply zaf | refine zag ?_ GE130.out | refine zag ?_ GE156.out) | exact HB.out))⟩)
            ·skip
             rintro ⟨v140, v143, v151⟩ w51 ⟨hS_, h0_, h1_, h2_, h3_, h4_, h5_, h6_, h7_⟩
             have n0_ : Aside0 (Kd.V (Kd.int .u8) 5 w51 w.heap.size (fun k_ => (P0_ k_ ∨ w.heap.size ≤ k_) ∧ some k_ ≠ (v140 : Value).ownBlock ∧ some k_ ≠ (v143 : Value).ownBlock ∧ some k_ ≠ (v151 : Value).ownBlock ∧ k_ ≠ gb130) (.slice A43 y134.length c43) y134) := ⟨h0_⟩
             have n1_ : Aside0 (Kd.N (Kd.slice 5 (Kd.int .u8)) 22 w51 w.heap.size (fun k_ => (P0_ k_ ∨ w.heap.size ≤ k_) ∧ some k_ ≠ (v143 : Value).ownBlock ∧ some k_ ≠ (v151 : Value).ownBlock ∧ k_ ≠ gb130) v140 y139) := ⟨h1_⟩
             have n2_ : Aside0 (Kd.R (Kd.int .u8) 5 w51 w.heap.size (fun k_ => (w.heap.size ≤ k_)) v143 t142) := ⟨h2_⟩
             have n3_ : Aside0 (Kd.V (Kd.int .u8) 5 w51 w.heap.size (fun k_ => (P0_ k_ ∨ w.heap.size ≤ k_) ∧ some k_ ≠ (v140 : Value).ownBlock ∧ some k_ ≠ (v143 : Value).ownBlock ∧ some k_ ≠ (v151 : Value).ownBlock ∧ k_ ≠ gb130) (.slice A44 y145.length c44) y145) := ⟨h3_⟩
             have n4_ : Aside0 (Kd.N (Kd.slice 5 (Kd.int .u8)) 22 w51 w.heap.size (fun k_ => (P0_ k_ ∨ w.heap.size ≤ k_) ∧ some k_ ≠ (v140 : Value).ownBlock ∧ some k_ ≠ (v143 : Value).ownBlock ∧ k_ ≠ gb130) v151 y150) := ⟨h4_⟩
             have n5_ : Aside0 (Kd.V (Kd.int .u8) 5 w51 w.heap.size (fun k_ => (P0_ k_ ∨ w.heap.size ≤ k_) ∧ some k_ ≠ (v140 : Value).ownBlock ∧ some k_ ≠ (v143 : Value).ownBlock ∧ some k_ ≠ (v151 : Value).ownBlock ∧ k_ ≠ gb130) (.slice (some ad132) l0.length c0) l0) := ⟨h5_⟩
             have n6_ : Aside0 (w51.heap[gb130]? = some (.cells #[.int .i64 0, .slice none 0 0, .slice none 0 0] 24 (0, 0))) := ⟨h6_⟩
             have n7_ : Aside0 (Below w.heap.size w w51) := ⟨h7_⟩
             clear HO_0
             clear BK130
             clear HB
             clear h0_ h1_ h2_ h3_ h4_ h5_ h6_ h7_
             have HO138 := n0_
             have HO141 := n1_
             have HO144 := n2_
             have HO149 := n3_
             have HO152 := n4_
             have HO_0 := n5_
             have BK130 := n6_
             have HB := n7_
             clear n0_ n1_ n2_ n3_ n4_ n5_ n6_ n7_
             have hHeld : w51.cell? ⟨ad132.block, ad132.off + 1, none⟩ = some (.int .u8 (rd l0 1)) ∧ w51.cell? ⟨ad132.block, ad132.off + 2, none⟩ = some (.int .u8 (rd l0 2)) := hS_
             obtain ⟨Ao52, co52, eo52⟩ := Kd.N_slice HO152.out
             (first | subst eo52 | (injection eo52 with f1_ f2_ f3_; have f4_ := f1_.symm; have f5_ := f3_.symm; clear f1_ f2_ f3_; subst f4_; subst f5_))
             refine norm_ (a' := ?_) ?_ ?_
             rotate_left
             ·simp only [putAll, Act.put, zaa, zac, zad]
              rfl
             refine two_ (i := 17) (j := 19) (Ni := some 32) (Nj := some 4) #[true, true, true, true, true, true, true, true, true, true, true, true, true, true, true, true, true, true, false, false, false] #[true, true, true, true, true, true, true, true, true, true, true, true, true, true, true, true, true, false, false, true, false] rfl rfl rfl rfl (two_of HT_.out (by kernel_rfl)) (by decide) (by decide) (fun K hK => ?_) (fun K hK => ?_)
             ·skip
              refine goes_ Try.func35 (by kernel_rfl) rfl #[.slice Ao52 y150.length co52] (by rfl) rfl rfl (by (try simp only [zbg, zbs, zbt]); first | done | rfl | (simp only [zbn, zbr]; rfl) | (simp only [zbn, zbr]; rw [zdm (zee.mpr (zem (by assumption)))])) ?_
              with_reducible refine (impl_joined.calls _ _ y150 t153 _ ?side1 ?side2 A14.out).mono ?_
              (case side1 => repeat (first | exact (zdi HO152.out).2.2 | (with_reducible refine zbu ?_ _) | (with_reducible refine zbv ?_ _) | (with_reducible refine zca ?_)))
              (case side2 => exact (zdi HO152.out).2.1)
              rintro e w53 ⟨v154, rfl, ho0, hb⟩
              have HS0_ := (hb.cell (World.block_lt_of_cell? _ _ (hHeld.1))).trans (hHeld.1)
              have HS1_ := (hb.cell (World.block_lt_of_cell? _ _ (hHeld.2))).trans (hHeld.2)
              refine ⟨_, rfl, ?_⟩
              have n0_ := Aside0.mk (zbd (by (with_reducible repeat (first | apply zak | apply zal | apply zap)); exact HO_0.out) (zbl ho0) hb)
              have n1_ := Aside0.mk (zbd (by (with_reducible repeat (first | apply zak | apply zal | apply zap)); exact HO138.out) (zbl ho0) hb)
              have n2_ := Aside0.mk (zbd (by (with_reducible repeat (first | apply zak | apply zal | apply zap)); exact HO149.out) (zbl ho0) hb)
              have n3_ := Aside0.mk (zcu (by (with_reducible repeat (first | apply zav | apply zaw | apply zbb)); exact HO141.out) (zbl ho0) hb)
              have n4_ := Aside0.mk (zdh (by (with_reducible repeat (first | apply zam | apply zan | apply zaq)); exact HO144.out) (zbl ho0) hb)
              have n5_ := Aside0.mk (zcu (by (with_reducible repeat (first | apply zav | apply zaw | apply zbb)); exact HO152.out) (zbl ho0) hb)
              have n6_ := Aside0.mk (zdd (zcr (Kd.R_newM (M := fun k_ => (w.heap.size ≤ k_)) ho0 (zat (by repeat (first | (with_reducible first | exact HB.out | apply zah | apply zab | apply zaf | refine zag ?_ GE130.out) | exact HB.out))) (fun k_ h_ => h_)) (zdf (by (with_reducible repeat (first | apply zam | apply zan | apply zaq)); exact HO144.out))) (zat (by repeat (first | (with_reducible first | exact HB.out | apply zah | apply zab | apply zaf | refine zag ?_ GE130.out) | exact HB.out))))
              have n7_ := Aside0.mk (zbf (g := gb130) (o := .cells #[.int .i64 0, .slice none 0 0, .slice none 0 0] 24 (0, 0)) (by (with_reducible repeat (first | refine zai ?_ _ | refine zao ?_ | refine zaj ?_ _)); exact BK130.out) hb)
              have n8_ := Aside0.mk (zbh (by repeat (first | (with_reducible first | exact HB.out | apply zah | apply zab | apply zaf | refine zag ?_ GE130.out) | exact HB.out)) hb)
              clear HO_0
              clear HO138
              clear HO149
              clear HO141
              clear HO144
              clear HO152
              clear BK130
              clear HB
              have HO_0 := n0_
              have HO138 := n1_
              have HO149 := n2_
              have HO141 := n3_
              have HO144 := n4_
              have HO152 := n5_
              have HO155 := n6_
              have BK130 := n7_
              have HB := n8_
              clear n0_ n1_ n2_ n3_ n4_ n5_ n6_ n7_ n8_
              (try clear hb)
              (try clear hb2)
              (try clear hk)
              (try clear hi)
              (try clear ho0)
              obtain ⟨Ao54, co54, eo54⟩ := zcz HO155.out
              (first | subst eo54 | (injection eo54 with f1_ f2_ f3_; have f4_ := f1_.symm; have f5_ := f3_.symm; clear f1_ f2_ f3_; subst f4_; subst f5_))
              obtain ⟨Ao55, co55, eo55⟩ := zcz HO144.out
              (first | subst eo55 | (injection eo55 with f1_ f2_ f3_; have f4_ := f1_.symm; have f5_ := f3_.symm; clear f1_ f2_ f3_; subst f4_; subst f5_))
              refine hK.out _ _ ⟨HS0_, HS1_⟩ (fun hHeld => ?_)
              clear hK K
              refine norm_ (a' := ?_) ?_ ?_
              rotate_left
              ·show Act.put _ (some 32) _ = _
               simp only [Act.put, zaa, zac, zad, i64_w, i32_w]
               rfl
              refine pure_ (i := 18) (N := some 33) (v := ?_) (a' := ?_) #[true, true, true, true, true, true, true, true, true, true, true, true, true, true, true, true, true, true, true, false, false] rfl rfl (any_of HT_.out (by kernel_rfl)) (fun _ _ _ h => h) (Or.inl ⟨by rfl, ?_⟩) ?_ ?_
              rotate_left
              ·intro w'
               go_simp
               with_reducible rfl
              rotate_left
              ·simp only [Act.put, zaa, zac, zad, i64_w, i32_w]
               rfl
              exact norm_ (by first | (simp only [putAll, Act.put, zaa, zac, zad]; done) | (simp only [putAll, Act.put, zaa, zac, zad]; rfl)) (hJ12_13_16_17 (v140, .slice Ao55 t142.length co55, .slice Ao52 y150.length co52, .slice Ao54 t153.length co54) _ ⟨hHeld, (by (with_reducible repeat (first | apply zak | apply zal | apply zap)); exact zar HO138.out (fun _ hk => ⟨hk.1.1, ⟨hk.1.2.1, ⟨hk.1.2.2.1, ⟨hk.1.2.2.2.1, ⟨hk.2, hk.1.2.2.2.2⟩⟩⟩⟩⟩)), (by (with_reducible repeat (first | apply zav | apply zaw | apply zbb)); exact zck HO141.out (fun _ hk => ⟨hk.1.1, ⟨hk.1.2.1, ⟨hk.1.2.2.1, ⟨hk.2, hk.1.2.2.2⟩⟩⟩⟩)), (by (with_reducible repeat (first | apply zam | apply zan | apply zaq)); exact HO144.out), (by (with_reducible repeat (first | apply zak | apply zal | apply zap)); exact zar HO149.out (fun _ hk => ⟨hk.1.1, ⟨hk.1.2.1, ⟨hk.1.2.2.1, ⟨hk.1.2.2.2.1, ⟨hk.2, hk.1.2.2.2.2⟩⟩⟩⟩⟩)), (by (with_reducible repeat (first | apply zav | apply zaw | apply zbb)); exact zck HO152.out (fun _ hk => ⟨hk.1.1, ⟨hk.1.2.1, ⟨hk.1.2.2.1, ⟨hk.2, hk.1.2.2.2⟩⟩⟩⟩)), (by (with_reducible repeat (first | apply zam | apply zan | apply zaq)); exact zaz HO155.out (fun _ hk => ⟨hk.1.1, hk.2⟩)), (by (with_reducible repeat (first | apply zak | apply zal | apply zap)); exact zar HO_0.out (fun _ hk => ⟨hk.1.1, ⟨hk.1.2.1, ⟨hk.1.2.2.1, ⟨hk.1.2.2.2.1, ⟨hk.2, hk.1.2.2.2.2⟩⟩⟩⟩⟩)), (by (with_reducible repeat (first | refine zai ?_ _ | refine zao ?_ | refine zaj ?_ _)); exact BK130.out), (by repeat (first | (with_reducible first | exact HB.out | apply zah | apply zab | apply zaf | refine zag ?_ GE130.out) | exact HB.out))⟩)
             ·skip
              refine box_step ?hg (N := 4) ?hd (cs := #[.int .i64 0, .slice none 0 0, .slice none 0 0]) (t := 24) ?hr ?_; (case hd => rfl); (case hg => rfl); (case hr => first | (go_simp; done) | (go_simp; rfl))
              intro gb156 hg w52 hbox hb
              have HS0_ := (hb.cell (World.block_lt_of_cell? _ _ (hHeld.1))).trans (hHeld.1)
              have HS1_ := (hb.cell (World.block_lt_of_cell? _ _ (hHeld.2))).trans (hHeld.2)
              have n0_ := Aside0.mk (zcj (zci (by (with_reducible repeat (first | apply zak | apply zal | apply zap)); exact HO_0.out) gb156 (zbp hg.symm)) hb)
              have n1_ := Aside0.mk (zcj (zci (by (with_reducible repeat (first | apply zak | apply zal | apply zap)); exact HO138.out) gb156 (zbp hg.symm)) hb)
              have n2_ := Aside0.mk (zcj (zci (by (with_reducible repeat (first | apply zak | apply zal | apply zap)); exact HO149.out) gb156 (zbp hg.symm)) hb)
              have n3_ := Aside0.mk (zdt (zdz (by (with_reducible repeat (first | apply zav | apply zaw | apply zbb)); exact HO141.out) gb156 (zbp hg.symm)) hb)
              have n4_ := Aside0.mk (zbe (by (with_reducible repeat (first | apply zam | apply zan | apply zaq)); exact HO144.out) hb)
              have n5_ := Aside0.mk (zdt (zdz (by (with_reducible repeat (first | apply zav | apply zaw | apply zbb)); exact HO152.out) gb156 (zbp hg.symm)) hb)
              have n6_ := Aside0.mk (zbf (g := gb130) (o := .cells #[.int .i64 0, .slice none 0 0, .slice none 0 0] 24 (0, 0)) (by (with_reducible repeat (first | refine zai ?_ _ | refine zao ?_ | refine zaj ?_ _)); exact BK130.out) hb)
              have n7_ := Aside0.mk (zbh (by repeat (first | (with_reducible first | exact HB.out | apply zah | apply zab | apply zaf | refine zag ?_ GE130.out) | exact HB.out)) hb)
              have n8_ := Aside0.mk (hbox)
              have n9_ := Aside0.mk ((by rw [hg]; exact (zat (by repeat (first | (with_reducible first | exact HB.out | apply zah | apply zab | apply zaf | refine zag ?_ GE130.out) | exact HB.out))) : w.heap.size ≤ gb156))
              have n10_ := Aside0.mk ((by rw [hg]; exact (zat (by repeat (first | (with_reducible first | exact HB.out | apply zah | apply zab | apply zaf | refine zag ?_ GE130.out) | exact HB.out))) : w.heap.size ≤ gb156))
              have n11_ := Aside0.mk ((by rw [hg]; exact zcb (blk_lt (g := gb130) (o := .cells #[.int .i64 0, .slice none 0 0, .slice none 0 0] 24 (0, 0)) (by (with_reducible repeat (first | refine zai ?_ _ | refine zao ?_ | refine zaj ?_ _)); exact BK130.out)) : gb130 ≠ gb156))
              have n12_ := Aside0.mk ((by rw [hg]; exact zdj (blk_lt (g := gb130) (o := .cells #[.int .i64 0, .slice none 0 0, .slice none 0 0] 24 (0, 0)) (by (with_reducible repeat (first | refine zai ?_ _ | refine zao ?_ | refine zaj ?_ _)); exact BK130.out)) : gb156 ≠ gb130))
              clear HO_0
              clear HO138
              clear HO149
              clear HO141
              clear HO144
              clear HO152
              clear BK130
              clear HB
              have HO_0 := n0_
              have HO138 := n1_
              have HO149 := n2_
              have HO141 := n3_
              have HO144 := n4_
              have HO152 := n5_
              have BK130 := n6_
              have HB := n7_
              have BK156 := n8_
              have GW156 := n9_
              have GE156 := n10_
              have NB130_156 := n11_
              have NB156_130 := n12_
              clear n0_ n1_ n2_ n3_ n4_ n5_ n6_ n7_ n8_ n9_ n10_ n11_ n12_
              clear hb hbox hg
              refine hK.out _ _ ⟨HS0_, HS1_⟩ (fun hHeld => ?_)
              clear hK K
              refine norm_ (a' := ?_) ?_ ?_
              rotate_left
              ·show Act.put _ (some 4) _ = _
               simp only [Act.put, zaa, zac, zad, i64_w, i32_w]
               rfl
              exact norm_ (by first | (simp only [putAll, Act.put, zaa, zac, zad]; done) | (simp only [putAll, Act.put, zaa, zac, zad]; rfl)) (hJ12_13_16_19 (v140, v143, (.slice Ao52 y150.length co52), gb156) _ ⟨hHeld, (by (with_reducible repeat (first | apply zak | apply zal | apply zap)); exact zar HO138.out (fun _ hk => ⟨hk.1.1, ⟨hk.1.2.1, ⟨hk.1.2.2.1, ⟨hk.1.2.2.2.1, ⟨hk.1.2.2.2.2, hk.2⟩⟩⟩⟩⟩)), (by (with_reducible repeat (first | apply zav | apply zaw | apply zbb)); exact zck HO141.out (fun _ hk => ⟨hk.1.1, ⟨hk.1.2.1, ⟨hk.1.2.2.1, ⟨hk.1.2.2.2, hk.2⟩⟩⟩⟩)), (by (with_reducible repeat (first | apply zam | apply zan | apply zaq)); exact HO144.out), (by (with_reducible repeat (first | apply zak | apply zal | apply zap)); exact zar HO149.out (fun _ hk => ⟨hk.1.1, ⟨hk.1.2.1, ⟨hk.1.2.2.1, ⟨hk.1.2.2.2.1, ⟨hk.1.2.2.2.2, hk.2⟩⟩⟩⟩⟩)), (by (with_reducible repeat (first | apply zav | apply zaw | apply zbb)); exact zck HO152.out (fun _ hk => ⟨hk.1.1, ⟨hk.1.2.1, ⟨hk.1.2.2.1, ⟨hk.1.2.2.2, hk.2⟩⟩⟩⟩)), (by (with_reducible repeat (first | apply zak | apply zal | apply zap)); exact zar HO_0.out (fun _ hk => ⟨hk.1.1, ⟨hk.1.2.1, ⟨hk.1.2.2.1, ⟨hk.1.2.2.2.1, ⟨hk.1.2.2.2.2, hk.2⟩⟩⟩⟩⟩)), (by (with_reducible repeat (first | refine zai ?_ _ | refine zao ?_ | refine zaj ?_ _)); exact BK130.out), (by (with_reducible repeat (first | refine zai ?_ _ | refine zao ?_ | refine zaj ?_ _)); exact BK156.out), GW156.out, GE156.out, NB130_156.out, NB156_130.out, (by repeat (first | (with_reducible first | exact HB.out | apply zah | apply zab | apply zaf | refine zag ?_ GE130.out | refine zag ?_ GE156.out) | exact HB.out))⟩)
           ·skip
            rintro ⟨v140, v143, v151, gb156⟩ w52 ⟨hS_, h0_, h1_, h2_, h3_, h4_, h5_, h6_, h7_, h8_, h9_, h10_, h11_, h12_⟩
            have n0_ : Aside0 (Kd.V (Kd.int .u8) 5 w52 w.heap.size (fun k_ => (P0_ k_ ∨ w.heap.size ≤ k_) ∧ some k_ ≠ (v140 : Value).ownBlock ∧ some k_ ≠ (v143 : Value).ownBlock ∧ some k_ ≠ (v151 : Value).ownBlock ∧ k_ ≠ gb130 ∧ k_ ≠ gb156) (.slice A43 y134.length c43) y134) := ⟨h0_⟩
            have n1_ : Aside0 (Kd.N (Kd.slice 5 (Kd.int .u8)) 22 w52 w.heap.size (fun k_ => (P0_ k_ ∨ w.heap.size ≤ k_) ∧ some k_ ≠ (v143 : Value).ownBlock ∧ some k_ ≠ (v151 : Value).ownBlock ∧ k_ ≠ gb130 ∧ k_ ≠ gb156) v140 y139) := ⟨h1_⟩
            have n2_ : Aside0 (Kd.R (Kd.int .u8) 5 w52 w.heap.size (fun k_ => (w.heap.size ≤ k_)) v143 t142) := ⟨h2_⟩
            have n3_ : Aside0 (Kd.V (Kd.int .u8) 5 w52 w.heap.size (fun k_ => (P0_ k_ ∨ w.heap.size ≤ k_) ∧ some k_ ≠ (v140 : Value).ownBlock ∧ some k_ ≠ (v143 : Value).ownBlock ∧ some k_ ≠ (v151 : Value).ownBlock ∧ k_ ≠ gb130 ∧ k_ ≠ gb156) (.slice A44 y145.length c44) y145) := ⟨h3_⟩
            have n4_ : Aside0 (Kd.N (Kd.slice 5 (Kd.int .u8)) 22 w52 w.heap.size (fun k_ => (P0_ k_ ∨ w.heap.size ≤ k_) ∧ some k_ ≠ (v140 : Value).ownBlock ∧ some k_ ≠ (v143 : Value).ownBlock ∧ k_ ≠ gb130 ∧ k_ ≠ gb156) v151 y150) := ⟨h4_⟩
            have n5_ : Aside0 (Kd.V (Kd.int .u8) 5 w52 w.heap.size (fun k_ => (P0_ k_ ∨ w.heap.size ≤ k_) ∧ some k_ ≠ (v140 : Value).ownBlock ∧ some k_ ≠ (v143 : Value).ownBlock ∧ some k_ ≠ (v151 : Value).ownBlock ∧ k_ ≠ gb130 ∧ k_ ≠ gb156) (.slice (some ad132) l0.length c0) l0) := ⟨h5_⟩
            have n6_ : Aside0 (w52.heap[gb130]? = some (.cells #[.int .i64 0, .slice none 0 0, .slice none 0 0] 24 (0, 0))) := ⟨h6_⟩
            have n7_ : Aside0 (w52.heap[gb156]? = some (.cells #[.int .i64 0, .slice none 0 0, .slice none 0 0] 24 (0, 0))) := ⟨h7_⟩
            have n8_ : Aside0 (w.heap.size ≤ gb156) := ⟨h8_⟩
            have n9_ : Aside0 (w.heap.size ≤ gb156) := ⟨h9_⟩
            have n10_ : Aside0 (gb130 ≠ gb156) := ⟨h10_⟩
            have n11_ : Aside0 (gb156 ≠ gb130) := ⟨h11_⟩
            have n12_ : Aside0 (Below w.heap.size w w52) := ⟨h12_⟩
            clear HO_0
            clear BK130
            clear HB
            clear h0_ h1_ h2_ h3_ h4_ h5_ h6_ h7_ h8_ h9_ h10_ h11_ h12_
            have HO138 := n0_
            have HO141 := n1_
            have HO144 := n2_
            have HO149 := n3_
            have HO152 := n4_
            have HO_0 := n5_
            have BK130 := n6_
            have BK156 := n7_
            have GW156 := n8_
            have GE156 := n9_
            have NB130_156 := n10_
            have NB156_130 := n11_
            have HB := n12_
            clear n0_ n1_ n2_ n3_ n4_ n5_ n6_ n7_ n8_ n9_ n10_ n11_ n12_
            have hHeld : w52.cell? ⟨ad132.block, ad132.off + 1, none⟩ = some (.int .u8 (rd l0 1)) ∧ w52.cell? ⟨ad132.block, ad132.off + 2, none⟩ = some (.int .u8 (rd l0 2)) := hS_
            obtain ⟨Ao53, co53, eo53⟩ := Kd.N_slice HO152.out
            (first | subst eo53 | (injection eo53 with f1_ f2_ f3_; have f4_ := f1_.symm; have f5_ := f3_.symm; clear f1_ f2_ f3_; subst f4_; subst f5_))
            refine norm_ (a' := ?_) ?_ ?_
            rotate_left
            ·simp only [putAll, Act.put, zaa, zac, zad]
             rfl
            refine one_ (i := 17) (N := some 32) #[true, true, true, true, true, true, true, true, true, true, true, true, true, true, true, true, true, true, false, true, false] rfl rfl (one_of HT_.out (by kernel_rfl)) (by decide) (fun K hK => ?_)
            refine goes_ Try.func35 (by kernel_rfl) rfl #[.slice Ao53 y150.length co53] (by rfl) rfl rfl (by (try simp only [zbg, zbs, zbt]); first | done | rfl | (simp only [zbn, zbr]; rfl) | (simp only [zbn, zbr]; rw [zdm (zee.mpr (zem (by assumption)))])) ?_
            with_reducible refine (impl_joined.calls _ _ y150 t153 _ ?side1 ?side2 A14.out).mono ?_
            (case side1 => repeat (first | exact (zdi HO152.out).2.2 | (with_reducible refine zbu ?_ _) | (with_reducible refine zbv ?_ _) | (with_reducible refine zca ?_)))
            (case side2 => exact (zdi HO152.out).2.1)
            rintro e w54 ⟨v154, rfl, ho0, hb⟩
            have HS0_ := (hb.cell (World.block_lt_of_cell? _ _ (hHeld.1))).trans (hHeld.1)
            have HS1_ := (hb.cell (World.block_lt_of_cell? _ _ (hHeld.2))).trans (hHeld.2)
            refine ⟨_, rfl, ?_⟩
            have n0_ := Aside0.mk (zbd (by (with_reducible repeat (first | apply zak | apply zal | apply zap)); exact HO_0.out) (zbl ho0) hb)
            have n1_ := Aside0.mk (zbd (by (with_reducible repeat (first | apply zak | apply zal | apply zap)); exact HO138.out) (zbl ho0) hb)
            have n2_ := Aside0.mk (zbd (by (with_reducible repeat (first | apply zak | apply zal | apply zap)); exact HO149.out) (zbl ho0) hb)
            have n3_ := Aside0.mk (zcu (by (with_reducible repeat (first | apply zav | apply zaw | apply zbb)); exact HO141.out) (zbl ho0) hb)
            have n4_ := Aside0.mk (zdh (by (with_reducible repeat (first | apply zam | apply zan | apply zaq)); exact HO144.out) (zbl ho0) hb)
            have n5_ := Aside0.mk (zcu (by (with_reducible repeat (first | apply zav | apply zaw | apply zbb)); exact HO152.out) (zbl ho0) hb)
            have n6_ := Aside0.mk (zdd (zcr (Kd.R_newM (M := fun k_ => (w.heap.size ≤ k_)) ho0 (zat (by repeat (first | (with_reducible first | exact HB.out | apply zah | apply zab | apply zaf | refine zag ?_ GE130.out | refine zag ?_ GE156.out) | exact HB.out))) (fun k_ h_ => h_)) (zdf (by (with_reducible repeat (first | apply zam | apply zan | apply zaq)); exact HO144.out))) (zat (by repeat (first | (with_reducible first | exact HB.out | apply zah | apply zab | apply zaf | refine zag ?_ GE130.out | refine zag ?_ GE156.out) | exact HB.out))))
            have n7_ := Aside0.mk (zbf (g := gb130) (o := .cells #[.int .i64 0, .slice none 0 0, .slice none 0 0] 24 (0, 0)) (by (with_reducible repeat (first | refine zai ?_ _ | refine zao ?_ | refine zaj ?_ _)); exact BK130.out) hb)
            have n8_ := Aside0.mk (zbf (g := gb156) (o := .cells #[.int .i64 0, .slice none 0 0, .slice none 0 0] 24 (0, 0)) (by (with_reducible repeat (first | refine zai ?_ _ | refine zao ?_ | refine zaj ?_ _)); exact BK156.out) hb)
            have n9_ := Aside0.mk (zbh (by repeat (first | (with_reducible first | exact HB.out | apply zah | apply zab | apply zaf | refine zag ?_ GE130.out | refine zag ?_ GE156.out) | exact HB.out)) hb)
            clear HO_0
            clear HO138
            clear HO149
            clear HO141
            clear HO144
            clear HO152
            clear BK130
            clear BK156
            clear HB
            have HO_0 := n0_
            have HO138 := n1_
            have HO149 := n2_
            have HO141 := n3_
            have HO144 := n4_
            have HO152 := n5_
            have HO155 := n6_
            have BK130 := n7_
            have BK156 := n8_
            have HB := n9_
            clear n0_ n1_ n2_ n3_ n4_ n5_ n6_ n7_ n8_ n9_
            (try clear hb)
            (try clear hb2)
            (try clear hk)
            (try clear hi)
            (try clear ho0)
            obtain ⟨Ao55, co55, eo55⟩ := zcz HO155.out
            (first | subst eo55 | (injection eo55 with f1_ f2_ f3_; have f4_ := f1_.symm; have f5_ := f3_.symm; clear f1_ f2_ f3_; subst f4_; subst f5_))
            obtain ⟨Ao56, co56, eo56⟩ := zcz HO144.out
            (first | subst eo56 | (injection eo56 with f1_ f2_ f3_; have f4_ := f1_.symm; have f5_ := f3_.symm; clear f1_ f2_ f3_; subst f4_; subst f5_))
            refine hK.out _ _ ⟨HS0_, HS1_⟩ (fun hHeld => ?_)
            clear hK K
            refine norm_ (a' := ?_) ?_ ?_
            rotate_left
            ·show Act.put _ (some 32) _ = _
             simp only [Act.put, zaa, zac, zad, i64_w, i32_w]
             rfl
            refine pure_ (i := 18) (N := some 33) (v := ?_) (a' := ?_) #[true, true, true, true, true, true, true, true, true, true, true, true, true, true, true, true, true, true, true, true, false] rfl rfl (any_of HT_.out (by kernel_rfl)) (fun _ _ _ h => h) (Or.inl ⟨by rfl, ?_⟩) ?_ ?_
            rotate_left
            ·intro w'
             go_simp
             with_reducible rfl
            rotate_left
            ·simp only [Act.put, zaa, zac, zad, i64_w, i32_w]
             rfl
            exact norm_ (by first | (simp only [putAll, Act.put, zaa, zac, zad]; done) | (simp only [putAll, Act.put, zaa, zac, zad]; rfl)) (hJ12_13_16_17_19 (v140, .slice Ao56 t142.length co56, .slice Ao53 y150.length co53, .slice Ao55 t153.length co55, gb156) _ ⟨hHeld, (by (with_reducible repeat (first | apply zak | apply zal | apply zap)); exact zar HO138.out (fun _ hk => ⟨hk.1.1, ⟨hk.1.2.1, ⟨hk.1.2.2.1, ⟨hk.1.2.2.2.1, ⟨hk.2, ⟨hk.1.2.2.2.2.1, hk.1.2.2.2.2.2⟩⟩⟩⟩⟩⟩)), (by (with_reducible repeat (first | apply zav | apply zaw | apply zbb)); exact zck HO141.out (fun _ hk => ⟨hk.1.1, ⟨hk.1.2.1, ⟨hk.1.2.2.1, ⟨hk.2, ⟨hk.1.2.2.2.1, hk.1.2.2.2.2⟩⟩⟩⟩⟩)), (by (with_reducible repeat (first | apply zam | apply zan | apply zaq)); exact HO144.out), (by (with_reducible repeat (first | apply zak | apply zal | apply zap)); exact zar HO149.out (fun _ hk => ⟨hk.1.1, ⟨hk.1.2.1, ⟨hk.1.2.2.1, ⟨hk.1.2.2.2.1, ⟨hk.2, ⟨hk.1.2.2.2.2.1, hk.1.2.2.2.2.2⟩⟩⟩⟩⟩⟩)), (by (with_reducible repeat (first | apply zav | apply zaw | apply zbb)); exact zck HO152.out (fun _ hk => ⟨hk.1.1, ⟨hk.1.2.1, ⟨hk.1.2.2.1, ⟨hk.2, ⟨hk.1.2.2.2.1, hk.1.2.2.2.2⟩⟩⟩⟩⟩)), (by (with_reducible repeat (first | apply zam | apply zan | apply zaq)); exact zaz HO155.out (fun _ hk => ⟨hk.1.1, hk.2⟩)), (by (with_reducible repeat (first | apply zak | apply zal | apply zap)); exact zar HO_0.out (fun _ hk => ⟨hk.1.1, ⟨hk.1.2.1, ⟨hk.1.2.2.1, ⟨hk.1.2.2.2.1, ⟨hk.2, ⟨hk.1.2.2.2.2.1, hk.1.2.2.2.2.2⟩⟩⟩⟩⟩⟩)), (by (with_reducible repeat (first | refine zai ?_ _ | refine zao ?_ | refine zaj ?_ _)); exact BK130.out), (by (with_reducible repeat (first | refine zai ?_ _ | refine zao ?_ | refine zaj ?_ _)); exact BK156.out), GW156.out, GE156.out, NB130_156.out, NB156_130.out, (by repeat (first | (with_reducible first | exact HB.out | apply zah | apply zab | apply zaf | refine zag ?_ GE130.out | refine zag ?_ GE156.out) | exact HB.out))⟩)
          ·skip
           rintro ⟨v140, v143, v151, v154⟩ w55 ⟨hS_, h0_, h1_, h2_, h3_, h4_, h5_, h6_, h7_, h8_⟩
           have n0_ : Aside0 (Kd.V (Kd.int .u8) 5 w55 w.heap.size (fun k_ => (P0_ k_ ∨ w.heap.size ≤ k_) ∧ some k_ ≠ (v140 : Value).ownBlock ∧ some k_ ≠ (v143 : Value).ownBlock ∧ some k_ ≠ (v151 : Value).ownBlock ∧ some k_ ≠ (v154 : Value).ownBlock ∧ k_ ≠ gb130) (.slice A43 y134.length c43) y134) := ⟨h0_⟩
           have n1_ : Aside0 (Kd.N (Kd.slice 5 (Kd.int .u8)) 22 w55 w.heap.size (fun k_ => (P0_ k_ ∨ w.heap.size ≤ k_) ∧ some k_ ≠ (v143 : Value).ownBlock ∧ some k_ ≠ (v151 : Value).ownBlock ∧ some k_ ≠ (v154 : Value).ownBlock ∧ k_ ≠ gb130) v140 y139) := ⟨h1_⟩
           have n2_ : Aside0 (Kd.R (Kd.int .u8) 5 w55 w.heap.size (fun k_ => (w.heap.size ≤ k_) ∧ some k_ ≠ (v154 : Value).ownBlock) v143 t142) := ⟨h2_⟩
           have n3_ : Aside0 (Kd.V (Kd.int .u8) 5 w55 w.heap.size (fun k_ => (P0_ k_ ∨ w.heap.size ≤ k_) ∧ some k_ ≠ (v140 : Value).ownBlock ∧ some k_ ≠ (v143 : Value).ownBlock ∧ some k_ ≠ (v151 : Value).ownBlock ∧ some k_ ≠ (v154 : Value).ownBlock ∧ k_ ≠ gb130) (.slice A44 y145.length c44) y145) := ⟨h3_⟩
           have n4_ : Aside0 (Kd.N (Kd.slice 5 (Kd.int .u8)) 22 w55 w.heap.size (fun k_ => (P0_ k_ ∨ w.heap.size ≤ k_) ∧ some k_ ≠ (v140 : Value).ownBlock ∧ some k_ ≠ (v143 : Value).ownBlock ∧ some k_ ≠ (v154 : Value).ownBlock ∧ k_ ≠ gb130) v151 y150) := ⟨h4_⟩
           have n5_ : Aside0 (Kd.R (Kd.int .u8) 5 w55 w.heap.size (fun k_ => (w.heap.size ≤ k_) ∧ some k_ ≠ (v143 : Value).ownBlock) v154 t153) := ⟨h5_⟩
           have n6_ : Aside0 (Kd.V (Kd.int .u8) 5 w55 w.heap.size (fun k_ => (P0_ k_ ∨ w.heap.size ≤ k_) ∧ some k_ ≠ (v140 : Value).ownBlock ∧ some k_ ≠ (v143 : Value).ownBlock ∧ some k_ ≠ (v151 : Value).ownBlock ∧ some k_ ≠ (v154 : Value).ownBlock ∧ k_ ≠ gb130) (.slice (some ad132) l0.length c0) l0) := ⟨h6_⟩
           have n7_ : Aside0 (w55.heap[gb130]? = some (.cells #[.int .i64 0, .slice none 0 0, .slice none 0 0] 24 (0, 0))) := ⟨h7_⟩
           have n8_ : Aside0 (Below w.heap.size w w55) := ⟨h8_⟩
           clear HO_0
           clear BK130
           clear HB
           clear h0_ h1_ h2_ h3_ h4_ h5_ h6_ h7_ h8_
           have HO138 := n0_
           have HO141 := n1_
           have HO144 := n2_
           have HO149 := n3_
           have HO152 := n4_
           have HO155 := n5_
           have HO_0 := n6_
           have BK130 := n7_
           have HB := n8_
           clear n0_ n1_ n2_ n3_ n4_ n5_ n6_ n7_ n8_
           have hHeld : w55.cell? ⟨ad132.block, ad132.off + 1, none⟩ = some (.int .u8 (rd l0 1)) ∧ w55.cell? ⟨ad132.block, ad132.off + 2, none⟩ = some (.int .u8 (rd l0 2)) := hS_
           obtain ⟨Ao56, co56, eo56⟩ := zcz HO155.out
           (first | subst eo56 | (injection eo56 with f1_ f2_ f3_; have f4_ := f1_.symm; have f5_ := f3_.symm; clear f1_ f2_ f3_; subst f4_; subst f5_))
           obtain ⟨Ao57, co57, eo57⟩ := zcz HO144.out
           (first | subst eo57 | (injection eo57 with f1_ f2_ f3_; have f4_ := f1_.symm; have f5_ := f3_.symm; clear f1_ f2_ f3_; subst f4_; subst f5_))
           refine norm_ (a' := ?_) ?_ ?_
           rotate_left
           ·simp only [putAll, Act.put, zaa, zac, zad]
            rfl
           refine one_ (i := 19) (N := some 4) #[true, true, true, true, true, true, true, true, true, true, true, true, true, true, true, true, true, true, true, true, false] rfl rfl (one_of HT_.out (by kernel_rfl)) (by decide) (fun K hK => ?_)
           refine box_step ?hg (N := 4) ?hd (cs := #[.int .i64 0, .slice none 0 0, .slice none 0 0]) (t := 24) ?hr ?_; (case hd => rfl); (case hg => rfl); (case hr => first | (go_simp; done) | (go_simp; rfl))
           intro gb156 hg w58 hbox hb
           have HS0_ := (hb.cell (World.block_lt_of_cell? _ _ (hHeld.1))).trans (hHeld.1)
           have HS1_ := (hb.cell (World.block_lt_of_cell? _ _ (hHeld.2))).trans (hHeld.2)
           have n0_ := Aside0.mk (zcj (zci (by (with_reducible repeat (first | apply zak | apply zal | apply zap)); exact HO_0.out) gb156 (zbp hg.symm)) hb)
           have n1_ := Aside0.mk (zcj (zci (by (with_reducible repeat (first | apply zak | apply zal | apply zap)); exact HO138.out) gb156 (zbp hg.symm)) hb)
           have n2_ := Aside0.mk (zcj (zci (by (with_reducible repeat (first | apply zak | apply zal | apply zap)); exact HO149.out) gb156 (zbp hg.symm)) hb)
           have n3_ := Aside0.mk (zdt (zdz (by (with_reducible repeat (first | apply zav | apply zaw | apply zbb)); exact HO141.out) gb156 (zbp hg.symm)) hb)
           have n4_ := Aside0.mk (zbe (by (with_reducible repeat (first | apply zam | apply zan | apply zaq)); exact HO144.out) hb)
           have n5_ := Aside0.mk (zdt (zdz (by (with_reducible repeat (first | apply zav | apply zaw | apply zbb)); exact HO152.out) gb156 (zbp hg.symm)) hb)
           have n6_ := Aside0.mk (zbe (by (with_reducible repeat (first | apply zam | apply zan | apply zaq)); exact HO155.out) hb)
           have n7_ := Aside0.mk (zbf (g := gb130) (o := .cells #[.int .i64 0, .slice none 0 0, .slice none 0 0] 24 (0, 0)) (by (with_reducible repeat (first | refine zai ?_ _ | refine zao ?_ | refine zaj ?_ _)); exact BK130.out) hb)
           have n8_ := Aside0.mk (zbh (by repeat (first | (with_reducible first | exact HB.out | apply zah | apply zab | apply zaf | refine zag ?_ GE130.out) | exact HB.out)) hb)
           have n9_ := Aside0.mk (hbox)
           have n10_ := Aside0.mk ((by rw [hg]; exact (zat (by repeat (first | (with_reducible first | exact HB.out | apply zah | apply zab | apply zaf | refine zag ?_ GE130.out) | exact HB.out))) : w.heap.size ≤ gb156))
           have n11_ := Aside0.mk ((by rw [hg]; exact (zat (by repeat (first | (with_reducible first | exact HB.out | apply zah | apply zab | apply zaf | refine zag ?_ GE130.out) | exact HB.out))) : w.heap.size ≤ gb156))
           have n12_ := Aside0.mk ((by rw [hg]; exact zcb (blk_lt (g := gb130) (o := .cells #[.int .i64 0, .slice none 0 0, .slice none 0 0] 24 (0, 0)) (by (with_reducible repeat (first | refine zai ?_ _ | refine zao ?_ | refine zaj ?_ _)); exact BK130.out)) : gb130 ≠ gb156))
           have n13_ := Aside0.mk ((by rw [hg]; exact zdj (blk_lt (g := gb130) (o := .cells #[.int .i64 0, .slice none 0 0, .slice none 0 0] 24 (0, 0)) (by (with_reducible repeat (first | refine zai ?_ _ | refine zao ?_ | refine zaj ?_ _)); exact BK130.out)) : gb156 ≠ gb130))
           clear HO_0
           clear HO138
           clear HO149
           clear HO141
           clear HO144
           clear HO152
           clear HO155
           clear BK130
           clear HB
           have HO_0 := n0_
           have HO138 := n1_
           have HO149 := n2_
           have HO141 := n3_
           have HO144 := n4_
           have HO152 := n5_
           have HO155 := n6_
           have BK130 := n7_
           have HB := n8_
           have BK156 := n9_
           have GW156 := n10_
           have GE156 := n11_
           have NB130_156 := n12_
           have NB156_130 := n13_
           clear n0_ n1_ n2_ n3_ n4_ n5_ n6_ n7_ n8_ n9_ n10_ n11_ n12_ n13_
           clear hb hbox hg
           refine hK.out _ _ ⟨HS0_, HS1_⟩ (fun hHeld => ?_)
           clear hK K
           refine norm_ (a' := ?_) ?_ ?_
           rotate_left
           ·show Act.put _ (some 4) _ = _
            simp only [Act.put, zaa, zac, zad, i64_w, i32_w]
            rfl
           exact norm_ (by first | (simp only [putAll, Act.put, zaa, zac, zad]; done) | (simp only [putAll, Act.put, zaa, zac, zad]; rfl)) (hJ12_13_16_17_19 (v140, .slice Ao57 t142.length co57, v151, .slice Ao56 t153.length co56, gb156) _ ⟨hHeld, (by (with_reducible repeat (first | apply zak | apply zal | apply zap)); exact zar HO138.out (fun _ hk => ⟨hk.1.1, ⟨hk.1.2.1, ⟨hk.1.2.2.1, ⟨hk.1.2.2.2.1, ⟨hk.1.2.2.2.2.1, ⟨hk.1.2.2.2.2.2, hk.2⟩⟩⟩⟩⟩⟩)), (by (with_reducible repeat (first | apply zav | apply zaw | apply zbb)); exact zck HO141.out (fun _ hk => ⟨hk.1.1, ⟨hk.1.2.1, ⟨hk.1.2.2.1, ⟨hk.1.2.2.2.1, ⟨hk.1.2.2.2.2, hk.2⟩⟩⟩⟩⟩)), (by (with_reducible repeat (first | apply zam | apply zan | apply zaq)); exact HO144.out), (by (with_reducible repeat (first | apply zak | apply zal | apply zap)); exact zar HO149.out (fun _ hk => ⟨hk.1.1, ⟨hk.1.2.1, ⟨hk.1.2.2.1, ⟨hk.1.2.2.2.1, ⟨hk.1.2.2.2.2.1, ⟨hk.1.2.2.2.2.2, hk.2⟩⟩⟩⟩⟩⟩)), (by (with_reducible repeat (first | apply zav | apply zaw | apply zbb)); exact zck HO152.out (fun _ hk => ⟨hk.1.1, ⟨hk.1.2.1, ⟨hk.1.2.2.1, ⟨hk.1.2.2.2.1, ⟨hk.1.2.2.2.2, hk.2⟩⟩⟩⟩⟩)), (by (with_reducible repeat (first | apply zam | apply zan | apply zaq)); exact HO155.out), (by (with_reducible repeat (first | apply zak | apply zal | apply zap)); exact zar HO_0.out (fun _ hk => ⟨hk.1.1, ⟨hk.1.2.1, ⟨hk.1.2.2.1, ⟨hk.1.2.2.2.1, ⟨hk.1.2.2.2.2.1, ⟨hk.1.2.2.2.2.2, hk.2⟩⟩⟩⟩⟩⟩)), (by (with_reducible repeat (first | refine zai ?_ _ | refine zao ?_ | refine zaj ?_ _)); exact BK130.out), (by (with_reducible repeat (first | refine zai ?_ _ | refine zao ?_ | refine zaj ?_ _)); exact BK156.out), GW156.out, GE156.out, NB130_156.out, NB156_130.out, (by repeat (first | (with_reducible first | exact HB.out | apply zah | apply zab | apply zaf | refine zag ?_ GE130.out | refine zag ?_ GE156.out) | exact HB.out))⟩)
         rintro ⟨v140, v143, v151, v154, gb156⟩ w56 ⟨hS_, h0_, h1_, h2_, h3_, h4_, h5_, h6_, h7_, h8_, h9_, h10_, h11_, h12_, h13_⟩
         have n0_ : Aside0 (Kd.V (Kd.int .u8) 5 w56 w.heap.size (fun k_ => (P0_ k_ ∨ w.heap.size ≤ k_) ∧ some k_ ≠ (v140 : Value).ownBlock ∧ some k_ ≠ (v143 : Value).ownBlock ∧ some k_ ≠ (v151 : Value).ownBlock ∧ some k_ ≠ (v154 : Value).ownBlock ∧ k_ ≠ gb130 ∧ k_ ≠ gb156) (.slice A43 y134.length c43) y134) := ⟨h0_⟩
         have n1_ : Aside0 (Kd.N (Kd.slice 5 (Kd.int .u8)) 22 w56 w.heap.size (fun k_ => (P0_ k_ ∨ w.heap.size ≤ k_) ∧ some k_ ≠ (v143 : Value).ownBlock ∧ some k_ ≠ (v151 : Value).ownBlock ∧ some k_ ≠ (v154 : Value).ownBlock ∧ k_ ≠ gb130 ∧ k_ ≠ gb156) v140 y139) := ⟨h1_⟩
         have n2_ : Aside0 (Kd.R (Kd.int .u8) 5 w56 w.heap.size (fun k_ => (w.heap.size ≤ k_) ∧ some k_ ≠ (v154 : Value).ownBlock) v143 t142) := ⟨h2_⟩
         have n3_ : Aside0 (Kd.V (Kd.int .u8) 5 w56 w.heap.size (fun k_ => (P0_ k_ ∨ w.heap.size ≤ k_) ∧ some k_ ≠ (v140 : Value).ownBlock ∧ some k_ ≠ (v143 : Value).ownBlock ∧ some k_ ≠ (v151 : Value).ownBlock ∧ some k_ ≠ (v154 : Value).ownBlock ∧ k_ ≠ gb130 ∧ k_ ≠ gb156) (.slice A44 y145.length c44) y145) := ⟨h3_⟩
         have n4_ : Aside0 (Kd.N (Kd.slice 5 (Kd.int .u8)) 22 w56 w.heap.size (fun k_ => (P0_ k_ ∨ w.heap.size ≤ k_) ∧ some k_ ≠ (v140 : Value).ownBlock ∧ some k_ ≠ (v143 : Value).ownBlock ∧ some k_ ≠ (v154 : Value).ownBlock ∧ k_ ≠ gb130 ∧ k_ ≠ gb156) v151 y150) := ⟨h4_⟩
         have n5_ : Aside0 (Kd.R (Kd.int .u8) 5 w56 w.heap.size (fun k_ => (w.heap.size ≤ k_) ∧ some k_ ≠ (v143 : Value).ownBlock) v154 t153) := ⟨h5_⟩
         have n6_ : Aside0 (Kd.V (Kd.int .u8) 5 w56 w.heap.size (fun k_ => (P0_ k_ ∨ w.heap.size ≤ k_) ∧ some k_ ≠ (v140 : Value).ownBlock ∧ some k_ ≠ (v143 : Value).ownBlock ∧ some k_ ≠ (v151 : Value).ownBlock ∧ some k_ ≠ (v154 : Value).ownBlock ∧ k_ ≠ gb130 ∧ k_ ≠ gb156) (.slice (some ad132) l0.length c0) l0) := ⟨h6_⟩
         have n7_ : Aside0 (w56.heap[gb130]? = some (.cells #[.int .i64 0, .slice none 0 0, .slice none 0 0] 24 (0, 0))) := ⟨h7_⟩
         have n8_ : Aside0 (w56.heap[gb156]? = some (.cells #[.int .i64 0, .slice none 0 0, .slice none 0 0] 24 (0, 0))) := ⟨h8_⟩
         have n9_ : Aside0 (w.heap.size ≤ gb156) := ⟨h9_⟩
         have n10_ : Aside0 (w.heap.size ≤ gb156) := ⟨h10_⟩
         have n11_ : Aside0 (gb130 ≠ gb156) := ⟨h11_⟩
         have n12_ : Aside0 (gb156 ≠ gb130) := ⟨h12_⟩
         have n13_ : Aside0 (Below w.heap.size w w56) := ⟨h13_⟩
         clear HO_0
         clear BK130
         clear HB
         clear h0_ h1_ h2_ h3_ h4_ h5_ h6_ h7_ h8_ h9_ h10_ h11_ h12_ h13_
         have HO138 := n0_
         have HO141 := n1_
         have HO144 := n2_
         have HO149 := n3_
         have HO152 := n4_
         have HO155 := n5_
         have HO_0 := n6_
         have BK130 := n7_
         have BK156 := n8_
         have GW156 := n9_
         have GE156 := n10_
         have NB130_156 := n11_
         have NB156_130 := n12_
         have HB := n13_
         clear n0_ n1_ n2_ n3_ n4_ n5_ n6_ n7_ n8_ n9_ n10_ n11_ n12_ n13_
         have hHeld : w56.cell? ⟨ad132.block, ad132.off + 1, none⟩ = some (.int .u8 (rd l0 1)) ∧ w56.cell? ⟨ad132.block, ad132.off + 2, none⟩ = some (.int .u8 (rd l0 2)) := hS_
         obtain ⟨Ao57, co57, eo57⟩ := zcz HO155.out
         (first | subst eo57 | (injection eo57 with f1_ f2_ f3_; have f4_ := f1_.symm; have f5_ := f3_.symm; clear f1_ f2_ f3_; subst f4_; subst f5_))
         obtain ⟨Ao58, co58, eo58⟩ := zcz HO144.out
         (first | subst eo58 | (injection eo58 with f1_ f2_ f3_; have f4_ := f1_.symm; have f5_ := f3_.symm; clear f1_ f2_ f3_; subst f4_; subst f5_))
         refine norm_ (a' := ?_) ?_ ?_
         rotate_left
         ·simp only [putAll, Act.put, zaa, zac, zad]
          rfl
         refine one_ (i := 20) (N := none) #[true, true, true, true, true, true, true, true, true, true, true, true, true, true, true, true, true, true, true, true, true] rfl rfl (one_of HT_.out (by kernel_rfl)) (by decide) (fun K hK => ?_)
         have hs59 : w56.cell? ⟨gb156, 0, none⟩ = some (.int .i64 0) := (zbc BK156.out 0).trans rfl
         have hfs59 := zau BK156.out 0
         have hns59_0 := NB130_156.out
         have hms59_0 := NB156_130.out
         have hs60 : w56.cell? ⟨gb156, 1, none⟩ = some (.slice none 0 0) := (zbc BK156.out 1).trans rfl
         have hfs60 := zau BK156.out 1
         have hns60_0 := NB130_156.out
         have hms60_0 := NB156_130.out
         have hs61 : w56.cell? ⟨gb156, 2, none⟩ = some (.slice none 0 0) := (zbc BK156.out 2).trans rfl
         have hfs61 := zau BK156.out 2
         have hns61_0 := NB130_156.out
         have hms61_0 := NB156_130.out
         refine skip_ (w1 := ?_) (by rfl) rfl ?_ ?_
         rotate_left
         ·go_simp
          rfl
         have hnb_ : ad132.block ≠ gb156 := by
          obtain ⟨ad_, e_, hx_⟩ := zek (zct hs0).2.2 1 (by omega) (by have h_ := zem qi132; omega)
          cases e_
          have h1_ := World.block_lt_of_cell? w _ hx_
          have h3_ : (Addr.add ad132 (1 : Int).toNat).block = ad132.block := zcf _ _
          have h2_ := GE156.out
          first | omega | (rw [h3_] at h1_; omega) | (rw [zcf] at h1_; omega)
         refine hK.out _ _ ⟨((cell_far (p := ⟨gb156, _, none⟩) (by first | exact hnb_ | (rw [zcf]; exact hnb_) | (show (Addr.add _ _).block ≠ _; rw [zcf]; exact hnb_) | (dsimp only; exact hnb_)) _).trans (((cell_far (p := ⟨gb156, _, none⟩) (by first | exact hnb_ | (rw [zcf]; exact hnb_) | (show (Addr.add _ _).block ≠ _; rw [zcf]; exact hnb_) | (dsimp only; exact hnb_)) _).trans (((cell_far (p := ⟨gb156, _, none⟩) (by first | exact hnb_ | (rw [zcf]; exact hnb_) | (show (Addr.add _ _).block ≠ _; rw [zcf]; exact hnb_) | (dsimp only; exact hnb_)) _).trans (hHeld.1)))))), ((cell_far (p := ⟨gb156, _, none⟩) (by first | exact hnb_ | (rw [zcf]; exact hnb_) | (show (Addr.add _ _).block ≠ _; rw [zcf]; exact hnb_) | (dsimp only; exact hnb_)) _).trans (((cell_far (p := ⟨gb156, _, none⟩) (by first | exact hnb_ | (rw [zcf]; exact hnb_) | (show (Addr.add _ _).block ≠ _; rw [zcf]; exact hnb_) | (dsimp only; exact hnb_)) _).trans (((cell_far (p := ⟨gb156, _, none⟩) (by first | exact hnb_ | (rw [zcf]; exact hnb_) | (show (Addr.add _ _).block ≠ _; rw [zcf]; exact hnb_) | (dsimp only; exact hnb_)) _).trans (hHeld.2))))))⟩ (fun hHeld => ?_)
         clear hK K
         refine done_ (done_of HT_.out (by kernel_rfl)) ?_
         have hnb62 := NB156_130.out
         have hnc62 := NB130_156.out
         have hcz63_0 : w56.cell? ⟨gb156, 0, none⟩ = some (.int .i64 0) := (zbc BK156.out 0).trans rfl
         have hcz63_1 : w56.cell? ⟨gb156, 1, none⟩ = some (.slice none 0 0) := (zbc BK156.out 1).trans rfl
         have hcz63_2 : w56.cell? ⟨gb156, 2, none⟩ = some (.slice none 0 0) := (zbc BK156.out 2).trans rfl
         have hfz63_0 := zau BK156.out 0
         have hfz63_1 := zau BK156.out 1
         have hfz63_2 := zau BK156.out 2
         try go_wp2_with (first | ((with_reducible refine zcl (f := 36) rfl ?_); refine goesL_ (some 35) rfl rfl Try.func36 (by kernel_rfl) rfl #[.agg #[.int .i64 (Go.bits .or .i64 (wrap64 ((wrap64 (rd l0 1)) * 256)) (wrap64 (rd l0 2))), .slice Ao58 t142.length co58, .slice Ao57 t153.length co57]] rfl (by (try simp only [zbg, zbs, zbt]); first | done | rfl | (simp only [zbn, zbr]; rfl) | (simp only [zbn, zbr]; rw [zdm (zee.mpr (zem (by assumption)))])) ?_; (with_reducible refine (impl_LetterOk.calls (Go.bits .or .i64 (wrap64 ((wrap64 (rd l0 1)) * 256)) (wrap64 (rd l0 2))) _ _ t142 _ _ t153 false _ ?side1 ?side2 ?side3 ?side4 A15.out).mono ?_); (case side1 => refine (zba (e := 5) (base := w.heap.size) (ok := fun k_ => ((w.heap.size ≤ k_) ∧ some k_ ≠ (.slice Ao57 t153.length co57 : Value).ownBlock)) (n := t142.length) (c := co58) ?_).2.2; exact (by (with_reducible repeat (first | apply zam | apply zan | apply zaq)); exact (zaz (zax (p := ⟨gb156, 2, none⟩) (zax (p := ⟨gb156, 1, none⟩) (zax (p := ⟨gb156, 0, none⟩) (zbw HO144.out BK156.out (by decide)) (fun _ hk => hk.2) (.int .i64 (Go.bits .or .i64 (wrap64 ((wrap64 (rd l0 1)) * 256)) (wrap64 (rd l0 2))))) (fun _ hk => hk.2) (.slice Ao58 t142.length co58)) (fun _ hk => hk.2) (.slice Ao57 t153.length co57)) (fun _ h_ => h_.1)))); (case side2 => exact (zba HO144.out).2.1); (case side3 => refine (zba (e := 5) (base := w.heap.size) (ok := fun k_ => ((w.heap.size ≤ k_) ∧ some k_ ≠ (.slice Ao58 t142.length co58 : Value).ownBlock)) (n := t153.length) (c := co57) ?_).2.2; exact (by (with_reducible repeat (first | apply zam | apply zan | apply zaq)); exact (zaz (zax (p := ⟨gb156, 2, none⟩) (zax (p := ⟨gb156, 1, none⟩) (zax (p := ⟨gb156, 0, none⟩) (zbw HO155.out BK156.out (by decide)) (fun _ hk => hk.2) (.int .i64 (Go.bits .or .i64 (wrap64 ((wrap64 (rd l0 1)) * 256)) (wrap64 (rd l0 2))))) (fun _ hk => hk.2) (.slice Ao58 t142.length co58)) (fun _ hk => hk.2) (.slice Ao57 t153.length co57)) (fun _ h_ => h_.1)))); (case side4 => exact (zba HO155.out).2.1); rintro e w64 ⟨rfl, hb⟩; refine ⟨_, rfl, ?_⟩; have n0_ := Aside0.mk (zcj (by (with_reducible repeat (first | apply zak | apply zal | apply zap)); exact (zar (Kd.V_far (p := ⟨gb156, 2, none⟩) (Kd.V_far (p := ⟨gb156, 1, none⟩) (Kd.V_far (p := ⟨gb156, 0, none⟩) (zar HO_0.out (fun k_ hk => (⟨hk, hk.2.2.2.2.2.2⟩ : _ ∧ k_ ≠ gb156))) (fun _ hk => hk.2) (.int .i64 (Go.bits .or .i64 (wrap64 ((wrap64 (rd l0 1)) * 256)) (wrap64 (rd l0 2))))) (fun _ hk => hk.2) (.slice Ao58 t142.length co58)) (fun _ hk => hk.2) (.slice Ao57 t153.length co57)) (fun _ h_ => h_.1))) hb); have n1_ := Aside0.mk (zcj (by (with_reducible repeat (first | apply zak | apply zal | apply zap)); exact (zar (Kd.V_far (p := ⟨gb156, 2, none⟩) (Kd.V_far (p := ⟨gb156, 1, none⟩) (Kd.V_far (p := ⟨gb156, 0, none⟩) (zar HO138.out (fun k_ hk => (⟨hk, hk.2.2.2.2.2.2⟩ : _ ∧ k_ ≠ gb156))) (fun _ hk => hk.2) (.int .i64 (Go.bits .or .i64 (wrap64 ((wrap64 (rd l0 1)) * 256)) (wrap64 (rd l0 2))))) (fun _ hk => hk.2) (.slice Ao58 t142.length co58)) (fun _ hk => hk.2) (.slice Ao57 t153.length co57)) (fun _ h_ => h_.1))) hb); have n2_ := Aside0.mk (zcj (by (with_reducible repeat (first | apply zak | apply zal | apply zap)); exact (zar (Kd.V_far (p := ⟨gb156, 2, none⟩) (Kd.V_far (p := ⟨gb156, 1, none⟩) (Kd.V_far (p := ⟨gb156, 0, none⟩) (zar HO149.out (fun k_ hk => (⟨hk, hk.2.2.2.2.2.2⟩ : _ ∧ k_ ≠ gb156))) (fun _ hk => hk.2) (.int .i64 (Go.bits .or .i64 (wrap64 ((wrap64 (rd l0 1)) * 256)) (wrap64 (rd l0 2))))) (fun _ hk => hk.2) (.slice Ao58 t142.length co58)) (fun _ hk => hk.2) (.slice Ao57 t153.length co57)) (fun _ h_ => h_.1))) hb); have n3_ := Aside0.mk (zdt (by (with_reducible repeat (first | apply zav | apply zaw | apply zbb)); exact (zck (Kd.N_far (p := ⟨gb156, 2, none⟩) (Kd.N_far (p := ⟨gb156, 1, none⟩) (Kd.N_far (p := ⟨gb156, 0, none⟩) (zck HO141.out (fun k_ hk => (⟨hk, hk.2.2.2.2.2⟩ : _ ∧ k_ ≠ gb156))) (fun _ hk => hk.2) (.int .i64 (Go.bits .or .i64 (wrap64 ((wrap64 (rd l0 1)) * 256)) (wrap64 (rd l0 2))))) (fun _ hk => hk.2) (.slice Ao58 t142.length co58)) (fun _ hk => hk.2) (.slice Ao57 t153.length co57)) (fun _ h_ => h_.1))) hb); have n4_ := Aside0.mk (zbe (by (with_reducible repeat (first | apply zam | apply zan | apply zaq)); exact (zaz (zax (p := ⟨gb156, 2, none⟩) (zax (p := ⟨gb156, 1, none⟩) (zax (p := ⟨gb156, 0, none⟩) (zbw HO144.out BK156.out (by decide)) (fun _ hk => hk.2) (.int .i64 (Go.bits .or .i64 (wrap64 ((wrap64 (rd l0 1)) * 256)) (wrap64 (rd l0 2))))) (fun _ hk => hk.2) (.slice Ao58 t142.length co58)) (fun _ hk => hk.2) (.slice Ao57 t153.length co57)) (fun _ h_ => h_.1))) hb); have n5_ := Aside0.mk (zdt (by (with_reducible repeat (first | apply zav | apply zaw | apply zbb)); exact (zck (Kd.N_far (p := ⟨gb156, 2, none⟩) (Kd.N_far (p := ⟨gb156, 1, none⟩) (Kd.N_far (p := ⟨gb156, 0, none⟩) (zck HO152.out (fun k_ hk => (⟨hk, hk.2.2.2.2.2⟩ : _ ∧ k_ ≠ gb156))) (fun _ hk => hk.2) (.int .i64 (Go.bits .or .i64 (wrap64 ((wrap64 (rd l0 1)) * 256)) (wrap64 (rd l0 2))))) (fun _ hk => hk.2) (.slice Ao58 t142.length co58)) (fun _ hk => hk.2) (.slice Ao57 t153.length co57)) (fun _ h_ => h_.1))) hb); have n6_ := Aside0.mk (zbe (by (with_reducible repeat (first | apply zam | apply zan | apply zaq)); exact (zaz (zax (p := ⟨gb156, 2, none⟩) (zax (p := ⟨gb156, 1, none⟩) (zax (p := ⟨gb156, 0, none⟩) (zbw HO155.out BK156.out (by decide)) (fun _ hk => hk.2) (.int .i64 (Go.bits .or .i64 (wrap64 ((wrap64 (rd l0 1)) * 256)) (wrap64 (rd l0 2))))) (fun _ hk => hk.2) (.slice Ao58 t142.length co58)) (fun _ hk => hk.2) (.slice Ao57 t153.length co57)) (fun _ h_ => h_.1))) hb); have n7_ := Aside0.mk (zbf (g := gb130) (o := .cells #[.int .i64 0, .slice none 0 0, .slice none 0 0] 24 (0, 0)) (by (with_reducible repeat (first | refine zai ?_ _ | refine zao ?_ | refine zaj ?_ _)); refine zet ?_ NB130_156.out _; (with_reducible repeat (first | refine zai ?_ _ | refine zao ?_ | refine zaj ?_ _)); refine zet ?_ NB130_156.out _; (with_reducible repeat (first | refine zai ?_ _ | refine zao ?_ | refine zaj ?_ _)); refine zet ?_ NB130_156.out _; (with_reducible repeat (first | refine zai ?_ _ | refine zao ?_ | refine zaj ?_ _)); exact BK130.out) hb); have n8_ := Aside0.mk (zbf (g := gb156) (o := .cells #[.int .i64 (Go.bits .or .i64 (wrap64 ((wrap64 (rd l0 1)) * 256)) (wrap64 (rd l0 2))), .slice Ao58 t142.length co58, .slice Ao57 t153.length co57] 24 (0, 0)) (by (with_reducible repeat (first | refine zai ?_ _ | refine zao ?_ | refine zaj ?_ _)); refine zdl (cs := #[.int .i64 (Go.bits .or .i64 (wrap64 ((wrap64 (rd l0 1)) * 256)) (wrap64 (rd l0 2))), .slice Ao58 t142.length co58, .slice none 0 0]) ?_ 2 _ rfl; (with_reducible repeat (first | refine zai ?_ _ | refine zao ?_ | refine zaj ?_ _)); refine zdl (cs := #[.int .i64 (Go.bits .or .i64 (wrap64 ((wrap64 (rd l0 1)) * 256)) (wrap64 (rd l0 2))), .slice none 0 0, .slice none 0 0]) ?_ 1 _ rfl; (with_reducible repeat (first | refine zai ?_ _ | refine zao ?_ | refine zaj ?_ _)); refine zdl (cs := #[.int .i64 0, .slice none 0 0, .slice none 0 0]) ?_ 0 _ rfl; (with_reducible repeat (first | refine zai ?_ _ | refine zao ?_ | refine zaj ?_ _)); exact BK156.out) hb); have n9_ := Aside0.mk (zbh (by repeat (first | (with_reducible first | exact HB.out | apply zah | apply zab | apply zaf | refine zag ?_ GE130.out | refine zag ?_ GE156.out) | exact HB.out)) hb); clear HO_0; clear HO138; clear HO149; clear HO141; clear HO144; clear HO152; clear HO155; clear BK130; clear BK156; clear HB; have HO_0 := n0_; have HO138 := n1_; have HO149 := n2_; have HO141 := n3_; have HO144 := n4_; have HO152 := n5_; have HO155 := n6_; have BK130 := n7_; have BK156 := n8_; have HB := n9_; clear n0_ n1_ n2_ n3_ n4_ n5_ n6_ n7_ n8_ n9_; (try clear hb); (try clear hb2); (try clear hk); (try clear hi); have hcz65_0 : w64.cell? ⟨gb130, 0, none⟩ = some (.int .i64 0) := (zbc BK130.out 0).trans rfl; have hcz65_1 : w64.cell? ⟨gb130, 1, none⟩ = some (.slice none 0 0) := (zbc BK130.out 1).trans rfl; have hcz65_2 : w64.cell? ⟨gb130, 2, none⟩ = some (.slice none 0 0) := (zbc BK130.out 2).trans rfl; have hfz65_0 := zau BK130.out 0; have hfz65_1 := zau BK130.out 1; have hfz65_2 := zau BK130.out 2))
         refine bodyPost_ret (results_ct rfl _ _ gb130 24 #[.int .i64 0, .slice none 0 0, .slice none 0 0] (0, 0) _ rfl (by (with_reducible repeat (first | refine zai ?_ _ | refine zao ?_ | refine zaj ?_ _)); refine zdl (cs := #[.int .i64 0, .slice none 0 0, .slice none 0 0]) ?_ 2 _ rfl; (with_reducible repeat (first | refine zai ?_ _ | refine zao ?_ | refine zaj ?_ _)); refine zdl (cs := #[.int .i64 0, .slice none 0 0, .slice none 0 0]) ?_ 1 _ rfl; (with_reducible repeat (first | refine zai ?_ _ | refine zao ?_ | refine zaj ?_ _)); refine zdl (cs := #[.int .i64 0, .slice none 0 0, .slice none 0 0]) ?_ 0 _ rfl; (with_reducible repeat (first | refine zai ?_ _ | refine zao ?_ | refine zaj ?_ _)); exact BK130.out) Try.underlying24 rfl (by kernel_rfl)) rfl ?_
         exact ⟨_, _, by first | rfl | (simp [zcd, zce] <;> rfl) | (simp [*, zcd, zce] <;> rfl), by first | exact Kd.R_nil _ _ _ _ _ | exact Kd.N_nil _ _ _ _ _ | exact Kd.V_nil _ _ _ _ _ | exact Kd.Q_nil _ _ _ _ _ | exact Kd.S_nil _ _ _ _ _, by first | exact Kd.R_nil _ _ _ _ _ | exact Kd.N_nil _ _ _ _ _ | exact Kd.V_nil _ _ _ _ _ | exact Kd.Q_nil _ _ _ _ _ | exact Kd.S_nil _ _ _ _ _, by repeat (first | (with_reducible first | exact HB.out | apply zah | apply zab | apply zaf | refine zag ?_ GE130.out | refine zag ?_ GE156.out) | exact HB.out)⟩
       ·rw [if_neg c11] at H
        exact absurd H (by simp)
      ·rw [if_neg c10] at H
       exact absurd H (by simp)
     ·rw [if_neg c9] at H
      exact absurd H (by simp)
    ·rw [if_neg c8] at H
     exact absurd H (by simp)

theorem impl_LetterOf.calls (k : Nat) (P0_ : Nat → Prop) (A0 : Option Addr) (c0 : Nat) (l0 : List Int) (r1 : Int) (r2 : List Int) (r3 : List Int) (r4 : Bool) (w : World) (hs0 : Kd.V (Kd.int .u8) 5 w w.heap.size (fun k_ => P0_ k_) (.slice A0 l0.length c0) l0) (h : impl_LetterOf.f k l0 = some (r1, r2, r3, r4)) :
  Calls Try.prog 11 #[.slice A0 l0.length c0] w fun e w' => ∃ v1_ v2_ : Value, e = .returned (.tuple #[.agg #[.int .i64 r1, v1_, v2_], .bool r4]) ∧ Kd.R (Kd.int .u8) 5 w' w.heap.size (fun k_ => (w.heap.size ≤ k_) ∧ some k_ ≠ (v2_ : Value).ownBlock) v1_ r2 ∧ Kd.R (Kd.int .u8) 5 w' w.heap.size (fun k_ => (w.heap.size ≤ k_) ∧ some k_ ≠ (v1_ : Value).ownBlock) v2_ r3 ∧ Below w.heap.size w w' := by
 cases r4
 ·exact impl_LetterOf.calls2 k P0_ A0 c0 l0 r1 r2 r3 false w hs0 h ⟨rfl⟩
 ·exact impl_LetterOf.calls1 k P0_ A0 c0 l0 r1 r2 r3 true w hs0 h ⟨rfl⟩
end Go.Proofs.Ytdineaebljpfaaa.P
