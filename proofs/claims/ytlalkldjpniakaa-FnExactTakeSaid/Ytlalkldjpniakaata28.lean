import Derived.Test.Ytlalkldjpniakaata27
namespace Go.Proofs.Ytlalkldjpniakaa.P
open Go.RowKit Go.Proofs.YtlalkldjpniakaaW.PrintWords Go.Proofs.YtlalkldjpniakaaW.PrintLast Go.Proofs.YtlalkldjpniakaaW.PrintMore
attribute [local go_sem] zdi zdj zea zeb zcy zcz zdk zdl   -- for this text's walks alone
set_option linter.unusedVariables false
set_option linter.unusedSimpArgs false

def spec_Of.l0 : Nat → List (S34) → ByteArray → Int → Int → Option (Int)
 | 0, _, _, _, _ => none
 | k + 1, x0, x1, x5, x6 => if x6 < (x0.length : Int) then (if 0 ≤ x6 then ((spec_l1Bit.f (((rd_T34 x0 x6).f0).toList == x1.toList)).bind fun t106 => (spec_Of.l0 k x0 x1 (wrap64 (x5 + t106)) (wrap64 (x6 + 1)))) else (none)) else (some x5)
def spec_Of.f (k : Nat) (l0 : List (S34)) (a1 : ByteArray) : Option (Int) := spec_Of.l0 k l0 a1 0 0
theorem spec_Of.mono_l : ∀ k, (∀ y0 y1 y2 y3, LeO (spec_Of.l0 k y0 y1 y2 y3) (spec_Of.l0 (k + 1) y0 y1 y2 y3))
 | 0 => fun _ _ _ _ r h => by simp [spec_Of.l0] at h
 | k + 1 => by
  have ih0 := spec_Of.mono_l k
  ·intro y0 y1 y2 y3
   unfold spec_Of.l0
   repeat' first
   | (with_reducible exact ih0 _ _ _ _)
   | (with_reducible exact zcl _)
   | (with_reducible exact zda _)
   | (with_reducible refine zdn ?_ ?_)
   | (with_reducible refine zcm ?_ (fun _ => ?_))
   | exact ih0 _ _ _ _
theorem spec_Of.mono : ∀ a0 a1 k, LeO (spec_Of.f k a0 a1) (spec_Of.f (k + 1) a0 a1) := by
 intro a0 a1 k
 have ih0 := spec_Of.mono_l k
 unfold spec_Of.f
 repeat' first
   | (with_reducible exact ih0 _ _ _ _)
   | (with_reducible exact zcl _)
   | (with_reducible exact zda _)
   | (with_reducible refine zdn ?_ ?_)
   | (with_reducible refine zcm ?_ (fun _ => ?_))
   | exact ih0 _ _ _ _
set_option maxHeartbeats 8000000 in
set_option maxRecDepth 100000 in
theorem spec_Of.calls (k : Nat) (A0 : Option Addr) (c0 : Nat) (l0 : List (S34)) (a1 : ByteArray) (r : Int) (w : World) (hr0 : Kd.C k34 w A0 l0.length l0) (hc0 : l0.length ≤ c0) (h : spec_Of.f k l0 a1 = some r) :
  Calls Try.prog 19 #[.slice A0 l0.length c0, .string a1] w fun e w' => e = .returned (.int .i64 r) ∧ Drawn0 w w' := by
 have HR0 := Aside0.mk hr0
 have HC0 := Aside0.mk hc0
 clear hr0 hc0
 have H : (spec_Of.l0 k l0 a1 0 0) = some r := h
 clear h
 have H' := Aside0.mk H
 clear H
 go_enter Try.func19, Try.ntmps19
 go_wp2
 go_loopg [5, 6] k (fun kq v5 v6 w' => ∃ (x5_1 : Int) (x6_1 : Int), v5 = .int .i64 x5_1 ∧ v6 = .int .i64 x6_1 ∧ Aside0 (spec_Of.l0 kq l0 a1 x5_1 x6_1 = some r) ∧ Aside0 (kq ≤ k) ∧ Drawn0 w w')
 case atStart => exact ⟨(0), (0), (by first | rfl | (simp; done) | (simp [*]; done)), (by first | rfl | (simp; done) | (simp [*]; done)), H', ⟨zbk _⟩, by repeat (first | exact Drawn0.refl _ | apply Drawn0.step)⟩
 case round =>
  clear H'
  try clear c1
  try clear p2
  obtain ⟨x5_1, x6_1, rfl, rfl, HA, HK1, ⟨m1, rfl⟩⟩ := hrel
  cases gk with
  | zero => exact absurd HA.out (by simp [spec_Of.l0])
  | succ k1 =>
   have H := HA.out
   clear HA
   simp only [spec_Of.l0] at H
   by_cases c3 : x6_1 < (l0.length : Int)
   ·rw [if_pos c3] at H
    have c3b0 : decide (x6_1 < (l0.length : Int)) = true := zas c3
    clear c3
    by_cases c4 : 0 ≤ x6_1
    ·rw [if_pos c4] at H
     have c4b0 : decide (0 ≤ x6_1) = true := zas c4
     clear c4
     replace H := zak.mp H
     obtain ⟨t106, A50, H⟩ := H
     try dsimp only at H
     have A5 := Aside0.mk A50
     clear A50
     have H' := Aside0.mk H
     clear H
     have p105 : 0 ≤ (x6_1 : Int) := zae (by first | (with_reducible assumption) | assumption)
     have q105 : x6_1 < (l0.length : Int) := zae (by first | (with_reducible assumption) | assumption)
     obtain ⟨ad105, A105_3, c105_3, e105, hx105_0, hx105_1, hx105_2, hx105_3, hl105_3, hi105_3⟩ := at_T34 HR0.out x6_1 p105 q105
     cases e105
     have HR105_3 := Aside0.mk hi105_3
     have HC105_3 := Aside0.mk hl105_3
     clear hi105_3 hl105_3
     replace p105 := zaz p105
     replace q105 := zaz q105
     go_wp2_with (first | ((with_reducible refine zbs (f := 86) rfl ?_); refine goesL_ (some 21) rfl rfl Try.func86 (by kernel_rfl) rfl #[.bool (((rd_T34 l0 x6_1).f0).toList == a1.toList)] rfl (by (try simp only [zax, zbe, zbg]); first | done | rfl) ?_; (with_reducible refine (spec_l1Bit.calls (((rd_T34 l0 x6_1).f0).toList == a1.toList) t106 _ A5.out).mono ?_); rintro e w' ⟨rfl, ⟨nd, rfl⟩⟩; refine ⟨_, rfl, ?_⟩))
     go_roundg k1
     case measure => have := HK1.out; omega
     case rel => exact ⟨(wrap64 (x5_1 + t106)), (wrap64 (x6_1 + 1)), (by first | rfl | (simp; done) | (simp [*]; done)), (by first | rfl | (simp; done) | (simp [*]; done)), H', ⟨by have := HK1.out; omega⟩, by repeat (first | exact Drawn0.refl _ | apply Drawn0.step)⟩
    ·rw [if_neg c4] at H
     exact absurd H (by simp)
   ·rw [if_neg c3] at H
    have c3b0 : decide (x6_1 < (l0.length : Int)) = false := zbh c3
    clear c3
    obtain rfl := Option.some.inj H
    go_wp2
    go_ret
    exact ⟨by first | rfl | (simp; done) | (simp [*]; done), by repeat (first | exact Drawn0.refl _ | apply Drawn0.step)⟩
def impl_Of.l0 : Nat → ByteArray → Int → List (S34) → Int → Int → Option (Int)
 | 0, _, _, _, _, _ => none
 | k + 1, x1, x5, x8, x9, x10 => if x10 < x9 then (if 0 ≤ x10 then (if x10 < (x8.length : Int) then (if ((rd_T34 x8 x10).f0).toList = x1.toList then (impl_Of.l0 k x1 (wrap64 (x5 + 1)) x8 x9 (wrap64 (x10 + 1))) else (impl_Of.l0 k x1 x5 x8 x9 (wrap64 (x10 + 1)))) else (none)) else (none)) else (some x5)
def impl_Of.f (k : Nat) (l0 : List (S34)) (a1 : ByteArray) : Option (Int) := impl_Of.l0 k a1 0 l0 (l0.length : Int) 0
theorem impl_Of.mono_l : ∀ k, (∀ y0 y1 y2 y3 y4, LeO (impl_Of.l0 k y0 y1 y2 y3 y4) (impl_Of.l0 (k + 1) y0 y1 y2 y3 y4))
 | 0 => fun _ _ _ _ _ r h => by simp [impl_Of.l0] at h
 | k + 1 => by
  have ih0 := impl_Of.mono_l k
  ·intro y0 y1 y2 y3 y4
   unfold impl_Of.l0
   repeat' first
   | (with_reducible exact ih0 _ _ _ _ _)
   | (with_reducible exact zcl _)
   | (with_reducible exact zda _)
   | (with_reducible refine zdn ?_ ?_)
   | (with_reducible refine zcm ?_ (fun _ => ?_))
   | exact ih0 _ _ _ _ _
theorem impl_Of.mono : ∀ a0 a1 k, LeO (impl_Of.f k a0 a1) (impl_Of.f (k + 1) a0 a1) := by
 intro a0 a1 k
 have ih0 := impl_Of.mono_l k
 unfold impl_Of.f
 repeat' first
   | (with_reducible exact ih0 _ _ _ _ _)
   | (with_reducible exact zcl _)
   | (with_reducible exact zda _)
   | (with_reducible refine zdn ?_ ?_)
   | (with_reducible refine zcm ?_ (fun _ => ?_))
   | exact ih0 _ _ _ _ _
set_option maxHeartbeats 8000000 in
set_option maxRecDepth 100000 in
theorem impl_Of.calls (k : Nat) (A0 : Option Addr) (c0 : Nat) (l0 : List (S34)) (a1 : ByteArray) (r : Int) (w : World) (hr0 : Kd.C k34 w A0 l0.length l0) (hc0 : l0.length ≤ c0) (h : impl_Of.f k l0 a1 = some r) :
  Calls Try.prog 21 #[.slice A0 l0.length c0, .string a1] w fun e w' => e = .returned (.int .i64 r) ∧ Below w.heap.size w w' := by
 have hu34 := Try.underlying34
 have HR0 := Aside0.mk hr0
 have HC0 := Aside0.mk hc0
 clear hr0 hc0
 have HB := Aside0.mk (zbt w.heap.size w)
 have H : (impl_Of.l0 k a1 0 l0 (l0.length : Int) 0) = some r := h
 clear h
 have H' := Aside0.mk H
 clear H
 go_enter Try.func21, Try.ntmps21
 go_wp2
 go_loopg [5, 10] k (fun kq v5 v10 w' => ∃ (x5_1 : Int) (x10_1 : Int), v5 = .int .i64 x5_1 ∧ v10 = .int .i64 x10_1 ∧ Aside0 (impl_Of.l0 kq a1 x5_1 l0 (l0.length : Int) x10_1 = some r) ∧ Aside0 (kq ≤ k) ∧ Aside0 (Below w.heap.size w w'))
 case atStart => exact ⟨(0), (0), (by first | rfl | (simp; done) | (simp [*]; done)), (by first | rfl | (simp; done) | (simp [*]; done)), H', ⟨zbk _⟩, ⟨by repeat (first | (with_reducible first | exact HB.out | apply zad | apply zab | apply zac) | exact HB.out)⟩⟩
 case round =>
  clear H'
  try clear c2
  try clear p2
  obtain ⟨x5_1, x10_1, rfl, rfl, HA, HK1, HB⟩ := hrel
  cases gk with
  | zero => exact absurd HA.out (by simp [impl_Of.l0])
  | succ k1 =>
   have H := HA.out
   clear HA
   simp only [impl_Of.l0] at H
   by_cases c3 : x10_1 < (l0.length : Int)
   ·rw [if_pos c3] at H
    have c3b0 : decide (x10_1 < (l0.length : Int)) = true := zas c3
    clear c3
    by_cases c4 : 0 ≤ x10_1
    ·rw [if_pos c4] at H
     have c4b0 : decide (0 ≤ x10_1) = true := zas c4
     clear c4
     by_cases c5 : x10_1 < (l0.length : Int)
     ·rw [if_pos c5] at H
      have c5b0 : decide (x10_1 < (l0.length : Int)) = true := zas c5
      clear c5
      by_cases c6 : ((rd_T34 l0 x10_1).f0).toList = a1.toList
      ·rw [if_pos c6] at H
       have c6b0 : (((rd_T34 l0 x10_1).f0).toList == a1.toList) = true := zeq.mpr c6
       have c6b1 : (((rd_T34 l0 x10_1).f0).toList != a1.toList) = false := zcp.mpr c6
       clear c6
       have H' := Aside0.mk H
       clear H
       have p129 : 0 ≤ (x10_1 : Int) := zae (by first | (with_reducible assumption) | assumption)
       have q129 : x10_1 < (l0.length : Int) := zae (by first | (with_reducible assumption) | assumption)
       obtain ⟨ad129, A129_3, c129_3, e129, hx129_0, hx129_1, hx129_2, hx129_3, hl129_3, hi129_3⟩ := at_T34 HR0.out x10_1 p129 q129
       cases e129
       replace hx129_0 := (HB.out.cell (World.block_lt_of_cell? w _ hx129_0)).trans hx129_0
       replace hx129_1 := (HB.out.cell (World.block_lt_of_cell? w _ hx129_1)).trans hx129_1
       replace hx129_2 := (HB.out.cell (World.block_lt_of_cell? w _ hx129_2)).trans hx129_2
       replace hx129_3 := (HB.out.cell (World.block_lt_of_cell? w _ hx129_3)).trans hx129_3
       have HR129_3 := Aside0.mk hi129_3
       have HC129_3 := Aside0.mk hl129_3
       clear hi129_3 hl129_3
       replace p129 := zaz p129
       replace q129 := zaz q129
       go_wp2_with (first | ((with_reducible refine zbz (N := 7) rfl ?_); refine zcn ?hg (N := 7) ?hd (cs := #[.string (⟨#[]⟩ : ByteArray), .int .i64 0, .int .i64 0, .slice none 0 0]) (t := 34) ?hr ?_; (case hd => rfl); (case hg => rfl); (case hr => first | (go_simp; done) | (go_simp; rfl)); intro gb130 hg w7 hbox hb; have xb_ := below_ofs (by repeat (first | (with_reducible first | exact HB.out | apply zad | apply zab | apply zac) | exact HB.out)) hb; have n0_ := Aside0.mk (zai xb_ hb); have n1_ := Aside0.mk (hbox); have n2_ := Aside0.mk ((by rw [hg]; exact (zam xb_) : w.heap.size ≤ gb130)); have n3_ := Aside0.mk ((by rw [hg]; exact (zam xb_) : w.heap.size ≤ gb130)); clear HB; have HB := n0_; have BK130 := n1_; have GW130 := n2_; have GE130 := n3_; clear n0_ n1_ n2_ n3_; clear xb_ hb hbox hg; have hcz8_0 : w7.cell? ⟨gb130, 0, none⟩ = some (.string (⟨#[]⟩ : ByteArray)) := (zaf BK130.out 0).trans rfl; have hcz8_1 : w7.cell? ⟨gb130, 1, none⟩ = some (.int .i64 0) := (zaf BK130.out 1).trans rfl; have hcz8_2 : w7.cell? ⟨gb130, 2, none⟩ = some (.int .i64 0) := (zaf BK130.out 2).trans rfl; have hcz8_3 : w7.cell? ⟨gb130, 3, none⟩ = some (.slice none 0 0) := (zaf BK130.out 3).trans rfl; have hfz8_0 := zah BK130.out 0; have hfz8_1 := zah BK130.out 1; have hfz8_2 := zah BK130.out 2; have hfz8_3 := zah BK130.out 3))
       go_roundg k1
       case measure => have := HK1.out; omega
       case rel => exact ⟨(wrap64 (x5_1 + 1)), (wrap64 (x10_1 + 1)), (by first | rfl | (simp; done) | (simp [*]; done)), (by first | rfl | (simp; done) | (simp [*]; done)), H', ⟨by have := HK1.out; omega⟩, ⟨by repeat (first | (with_reducible first | exact HB.out | apply zad | apply zab | apply zac | refine zal ?_ GE130.out) | exact HB.out)⟩⟩
      ·rw [if_neg c6] at H
       have c6b0 : (((rd_T34 l0 x10_1).f0).toList == a1.toList) = false := zcq.mpr c6
       have c6b1 : (((rd_T34 l0 x10_1).f0).toList != a1.toList) = true := zer.mpr c6
       have H' := Aside0.mk H
       clear H
       have p129 : 0 ≤ (x10_1 : Int) := zae (by first | (with_reducible assumption) | assumption)
       have q129 : x10_1 < (l0.length : Int) := zae (by first | (with_reducible assumption) | assumption)
       obtain ⟨ad129, A129_3, c129_3, e129, hx129_0, hx129_1, hx129_2, hx129_3, hl129_3, hi129_3⟩ := at_T34 HR0.out x10_1 p129 q129
       cases e129
       replace hx129_0 := (HB.out.cell (World.block_lt_of_cell? w _ hx129_0)).trans hx129_0
       replace hx129_1 := (HB.out.cell (World.block_lt_of_cell? w _ hx129_1)).trans hx129_1
       replace hx129_2 := (HB.out.cell (World.block_lt_of_cell? w _ hx129_2)).trans hx129_2
       replace hx129_3 := (HB.out.cell (World.block_lt_of_cell? w _ hx129_3)).trans hx129_3
       have HR129_3 := Aside0.mk hi129_3
       have HC129_3 := Aside0.mk hl129_3
       clear hi129_3 hl129_3
       replace p129 := zaz p129
       replace q129 := zaz q129
       go_wp2_with (first | ((with_reducible refine zbz (N := 7) rfl ?_); refine zcn ?hg (N := 7) ?hd (cs := #[.string (⟨#[]⟩ : ByteArray), .int .i64 0, .int .i64 0, .slice none 0 0]) (t := 34) ?hr ?_; (case hd => rfl); (case hg => rfl); (case hr => first | (go_simp; done) | (go_simp; rfl)); intro gb130 hg w9 hbox hb; have xb_ := below_ofs (by repeat (first | (with_reducible first | exact HB.out | apply zad | apply zab | apply zac) | exact HB.out)) hb; have n0_ := Aside0.mk (zai xb_ hb); have n1_ := Aside0.mk (hbox); have n2_ := Aside0.mk ((by rw [hg]; exact (zam xb_) : w.heap.size ≤ gb130)); have n3_ := Aside0.mk ((by rw [hg]; exact (zam xb_) : w.heap.size ≤ gb130)); clear HB; have HB := n0_; have BK130 := n1_; have GW130 := n2_; have GE130 := n3_; clear n0_ n1_ n2_ n3_; clear xb_ hb hbox hg; have hcz10_0 : w9.cell? ⟨gb130, 0, none⟩ = some (.string (⟨#[]⟩ : ByteArray)) := (zaf BK130.out 0).trans rfl; have hcz10_1 : w9.cell? ⟨gb130, 1, none⟩ = some (.int .i64 0) := (zaf BK130.out 1).trans rfl; have hcz10_2 : w9.cell? ⟨gb130, 2, none⟩ = some (.int .i64 0) := (zaf BK130.out 2).trans rfl; have hcz10_3 : w9.cell? ⟨gb130, 3, none⟩ = some (.slice none 0 0) := (zaf BK130.out 3).trans rfl; have hfz10_0 := zah BK130.out 0; have hfz10_1 := zah BK130.out 1; have hfz10_2 := zah BK130.out 2; have hfz10_3 := zah BK130.out 3))
       go_roundg k1
       case measure => have := HK1.out; omega
       case rel => exact ⟨(x5_1), (wrap64 (x10_1 + 1)), (by first | rfl | (simp; done) | (simp [*]; done)), (by first | rfl | (simp; done) | (simp [*]; done)), H', ⟨by have := HK1.out; omega⟩, ⟨by repeat (first | (with_reducible first | exact HB.out | apply zad | apply zab | apply zac | refine zal ?_ GE130.out) | exact HB.out)⟩⟩
     ·rw [if_neg c5] at H
      exact absurd H (by simp)
    ·rw [if_neg c4] at H
     exact absurd H (by simp)
   ·rw [if_neg c3] at H
    have c3b0 : decide (x10_1 < (l0.length : Int)) = false := zbh c3
    clear c3
    obtain rfl := Option.some.inj H
    go_wp2
    go_ret
    exact ⟨by first | rfl | (simp [zbb, zbc] <;> rfl) | (simp [*, zbb, zbc] <;> rfl), by repeat (first | (with_reducible first | exact HB.out | apply zad | apply zab | apply zac) | exact HB.out)⟩
end Go.Proofs.Ytlalkldjpniakaa.P
/- Of, by the program and by the reference: how many items have a route; for lists of at most 2^40 items. -/
namespace Go.Proofs.Ytlalkldjpniakaa.B
open Go.RowKit Go.Proofs.Ytlalkldjpniakaa.P Go.Proofs.YtlalkldjpniakaaW.PrintWords Go.Proofs.YtlalkldjpniakaaW.PrintLast Go.Proofs.YtlalkldjpniakaaW.PrintMore
def ofL (a : ByteArray) : List S34 → Int
  | [] => 0
  | x :: l => (if x.f0.toList = a.toList then 1 else 0) + ofL a l
theorem ofL_bounds (a : ByteArray) : ∀ l : List S34, 0 ≤ ofL a l ∧ ofL a l ≤ l.length
  | [] => by simp [ofL]
  | x :: l => by
    have := ofL_bounds a l
    simp only [ofL, List.length_cons]
    split <;> omega
theorem specOf_l0 (a : ByteArray) : ∀ (rest pre : List S34) (n : Int) (k : Nat), 0 ≤ n → n + rest.length ≤ 1099511627776 → pre.length + rest.length ≤ 1099511627776 → rest.length < k →
    spec_Of.l0 k (pre ++ rest) a n (pre.length : Int) = some (n + ofL a rest)
  | [], pre, n, k, h0, hn, hb, hk => by
    obtain ⟨k, rfl⟩ : ∃ m, k = m + 1 := ⟨k - 1, by omega⟩
    simp only [spec_Of.l0]; rw [if_neg (nlt_end pre)]; simp [ofL]
  | x :: rest, pre, n, k, h0, hn, hb, hk => by
    obtain ⟨k, rfl⟩ : ∃ m, k = m + 1 := ⟨k - 1, by simp at hk; omega⟩
    simp only [List.length_cons] at hb hk hn
    simp only [spec_Of.l0]
    rw [if_pos (lt_mid pre x rest), if_pos (pre_nonneg pre), rdT34_mid, wrap_step pre x (by omega), snoc_app pre x rest]
    unfold spec_l1Bit.f
    by_cases e : x.f0.toList = a.toList
    · have ih := specOf_l0 a rest (pre ++ [x]) (n + 1) k (by omega) (by omega) (by simp; omega) (by omega)
      rw [if_pos (by simpa using e), Option.bind_some, wrap_eq _ (by omega) (by omega), ih]
      simp only [ofL]; rw [if_pos e]; congr 1; omega
    · have ih := specOf_l0 a rest (pre ++ [x]) n k (by omega) (by omega) (by simp; omega) (by omega)
      rw [if_neg (by simpa using e), Option.bind_some, wrap_eq _ (by omega) (by omega), Int.add_zero, ih]
      simp only [ofL]; rw [if_neg e]; congr 1; omega
theorem specOf (l : List S34) (a : ByteArray) (hl : l.length ≤ 1099511627776) (k : Nat) (hk : l.length < k) : spec_Of.f k l a = some (ofL a l) := by
  have h := specOf_l0 a l [] 0 k (by omega) (by omega) (by simp; omega) hk
  simpa [spec_Of.f] using h
theorem implOf_l0 (a : ByteArray) : ∀ (rest pre : List S34) (n m : Int) (k : Nat), m = (((pre ++ rest).length : Nat) : Int) → 0 ≤ n → n + rest.length ≤ 1099511627776 → pre.length + rest.length ≤ 1099511627776 → rest.length < k →
    impl_Of.l0 k a n (pre ++ rest) m (pre.length : Int) = some (n + ofL a rest)
  | [], pre, n, m, k, hm, h0, hn, hb, hk => by
    obtain ⟨k, rfl⟩ : ∃ m, k = m + 1 := ⟨k - 1, by omega⟩
    simp only [impl_Of.l0]; rw [hm, if_neg (nlt_end pre)]; simp [ofL]
  | x :: rest, pre, n, m, k, hm, h0, hn, hb, hk => by
    obtain ⟨k, rfl⟩ : ∃ m, k = m + 1 := ⟨k - 1, by simp at hk; omega⟩
    simp only [List.length_cons] at hb hk hn
    simp only [impl_Of.l0]
    rw [if_pos (by rw [hm]; exact lt_mid pre x rest), if_pos (pre_nonneg pre), if_pos (lt_mid pre x rest), rdT34_mid, wrap_step pre x (by omega), snoc_app pre x rest]
    by_cases e : x.f0.toList = a.toList
    · have ih := implOf_l0 a rest (pre ++ [x]) (n + 1) m k (by rw [hm]; simp) (by omega) (by omega) (by simp; omega) (by omega)
      rw [if_pos e, wrap_eq _ (by omega) (by omega), ih]
      simp only [ofL]; rw [if_pos e]; congr 1; omega
    · have ih := implOf_l0 a rest (pre ++ [x]) n m k (by rw [hm]; simp) (by omega) (by omega) (by simp; omega) (by omega)
      rw [if_neg e, ih]
      simp only [ofL]; rw [if_neg e]; congr 1; omega
theorem implOf (l : List S34) (a : ByteArray) (hl : l.length ≤ 1099511627776) (k : Nat) (hk : l.length < k) : impl_Of.f k l a = some (ofL a l) := by
  have h := implOf_l0 a l [] 0 _ k rfl (by omega) (by omega) (by simp; omega) hk
  simpa [impl_Of.f] using h
end Go.Proofs.Ytlalkldjpniakaa.B
