import Derived.Test.Ytlalkldjpniakaadu35
import Derived.Test.Ytlalkldjpniakaadu36
import Derived.Test.Ytlalkldjpniakaadu17
/- QueueOk, by the program and by the reference: one answer; for lists of at most 2^40 items whose routes are no longer than 2^40. -/
namespace Go.Proofs.Ytlalkldjpniakaa.B
open Go.RowKit Go.Proofs.Ytlalkldjpniakaa.P Go.Proofs.YtlalkldjpniakaaW.PrintWords Go.Proofs.YtlalkldjpniakaaW.PrintLast Go.Proofs.YtlalkldjpniakaaW.PrintMore
/-- Whether an item is in order. -/
noncomputable def okB (x : S34) : Bool := if h : x.f0.size ≤ 1099511627776 then (itemOk x.f0 x.f1 x.f2 x.f3 h).choose else false
theorem okB_spec (x : S34) (h : x.f0.size ≤ 1099511627776) (k : Nat) (hk : x.f0.size + 3 < k) : spec_ItemOk.f k x.f0 x.f1 x.f2 x.f3 = some (okB x) := by
  unfold okB
  rw [dif_pos h]
  exact ((itemOk x.f0 x.f1 x.f2 x.f3 h).choose_spec k hk).1
theorem okB_impl (x : S34) (h : x.f0.size ≤ 1099511627776) (k : Nat) (hk : x.f0.size + 3 < k) : impl_ItemOk.f k x.f0 x.f1 x.f2 x.f3 = some (okB x) := by
  unfold okB
  rw [dif_pos h]
  exact ((itemOk x.f0 x.f1 x.f2 x.f3 h).choose_spec k hk).2
/-- Whether the items that follow may follow. -/
noncomputable def queueL (L : List S34) : List S34 → List S34 → Bool
  | [], _ => true
  | x :: rest, pre => okB x && (!decide (ofL x.f0 L > 4) && (!(decide (x.f1 > 0) && pre.any (likeI x.f0 x.f1)) && queueL L rest (pre ++ [x])))
theorem specQueueOk_l1 (x : S34) (rest : List S34) (r : Bool) : ∀ (p2 p1 : List S34), (p1 ++ p2).length ≤ 1099511627776 → Ev (fun k => spec_QueueOk.l0 k (p1 ++ p2 ++ x :: rest) (wrap64 (((p1 ++ p2).length : Nat) + 1))) r →
    Ev (fun k => spec_QueueOk.l1 k (p1 ++ p2 ++ x :: rest) ((p1 ++ p2).length : Nat) (p1.length : Nat)) (!(decide (x.f1 > 0) && p2.any (likeI x.f0 x.f1)) && r)
  | [], p1, hb, h => by
    refine evUp ?_
    simp only [spec_QueueOk.l1]
    refine evNeg (by simp) ?_
    simpa using h
  | y :: p2, p1, hb, h => by
    refine evUp ?_
    simp only [spec_QueueOk.l1]
    have hlen : (p1 ++ y :: p2).length = p1.length + (p2.length + 1) := by simp
    have hlen2 : (p1 ++ y :: p2 ++ x :: rest).length = p1.length + (p2.length + 1) + (rest.length + 1) := by simp; omega
    refine evPos (by omega) (evPos (by omega) (evPos (by omega) (evPos (by omega) (evPos (by omega) ?_))))
    have e1 : rd_T34 (p1 ++ y :: p2 ++ x :: rest) ((p1.length : Nat) : Int) = y := by
      rw [List.append_assoc]; exact rdT34_mid p1 y (p2 ++ x :: rest)
    have e2 : rd_T34 (p1 ++ y :: p2 ++ x :: rest) (((p1 ++ y :: p2).length : Nat) : Int) = x := rdT34_mid (p1 ++ y :: p2) x rest
    simp only [e1, e2]
    have ih := specQueueOk_l1 x rest r p2 (p1 ++ [y]) (by simpa using hb) (by simpa using h)
    have es : wrap64 ((p1.length : Int) + 1) = (((p1 ++ [y]).length : Nat) : Int) := wrap_step p1 y (by omega)
    rw [show p1 ++ [y] ++ p2 = p1 ++ y :: p2 by simp] at ih
    simp only [es]
    by_cases c1 : y.f0.toList = x.f0.toList
    · refine evPos c1 ?_
      by_cases c2 : y.f1 = x.f1
      · refine evPos c2 ?_
        by_cases c3 : x.f1 > 0
        · refine evPos c3 ?_
          have : (!(decide (x.f1 > 0) && (y :: p2).any (likeI x.f0 x.f1)) && r) = false := by simp [likeI, c1, c2, c3]
          rw [this]; exact evConst _
        · refine evNeg c3 ?_
          have : (!(decide (x.f1 > 0) && (y :: p2).any (likeI x.f0 x.f1)) && r) = (!(decide (x.f1 > 0) && p2.any (likeI x.f0 x.f1)) && r) := by simp [c3]
          rw [this]; exact ih
      · refine evNeg c2 ?_
        have : (!(decide (x.f1 > 0) && (y :: p2).any (likeI x.f0 x.f1)) && r) = (!(decide (x.f1 > 0) && p2.any (likeI x.f0 x.f1)) && r) := by
          have hlk : likeI x.f0 x.f1 y = false := by unfold likeI; rw [beq_eq_false_iff_ne.2 c2, Bool.and_false]
          simp only [List.any_cons, hlk, Bool.false_or]
        rw [this]; exact ih
    · refine evNeg c1 ?_
      have : (!(decide (x.f1 > 0) && (y :: p2).any (likeI x.f0 x.f1)) && r) = (!(decide (x.f1 > 0) && p2.any (likeI x.f0 x.f1)) && r) := by
        have hlk : likeI x.f0 x.f1 y = false := by unfold likeI; rw [beq_eq_false_iff_ne.2 c1, Bool.false_and]
        simp only [List.any_cons, hlk, Bool.false_or]
      rw [this]; exact ih
theorem specQueueOk_l0 (L : List S34) (hL : L.length ≤ 1099511627776) (hx : ∀ y ∈ L, y.f0.size ≤ 1099511627776) : ∀ (rest pre : List S34), L = pre ++ rest → Ev (fun k => spec_QueueOk.l0 k L (pre.length : Nat)) (queueL L rest pre && decide ((L.length : Int) ≤ 10))
  | [], pre, e => by
    refine evUp ?_
    simp only [spec_QueueOk.l0]
    refine evNeg (by rw [e]; simp) ?_
    simp only [queueL, Bool.true_and]
    exact evConst _
  | x :: rest, pre, e => by
    have ih := specQueueOk_l0 L hL hx rest (pre ++ [x]) (by rw [e]; simp)
    have hxx := hx x (by rw [e]; simp)
    have hl : L.length = pre.length + (rest.length + 1) := by rw [e]; simp
    have e2 : rd_T34 L ((pre.length : Nat) : Int) = x := by rw [e]; exact rdT34_mid pre x rest
    have es : wrap64 ((pre.length : Int) + 1) = (((pre ++ [x]).length : Nat) : Int) := wrap_step pre x (by omega)
    refine evUp ?_
    simp only [spec_QueueOk.l0]
    refine evPos (by omega) (evPos (by omega) ?_)
    simp only [e2]
    refine evBind (a := okB x) (evOf _ fun k hk => okB_spec x hxx k hk) ?_
    have hj : ∀ b : Bool, Ev (fun k => spec_QueueOk.j1 k L (pre.length : Nat) b) (!b && (!(decide (x.f1 > 0) && pre.any (likeI x.f0 x.f1)) && (queueL L rest (pre ++ [x]) && decide ((L.length : Int) ≤ 10)))) := by
      intro b
      refine evUp ?_
      simp only [spec_QueueOk.j1]
      cases b with
      | true => exact evPos rfl (evConst _)
      | false =>
        refine evNeg (by simp) ?_
        have h1 := specQueueOk_l1 x rest (queueL L rest (pre ++ [x]) && decide ((L.length : Int) ≤ 10)) pre [] (by simpa using (by omega : pre.length ≤ 1099511627776)) (by simpa [← e, es] using ih)
        simpa [← e] using h1
    cases hb : okB x with
    | false =>
      refine evNeg (by simp) ?_
      have h2 := hj true
      simpa [queueL, hb] using h2
    | true =>
      refine evPos rfl (evBind (a := ofL x.f0 L) (evOf _ fun k hk => specOf L x.f0 hL k hk) ?_)
      have h2 := hj (decide (ofL x.f0 L > 4))
      simpa [queueL, hb, Bool.and_assoc] using h2
theorem implQueueOk_l0 (L : List S34) (hL : L.length ≤ 1099511627776) (hx : ∀ y ∈ L, y.f0.size ≤ 1099511627776) : ∀ (rest pre : List S34), L = pre ++ rest → Ev (fun k => impl_QueueOk.l0 k L pre.length) (queueL L rest pre)
  | [], pre, e => by
    refine evUp ?_
    simp only [impl_QueueOk.l0]
    refine evNeg (by rw [e]; simp) ?_
    simp only [queueL]
    exact evConst _
  | x :: rest, pre, e => by
    have ih := implQueueOk_l0 L hL hx rest (pre ++ [x]) (by rw [e]; simp)
    have hxx := hx x (by rw [e]; simp)
    have hl : L.length = pre.length + (rest.length + 1) := by rw [e]; simp
    have e2 : rd_T34 L ((pre.length : Nat) : Int) = x := by rw [e]; exact rdT34_mid pre x rest
    have e3 : L.take pre.length = pre := by rw [e]; simp
    have e4 : (pre ++ [x]).length = pre.length + 1 := by simp
    rw [e4] at ih
    refine evUp ?_
    simp only [impl_QueueOk.l0]
    refine evPos (by omega) ?_
    simp only [e2, e3]
    refine evBind (a := okB x) (evOf _ fun k hk => okB_impl x hxx k hk) ?_
    cases hb : okB x with
    | false =>
      refine evNeg (by simp) ?_
      simp only [queueL, hb, Bool.false_and]
      exact evConst _
    | true =>
      refine evPos rfl (evBind (a := ofL x.f0 L) (evOf _ fun k hk => implOf L x.f0 hL k hk) ?_)
      by_cases c : ofL x.f0 L > 4
      · refine evPos c ?_
        simp only [queueL, c, decide_true, Bool.not_true, Bool.false_and, Bool.and_false]
        exact evConst _
      · refine evNeg c ?_
        by_cases c1 : x.f1 > 0
        · refine evPos c1 ?_
          by_cases c2 : pre.any (likeI x.f0 x.f1) = true
          · refine evPos c2 ?_
            have : queueL L (x :: rest) pre = false := by simp only [queueL, c1, c2]; simp
            rw [this]; exact evConst _
          · refine evNeg c2 ?_
            have : queueL L (x :: rest) pre = queueL L rest (pre ++ [x]) := by simp only [queueL, hb, c, c1]; simp [c2]
            rw [this]; exact ih
        · refine evNeg c1 ?_
          have : queueL L (x :: rest) pre = queueL L rest (pre ++ [x]) := by simp only [queueL, hb, c, c1]; simp
          rw [this]; exact ih
noncomputable def queueOkL (L : List S34) : Bool := queueL L L [] && decide ((L.length : Int) ≤ 10)
theorem specQueueOk (L : List S34) (hL : L.length ≤ 1099511627776) (hx : ∀ y ∈ L, y.f0.size ≤ 1099511627776) : Ev (fun k => spec_QueueOk.f k L) (queueOkL L) := specQueueOk_l0 L hL hx L [] rfl
theorem implQueueOk (L : List S34) (hL : L.length ≤ 1099511627776) (hx : ∀ y ∈ L, y.f0.size ≤ 1099511627776) : Ev (fun k => impl_QueueOk.f k L) (queueOkL L) := by
  unfold impl_QueueOk.f queueOkL
  by_cases c : (L.length : Int) > 10
  · refine evPos c ?_
    have : ¬ (L.length : Int) ≤ 10 := by omega
    simp only [this, decide_false, Bool.and_false]
    exact evConst _
  · refine evNeg c ?_
    have : (L.length : Int) ≤ 10 := by omega
    simp only [this, decide_true, Bool.and_true]
    exact implQueueOk_l0 L hL hx L [] rfl
end Go.Proofs.Ytlalkldjpniakaa.B
namespace Go.Proofs.Ytlalkldjpniakaa.P
open Go.RowKit Go.Proofs.YtlalkldjpniakaaW.PrintWords Go.Proofs.YtlalkldjpniakaaW.PrintLast Go.Proofs.YtlalkldjpniakaaW.PrintMore
attribute [local go_sem] zdd zde zdv zdw zcs zct zdf zdg   -- for this text's walks alone
set_option linter.unusedVariables false
set_option linter.unusedSimpArgs false

def spec_l13Queue.l0 : Nat → List (S34) → List (S34) → Int → Option ((List (S34)))
 | 0, _, _, _ => none
 | k + 1, x0, x3, x4 => if x4 < (x0.length : Int) then (if 0 ≤ x4 then ((spec_l13Item.f ((rd_T34 x0 x4).f0) ((rd_T34 x0 x4).f1) ((rd_T34 x0 x4).f2) ((rd_T34 x0 x4).f3)).bind fun bt402 => (if x3.length < 2513169434916 then (spec_l13Queue.l0 k x0 (x3 ++ [(⟨bt402.1, bt402.2.1, bt402.2.2.1, bt402.2.2.2⟩ : S34)]) (wrap64 (x4 + 1))) else (none))) else (none)) else (some x3)
def spec_l13Queue.f (k : Nat) (l0 : List (S34)) : Option ((List (S34))) := spec_l13Queue.l0 k l0 (([] : List (S34))) 0
theorem spec_l13Queue.mono_l : ∀ k, (∀ y0 y1 y2, LeO (spec_l13Queue.l0 k y0 y1 y2) (spec_l13Queue.l0 (k + 1) y0 y1 y2))
 | 0 => fun _ _ _ r h => by simp [spec_l13Queue.l0] at h
 | k + 1 => by
  have ih0 := spec_l13Queue.mono_l k
  ·intro y0 y1 y2
   unfold spec_l13Queue.l0
   repeat' first
   | (with_reducible exact ih0 _ _ _)
   | (with_reducible exact zcl _)
   | (with_reducible exact zcw _)
   | (with_reducible refine zdb ?_ ?_)
   | (with_reducible refine zcm ?_ (fun _ => ?_))
   | exact ih0 _ _ _
theorem spec_l13Queue.mono : ∀ a0 k, LeO (spec_l13Queue.f k a0) (spec_l13Queue.f (k + 1) a0) := by
 intro a0 k
 have ih0 := spec_l13Queue.mono_l k
 unfold spec_l13Queue.f
 repeat' first
   | (with_reducible exact ih0 _ _ _)
   | (with_reducible exact zcl _)
   | (with_reducible exact zcw _)
   | (with_reducible refine zdb ?_ ?_)
   | (with_reducible refine zcm ?_ (fun _ => ?_))
   | exact ih0 _ _ _
set_option maxHeartbeats 8000000 in
set_option maxRecDepth 100000 in
theorem spec_l13Queue.calls (k : Nat) (A0 : Option Addr) (c0 : Nat) (l0 : List (S34)) (r : List (S34)) (w : World) (hr0 : Kd.C k34 w A0 l0.length l0) (hc0 : l0.length ≤ c0) (h : spec_l13Queue.f k l0 = some r) :
  Calls Try.prog 101 #[.slice A0 l0.length c0] w fun e w' => ∃ v0_ : Value, e = .returned (v0_) ∧ Kd.S k34 34 w' w.heap.size (fun _ => True) v0_ r ∧ Below w.heap.size w w' := by
 have hu34 := Try.underlying34
 have HR0 := Aside0.mk hr0
 have HC0 := Aside0.mk hc0
 clear hr0 hc0
 have HB := Aside0.mk (zbq w.heap.size w)
 have H : (spec_l13Queue.l0 k l0 (([] : List (S34))) 0) = some r := h
 clear h
 obtain ⟨y398, hy398⟩ : ∃ y_ : List (S34), y_ = (([] : List (S34))) := ⟨_, rfl⟩
 replace H : (spec_l13Queue.l0 k l0 y398 0) = some r := by first | (rw [hy398]; with_reducible first | exact H | exact bind_ofs H) | (with_reducible first | exact H | exact bind_ofs H) | (rw [hy398]; exact H) | exact H
 have Ny398 := Aside0.mk hy398
 clear hy398
 have H' := Aside0.mk H
 clear H
 go_enter Try.func101, Try.ntmps101
 go_wp2_with (first | ((with_reducible refine zca (N := 5) rfl ?_); refine Kd.S_lit k34 _ 34 ?hg (N := 5) ?hd (xs := ([] : List (S34))) (inner := []) (ok := fun _ => True) (okp := fun _ => True) ?hr ?hp (fun _ hk => hk) trivial (zbq _ _) (zbh _) (by simp) ?_; (case hd => rfl); (case hg => rfl); (case hr => first | (go_simp; done) | (go_simp; rfl)); (case hp => exact (zed _ _)); intro v399 w2 ho3 hb hg_ hnew_; have xb_ := below_ofs (by repeat (first | (with_reducible first | exact HB.out | apply zae | apply zab | apply zac) | exact HB.out)) hb; clear hg_ hnew_; (first | rw [← Ny398.out] at ho3 | (simp only [Int.reduceToNat] at ho3; rw [← Ny398.out] at ho3)); have n0_ := Aside0.mk (zec ho3 (zal xb_)); have n1_ := Aside0.mk (zai xb_ hb); clear HB; have HO400 := n0_; have HB := n1_; clear n0_ n1_; clear xb_ hb ho3))
 go_loopg [3, 4] k (fun kq v3 v4 w' => ∃ (x3_1 : List (S34)) (x4_1 : Int), v4 = .int .i64 x4_1 ∧ Aside0 (spec_l13Queue.l0 kq l0 x3_1 x4_1 = some r) ∧ Aside0 (kq ≤ k) ∧ Aside0 (Kd.S k34 34 w' w.heap.size (fun _ => True) v3 x3_1) ∧ Aside0 (Below w.heap.size w w'))
 case atStart => exact ⟨(y398), (0), (by first | rfl | (simp; done) | (simp [*]; done)), H', ⟨zbh _⟩, ⟨by (with_reducible repeat (first | apply zbi | apply zbj | apply zbp)); exact HO400.out⟩, ⟨by repeat (first | (with_reducible first | exact HB.out | apply zae | apply zab | apply zac) | exact HB.out)⟩⟩
 case round =>
  clear H'
  try clear c1
  try clear p2
  obtain ⟨x3_1, x4_1, rfl, HA, HK1, HO_3, HB⟩ := hrel
  cases gk with
  | zero => exact absurd HA.out (by simp [spec_l13Queue.l0])
  | succ k1 =>
   have H := HA.out
   clear HA
   simp only [spec_l13Queue.l0] at H
   by_cases c4 : x4_1 < (l0.length : Int)
   ·rw [if_pos c4] at H
    have c4b0 : decide (x4_1 < (l0.length : Int)) = true := zas c4
    clear c4
    by_cases c5 : 0 ≤ x4_1
    ·rw [if_pos c5] at H
     have c5b0 : decide (0 ≤ x4_1) = true := zas c5
     clear c5
     replace H := zak.mp H
     obtain ⟨⟨t402, t403, t404, t405⟩, A60, H⟩ := H
     try dsimp only at H
     have A6 := Aside0.mk A60
     clear A60
     by_cases c7 : x3_1.length < 2513169434916
     ·rw [if_pos c7] at H
      have LMc7 := Aside0.mk c7
      clear c7
      obtain ⟨y408, hy408⟩ : ∃ y_ : List (S34), y_ = (x3_1 ++ [(⟨t402, t403, t404, t405⟩ : S34)]) := ⟨_, rfl⟩
      replace H : (spec_l13Queue.l0 k1 l0 y408 (wrap64 (x4_1 + 1))) = some r := by first | (rw [hy408]; with_reducible first | exact H | exact bind_ofs H) | (with_reducible first | exact H | exact bind_ofs H) | (rw [hy408]; exact H) | exact H
      have Ny408 := Aside0.mk hy408
      clear hy408
      have H' := Aside0.mk H
      clear H
      have p401 : 0 ≤ (x4_1 : Int) := zad (by first | (with_reducible assumption) | assumption)
      have q401 : x4_1 < (l0.length : Int) := zad (by first | (with_reducible assumption) | assumption)
      obtain ⟨ad401, A401_3, c401_3, e401, hx401_0, hx401_1, hx401_2, hx401_3, hl401_3, hi401_3⟩ := at_T34 HR0.out x4_1 p401 q401
      cases e401
      replace hx401_0 := (HB.out.cell (World.block_lt_of_cell? w _ hx401_0)).trans hx401_0
      replace hx401_1 := (HB.out.cell (World.block_lt_of_cell? w _ hx401_1)).trans hx401_1
      replace hx401_2 := (HB.out.cell (World.block_lt_of_cell? w _ hx401_2)).trans hx401_2
      replace hx401_3 := (HB.out.cell (World.block_lt_of_cell? w _ hx401_3)).trans hx401_3
      have HR401_3 := Aside0.mk hi401_3
      have HC401_3 := Aside0.mk hl401_3
      clear hi401_3 hl401_3
      replace p401 := zau p401
      replace q401 := zau q401
      go_wp2_with (first | ((with_reducible refine zbt (f := 94) rfl ?_); refine goesL_ (some 17) rfl rfl Try.func94 (by kernel_rfl) rfl #[.agg #[.string ((rd_T34 l0 x4_1).f0), .int .i64 ((rd_T34 l0 x4_1).f1), .int .i64 ((rd_T34 l0 x4_1).f2), .slice A401_3 ((rd_T34 l0 x4_1).f3).length c401_3]] rfl (by (try simp only [zaz, zbd, zbg]); first | done | rfl) ?_; (with_reducible refine (spec_l13Item.calls ((rd_T34 l0 x4_1).f0) ((rd_T34 l0 x4_1).f1) ((rd_T34 l0 x4_1).f2) _ _ ((rd_T34 l0 x4_1).f3) t402 t403 t404 t405 _ ?side1 ?side2 A6.out).mono ?_); (case side1 => repeat (first | exact (zbe HR401_3.out HB.out) | (with_reducible first | apply zbl | apply zbr | apply zbw))); (case side2 => exact HC401_3.out); rintro e w8 ⟨v406, rfl, ho0, hb⟩; refine ⟨_, rfl, ?_⟩; have xb_ := below_ofs (by repeat (first | (with_reducible first | exact HB.out | apply zae | apply zab | apply zac) | exact HB.out)) hb; have n0_ := Aside0.mk (zdx (by (with_reducible repeat (first | apply zbi | apply zbj | apply zbp)); exact HO_3.out) (zdl ho0) hb); have n1_ := Aside0.mk (zbv ho0 (zal xb_)); have n2_ := Aside0.mk (zai xb_ hb); clear HO_3 HB; have HO_3 := n0_; have HO407 := n1_; have HB := n2_; clear n0_ n1_ n2_; clear xb_ hb ho0; obtain ⟨Ao10, co10, eo10⟩ := zck HO407.out; subst eo10) | ((with_reducible refine zcp (b := .append) (xs := #[.tmp 12, .tmp 18]) rfl ?_); at_builtin; refine zdq k34 (w0 := w) w.heap.size rfl (.tmp 12) (.tmp 18) 25 34 (.agg #[(.string ⟨#[]⟩), (.int .i64 0), (.int .i64 0), (.slice none 0 0)]) 56 rfl Try.underlying25 info34 rfl (by decide) (by omega) u3 x3_1 (⟨t402, t403, t404, t405⟩ : S34) [.string t402, .int .i64 t403, .int .i64 t404, .slice Ao10 t405.length co10] (fun _ => True) (fun k_ => some k_ = (.slice Ao10 t405.length co10 : Value).ownBlock) rfl rfl ?aP (fun k_ hk_ => ((zbn (ok' := fun k_ => ((fun _ => True)) k_ ∧ some k_ ≠ (u3 : Value).ownBlock) (zcj (HO407.out) (zcv HO_3.out) (by decide)) (fun k_ hk => ⟨trivial, hk.2⟩))).1 k_ hk_.symm) ?aF ?aO ?aB ?aS ?aL ?_; (case aP => exact zfc _ _ _ (⟨t402, t403, t404, t405⟩ : S34) (zbn (zdy rfl (zbn (ok' := fun k_ => ((fun _ => True)) k_ ∧ some k_ ≠ (u3 : Value).ownBlock) (zcj (HO407.out) (zcv HO_3.out) (by decide)) (fun k_ hk => ⟨trivial, hk.2⟩))) (fun _ h_ => h_))); (case aB => exact (by repeat (first | (with_reducible first | exact HB.out | apply zae | apply zab | apply zac) | exact HB.out))); (case aF => exact (fun _ _ => trivial)); (case aO => exact (by (with_reducible repeat (first | apply zbi | apply zbj | apply zbp)); exact zcx HO_3.out (fun k_ hk => ⟨trivial, fun e_ => hk.2 e_⟩))); (case aS => exact (zal (by repeat (first | (with_reducible first | exact HB.out | apply zae | apply zab | apply zac) | exact HB.out)))); (case aL => have := LMc7.out; omega); intro v409 w9 ho hb hg hat; rw [← Ny408.out] at ho; have n0_ := Aside0.mk (hb); have n1_ := Aside0.mk (ho); clear HB HO_3 HO407; have HB := n0_; have HO410 := n1_; clear n0_ n1_; clear ho hb hg hat))
      go_roundg k1
      case measure => have := HK1.out; omega
      case rel => exact ⟨(y408), (wrap64 (x4_1 + 1)), (by first | rfl | (simp; done) | (simp [*]; done)), H', ⟨by have := HK1.out; omega⟩, ⟨by (with_reducible repeat (first | apply zbi | apply zbj | apply zbp)); exact HO410.out⟩, ⟨by repeat (first | (with_reducible first | exact HB.out | apply zae | apply zab | apply zac) | exact HB.out)⟩⟩
     ·rw [if_neg c7] at H
      exact absurd H (by simp)
    ·rw [if_neg c5] at H
     exact absurd H (by simp)
   ·rw [if_neg c4] at H
    have c4b0 : decide (x4_1 < (l0.length : Int)) = false := zbf c4
    clear c4
    obtain rfl := Option.some.inj H
    go_wp2
    go_ret
    exact ⟨_, by first | rfl | (simp [zba, zbb] <;> rfl) | (simp [*, zba, zbb] <;> rfl), by (with_reducible repeat (first | apply zbi | apply zbj | apply zbp)); exact HO_3.out, by repeat (first | (with_reducible first | exact HB.out | apply zae | apply zab | apply zac) | exact HB.out)⟩
end Go.Proofs.Ytlalkldjpniakaa.P
