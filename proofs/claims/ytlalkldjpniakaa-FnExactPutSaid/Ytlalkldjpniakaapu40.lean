import Derived.Test.Ytlalkldjpniakaapu39
import Derived.Test.Ytlalkldjpniakaapu27
import Derived.Test.Ytlalkldjpniakaapu36
/- ItemOk, by the program and by the reference: one answer; for every item. -/
namespace Go.Proofs.Ytlalkldjpniakaa.B
open Go.RowKit Go.Proofs.Ytlalkldjpniakaa.P Go.Proofs.YtlalkldjpniakaaW.PrintWords Go.Proofs.YtlalkldjpniakaaW.PrintLast Go.Proofs.YtlalkldjpniakaaW.PrintMore
theorem route (s : ByteArray) (hs : s.size ≤ 1099511627776) : ∃ b : Bool, ∀ k, s.size + 3 < k → spec_l13Route.f k s = some b ∧ impl_isRoute.f k s = some b := by
  obtain ⟨r, h1, h2, h3⟩ := unhex s hs
  refine ⟨if r.2 = true then ((s.size : Int) == 16) else false, fun k hk => ⟨?_, ?_⟩⟩
  · unfold spec_l13Route.f
    rw [(h3 k hk).1, Option.bind_some]
    by_cases c : r.2 = true
    · have h := h2 c
      rw [if_pos c, if_pos c]
      congr 1
      rw [Bool.eq_iff_iff, beq_iff_eq, beq_iff_eq]
      omega
    · rw [if_neg c, if_neg c]
  · unfold impl_isRoute.f
    rw [(h3 k hk).2, Option.bind_some]
    by_cases c : r.2 = true
    · rw [if_pos c, if_pos c]
    · rw [if_neg c, if_neg c]
theorem itemOk (s : ByteArray) (n m : Int) (l : List Int) (hs : s.size ≤ 1099511627776) : ∃ b : Bool, ∀ k, s.size + 3 < k → spec_ItemOk.f k s n m l = some b ∧ impl_ItemOk.f k s n m l = some b := by
  obtain ⟨b, hb⟩ := route s hs
  refine ⟨if b = true then (if decide (0 ≤ n ∧ n ≤ 9) = true then (if decide (0 ≤ m ∧ m ≤ 100000) = true then decide ((l.length : Int) ≤ 1560) else false) else false) else false, fun k hk => ⟨?_, ?_⟩⟩
  · unfold spec_ItemOk.f
    rw [(hb k hk).1, Option.bind_some, specIn, specIn]
    simp only [Option.bind_some]
    split <;> (try split) <;> (try split) <;> rfl
  · unfold impl_ItemOk.f
    rw [(hb k hk).2, Option.bind_some, implIn, implIn]
    simp only [Option.bind_some]
    split <;> (try split) <;> (try split) <;> rfl
end Go.Proofs.Ytlalkldjpniakaa.B
/- QueueOk, by the program and by the reference: one answer; for lists of at most 2^40 items whose routes are no longer than 2^40. -/
namespace Go.Proofs.Ytlalkldjpniakaa.B
open Go.RowKit Go.Proofs.Ytlalkldjpniakaa.P Go.Proofs.YtlalkldjpniakaaW.PrintWords Go.Proofs.YtlalkldjpniakaaW.PrintLast Go.Proofs.YtlalkldjpniakaaW.PrintMore
/-- Whether an item is in order. -/
noncomputable def okB (x : S34) : Bool := if h : x.f0.size ≤ 1099511627776 then (itemOk x.f0 x.f1 x.f2 x.f3 h).choose else false
theorem okB_spec (x : S34) (h : x.f0.size ≤ 1099511627776) (k : Nat) (hk : x.f0.size + 3 < k) : spec_ItemOk.f k x.f0 x.f1 x.f2 x.f3 = some (okB x) := by
  unfold okB
  rw [dif_pos h]
  exact ((itemOk x.f0 x.f1 x.f2 x.f3 h).choose_spec k hk).1
theorem okB_impl (x : S34) (h : x.f0.size ≤ 1099511627776) (k : Nat) (hk : x.f0.size + 3 < k) : impl_ItemOk.f k x.f0 x.f1 x.f2 x.f3 = some (okB x) := by
  unfold okB
  rw [dif_pos h]
  exact ((itemOk x.f0 x.f1 x.f2 x.f3 h).choose_spec k hk).2
/-- Whether the items that follow may follow. -/
noncomputable def queueL (L : List S34) : List S34 → List S34 → Bool
  | [], _ => true
  | x :: rest, pre => okB x && (!decide (ofL x.f0 L > 4) && (!(decide (x.f1 > 0) && pre.any (likeI x.f0 x.f1)) && queueL L rest (pre ++ [x])))
theorem specQueueOk_l1 (x : S34) (rest : List S34) (r : Bool) : ∀ (p2 p1 : List S34), (p1 ++ p2).length ≤ 1099511627776 → Ev (fun k => spec_QueueOk.l0 k (p1 ++ p2 ++ x :: rest) (wrap64 (((p1 ++ p2).length : Nat) + 1))) r →
    Ev (fun k => spec_QueueOk.l1 k (p1 ++ p2 ++ x :: rest) ((p1 ++ p2).length : Nat) (p1.length : Nat)) (!(decide (x.f1 > 0) && p2.any (likeI x.f0 x.f1)) && r)
  | [], p1, hb, h => by
    refine evUp ?_
    simp only [spec_QueueOk.l1]
    refine evNeg (by simp) ?_
    simpa using h
  | y :: p2, p1, hb, h => by
    refine evUp ?_
    simp only [spec_QueueOk.l1]
    have hlen : (p1 ++ y :: p2).length = p1.length + (p2.length + 1) := by simp
    have hlen2 : (p1 ++ y :: p2 ++ x :: rest).length = p1.length + (p2.length + 1) + (rest.length + 1) := by simp; omega
    refine evPos (by omega) (evPos (by omega) (evPos (by omega) (evPos (by omega) (evPos (by omega) ?_))))
    have e1 : rd_T34 (p1 ++ y :: p2 ++ x :: rest) ((p1.length : Nat) : Int) = y := by
      rw [List.append_assoc]; exact rdT34_mid p1 y (p2 ++ x :: rest)
    have e2 : rd_T34 (p1 ++ y :: p2 ++ x :: rest) (((p1 ++ y :: p2).length : Nat) : Int) = x := rdT34_mid (p1 ++ y :: p2) x rest
    simp only [e1, e2]
    have ih := specQueueOk_l1 x rest r p2 (p1 ++ [y]) (by simpa using hb) (by simpa using h)
    have es : wrap64 ((p1.length : Int) + 1) = (((p1 ++ [y]).length : Nat) : Int) := wrap_step p1 y (by omega)
    rw [show p1 ++ [y] ++ p2 = p1 ++ y :: p2 by simp] at ih
    simp only [es]
    by_cases c1 : y.f0.toList = x.f0.toList
    · refine evPos c1 ?_
      by_cases c2 : y.f1 = x.f1
      · refine evPos c2 ?_
        by_cases c3 : x.f1 > 0
        · refine evPos c3 ?_
          have : (!(decide (x.f1 > 0) && (y :: p2).any (likeI x.f0 x.f1)) && r) = false := by simp [likeI, c1, c2, c3]
          rw [this]; exact evConst _
        · refine evNeg c3 ?_
          have : (!(decide (x.f1 > 0) && (y :: p2).any (likeI x.f0 x.f1)) && r) = (!(decide (x.f1 > 0) && p2.any (likeI x.f0 x.f1)) && r) := by simp [c3]
          rw [this]; exact ih
      · refine evNeg c2 ?_
        have : (!(decide (x.f1 > 0) && (y :: p2).any (likeI x.f0 x.f1)) && r) = (!(decide (x.f1 > 0) && p2.any (likeI x.f0 x.f1)) && r) := by
          have hlk : likeI x.f0 x.f1 y = false := by unfold likeI; rw [beq_eq_false_iff_ne.2 c2, Bool.and_false]
          simp only [List.any_cons, hlk, Bool.false_or]
        rw [this]; exact ih
    · refine evNeg c1 ?_
      have : (!(decide (x.f1 > 0) && (y :: p2).any (likeI x.f0 x.f1)) && r) = (!(decide (x.f1 > 0) && p2.any (likeI x.f0 x.f1)) && r) := by
        have hlk : likeI x.f0 x.f1 y = false := by unfold likeI; rw [beq_eq_false_iff_ne.2 c1, Bool.false_and]
        simp only [List.any_cons, hlk, Bool.false_or]
      rw [this]; exact ih
theorem specQueueOk_l0 (L : List S34) (hL : L.length ≤ 1099511627776) (hx : ∀ y ∈ L, y.f0.size ≤ 1099511627776) : ∀ (rest pre : List S34), L = pre ++ rest → Ev (fun k => spec_QueueOk.l0 k L (pre.length : Nat)) (queueL L rest pre && decide ((L.length : Int) ≤ 10))
  | [], pre, e => by
    refine evUp ?_
    simp only [spec_QueueOk.l0]
    refine evNeg (by rw [e]; simp) ?_
    simp only [queueL, Bool.true_and]
    exact evConst _
  | x :: rest, pre, e => by
    have ih := specQueueOk_l0 L hL hx rest (pre ++ [x]) (by rw [e]; simp)
    have hxx := hx x (by rw [e]; simp)
    have hl : L.length = pre.length + (rest.length + 1) := by rw [e]; simp
    have e2 : rd_T34 L ((pre.length : Nat) : Int) = x := by rw [e]; exact rdT34_mid pre x rest
    have es : wrap64 ((pre.length : Int) + 1) = (((pre ++ [x]).length : Nat) : Int) := wrap_step pre x (by omega)
    refine evUp ?_
    simp only [spec_QueueOk.l0]
    refine evPos (by omega) (evPos (by omega) ?_)
    simp only [e2]
    refine evBind (a := okB x) (evOf _ fun k hk => okB_spec x hxx k hk) ?_
    have hj : ∀ b : Bool, Ev (fun k => spec_QueueOk.j1 k L (pre.length : Nat) b) (!b && (!(decide (x.f1 > 0) && pre.any (likeI x.f0 x.f1)) && (queueL L rest (pre ++ [x]) && decide ((L.length : Int) ≤ 10)))) := by
      intro b
      refine evUp ?_
      simp only [spec_QueueOk.j1]
      cases b with
      | true => exact evPos rfl (evConst _)
      | false =>
        refine evNeg (by simp) ?_
        have h1 := specQueueOk_l1 x rest (queueL L rest (pre ++ [x]) && decide ((L.length : Int) ≤ 10)) pre [] (by simpa using (by omega : pre.length ≤ 1099511627776)) (by simpa [← e, es] using ih)
        simpa [← e] using h1
    cases hb : okB x with
    | false =>
      refine evNeg (by simp) ?_
      have h2 := hj true
      simpa [queueL, hb] using h2
    | true =>
      refine evPos rfl (evBind (a := ofL x.f0 L) (evOf _ fun k hk => specOf L x.f0 hL k hk) ?_)
      have h2 := hj (decide (ofL x.f0 L > 4))
      simpa [queueL, hb, Bool.and_assoc] using h2
theorem implQueueOk_l0 (L : List S34) (hL : L.length ≤ 1099511627776) (hx : ∀ y ∈ L, y.f0.size ≤ 1099511627776) : ∀ (rest pre : List S34), L = pre ++ rest → Ev (fun k => impl_QueueOk.l0 k L pre.length) (queueL L rest pre)
  | [], pre, e => by
    refine evUp ?_
    simp only [impl_QueueOk.l0]
    refine evNeg (by rw [e]; simp) ?_
    simp only [queueL]
    exact evConst _
  | x :: rest, pre, e => by
    have ih := implQueueOk_l0 L hL hx rest (pre ++ [x]) (by rw [e]; simp)
    have hxx := hx x (by rw [e]; simp)
    have hl : L.length = pre.length + (rest.length + 1) := by rw [e]; simp
    have e2 : rd_T34 L ((pre.length : Nat) : Int) = x := by rw [e]; exact rdT34_mid pre x rest
    have e3 : L.take pre.length = pre := by rw [e]; simp
    have e4 : (pre ++ [x]).length = pre.length + 1 := by simp
    rw [e4] at ih
    refine evUp ?_
    simp only [impl_QueueOk.l0]
    refine evPos (by omega) ?_
    simp only [e2, e3]
    refine evBind (a := okB x) (evOf _ fun k hk => okB_impl x hxx k hk) ?_
    cases hb : okB x with
    | false =>
      refine evNeg (by simp) ?_
      simp only [queueL, hb, Bool.false_and]
      exact evConst _
    | true =>
      refine evPos rfl (evBind (a := ofL x.f0 L) (evOf _ fun k hk => implOf L x.f0 hL k hk) ?_)
      by_cases c : ofL x.f0 L > 4
      · refine evPos c ?_
        simp only [queueL, c, decide_true, Bool.not_true, Bool.false_and, Bool.and_false]
        exact evConst _
      · refine evNeg c ?_
        by_cases c1 : x.f1 > 0
        · refine evPos c1 ?_
          by_cases c2 : pre.any (likeI x.f0 x.f1) = true
          · refine evPos c2 ?_
            have : queueL L (x :: rest) pre = false := by simp only [queueL, c1, c2]; simp
            rw [this]; exact evConst _
          · refine evNeg c2 ?_
            have : queueL L (x :: rest) pre = queueL L rest (pre ++ [x]) := by simp only [queueL, hb, c, c1]; simp [c2]
            rw [this]; exact ih
        · refine evNeg c1 ?_
          have : queueL L (x :: rest) pre = queueL L rest (pre ++ [x]) := by simp only [queueL, hb, c, c1]; simp
          rw [this]; exact ih
noncomputable def queueOkL (L : List S34) : Bool := queueL L L [] && decide ((L.length : Int) ≤ 10)
theorem specQueueOk (L : List S34) (hL : L.length ≤ 1099511627776) (hx : ∀ y ∈ L, y.f0.size ≤ 1099511627776) : Ev (fun k => spec_QueueOk.f k L) (queueOkL L) := specQueueOk_l0 L hL hx L [] rfl
theorem implQueueOk (L : List S34) (hL : L.length ≤ 1099511627776) (hx : ∀ y ∈ L, y.f0.size ≤ 1099511627776) : Ev (fun k => impl_QueueOk.f k L) (queueOkL L) := by
  unfold impl_QueueOk.f queueOkL
  by_cases c : (L.length : Int) > 10
  · refine evPos c ?_
    have : ¬ (L.length : Int) ≤ 10 := by omega
    simp only [this, decide_false, Bool.and_false]
    exact evConst _
  · refine evNeg c ?_
    have : (L.length : Int) ≤ 10 := by omega
    simp only [this, decide_true, Bool.and_true]
    exact implQueueOk_l0 L hL hx L [] rfl
end Go.Proofs.Ytlalkldjpniakaa.B
