/- What the laws' marks over strings do: every string another. -/
import Derived.Test.YtkmdjmbjopklkaaDoorBase
import Derived.Test.YtkmdjmbjopklkaaDoorEv
import Derived.Test.YtkmdjmbjopklkaaDoorPx54
import Derived.Test.YtkmdjmbjopklkaaDoorPx55
import Derived.Test.YtkmdjmbjopklkaaDoorPx56
import Derived.Test.YtkmdjmbjopklkaaDoorPx53
namespace Go.Proofs.YtkmdjmbjopklkaaDoor.B
open Go.RowKit Go.Proofs.YtkmdjmbjopklkaaDoor.P Go.Proofs.YtkmdjmbjopklkaaDoorW.PrintWords Go.Proofs.YtkmdjmbjopklkaaDoorW.PrintLast Go.Proofs.YtkmdjmbjopklkaaDoorW.PrintMore
theorem markText_l0 : ∀ (n : Nat) (m : Int) (s : ByteArray), 0 ≤ m → m.toNat ≤ n → s.size + n ≤ 4611686018427387904 → ∃ t, Ev (fun k => laws_markText.l0 k m s) t := by
  have hz : ∀ (m : Int) (s : ByteArray), ¬ m > 0 → s.size ≤ 4611686018427387904 → ∃ t, Ev (fun k => laws_markText.l0 k m s) t := by
    intro m s hm hs
    refine ⟨_, evUp (r := (⟨#[109]⟩ : ByteArray) ++ s) ?_⟩
    simp only [laws_markText.l0]
    exact evNeg hm (evPos (by omega) (evConst _))
  intro n
  induction n with
  | zero => intro m s h0 hn hs; exact hz m s (by omega) (by omega)
  | succ n ih =>
    intro m s h0 hn hs
    by_cases hm : m > 0
    · have hd : Int.tdiv m 10 = m / 10 := Int.tdiv_eq_ediv_of_nonneg h0
      have hw : wrap64 (Int.tdiv m 10) = m / 10 := by rw [hd]; exact wrap_eq _ (by omega) (by omega)
      have h1 : ∀ x : Int, (strOfNums [x]).size = 1 := fun x => rfl
      have h2 : ∀ x : Int, (strOfNums [x] ++ s).size = 1 + s.size := fun x => by rw [ByteArray.size_append, h1]
      obtain ⟨t, ht⟩ := ih (m / 10) (strOfNums [(wrap64 (48 + (Int.tmod m 10))) % 256] ++ s) (by omega) (by omega) (by rw [h2]; omega)
      refine ⟨t, evUp ?_⟩
      simp only [laws_markText.l0, hw]
      exact evPos hm (evBind (evConst _) (evPos (by rw [h1]; omega) ht))
    · exact hz m s hm (by omega)
theorem markText (m : Int) (h0 : 0 ≤ m) (hm : m ≤ 2305843009213693952) : ∃ t, Ev (fun k => laws_markText.f k m) t := by
  unfold laws_markText.f
  by_cases h : m ≤ 0
  · exact ⟨_, evPos h (evConst _)⟩
  · obtain ⟨t, ht⟩ := markText_l0 m.toNat m (⟨#[]⟩ : ByteArray) h0 (Nat.le_refl _) (by show 0 + _ ≤ _; omega)
    exact ⟨t, evNeg h ht⟩
theorem rdOf_mid (pre : List ByteArray) (x : ByteArray) (rest : List ByteArray) : rdOf ByteArray.empty (pre ++ x :: rest) (pre.length : Int) = x := by
  unfold rdOf; simp [List.getD_eq_getElem?_getD]
theorem eqStringS_l0 : ∀ (rest pre : List ByteArray), pre.length + rest.length ≤ 1099511627776 → Ev (fun k => laws_eqStringS.l0 k (pre ++ rest) (pre ++ rest) (pre.length : Nat)) true
  | [], pre, h => by
    refine evUp ?_
    simp only [laws_eqStringS.l0]
    exact evNeg (by simp) (evConst _)
  | x :: rest, pre, h => by
    refine evUp ?_
    simp only [laws_eqStringS.l0]
    simp only [List.length_cons] at h
    refine evPos (lt_mid pre x rest) (evPos (pre_nonneg pre) (evPos (lt_mid pre x rest) (evPos trivial ?_)))
    rw [wrap_step pre x (by omega), snoc_app pre x rest]
    exact eqStringS_l0 rest (pre ++ [x]) (by simp; omega)
theorem eqStringS (l : List ByteArray) (h : l.length ≤ 1099511627776) : Ev (fun k => laws_eqStringS.f k l l) true := by
  unfold laws_eqStringS.f
  exact evPos rfl (eqStringS_l0 l [] (by simpa using h))
theorem markStringS_l0 : ∀ (rest pre : List ByteArray) (m : Int), 0 ≤ m → m + rest.length ≤ 1152921504606846976 → pre.length + rest.length ≤ 1099511627776 →
    ∃ rest2 : List ByteArray, rest2.length = rest.length ∧ Ev (fun k => laws_markStringS.l0 k (pre ++ rest) m (pre.length : Nat)) (m + (rest.length : Int), pre ++ rest2) ∧
      ∀ pre2 : List ByteArray, pre2.length = pre.length → Ev (fun k => laws_heldStringS.l0 k (pre2 ++ rest2) m (pre2.length : Nat)) (m + (rest.length : Int))
  | [], pre, m, h0, hm, hl => by
    refine ⟨[], rfl, evUp ?_, fun pre2 _ => evUp ?_⟩
    · simp only [laws_markStringS.l0, List.length_nil, Int.natCast_zero, Int.add_zero]
      exact evNeg (by simp) (evConst _)
    · simp only [laws_heldStringS.l0, List.length_nil, Int.natCast_zero, Int.add_zero]
      exact evNeg (by simp) (evConst _)
  | x :: rest, pre, m, h0, hm, hl => by
    simp only [List.length_cons] at hm hl
    obtain ⟨t, ht⟩ := markText m h0 (by omega)
    have w1 : wrap64 (m + 1) = m + 1 := wrap_eq _ (by omega) (by omega)
    obtain ⟨rest2, h2, h3, h4⟩ := markStringS_l0 rest (pre ++ [t]) (m + 1) (by omega) (by omega) (by simp; omega)
    have em : m + 1 + (rest.length : Int) = m + ((x :: rest).length : Int) := by simp only [List.length_cons]; omega
    rw [em] at h3 h4
    refine ⟨t :: rest2, by simp [h2], evUp ?_, fun pre2 hp2 => evUp ?_⟩
    · simp only [laws_markStringS.l0, w1]
      refine evPos (lt_mid pre x rest) (evBind ht (evPos (pre_nonneg pre) ?_))
      have hset : (pre ++ x :: rest).set ((pre.length : Int).toNat) t = (pre ++ [t]) ++ rest := by simp
      rw [hset, wrap_step pre t (by omega), snoc_app pre t rest2]
      exact h3
    · simp only [laws_heldStringS.l0, w1]
      refine evPos (lt_mid pre2 t rest2) (evPos (pre_nonneg pre2) (evBind ht ?_))
      rw [rdOf_mid]
      refine evPos rfl ?_
      rw [wrap_step pre2 t (by omega), snoc_app pre2 t rest2]
      exact h4 (pre2 ++ [t]) (by simp [hp2])
theorem markStringS (l : List ByteArray) (hl : l.length ≤ 1099511627776) : ∃ l2 : List ByteArray, Ev (fun k => laws_markStringS.f k l 1) (1 + (l.length : Int), l2) ∧ Ev (fun k => laws_heldStringS.f k l2 1) (1 + (l.length : Int)) := by
  obtain ⟨l2, _, h3, h4⟩ := markStringS_l0 l [] 1 (by omega) (by omega) (by simpa using hl)
  exact ⟨l2, h3, h4 [] rfl⟩
end Go.Proofs.YtkmdjmbjopklkaaDoor.B
