import Derived.Test.Ytlalkldjpniakaapu39
import Derived.Test.Ytlalkldjpniakaapu21
/- Marks in lists of items: what is marked from m on holds the marks from m on. -/
namespace Go.Proofs.Ytlalkldjpniakaa.B
open Go.RowKit Go.Proofs.Ytlalkldjpniakaa.P Go.Proofs.YtlalkldjpniakaaW.PrintWords Go.Proofs.YtlalkldjpniakaaW.PrintLast Go.Proofs.YtlalkldjpniakaaW.PrintMore
theorem markText_l0 : ∀ (n : Nat) (m : Int) (s : ByteArray), 0 ≤ m → m.toNat ≤ n → s.size + n ≤ 4611686018427387904 → ∃ t, Ev (fun k => laws_markText.l0 k m s) t := by
  have hz : ∀ (m : Int) (s : ByteArray), ¬ m > 0 → s.size ≤ 4611686018427387904 → ∃ t, Ev (fun k => laws_markText.l0 k m s) t := by
    intro m s hm hs
    refine ⟨_, evUp (r := (⟨#[109]⟩ : ByteArray) ++ s) ?_⟩
    simp only [laws_markText.l0]
    exact evNeg hm (evPos (by omega) (evConst _))
  intro n
  induction n with
  | zero => intro m s h0 hn hs; exact hz m s (by omega) (by omega)
  | succ n ih =>
    intro m s h0 hn hs
    by_cases hm : m > 0
    · have hd : Int.tdiv m 10 = m / 10 := Int.tdiv_eq_ediv_of_nonneg h0
      have hw : wrap64 (Int.tdiv m 10) = m / 10 := by rw [hd]; exact wrap_eq _ (by omega) (by omega)
      have h1 : ∀ x : Int, (strOfNums [x]).size = 1 := fun x => rfl
      have h2 : ∀ x : Int, (strOfNums [x] ++ s).size = 1 + s.size := fun x => by rw [ByteArray.size_append, h1]
      obtain ⟨t, ht⟩ := ih (m / 10) (strOfNums [(wrap64 (48 + (Int.tmod m 10))) % 256] ++ s) (by omega) (by omega) (by rw [h2]; omega)
      refine ⟨t, evUp ?_⟩
      simp only [laws_markText.l0, hw]
      exact evPos hm (evBind (evConst _) (evPos (by rw [h1]; omega) ht))
    · exact hz m s hm (by omega)
theorem markText (m : Int) (h0 : 0 ≤ m) (hm : m ≤ 2305843009213693952) : ∃ t, Ev (fun k => laws_markText.f k m) t := by
  unfold laws_markText.f
  by_cases h : m ≤ 0
  · exact ⟨_, evPos h (evConst _)⟩
  · obtain ⟨t, ht⟩ := markText_l0 m.toNat m (⟨#[]⟩ : ByteArray) h0 (Nat.le_refl _) (by show 0 + _ ≤ _; omega)
    exact ⟨t, evNeg h ht⟩
theorem markItemS_l0 : ∀ (rest pre : List S34) (m : Int), (∀ x ∈ rest, x.f3.length ≤ 1048576) → 0 ≤ m → m + rest.length * 1048579 ≤ 1152921504606846976 → pre.length + rest.length ≤ 1099511627776 →
    ∃ (m2 : Int) (rest2 : List S34), m ≤ m2 ∧ m2 ≤ m + rest.length * 1048579 ∧ rest2.length = rest.length ∧ Ev (fun k => laws_markItemS.l0 k (pre ++ rest) m (pre.length : Nat)) (m2, pre ++ rest2) ∧
      ∀ pre2 : List S34, pre2.length = pre.length → Ev (fun k => laws_heldItemS.l0 k (pre2 ++ rest2) m (pre2.length : Nat)) m2
  | [], pre, m, hs, h0, hm, hl => by
    refine ⟨m, [], Int.le_refl _, by simp, rfl, evUp ?_, fun pre2 _ => evUp ?_⟩
    · simp only [laws_markItemS.l0]
      exact evNeg (by simp) (evConst _)
    · simp only [laws_heldItemS.l0]
      exact evNeg (by simp) (evConst _)
  | x :: rest, pre, m, hs, h0, hm, hl => by
    simp only [List.length_cons] at hm hl
    obtain ⟨t, ht⟩ := markText m h0 (by omega)
    have hx : x.f3.length ≤ 1048576 := hs x List.mem_cons_self
    have w1 : wrap64 (m + 1) = m + 1 := wrap_eq _ (by omega) (by omega)
    have w2 : wrap64 (m + 1 + 1) = m + 2 := by rw [wrap_eq _ (by omega) (by omega)]; omega
    have w3 : wrap64 (m + 2 + 1) = m + 3 := by rw [wrap_eq _ (by omega) (by omega)]; omega
    obtain ⟨x2, hx2⟩ : ∃ x2 : S34, x2 = ⟨t, m + 1, m + 2, marks x.f3.length (m + 3)⟩ := ⟨_, rfl⟩
    obtain ⟨m2, rest2, h1, h1', h2, h3, h4⟩ := markItemS_l0 rest (pre ++ [x2]) (m + 3 + x.f3.length) (fun y hy => hs y (List.mem_cons_of_mem _ hy)) (by omega) (by omega) (by simp; omega)
    have hb : Ev (fun k => laws_markByteS.f k x.f3 (m + 3)) (m + 3 + (x.f3.length : Int), marks x.f3.length (m + 3)) := evOf x.f3.length fun k hk => markByteS x.f3 (m + 3) (by omega) (by omega) (by omega) k hk
    have hh : Ev (fun k => laws_heldByteS.f k (marks x.f3.length (m + 3)) (m + 3)) (m + 3 + (x.f3.length : Int)) := evOf x.f3.length fun k hk => heldByteS x.f3.length (m + 3) (by omega) (by omega) (by omega) k hk
    have es : wrap64 ((pre.length : Int) + 1) = (((pre ++ [x2]).length : Nat) : Int) := wrap_step pre x2 (by omega)
    refine ⟨m2, x2 :: rest2, by omega, by simp only [List.length_cons]; omega, by simp [h2], evUp ?_, fun pre2 hp2 => evUp ?_⟩
    · simp only [laws_markItemS.l0, rdT34_mid, w1, w2, w3, es]
      refine evPos (by simp; omega) (evPos (by omega) (evBind ht (evBind hb ?_)))
      have hset : (pre ++ x :: rest).set ((pre.length : Int).toNat) (⟨t, m + 1, m + 2, marks x.f3.length (m + 3)⟩ : S34) = (pre ++ [x2]) ++ rest := by
        rw [set_midT, ← hx2]; simp
      simp only [hset]
      rw [show pre ++ x2 :: rest2 = (pre ++ [x2]) ++ rest2 from by simp]
      exact h3
    · have es2 : wrap64 ((pre2.length : Int) + 1) = (((pre2 ++ [x2]).length : Nat) : Int) := wrap_step pre2 x2 (by omega)
      simp only [laws_heldItemS.l0, rdT34_mid, w1, w2, w3, es2]
      subst hx2
      refine evPos (by simp; omega) (evPos (by omega) (evBind ht (evPos rfl (evPos rfl (evPos rfl (evBind hh (evNeg (by omega) ?_)))))))
      have h5 := h4 (pre2 ++ [(⟨t, m + 1, m + 2, marks x.f3.length (m + 3)⟩ : S34)]) (by simp [hp2])
      rw [show pre2 ++ (⟨t, m + 1, m + 2, marks x.f3.length (m + 3)⟩ : S34) :: rest2 = (pre2 ++ [(⟨t, m + 1, m + 2, marks x.f3.length (m + 3)⟩ : S34)]) ++ rest2 from by simp]
      exact h5
theorem markItemS (l : List S34) (m : Int) (h0 : 0 ≤ m) (hm : m ≤ 1099511627776) (hl : l.length ≤ 2097152) (hs : ∀ x ∈ l, x.f3.length ≤ 1048576) :
    ∃ (m2 : Int) (l2 : List S34), m ≤ m2 ∧ l2.length = l.length ∧ Ev (fun k => laws_markItemS.f k l m) (m2, l2) ∧ Ev (fun k => laws_heldItemS.f k l2 m) m2 := by
  obtain ⟨m2, l2, h1, _, h2, h3, h4⟩ := markItemS_l0 l [] m hs h0 (by omega) (by simp; omega)
  exact ⟨m2, l2, h1, h2, h3, h4 [] rfl⟩
theorem markItemS2 (l : List S34) (m : Int) (h0 : 0 ≤ m) (hm : m ≤ 1099511627776) (hl : l.length ≤ 2097152) (hs : ∀ x ∈ l, x.f3.length ≤ 1048576) :
    ∃ (m2 : Int) (l2 : List S34), (m ≤ m2 ∧ m2 ≤ m + l.length * 1048579) ∧ l2.length = l.length ∧ Ev (fun k => laws_markItemS.f k l m) (m2, l2) ∧ Ev (fun k => laws_heldItemS.f k l2 m) m2 := by
  obtain ⟨m2, l2, h1, h1', h2, h3, h4⟩ := markItemS_l0 l [] m hs h0 (by omega) (by simp; omega)
  exact ⟨m2, l2, ⟨h1, h1'⟩, h2, h3, h4 [] rfl⟩
end Go.Proofs.Ytlalkldjpniakaa.B
