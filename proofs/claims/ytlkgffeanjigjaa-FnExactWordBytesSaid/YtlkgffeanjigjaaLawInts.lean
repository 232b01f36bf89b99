/- What the laws' own helpers over numbers compute: comparisons, marks; for lists of at most 2^40 numbers. -/
import Derived.Test.YtlkgffeanjigjaaBase
import Derived.Test.YtlkgffeanjigjaaPx15
import Derived.Test.YtlkgffeanjigjaaPx16
import Derived.Test.YtlkgffeanjigjaaPx17
import Derived.Test.YtlkgffeanjigjaaPx24
namespace Go.Proofs.Ytlkgffeanjigjaa.B
open Go.RowKit Go.Proofs.YtlkgffeanjigjaaW.PrintWords Go.Proofs.YtlkgffeanjigjaaW.PrintLast Go.Proofs.YtlkgffeanjigjaaW.PrintMore Go.Proofs.Ytlkgffeanjigjaa.P

theorem eqIntS_l0 : ∀ (a b pre : List Int) (k : Nat), a.length = b.length → pre.length + a.length ≤ 1099511627776 → a.length < k →
    laws_eqIntS.l0 k (pre ++ a) (pre ++ b) (pre.length : Int) = some (decide (a = b))
  | [], b, pre, k, hl, hb, hk => by
    obtain ⟨k, rfl⟩ : ∃ m, k = m + 1 := ⟨k - 1, by omega⟩
    obtain rfl : b = [] := List.eq_nil_of_length_eq_zero (by simpa using hl.symm)
    simp only [laws_eqIntS.l0]; rw [if_neg (nlt_end pre)]; simp
  | x :: a, b, pre, k, hl, hb, hk => by
    obtain ⟨k, rfl⟩ : ∃ m, k = m + 1 := ⟨k - 1, by simp at hk; omega⟩
    cases b with
    | nil => simp at hl
    | cons y b =>
      simp only [List.length_cons] at hl hb hk
      simp only [laws_eqIntS.l0]
      rw [if_pos (lt_mid pre x a), if_pos (pre_nonneg pre), if_pos (lt_mid pre y b), rd_mid, rd_mid]
      by_cases e : x = y
      · subst e
        rw [if_pos rfl, wrap_step pre x (by omega), snoc_app pre x a, snoc_app pre x b, eqIntS_l0 a b (pre ++ [x]) k (by omega) (by simp; omega) (by omega)]
        simp
      · rw [if_neg e]; simp [e]
theorem eqIntS (a b : List Int) (hn : a.length ≤ 1099511627776) (k : Nat) (hk : a.length < k) : laws_eqIntS.f k a b = some (decide (a = b)) := by
  unfold laws_eqIntS.f
  by_cases e : a.length = b.length
  · rw [if_pos (by omega)]
    have h := eqIntS_l0 a b [] k e (by simpa using hn) hk
    simpa using h
  · rw [if_neg (by omega)]
    have : a ≠ b := fun h => e (by rw [h])
    simp [this]
theorem eqIntS_same (a : List Int) (hn : a.length ≤ 1099511627776) (k : Nat) (hk : a.length < k) : laws_eqIntS.f k a a = some true := by
  rw [eqIntS a a hn k hk]; simp
theorem markIntS_l0 : ∀ (rest pre : List Int) (m : Int) (k : Nat), 0 ≤ m → m + rest.length ≤ 4611686018427387904 → pre.length + rest.length ≤ 1099511627776 → rest.length < k →
    laws_markIntS.l0 k (pre ++ rest) m (pre.length : Int) = some (m + rest.length, pre ++ counts rest.length m)
  | [], pre, m, k, h0, hm, hb, hk => by
    obtain ⟨k, rfl⟩ : ∃ m, k = m + 1 := ⟨k - 1, by omega⟩
    simp only [laws_markIntS.l0]; rw [if_neg (nlt_end pre)]; simp [counts]
  | a :: rest, pre, m, k, h0, hm, hb, hk => by
    obtain ⟨k, rfl⟩ : ∃ m, k = m + 1 := ⟨k - 1, by simp at hk; omega⟩
    simp only [List.length_cons] at hm hb hk
    have ih := markIntS_l0 rest (pre ++ [m]) (m + 1) k (by omega) (by omega) (by simp; omega) (by omega)
    simp only [laws_markIntS.l0]
    rw [if_pos (lt_mid pre a rest), if_pos (pre_nonneg pre), set_mid, wrap_step pre m (by omega), wrap_eq (m + 1) (by omega) (by omega), snoc_app pre m rest, ih]
    simp only [List.length_cons, counts, List.append_assoc, List.singleton_append]
    congr 2
    omega
theorem markIntS (l : List Int) (m : Int) (h0 : 0 ≤ m) (hm : m ≤ 1152921504606846976) (hn : l.length ≤ 1099511627776) (k : Nat) (hk : l.length < k) :
    laws_markIntS.f k l m = some (m + l.length, counts l.length m) := by
  unfold laws_markIntS.f
  have h := markIntS_l0 l [] m k h0 (by omega) (by simpa using hn) hk
  simpa using h
theorem heldIntS_l0 : ∀ (n : Nat) (pre : List Int) (m : Int) (k : Nat), 0 ≤ m → m + n ≤ 4611686018427387904 → pre.length + n ≤ 1099511627776 → n < k →
    laws_heldIntS.l0 k (pre ++ counts n m) m (pre.length : Int) = some (m + n)
  | 0, pre, m, k, h0, hm, hb, hk => by
    obtain ⟨k, rfl⟩ : ∃ m, k = m + 1 := ⟨k - 1, by omega⟩
    rw [show counts 0 m = [] from rfl]; simp only [laws_heldIntS.l0]; rw [if_neg (nlt_end pre)]; simp
  | n + 1, pre, m, k, h0, hm, hb, hk => by
    obtain ⟨k, rfl⟩ : ∃ m, k = m + 1 := ⟨k - 1, by omega⟩
    have ih := heldIntS_l0 n (pre ++ [m]) (m + 1) k (by omega) (by omega) (by simp; omega) (by omega)
    rw [show counts (n + 1) m = m :: counts n (m + 1) from rfl]
    simp only [laws_heldIntS.l0]
    rw [if_pos (lt_mid pre _ _), if_pos (pre_nonneg pre), rd_mid, if_pos rfl, wrap_step pre m (by omega), wrap_eq (m + 1) (by omega) (by omega), snoc_app pre m (counts n (m + 1)), ih]
    congr 1
    omega
theorem heldIntS (n : Nat) (m : Int) (h0 : 0 ≤ m) (hm : m ≤ 1152921504606846976) (hn : n ≤ 1099511627776) (k : Nat) (hk : n < k) :
    laws_heldIntS.f k (counts n m) m = some (m + n) := by
  unfold laws_heldIntS.f
  have h := heldIntS_l0 n [] m k h0 (by omega) (by simpa using hn) hk
  simpa using h
theorem toIntS_l0 : ∀ (rest rest' pre : List Int) (k : Nat), rest'.length = rest.length → pre.length + rest.length ≤ 1099511627776 → rest.length < k →
    laws_toIntS.l0 k (pre ++ rest) (pre ++ rest') (pre.length : Int) = some (pre ++ rest)
  | [], rest', pre, k, hl, hb, hk => by
    obtain ⟨k, rfl⟩ : ∃ m, k = m + 1 := ⟨k - 1, by omega⟩
    obtain rfl : rest' = [] := List.eq_nil_of_length_eq_zero (by simpa using hl)
    simp only [laws_toIntS.l0]; rw [if_neg (nlt_end pre)]
  | a :: rest, rest', pre, k, hl, hb, hk => by
    obtain ⟨k, rfl⟩ : ∃ m, k = m + 1 := ⟨k - 1, by simp at hk; omega⟩
    cases rest' with
    | nil => simp at hl
    | cons b rest' =>
      simp only [List.length_cons] at hl hb hk
      have ih := toIntS_l0 rest rest' (pre ++ [a]) k (by omega) (by simp; omega) (by omega)
      simp only [laws_toIntS.l0]
      rw [if_pos (lt_mid pre a rest), if_pos (pre_nonneg pre), if_pos (lt_mid pre b rest'), rd_mid, set_mid, wrap_step pre a (by omega), snoc_app pre a rest, snoc_app pre a rest']
      exact ih
theorem toIntS (l : List Int) (hn : l.length ≤ 1099511627776) (k : Nat) (hk : l.length < k) : laws_toIntS.f k l = some l := by
  unfold laws_toIntS.f
  rw [if_pos (by omega), if_pos (by simp; omega)]
  have h := toIntS_l0 l (List.replicate l.length 0) [] k (by simp) (by simpa using hn) hk
  simpa using h
end Go.Proofs.Ytlkgffeanjigjaa.B
