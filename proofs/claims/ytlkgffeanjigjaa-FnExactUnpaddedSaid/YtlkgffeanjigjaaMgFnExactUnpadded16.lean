import Derived.Test.YtlkgffeanjigjaaWMore
import Derived.Test.YtlkgffeanjigjaaMgFnExactUnpadded3
import Derived.Test.YtlkgffeanjigjaaMgFnExactUnpadded1
import Derived.Test.YtlkgffeanjigjaaMgFnExactUnpadded2
import Derived.Laws.BitsLemmas
import Derived.Laws.BitsAllLaws
import Derived.Test.YtlkgffeanjigjaaMgFnExactUnpadded4
import Derived.Test.YtlkgffeanjigjaaMgFnExactUnpadded10
/- Plain lemmas on lists and on numbers that do not wrap, used by all pure statements of this seat; no condition but those each lemma names. -/
namespace Go.Proofs.Ytlkgffeanjigjaa.B
open Go.RowKit Go.Proofs.YtlkgffeanjigjaaW.PrintWords Go.Proofs.YtlkgffeanjigjaaW.PrintLast Go.Proofs.YtlkgffeanjigjaaW.PrintMore

theorem wrap_eq (x : Int) (h0 : -9223372036854775808 ≤ x) (h1 : x ≤ 9223372036854775807) : wrap64 x = x := by
  unfold wrap64; omega
theorem rd_mid (pre : List Int) (a : Int) (rest : List Int) : rd (pre ++ a :: rest) (pre.length : Int) = a := by
  unfold rd; simp [List.getD_eq_getElem?_getD]
theorem set_mid (pre : List Int) (a b : Int) (rest : List Int) : (pre ++ b :: rest).set ((pre.length : Int).toNat) a = pre ++ a :: rest := by
  simp
theorem lt_mid {α : Type} (pre : List α) (a : α) (rest : List α) : (pre.length : Int) < (((pre ++ a :: rest).length : Nat) : Int) := by
  simp; omega
theorem nlt_end {α : Type} (pre : List α) : ¬ ((pre.length : Int) < (((pre ++ []).length : Nat) : Int)) := by
  simp
theorem wrap_step {α : Type} (pre : List α) (a : α) (h : pre.length ≤ 4611686018427387904) : wrap64 ((pre.length : Int) + 1) = (((pre ++ [a]).length : Nat) : Int) := by
  rw [wrap_eq _ (by omega) (by omega)]; simp
theorem snoc_app {α : Type} (pre : List α) (a : α) (rest : List α) : pre ++ a :: rest = (pre ++ [a]) ++ rest := by simp
theorem pre_nonneg {α : Type} (pre : List α) : 0 ≤ (pre.length : Int) := by omega

theorem rd_mid2 (pa pb : List Int) (a : Int) (rest : List Int) (h : pa.length = pb.length) : rd (pb ++ a :: rest) (pa.length : Int) = a := by
  rw [h]; exact rd_mid pb a rest
theorem lt_mid2 {α : Type} (pa pb : List α) (a : α) (rest : List α) (h : pa.length = pb.length) : (pa.length : Int) < (((pb ++ a :: rest).length : Nat) : Int) := by
  rw [h]; exact lt_mid pb a rest
theorem nlt_end2 {α : Type} (pa pb : List α) (h : pa.length = pb.length) : ¬ ((pa.length : Int) < (((pb ++ []).length : Nat) : Int)) := by
  rw [h]; exact nlt_end pb
/-- n numbers m, m + 1, .. as bytes. -/
def marks : Nat → Int → List Int
  | 0, _ => []
  | n + 1, m => m % 256 :: marks n (m + 1)
theorem marks_length : ∀ (n : Nat) (m : Int), (marks n m).length = n
  | 0, _ => rfl
  | n + 1, m => by simp [marks, marks_length n]
theorem marks_snoc : ∀ (n : Nat) (m : Int), marks n m ++ [(m + n) % 256] = marks (n + 1) m
  | 0, m => by simp [marks]
  | n + 1, m => by
    have h := marks_snoc n (m + 1)
    rw [show m + 1 + (n : Int) = m + ((n + 1 : Nat) : Int) from by omega] at h
    rw [marks, marks, List.cons_append, h]
/-- n numbers m, m + 1, .. -/
def counts : Nat → Int → List Int
  | 0, _ => []
  | n + 1, m => m :: counts n (m + 1)
theorem counts_length : ∀ (n : Nat) (m : Int), (counts n m).length = n
  | 0, _ => rfl
  | n + 1, m => by simp [counts, counts_length n]
theorem counts_snoc : ∀ (n : Nat) (m : Int), counts n m ++ [m + n] = counts (n + 1) m
  | 0, m => by simp [counts]
  | n + 1, m => by
    have h := counts_snoc n (m + 1)
    rw [show m + 1 + (n : Int) = m + ((n + 1 : Nat) : Int) from by omega] at h
    rw [counts, counts, List.cons_append, h]
end Go.Proofs.Ytlkgffeanjigjaa.B
/- What the laws' own helpers over bytes compute: copies, comparisons, marks; for lists of at most 2^40 numbers. -/
namespace Go.Proofs.Ytlkgffeanjigjaa.B
open Go.RowKit Go.Proofs.YtlkgffeanjigjaaW.PrintWords Go.Proofs.YtlkgffeanjigjaaW.PrintLast Go.Proofs.YtlkgffeanjigjaaW.PrintMore Go.Proofs.Ytlkgffeanjigjaa.P

theorem toByteS_l0 : ∀ (rest rest' pre : List Int) (k : Nat), rest'.length = rest.length → pre.length + rest.length ≤ 1099511627776 → rest.length < k →
    laws_toByteS.l0 k (pre ++ rest) (pre ++ rest') (pre.length : Int) = some (pre ++ rest)
  | [], rest', pre, k, hl, hb, hk => by
    obtain ⟨k, rfl⟩ : ∃ m, k = m + 1 := ⟨k - 1, by omega⟩
    obtain rfl : rest' = [] := List.eq_nil_of_length_eq_zero (by simpa using hl)
    simp only [laws_toByteS.l0]; rw [if_neg (nlt_end pre)]
  | a :: rest, rest', pre, k, hl, hb, hk => by
    obtain ⟨k, rfl⟩ : ∃ m, k = m + 1 := ⟨k - 1, by simp at hk; omega⟩
    cases rest' with
    | nil => simp at hl
    | cons b rest' =>
      simp only [List.length_cons] at hl hb hk
      have ih := toByteS_l0 rest rest' (pre ++ [a]) k (by omega) (by simp; omega) (by omega)
      simp only [laws_toByteS.l0]
      rw [if_pos (lt_mid pre a rest), if_pos (pre_nonneg pre), if_pos (lt_mid pre b rest'), rd_mid, set_mid, wrap_step pre a (by omega), snoc_app pre a rest, snoc_app pre a rest']
      exact ih
theorem toByteS (l : List Int) (hn : l.length ≤ 1099511627776) (k : Nat) (hk : l.length < k) : laws_toByteS.f k l = some l := by
  unfold laws_toByteS.f
  rw [if_pos (by omega), if_pos (by simp; omega)]
  have h := toByteS_l0 l (List.replicate l.length 0) [] k (by simp) (by simpa using hn) hk
  simpa using h

theorem eqByteS_l0 : ∀ (a b pre : List Int) (k : Nat), a.length = b.length → pre.length + a.length ≤ 1099511627776 → a.length < k →
    laws_eqByteS.l0 k (pre ++ a) (pre ++ b) (pre.length : Int) = some (decide (a = b))
  | [], b, pre, k, hl, hb, hk => by
    obtain ⟨k, rfl⟩ : ∃ m, k = m + 1 := ⟨k - 1, by omega⟩
    obtain rfl : b = [] := List.eq_nil_of_length_eq_zero (by simpa using hl.symm)
    simp only [laws_eqByteS.l0]; rw [if_neg (nlt_end pre)]; simp
  | x :: a, b, pre, k, hl, hb, hk => by
    obtain ⟨k, rfl⟩ : ∃ m, k = m + 1 := ⟨k - 1, by simp at hk; omega⟩
    cases b with
    | nil => simp at hl
    | cons y b =>
      simp only [List.length_cons] at hl hb hk
      simp only [laws_eqByteS.l0]
      rw [if_pos (lt_mid pre x a), if_pos (pre_nonneg pre), if_pos (lt_mid pre y b), rd_mid, rd_mid]
      by_cases e : x = y
      · subst e
        rw [if_pos rfl, wrap_step pre x (by omega), snoc_app pre x a, snoc_app pre x b, eqByteS_l0 a b (pre ++ [x]) k (by omega) (by simp; omega) (by omega)]
        simp
      · rw [if_neg e]; simp [e]
theorem eqByteS (a b : List Int) (hn : a.length ≤ 1099511627776) (k : Nat) (hk : a.length < k) : laws_eqByteS.f k a b = some (decide (a = b)) := by
  unfold laws_eqByteS.f
  by_cases e : a.length = b.length
  · rw [if_pos (by omega)]
    have h := eqByteS_l0 a b [] k e (by simpa using hn) hk
    simpa using h
  · rw [if_neg (by omega)]
    have : a ≠ b := fun h => e (by rw [h])
    simp [this]
theorem eqByteS_same (a : List Int) (hn : a.length ≤ 1099511627776) (k : Nat) (hk : a.length < k) : laws_eqByteS.f k a a = some true := by
  rw [eqByteS a a hn k hk]; simp

theorem markByteS_l0 : ∀ (rest pre : List Int) (m : Int) (k : Nat), 0 ≤ m → m + rest.length ≤ 4611686018427387904 → pre.length + rest.length ≤ 1099511627776 → rest.length < k →
    laws_markByteS.l0 k (pre ++ rest) m (pre.length : Int) = some (m + rest.length, pre ++ marks rest.length m)
  | [], pre, m, k, h0, hm, hb, hk => by
    obtain ⟨k, rfl⟩ : ∃ m, k = m + 1 := ⟨k - 1, by omega⟩
    simp only [laws_markByteS.l0]; rw [if_neg (nlt_end pre)]; simp [marks]
  | a :: rest, pre, m, k, h0, hm, hb, hk => by
    obtain ⟨k, rfl⟩ : ∃ m, k = m + 1 := ⟨k - 1, by simp at hk; omega⟩
    simp only [List.length_cons] at hm hb hk
    have ih := markByteS_l0 rest (pre ++ [m % 256]) (m + 1) k (by omega) (by omega) (by simp; omega) (by omega)
    simp only [laws_markByteS.l0]
    rw [if_pos (lt_mid pre a rest), if_pos (pre_nonneg pre), set_mid, wrap_step pre (m % 256) (by omega), wrap_eq (m + 1) (by omega) (by omega), snoc_app pre (m % 256) rest, ih]
    simp only [List.length_cons, marks, List.append_assoc, List.singleton_append]
    congr 2
    omega
theorem markByteS (l : List Int) (m : Int) (h0 : 0 ≤ m) (hm : m ≤ 1152921504606846976) (hn : l.length ≤ 1099511627776) (k : Nat) (hk : l.length < k) :
    laws_markByteS.f k l m = some (m + l.length, marks l.length m) := by
  unfold laws_markByteS.f
  have h := markByteS_l0 l [] m k h0 (by omega) (by simpa using hn) hk
  simpa using h

theorem heldByteS_l0 : ∀ (n : Nat) (pre : List Int) (m : Int) (k : Nat), 0 ≤ m → m + n ≤ 4611686018427387904 → pre.length + n ≤ 1099511627776 → n < k →
    laws_heldByteS.l0 k (pre ++ marks n m) m (pre.length : Int) = some (m + n)
  | 0, pre, m, k, h0, hm, hb, hk => by
    obtain ⟨k, rfl⟩ : ∃ m, k = m + 1 := ⟨k - 1, by omega⟩
    rw [show marks 0 m = [] from rfl]; simp only [laws_heldByteS.l0]; rw [if_neg (nlt_end pre)]; simp
  | n + 1, pre, m, k, h0, hm, hb, hk => by
    obtain ⟨k, rfl⟩ : ∃ m, k = m + 1 := ⟨k - 1, by omega⟩
    have ih := heldByteS_l0 n (pre ++ [m % 256]) (m + 1) k (by omega) (by omega) (by simp; omega) (by omega)
    rw [show marks (n + 1) m = m % 256 :: marks n (m + 1) from rfl]
    simp only [laws_heldByteS.l0]
    rw [if_pos (lt_mid pre _ _), if_pos (pre_nonneg pre), rd_mid, if_pos rfl, wrap_step pre (m % 256) (by omega), wrap_eq (m + 1) (by omega) (by omega), snoc_app pre (m % 256) (marks n (m + 1)), ih]
    congr 1
    omega
theorem heldByteS (n : Nat) (m : Int) (h0 : 0 ≤ m) (hm : m ≤ 1152921504606846976) (hn : n ≤ 1099511627776) (k : Nat) (hk : n < k) :
    laws_heldByteS.f k (marks n m) m = some (m + n) := by
  unfold laws_heldByteS.f
  have h := heldByteS_l0 n [] m k h0 (by omega) (by simpa using hn) hk
  simpa using h
end Go.Proofs.Ytlkgffeanjigjaa.B
/- What masks and shifts of whole numbers are, as remainders; each for the numbers that it names. -/
namespace Go.Proofs.Ytlkgffeanjigjaa.B
open Go.RowKit Go.Proofs.YtlkgffeanjigjaaW.PrintWords Go.Proofs.YtlkgffeanjigjaaW.PrintLast Go.Proofs.YtlkgffeanjigjaaW.PrintMore

theorem i64_and_nat (x : Int) (m : Nat) (hm : m < 9223372036854775808) : Go.bits .and .i64 x (m : Int) = (((x % 18446744073709551616).toNat &&& m : Nat) : Int) := by
  have h1 : (BitVec.ofInt 64 x).toNat = (x % 18446744073709551616).toNat := by
    rw [BitVec.toNat_ofInt]; rfl
  have h2 : (BitVec.ofInt 64 (m : Int)).toNat = m := ofInt_u64 m (by omega)
  have hx : (x % 18446744073709551616).toNat &&& m ≤ m := Nat.and_le_right
  show IntKind.i64.wrap ((BitVec.ofInt 64 x &&& BitVec.ofInt 64 (m : Int)).toNat : Int) = _
  rw [BitVec.toNat_and, h1, h2, IntKind.wrap_i64]
  omega
theorem i64_and31 (x : Int) : Go.bits .and .i64 x 31 = x % 32 := by
  rw [show (31 : Int) = ((31 : Nat) : Int) from rfl, i64_and_nat x 31 (by omega), show (31 : Nat) = 2 ^ 5 - 1 from rfl, Nat.and_two_pow_sub_one_eq_mod]
  omega
theorem i64_and255 (x : Int) : Go.bits .and .i64 x 255 = x % 256 := by
  rw [show (255 : Int) = ((255 : Nat) : Int) from rfl, i64_and_nat x 255 (by omega), show (255 : Nat) = 2 ^ 8 - 1 from rfl, Nat.and_two_pow_sub_one_eq_mod]
  omega
theorem i64_and32 (x : Int) : Go.bits .and .i64 x 4294967295 = x % 4294967296 := by
  rw [show (4294967295 : Int) = ((4294967295 : Nat) : Int) from rfl, i64_and_nat x 4294967295 (by omega), show (4294967295 : Nat) = 2 ^ 32 - 1 from rfl, Nat.and_two_pow_sub_one_eq_mod]
  omega
theorem wf8 {l : List Int} (h : ∀ x ∈ l, (Lit.int .u8 x).wf = true) : ∀ x ∈ l, 0 ≤ x ∧ x < 256 := by
  intro x hx
  have := h x hx
  have m1 : IntKind.u8.min = 0 := by decide
  have m2 : IntKind.u8.max = 255 := by decide
  simp only [Lit.wf, m1, m2, Bool.and_eq_true, decide_eq_true_eq] at this
  omega
theorem wf64 {x : Int} (h : (Lit.int .i64 x).wf = true) : -9223372036854775808 ≤ x ∧ x ≤ 9223372036854775807 := by
  have m1 : IntKind.i64.min = -9223372036854775808 := by decide
  have m2 : IntKind.i64.max = 9223372036854775807 := by decide
  simp only [Lit.wf, m1, m2, Bool.and_eq_true, decide_eq_true_eq] at h
  omega
end Go.Proofs.Ytlkgffeanjigjaa.B
/- Little, by the program and by the reference: the low bytes of a number, the lowest first; for every number and every count. -/
namespace Go.Proofs.Ytlkgffeanjigjaa.B
open Go.RowKit Go.Proofs.Ytlkgffeanjigjaa.P Go.Proofs.YtlkgffeanjigjaaW.PrintWords Go.Proofs.YtlkgffeanjigjaaW.PrintLast Go.Proofs.YtlkgffeanjigjaaW.PrintMore
/-- So many low bytes, the lowest first. -/
def lowL : Nat → Int → List Int
  | 0, _ => []
  | m + 1, n => n % 256 :: lowL m (n / 256)
/-- What Little answers. -/
def leL (n many : Int) : List Int := if 0 ≤ n ∧ 1 ≤ many ∧ many ≤ 8 then lowL many.toNat n else []
theorem lowL_length : ∀ (m : Nat) (n : Int), (lowL m n).length = m
  | 0, _ => rfl
  | m + 1, n => by simp [lowL, lowL_length m]
theorem leL_length (n many : Int) : (leL n many).length ≤ 8 := by
  unfold leL; split
  · rw [lowL_length]; omega
  · simp
theorem specLittle_l0 : ∀ (m : Nat) (n i many : Int) (acc : List Int) (k : Nat), 0 ≤ i → many ≤ 8 → many - i = m → acc.length ≤ 100 - m → m ≤ 8 → m < k →
    spec_Little.l0 k n many acc i = some (acc ++ lowL m n)
  | 0, n, i, many, acc, k, h0, h8, hd, hc, hm, hk => by
    obtain ⟨k, rfl⟩ : ∃ m, k = m + 1 := ⟨k - 1, by omega⟩
    simp only [spec_Little.l0]; rw [if_neg (by omega)]; simp [lowL]
  | m + 1, n, i, many, acc, k, h0, h8, hd, hc, hm, hk => by
    obtain ⟨k, rfl⟩ : ∃ m, k = m + 1 := ⟨k - 1, by omega⟩
    have ih := specLittle_l0 m (n / 256) (i + 1) many (acc ++ [n % 256]) k (by omega) h8 (by omega) (by simp; omega) (by omega) (by omega)
    simp only [spec_Little.l0]
    rw [if_pos (by omega), if_pos (by omega), wrap_eq (i + 1) (by omega) (by omega), i64_and255, show n % 256 % 256 = n % 256 by omega, ih]
    simp [lowL]
theorem specLittle (n many : Int) (k : Nat) (hk : 20 < k) : spec_Little.f k n many = some (leL n many) := by
  obtain ⟨k, rfl⟩ : ∃ m, k = m + 1 := ⟨k - 1, by omega⟩
  unfold spec_Little.f leL spec_l1In.f
  simp only [Option.bind_some]
  by_cases h : n < 0
  · rw [if_pos h, if_neg (by omega)]; simp [spec_Little.j0]
  · rw [if_neg h]
    by_cases h1 : many ≥ 1
    · rw [if_pos h1]
      simp only [Option.bind_some]
      by_cases h2 : many ≤ 8
      · rw [if_pos ⟨by omega, by omega, h2⟩]
        simp only [spec_Little.j0, h2, decide_true, Bool.not_true, Bool.false_eq_true, if_false]
        have := specLittle_l0 many.toNat n 0 many [] k (by omega) h2 (by omega) (by simp) (by omega) (by omega)
        simpa using this
      · rw [if_neg (by omega)]; simp [spec_Little.j0, h2]
    · rw [if_neg h1, if_neg (by omega)]; simp [spec_Little.j0]
theorem implLittle_l0 : ∀ (m : Nat) (n i many : Int) (acc : List Int) (k : Nat), 0 ≤ i → many ≤ 8 → many - i = m → acc.length ≤ 100 - m → m ≤ 8 → m < k →
    impl_Little.l0 k n acc many i = some (acc ++ lowL m n)
  | 0, n, i, many, acc, k, h0, h8, hd, hc, hm, hk => by
    obtain ⟨k, rfl⟩ : ∃ m, k = m + 1 := ⟨k - 1, by omega⟩
    simp only [impl_Little.l0]; rw [if_neg (by omega)]; simp [lowL]
  | m + 1, n, i, many, acc, k, h0, h8, hd, hc, hm, hk => by
    obtain ⟨k, rfl⟩ : ∃ m, k = m + 1 := ⟨k - 1, by omega⟩
    have ih := implLittle_l0 m (n / 256) (i + 1) many (acc ++ [n % 256]) k (by omega) h8 (by omega) (by simp; omega) (by omega) (by omega)
    simp only [impl_Little.l0]
    rw [if_pos (by omega), if_pos (by omega), wrap_eq (i + 1) (by omega) (by omega), ih]
    simp [lowL]
theorem implLittle (n many : Int) (k : Nat) (hk : 20 < k) : impl_Little.f k n many = some (leL n many) := by
  obtain ⟨k, rfl⟩ : ∃ m, k = m + 1 := ⟨k - 1, by omega⟩
  unfold impl_Little.f leL impl_in.f
  by_cases h : n < 0
  · rw [if_pos h, if_neg (by omega)]; simp [impl_Little.j0]
  · rw [if_neg h]
    by_cases h1 : many ≥ 1
    · rw [if_pos h1]
      simp only [Option.bind_some]
      by_cases h2 : many ≤ 8
      · rw [if_pos ⟨by omega, by omega, h2⟩]
        simp only [impl_Little.j0, h2, decide_true, Bool.not_true, Bool.false_eq_true, if_false]
        have := implLittle_l0 many.toNat n 0 many [] k (by omega) h2 (by omega) (by simp) (by omega) (by omega)
        simpa using this
      · rw [if_neg (by omega)]; simp [impl_Little.j0, h2]
    · rw [if_neg h1, if_neg (by omega)]; simp [impl_Little.j0]
end Go.Proofs.Ytlkgffeanjigjaa.B
