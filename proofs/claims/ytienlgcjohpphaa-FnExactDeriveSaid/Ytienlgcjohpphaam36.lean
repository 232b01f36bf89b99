import Derived.Laws.BitsAllLaws
import Derived.Test.Ytienlgcjohpphaam6
import Derived.Test.Ytienlgcjohpphaam7
import Derived.Test.Ytienlgcjohpphaam9
import Derived.Test.Ytienlgcjohpphaam23
/- Plain lemmas on lists and on numbers that do not wrap, used by all pure statements of this seat; no condition but those each lemma names. -/
namespace Go.Proofs.Ytienlgcjohpphaa.B
open Go.RowKit Go.Proofs.YtienlgcjohpphaaW.PrintWords Go.Proofs.YtienlgcjohpphaaW.PrintLast Go.Proofs.YtienlgcjohpphaaW.PrintMore

theorem wrap_eq (x : Int) (h0 : -9223372036854775808 ≤ x) (h1 : x ≤ 9223372036854775807) : wrap64 x = x := by
  unfold wrap64; omega
theorem rd_mid (pre : List Int) (a : Int) (rest : List Int) : rd (pre ++ a :: rest) (pre.length : Int) = a := by
  unfold rd; simp [List.getD_eq_getElem?_getD]
theorem set_mid (pre : List Int) (a b : Int) (rest : List Int) : (pre ++ b :: rest).set ((pre.length : Int).toNat) a = pre ++ a :: rest := by
  simp
theorem lt_mid {α : Type} (pre : List α) (a : α) (rest : List α) : (pre.length : Int) < (((pre ++ a :: rest).length : Nat) : Int) := by
  simp; omega
theorem nlt_end {α : Type} (pre : List α) : ¬ ((pre.length : Int) < (((pre ++ []).length : Nat) : Int)) := by
  simp
theorem wrap_step {α : Type} (pre : List α) (a : α) (h : pre.length ≤ 4611686018427387904) : wrap64 ((pre.length : Int) + 1) = (((pre ++ [a]).length : Nat) : Int) := by
  rw [wrap_eq _ (by omega) (by omega)]; simp
theorem snoc_app {α : Type} (pre : List α) (a : α) (rest : List α) : pre ++ a :: rest = (pre ++ [a]) ++ rest := by simp
theorem pre_nonneg {α : Type} (pre : List α) : 0 ≤ (pre.length : Int) := by omega

theorem rd_mid2 (pa pb : List Int) (a : Int) (rest : List Int) (h : pa.length = pb.length) : rd (pb ++ a :: rest) (pa.length : Int) = a := by
  rw [h]; exact rd_mid pb a rest
theorem lt_mid2 {α : Type} (pa pb : List α) (a : α) (rest : List α) (h : pa.length = pb.length) : (pa.length : Int) < (((pb ++ a :: rest).length : Nat) : Int) := by
  rw [h]; exact lt_mid pb a rest
theorem nlt_end2 {α : Type} (pa pb : List α) (h : pa.length = pb.length) : ¬ ((pa.length : Int) < (((pb ++ []).length : Nat) : Int)) := by
  rw [h]; exact nlt_end pb
/-- n numbers m, m + 1, .. as bytes. -/
def marks : Nat → Int → List Int
  | 0, _ => []
  | n + 1, m => m % 256 :: marks n (m + 1)
theorem marks_length : ∀ (n : Nat) (m : Int), (marks n m).length = n
  | 0, _ => rfl
  | n + 1, m => by simp [marks, marks_length n]
theorem marks_snoc : ∀ (n : Nat) (m : Int), marks n m ++ [(m + n) % 256] = marks (n + 1) m
  | 0, m => by simp [marks]
  | n + 1, m => by
    have h := marks_snoc n (m + 1)
    rw [show m + 1 + (n : Int) = m + ((n + 1 : Nat) : Int) from by omega] at h
    rw [marks, marks, List.cons_append, h]
/-- n numbers m, m + 1, .. -/
def counts : Nat → Int → List Int
  | 0, _ => []
  | n + 1, m => m :: counts n (m + 1)
theorem counts_length : ∀ (n : Nat) (m : Int), (counts n m).length = n
  | 0, _ => rfl
  | n + 1, m => by simp [counts, counts_length n]
theorem counts_snoc : ∀ (n : Nat) (m : Int), counts n m ++ [m + n] = counts (n + 1) m
  | 0, m => by simp [counts]
  | n + 1, m => by
    have h := counts_snoc n (m + 1)
    rw [show m + 1 + (n : Int) = m + ((n + 1 : Nat) : Int) from by omega] at h
    rw [counts, counts, List.cons_append, h]
end Go.Proofs.Ytienlgcjohpphaa.B
/- What masks and shifts of whole numbers are, as remainders; each for the numbers that it names. -/
namespace Go.Proofs.Ytienlgcjohpphaa.B
open Go.RowKit Go.Proofs.YtienlgcjohpphaaW.PrintWords Go.Proofs.YtienlgcjohpphaaW.PrintLast Go.Proofs.YtienlgcjohpphaaW.PrintMore

theorem i64_and_nat (x : Int) (m : Nat) (hm : m < 9223372036854775808) : Go.bits .and .i64 x (m : Int) = (((x % 18446744073709551616).toNat &&& m : Nat) : Int) := by
  have h1 : (BitVec.ofInt 64 x).toNat = (x % 18446744073709551616).toNat := by
    rw [BitVec.toNat_ofInt]; rfl
  have h2 : (BitVec.ofInt 64 (m : Int)).toNat = m := ofInt_u64 m (by omega)
  have hx : (x % 18446744073709551616).toNat &&& m ≤ m := Nat.and_le_right
  show IntKind.i64.wrap ((BitVec.ofInt 64 x &&& BitVec.ofInt 64 (m : Int)).toNat : Int) = _
  rw [BitVec.toNat_and, h1, h2, IntKind.wrap_i64]
  omega
theorem i64_and31 (x : Int) : Go.bits .and .i64 x 31 = x % 32 := by
  rw [show (31 : Int) = ((31 : Nat) : Int) from rfl, i64_and_nat x 31 (by omega), show (31 : Nat) = 2 ^ 5 - 1 from rfl, Nat.and_two_pow_sub_one_eq_mod]
  omega
theorem i64_and255 (x : Int) : Go.bits .and .i64 x 255 = x % 256 := by
  rw [show (255 : Int) = ((255 : Nat) : Int) from rfl, i64_and_nat x 255 (by omega), show (255 : Nat) = 2 ^ 8 - 1 from rfl, Nat.and_two_pow_sub_one_eq_mod]
  omega
theorem i64_and32 (x : Int) : Go.bits .and .i64 x 4294967295 = x % 4294967296 := by
  rw [show (4294967295 : Int) = ((4294967295 : Nat) : Int) from rfl, i64_and_nat x 4294967295 (by omega), show (4294967295 : Nat) = 2 ^ 32 - 1 from rfl, Nat.and_two_pow_sub_one_eq_mod]
  omega
theorem wf8 {l : List Int} (h : ∀ x ∈ l, (Lit.int .u8 x).wf = true) : ∀ x ∈ l, 0 ≤ x ∧ x < 256 := by
  intro x hx
  have := h x hx
  have m1 : IntKind.u8.min = 0 := by decide
  have m2 : IntKind.u8.max = 255 := by decide
  simp only [Lit.wf, m1, m2, Bool.and_eq_true, decide_eq_true_eq] at this
  omega
theorem wf64 {x : Int} (h : (Lit.int .i64 x).wf = true) : -9223372036854775808 ≤ x ∧ x ≤ 9223372036854775807 := by
  have m1 : IntKind.i64.min = -9223372036854775808 := by decide
  have m2 : IntKind.i64.max = 9223372036854775807 := by decide
  simp only [Lit.wf, m1, m2, Bool.and_eq_true, decide_eq_true_eq] at h
  omega
end Go.Proofs.Ytienlgcjohpphaa.B
/- What the laws' own helpers over bytes compute: copies, comparisons, marks; for lists of at most 2^40 numbers. -/
namespace Go.Proofs.Ytienlgcjohpphaa.B
open Go.RowKit Go.Proofs.YtienlgcjohpphaaW.PrintWords Go.Proofs.YtienlgcjohpphaaW.PrintLast Go.Proofs.YtienlgcjohpphaaW.PrintMore Go.Proofs.Ytienlgcjohpphaa.P

theorem toByteS_l0 : ∀ (rest rest' pre : List Int) (k : Nat), rest'.length = rest.length → pre.length + rest.length ≤ 1099511627776 → rest.length < k →
    laws_toByteS.l0 k (pre ++ rest) (pre ++ rest') (pre.length : Int) = some (pre ++ rest)
  | [], rest', pre, k, hl, hb, hk => by
    obtain ⟨k, rfl⟩ : ∃ m, k = m + 1 := ⟨k - 1, by omega⟩
    obtain rfl : rest' = [] := List.eq_nil_of_length_eq_zero (by simpa using hl)
    simp only [laws_toByteS.l0]; rw [if_neg (nlt_end pre)]
  | a :: rest, rest', pre, k, hl, hb, hk => by
    obtain ⟨k, rfl⟩ : ∃ m, k = m + 1 := ⟨k - 1, by simp at hk; omega⟩
    cases rest' with
    | nil => simp at hl
    | cons b rest' =>
      simp only [List.length_cons] at hl hb hk
      have ih := toByteS_l0 rest rest' (pre ++ [a]) k (by omega) (by simp; omega) (by omega)
      simp only [laws_toByteS.l0]
      rw [if_pos (lt_mid pre a rest), if_pos (pre_nonneg pre), if_pos (lt_mid pre b rest'), rd_mid, set_mid, wrap_step pre a (by omega), snoc_app pre a rest, snoc_app pre a rest']
      exact ih
theorem toByteS (l : List Int) (hn : l.length ≤ 1099511627776) (k : Nat) (hk : l.length < k) : laws_toByteS.f k l = some l := by
  unfold laws_toByteS.f
  rw [if_pos (by omega), if_pos (by simp; omega)]
  have h := toByteS_l0 l (List.replicate l.length 0) [] k (by simp) (by simpa using hn) hk
  simpa using h

theorem eqByteS_l0 : ∀ (a b pre : List Int) (k : Nat), a.length = b.length → pre.length + a.length ≤ 1099511627776 → a.length < k →
    laws_eqByteS.l0 k (pre ++ a) (pre ++ b) (pre.length : Int) = some (decide (a = b))
  | [], b, pre, k, hl, hb, hk => by
    obtain ⟨k, rfl⟩ : ∃ m, k = m + 1 := ⟨k - 1, by omega⟩
    obtain rfl : b = [] := List.eq_nil_of_length_eq_zero (by simpa using hl.symm)
    simp only [laws_eqByteS.l0]; rw [if_neg (nlt_end pre)]; simp
  | x :: a, b, pre, k, hl, hb, hk => by
    obtain ⟨k, rfl⟩ : ∃ m, k = m + 1 := ⟨k - 1, by simp at hk; omega⟩
    cases b with
    | nil => simp at hl
    | cons y b =>
      simp only [List.length_cons] at hl hb hk
      simp only [laws_eqByteS.l0]
      rw [if_pos (lt_mid pre x a), if_pos (pre_nonneg pre), if_pos (lt_mid pre y b), rd_mid, rd_mid]
      by_cases e : x = y
      · subst e
        rw [if_pos rfl, wrap_step pre x (by omega), snoc_app pre x a, snoc_app pre x b, eqByteS_l0 a b (pre ++ [x]) k (by omega) (by simp; omega) (by omega)]
        simp
      · rw [if_neg e]; simp [e]
theorem eqByteS (a b : List Int) (hn : a.length ≤ 1099511627776) (k : Nat) (hk : a.length < k) : laws_eqByteS.f k a b = some (decide (a = b)) := by
  unfold laws_eqByteS.f
  by_cases e : a.length = b.length
  · rw [if_pos (by omega)]
    have h := eqByteS_l0 a b [] k e (by simpa using hn) hk
    simpa using h
  · rw [if_neg (by omega)]
    have : a ≠ b := fun h => e (by rw [h])
    simp [this]
theorem eqByteS_same (a : List Int) (hn : a.length ≤ 1099511627776) (k : Nat) (hk : a.length < k) : laws_eqByteS.f k a a = some true := by
  rw [eqByteS a a hn k hk]; simp

theorem markByteS_l0 : ∀ (rest pre : List Int) (m : Int) (k : Nat), 0 ≤ m → m + rest.length ≤ 4611686018427387904 → pre.length + rest.length ≤ 1099511627776 → rest.length < k →
    laws_markByteS.l0 k (pre ++ rest) m (pre.length : Int) = some (m + rest.length, pre ++ marks rest.length m)
  | [], pre, m, k, h0, hm, hb, hk => by
    obtain ⟨k, rfl⟩ : ∃ m, k = m + 1 := ⟨k - 1, by omega⟩
    simp only [laws_markByteS.l0]; rw [if_neg (nlt_end pre)]; simp [marks]
  | a :: rest, pre, m, k, h0, hm, hb, hk => by
    obtain ⟨k, rfl⟩ : ∃ m, k = m + 1 := ⟨k - 1, by simp at hk; omega⟩
    simp only [List.length_cons] at hm hb hk
    have ih := markByteS_l0 rest (pre ++ [m % 256]) (m + 1) k (by omega) (by omega) (by simp; omega) (by omega)
    simp only [laws_markByteS.l0]
    rw [if_pos (lt_mid pre a rest), if_pos (pre_nonneg pre), set_mid, wrap_step pre (m % 256) (by omega), wrap_eq (m + 1) (by omega) (by omega), snoc_app pre (m % 256) rest, ih]
    simp only [List.length_cons, marks, List.append_assoc, List.singleton_append]
    congr 2
    omega
theorem markByteS (l : List Int) (m : Int) (h0 : 0 ≤ m) (hm : m ≤ 1152921504606846976) (hn : l.length ≤ 1099511627776) (k : Nat) (hk : l.length < k) :
    laws_markByteS.f k l m = some (m + l.length, marks l.length m) := by
  unfold laws_markByteS.f
  have h := markByteS_l0 l [] m k h0 (by omega) (by simpa using hn) hk
  simpa using h

theorem heldByteS_l0 : ∀ (n : Nat) (pre : List Int) (m : Int) (k : Nat), 0 ≤ m → m + n ≤ 4611686018427387904 → pre.length + n ≤ 1099511627776 → n < k →
    laws_heldByteS.l0 k (pre ++ marks n m) m (pre.length : Int) = some (m + n)
  | 0, pre, m, k, h0, hm, hb, hk => by
    obtain ⟨k, rfl⟩ : ∃ m, k = m + 1 := ⟨k - 1, by omega⟩
    rw [show marks 0 m = [] from rfl]; simp only [laws_heldByteS.l0]; rw [if_neg (nlt_end pre)]; simp
  | n + 1, pre, m, k, h0, hm, hb, hk => by
    obtain ⟨k, rfl⟩ : ∃ m, k = m + 1 := ⟨k - 1, by omega⟩
    have ih := heldByteS_l0 n (pre ++ [m % 256]) (m + 1) k (by omega) (by omega) (by simp; omega) (by omega)
    rw [show marks (n + 1) m = m % 256 :: marks n (m + 1) from rfl]
    simp only [laws_heldByteS.l0]
    rw [if_pos (lt_mid pre _ _), if_pos (pre_nonneg pre), rd_mid, if_pos rfl, wrap_step pre (m % 256) (by omega), wrap_eq (m + 1) (by omega) (by omega), snoc_app pre (m % 256) (marks n (m + 1)), ih]
    congr 1
    omega
theorem heldByteS (n : Nat) (m : Int) (h0 : 0 ≤ m) (hm : m ≤ 1152921504606846976) (hn : n ≤ 1099511627776) (k : Nat) (hk : n < k) :
    laws_heldByteS.f k (marks n m) m = some (m + n) := by
  unfold laws_heldByteS.f
  have h := heldByteS_l0 n [] m k h0 (by omega) (by simpa using hn) hk
  simpa using h
end Go.Proofs.Ytienlgcjohpphaa.B
/- Words, by the program and by the reference: four bytes a word; for lists of at most 2^40 bytes. -/
namespace Go.Proofs.Ytienlgcjohpphaa.B
open Go.RowKit Go.Proofs.Ytienlgcjohpphaa.P Go.Proofs.YtienlgcjohpphaaW.PrintWords Go.Proofs.YtienlgcjohpphaaW.PrintLast Go.Proofs.YtienlgcjohpphaaW.PrintMore
def w4 (a b c d : Int) : Int := Go.bits .or .i64 (Go.bits .or .i64 (Go.bits .or .i64 (wrap64 ((wrap64 a) * 16777216)) (wrap64 ((wrap64 b) * 65536))) (wrap64 ((wrap64 c) * 256))) (wrap64 d)
def word4 (big : Bool) (a b c d : Int) : Int := if big = true then w4 a b c d else w4 d c b a
/-- The words of a list of bytes. -/
def wordsL (big : Bool) : List Int → List Int
  | a :: b :: c :: d :: r => word4 big a b c d :: wordsL big r
  | _ => []
theorem wordsL_length (big : Bool) : ∀ l : List Int, (wordsL big l).length = l.length / 4
  | a :: b :: c :: d :: r => by simp [wordsL, wordsL_length big r]; omega
  | [] => rfl
  | [a] => by simp [wordsL]
  | [a, b] => by simp [wordsL]
  | [a, b, c] => by simp [wordsL]
theorem rd_at (pre l : List Int) (i : Nat) (j : Int) (h : j = (pre.length : Int) + i) : rd (pre ++ l) j = l.getD i 0 := by
  subst h
  unfold rd
  rw [show ((pre.length : Int) + i).toNat = pre.length + i from by omega]
  rw [List.getD_eq_getElem?_getD, List.getD_eq_getElem?_getD, List.getElem?_append_right (by omega), show pre.length + i - pre.length = i from by omega]
theorem specWords_l0 (big : Bool) : ∀ (rest pre acc : List Int) (k : Nat), pre.length + rest.length ≤ 1099511627776 → acc.length + rest.length ≤ 4398046511104 → rest.length < k →
    spec_Words.l0 k (pre ++ rest) big acc (pre.length : Int) = some (acc ++ wordsL big rest)
  | a :: b :: c :: d :: r, pre, acc, k, hb, hc, hk => by
    obtain ⟨k, rfl⟩ : ∃ m, k = m + 1 := ⟨k - 1, by omega⟩
    simp only [List.length_cons] at hb hc hk
    have ih := specWords_l0 big r (pre ++ [a, b, c, d]) (acc ++ [word4 big a b c d]) k (by simp; omega) (by simp; omega) (by omega)
    have hl : ((pre ++ a :: b :: c :: d :: r).length : Int) = pre.length + r.length + 4 := by simp; omega
    have e1 : wrap64 ((pre.length : Int) + 1) = pre.length + 1 := wrap_eq _ (by omega) (by omega)
    have e2 : wrap64 ((pre.length : Int) + 2) = pre.length + 2 := wrap_eq _ (by omega) (by omega)
    have e3 : wrap64 ((pre.length : Int) + 3) = pre.length + 3 := wrap_eq _ (by omega) (by omega)
    have e4 : wrap64 ((pre.length : Int) + 4) = ((pre ++ [a, b, c, d]).length : Int) := by rw [wrap_eq _ (by omega) (by omega)]; simp
    have r0 : rd (pre ++ a :: b :: c :: d :: r) (pre.length : Int) = a := rd_at _ _ 0 _ (by omega)
    have r1 : rd (pre ++ a :: b :: c :: d :: r) ((pre.length : Int) + 1) = b := rd_at _ _ 1 _ (by omega)
    have r2 : rd (pre ++ a :: b :: c :: d :: r) ((pre.length : Int) + 2) = c := rd_at _ _ 2 _ (by omega)
    have r3 : rd (pre ++ a :: b :: c :: d :: r) ((pre.length : Int) + 3) = d := rd_at _ _ 3 _ (by omega)
    have hx : pre ++ a :: b :: c :: d :: r = (pre ++ [a, b, c, d]) ++ r := by simp
    simp only [spec_Words.l0, e1, e2, e3, r0, r1, r2, r3]
    rw [hl]
    rw [if_pos (by omega)]
    have hy : (acc ++ [word4 big a b c d]) ++ wordsL big r = acc ++ wordsL big (a :: b :: c :: d :: r) := by simp [wordsL]
    rw [← hy, ← ih, ← e4, ← hx]
    cases big
    · rw [if_neg (by decide), if_pos (by omega), if_pos (by omega), if_pos (by omega), if_pos (by omega), if_pos (by omega), if_pos (by omega), if_pos (by omega), if_pos (by omega)]
      rfl
    · rw [if_pos rfl, if_pos (by omega), if_pos (by omega), if_pos (by omega), if_pos (by omega), if_pos (by omega), if_pos (by omega), if_pos (by omega), if_pos (by omega)]
      rfl
  | [], pre, acc, k, hb, hc, hk => by
    obtain ⟨k, rfl⟩ : ∃ m, k = m + 1 := ⟨k - 1, by omega⟩
    simp only [spec_Words.l0]; rw [wrap_eq _ (by omega) (by simp at hb; omega), if_neg (by simp; omega)]; simp [wordsL]
  | [a], pre, acc, k, hb, hc, hk => by
    obtain ⟨k, rfl⟩ : ∃ m, k = m + 1 := ⟨k - 1, by omega⟩
    simp only [spec_Words.l0]; rw [wrap_eq _ (by omega) (by simp at hb; omega), if_neg (by simp)]; simp [wordsL]
  | [a, b], pre, acc, k, hb, hc, hk => by
    obtain ⟨k, rfl⟩ : ∃ m, k = m + 1 := ⟨k - 1, by omega⟩
    simp only [spec_Words.l0]; rw [wrap_eq _ (by omega) (by simp at hb; omega), if_neg (by simp)]; simp [wordsL]
  | [a, b, c], pre, acc, k, hb, hc, hk => by
    obtain ⟨k, rfl⟩ : ∃ m, k = m + 1 := ⟨k - 1, by omega⟩
    simp only [spec_Words.l0]; rw [wrap_eq _ (by omega) (by simp at hb; omega), if_neg (by simp)]; simp [wordsL]
theorem specWords (l : List Int) (big : Bool) (hn : l.length ≤ 1099511627776) (k : Nat) (hk : l.length < k) : spec_Words.f k l big = some (wordsL big l) := by
  have h := specWords_l0 big l [] [] k (by simpa using hn) (by simp; omega) hk
  simpa [spec_Words.f] using h
theorem wordOf4 (big : Bool) (a b c d : Int) : impl_wordOf.f [a, b, c, d] big = some (word4 big a b c d) := by
  cases big <;> rfl
theorem implWords_l0 (big : Bool) : ∀ (rest pre acc : List Int) (k : Nat), pre.length + rest.length ≤ 1099511627776 → acc.length + rest.length ≤ 4398046511104 → rest.length < k →
    impl_Words.l0 k (pre ++ rest) big acc (pre.length : Int) = some (acc ++ wordsL big rest)
  | a :: b :: c :: d :: r, pre, acc, k, hb, hc, hk => by
    obtain ⟨k, rfl⟩ : ∃ m, k = m + 1 := ⟨k - 1, by omega⟩
    simp only [List.length_cons] at hb hc hk
    have ih := implWords_l0 big r (pre ++ [a, b, c, d]) (acc ++ [word4 big a b c d]) k (by simp; omega) (by simp; omega) (by omega)
    have hl : ((pre ++ a :: b :: c :: d :: r).length : Int) = pre.length + r.length + 4 := by simp; omega
    have e4 : wrap64 ((pre.length : Int) + 4) = pre.length + 4 := wrap_eq _ (by omega) (by omega)
    have e5 : (pre.length : Int) + 4 = ((pre ++ [a, b, c, d]).length : Int) := by simp
    have hx : pre ++ a :: b :: c :: d :: r = (pre ++ [a, b, c, d]) ++ r := by simp
    have ht : ((pre ++ a :: b :: c :: d :: r).take ((pre.length : Int) + 4).toNat).drop (pre.length : Int).toNat = [a, b, c, d] := by
      rw [show ((pre.length : Int) + 4).toNat = pre.length + 4 from by omega]
      simp [List.take_append]
    have hy : (acc ++ [word4 big a b c d]) ++ wordsL big r = acc ++ wordsL big (a :: b :: c :: d :: r) := by simp [wordsL]
    simp only [impl_Words.l0, e4, ht, wordOf4, Option.bind_some]
    rw [hl, if_pos (by omega), if_pos (by omega), if_pos (by omega), if_pos (by omega), ← hy, ← ih, e5, ← hx]
  | [], pre, acc, k, hb, hc, hk => by
    obtain ⟨k, rfl⟩ : ∃ m, k = m + 1 := ⟨k - 1, by omega⟩
    simp only [impl_Words.l0]; rw [wrap_eq _ (by omega) (by simp at hb; omega), if_neg (by simp <;> omega)]; simp [wordsL]
  | [a], pre, acc, k, hb, hc, hk => by
    obtain ⟨k, rfl⟩ : ∃ m, k = m + 1 := ⟨k - 1, by omega⟩
    simp only [impl_Words.l0]; rw [wrap_eq _ (by omega) (by simp at hb; omega), if_neg (by simp <;> omega)]; simp [wordsL]
  | [a, b], pre, acc, k, hb, hc, hk => by
    obtain ⟨k, rfl⟩ : ∃ m, k = m + 1 := ⟨k - 1, by omega⟩
    simp only [impl_Words.l0]; rw [wrap_eq _ (by omega) (by simp at hb; omega), if_neg (by simp <;> omega)]; simp [wordsL]
  | [a, b, c], pre, acc, k, hb, hc, hk => by
    obtain ⟨k, rfl⟩ : ∃ m, k = m + 1 := ⟨k - 1, by omega⟩
    simp only [impl_Words.l0]; rw [wrap_eq _ (by omega) (by simp at hb; omega), if_neg (by simp <;> omega)]; simp [wordsL]
theorem implWords (l : List Int) (big : Bool) (hn : l.length ≤ 1099511627776) (k : Nat) (hk : l.length < k) : impl_Words.f k l big = some (wordsL big l) := by
  have h := implWords_l0 big l [] [] k (by simpa using hn) (by simp; omega) hk
  simpa [impl_Words.f] using h
end Go.Proofs.Ytienlgcjohpphaa.B
