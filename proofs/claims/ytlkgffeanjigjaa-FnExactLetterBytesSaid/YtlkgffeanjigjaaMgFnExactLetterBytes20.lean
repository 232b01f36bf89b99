import Derived.Test.YtlkgffeanjigjaaMgFnExactLetterBytes19
import Derived.Test.YtlkgffeanjigjaaMgFnExactLetterBytes4
import Derived.Test.YtlkgffeanjigjaaMgFnExactLetterBytes5
import Derived.Test.YtlkgffeanjigjaaMgFnExactLetterBytes11
import Derived.Test.YtlkgffeanjigjaaMgFnExactLetterBytes3
import Derived.Test.YtlkgffeanjigjaaMgFnExactLetterBytes6
import Derived.Test.YtlkgffeanjigjaaMgFnExactLetterBytes14
import Derived.Test.YtlkgffeanjigjaaMgFnExactLetterBytes7
import Derived.Test.YtlkgffeanjigjaaMgFnExactLetterBytes15
import Derived.Test.YtlkgffeanjigjaaMgFnExactLetterBytes13
import Derived.Test.YtlkgffeanjigjaaMgFnExactLetterBytes8
import Derived.Test.YtlkgffeanjigjaaMgFnExactLetterBytes9
import Derived.Test.YtlkgffeanjigjaaMgFnExactLetterBytes17
/- What the laws' own helpers over letters compute: sizes, copies, comparisons; for lists of at most 2^40 bytes (sizes: of any length). -/
namespace Go.Proofs.Ytlkgffeanjigjaa.B
open Go.RowKit Go.Proofs.Ytlkgffeanjigjaa.P Go.Proofs.YtlkgffeanjigjaaW.PrintWords Go.Proofs.YtlkgffeanjigjaaW.PrintLast Go.Proofs.YtlkgffeanjigjaaW.PrintMore
theorem szByteS (l : List Int) (a : Int) (hl : l.length ≤ maxLen) (h0 : 0 ≤ a) (h1 : a ≤ 1048576) : laws_szByteS.f l a = some (if (l.length : Int) > a then -1 else a - l.length) := by
  unfold laws_szByteS.f
  unfold maxLen at hl
  rw [wrap_eq _ (by omega) (by omega)]
  by_cases h : (l.length : Int) > a
  · rw [if_pos (by omega), if_pos h]
  · rw [if_neg (by omega), if_neg h]
theorem szLetter (e : Int) (l m : List Int) (hl : l.length ≤ maxLen) (hm : m.length ≤ maxLen) : (laws_szLetter.f e l m 1048576 = some (-1)) ∨ (laws_szLetter.f e l m 1048576 = some (1048576 - (l.length : Int) - (m.length : Int)) ∧ (l.length : Int) + (m.length : Int) ≤ 1048576) := by
  unfold laws_szLetter.f
  rw [szByteS l _ hl (by omega) (by omega)]
  simp only [Option.bind_some]
  by_cases h : (l.length : Int) > 1048576
  · rw [if_pos h]; left; rfl
  · rw [if_neg h, if_neg (by omega), szByteS m _ hm (by omega) (by omega)]
    simp only [Option.bind_some]
    by_cases h2 : (m.length : Int) > 1048576 - (l.length : Int)
    · rw [if_pos h2]; left; rfl
    · rw [if_neg h2, if_neg (by omega)]; right; exact ⟨rfl, by omega⟩
theorem toLetter (e : Int) (l m : List Int) (hl : l.length ≤ 1099511627776) (hm : m.length ≤ 1099511627776) (k : Nat) (hk : l.length < k) (hk2 : m.length < k) : laws_toLetter.f k e l m = some (e, l, m) := by
  unfold laws_toLetter.f
  simp (disch := omega) only [toByteS, Option.bind_some]
theorem eqLetter_same (e : Int) (l m : List Int) (hl : l.length ≤ 1099511627776) (hm : m.length ≤ 1099511627776) (k : Nat) (hk : l.length < k) (hk2 : m.length < k) : laws_eqLetter.f k e l m e l m = some true := by
  unfold laws_eqLetter.f
  simp (disch := omega) only [eqByteS_same, Option.bind_some, if_true]
end Go.Proofs.Ytlkgffeanjigjaa.B
/- Little, by the program and by the reference: the low bytes of a number, the lowest first; for every number and every count. -/
namespace Go.Proofs.Ytlkgffeanjigjaa.B
open Go.RowKit Go.Proofs.Ytlkgffeanjigjaa.P Go.Proofs.YtlkgffeanjigjaaW.PrintWords Go.Proofs.YtlkgffeanjigjaaW.PrintLast Go.Proofs.YtlkgffeanjigjaaW.PrintMore
/-- So many low bytes, the lowest first. -/
def lowL : Nat → Int → List Int
  | 0, _ => []
  | m + 1, n => n % 256 :: lowL m (n / 256)
/-- What Little answers. -/
def leL (n many : Int) : List Int := if 0 ≤ n ∧ 1 ≤ many ∧ many ≤ 8 then lowL many.toNat n else []
theorem lowL_length : ∀ (m : Nat) (n : Int), (lowL m n).length = m
  | 0, _ => rfl
  | m + 1, n => by simp [lowL, lowL_length m]
theorem leL_length (n many : Int) : (leL n many).length ≤ 8 := by
  unfold leL; split
  · rw [lowL_length]; omega
  · simp
theorem specLittle_l0 : ∀ (m : Nat) (n i many : Int) (acc : List Int) (k : Nat), 0 ≤ i → many ≤ 8 → many - i = m → acc.length ≤ 100 - m → m ≤ 8 → m < k →
    spec_Little.l0 k n many acc i = some (acc ++ lowL m n)
  | 0, n, i, many, acc, k, h0, h8, hd, hc, hm, hk => by
    obtain ⟨k, rfl⟩ : ∃ m, k = m + 1 := ⟨k - 1, by omega⟩
    simp only [spec_Little.l0]; rw [if_neg (by omega)]; simp [lowL]
  | m + 1, n, i, many, acc, k, h0, h8, hd, hc, hm, hk => by
    obtain ⟨k, rfl⟩ : ∃ m, k = m + 1 := ⟨k - 1, by omega⟩
    have ih := specLittle_l0 m (n / 256) (i + 1) many (acc ++ [n % 256]) k (by omega) h8 (by omega) (by simp; omega) (by omega) (by omega)
    simp only [spec_Little.l0]
    rw [if_pos (by omega), if_pos (by omega), wrap_eq (i + 1) (by omega) (by omega), i64_and255, show n % 256 % 256 = n % 256 by omega, ih]
    simp [lowL]
theorem specLittle (n many : Int) (k : Nat) (hk : 20 < k) : spec_Little.f k n many = some (leL n many) := by
  obtain ⟨k, rfl⟩ : ∃ m, k = m + 1 := ⟨k - 1, by omega⟩
  unfold spec_Little.f leL spec_l1In.f
  simp only [Option.bind_some]
  by_cases h : n < 0
  · rw [if_pos h, if_neg (by omega)]; simp [spec_Little.j0]
  · rw [if_neg h]
    by_cases h1 : many ≥ 1
    · rw [if_pos h1]
      simp only [Option.bind_some]
      by_cases h2 : many ≤ 8
      · rw [if_pos ⟨by omega, by omega, h2⟩]
        simp only [spec_Little.j0, h2, decide_true, Bool.not_true, Bool.false_eq_true, if_false]
        have := specLittle_l0 many.toNat n 0 many [] k (by omega) h2 (by omega) (by simp) (by omega) (by omega)
        simpa using this
      · rw [if_neg (by omega)]; simp [spec_Little.j0, h2]
    · rw [if_neg h1, if_neg (by omega)]; simp [spec_Little.j0]
theorem implLittle_l0 : ∀ (m : Nat) (n i many : Int) (acc : List Int) (k : Nat), 0 ≤ i → many ≤ 8 → many - i = m → acc.length ≤ 100 - m → m ≤ 8 → m < k →
    impl_Little.l0 k n acc many i = some (acc ++ lowL m n)
  | 0, n, i, many, acc, k, h0, h8, hd, hc, hm, hk => by
    obtain ⟨k, rfl⟩ : ∃ m, k = m + 1 := ⟨k - 1, by omega⟩
    simp only [impl_Little.l0]; rw [if_neg (by omega)]; simp [lowL]
  | m + 1, n, i, many, acc, k, h0, h8, hd, hc, hm, hk => by
    obtain ⟨k, rfl⟩ : ∃ m, k = m + 1 := ⟨k - 1, by omega⟩
    have ih := implLittle_l0 m (n / 256) (i + 1) many (acc ++ [n % 256]) k (by omega) h8 (by omega) (by simp; omega) (by omega) (by omega)
    simp only [impl_Little.l0]
    rw [if_pos (by omega), if_pos (by omega), wrap_eq (i + 1) (by omega) (by omega), ih]
    simp [lowL]
theorem implLittle (n many : Int) (k : Nat) (hk : 20 < k) : impl_Little.f k n many = some (leL n many) := by
  obtain ⟨k, rfl⟩ : ∃ m, k = m + 1 := ⟨k - 1, by omega⟩
  unfold impl_Little.f leL impl_in.f
  by_cases h : n < 0
  · rw [if_pos h, if_neg (by omega)]; simp [impl_Little.j0]
  · rw [if_neg h]
    by_cases h1 : many ≥ 1
    · rw [if_pos h1]
      simp only [Option.bind_some]
      by_cases h2 : many ≤ 8
      · rw [if_pos ⟨by omega, by omega, h2⟩]
        simp only [impl_Little.j0, h2, decide_true, Bool.not_true, Bool.false_eq_true, if_false]
        have := implLittle_l0 many.toNat n 0 many [] k (by omega) h2 (by omega) (by simp) (by omega) (by omega)
        simpa using this
      · rw [if_neg (by omega)]; simp [impl_Little.j0, h2]
    · rw [if_neg h1, if_neg (by omega)]; simp [impl_Little.j0]
end Go.Proofs.Ytlkgffeanjigjaa.B
/- Great, by the program and by the reference: Little, the other way round; for every number and every count. -/
namespace Go.Proofs.Ytlkgffeanjigjaa.B
open Go.RowKit Go.Proofs.Ytlkgffeanjigjaa.P Go.Proofs.YtlkgffeanjigjaaW.PrintWords Go.Proofs.YtlkgffeanjigjaaW.PrintLast Go.Proofs.YtlkgffeanjigjaaW.PrintMore
theorem specGreat_l0 : ∀ (n : Nat) (xs acc : List Int) (k : Nat), n ≤ xs.length → xs.length ≤ 100 → acc.length + n ≤ 200 → n < k →
    spec_Great.l0 k xs acc ((n : Int) - 1) = some (acc ++ (xs.take n).reverse)
  | 0, xs, acc, k, hn, hx, hc, hk => by
    obtain ⟨k, rfl⟩ : ∃ m, k = m + 1 := ⟨k - 1, by omega⟩
    simp only [spec_Great.l0]; rw [if_neg (by omega)]; simp
  | n + 1, xs, acc, k, hn, hx, hc, hk => by
    obtain ⟨k, rfl⟩ : ∃ m, k = m + 1 := ⟨k - 1, by omega⟩
    have ih := specGreat_l0 n xs (acc ++ [xs.getD n 0]) k (by omega) hx (by simp; omega) (by omega)
    have e1 : ((n + 1 : Nat) : Int) - 1 = (n : Int) := by omega
    have e2 : rd xs (n : Int) = xs.getD n 0 := by simp [rd]
    simp only [spec_Great.l0]
    rw [e1, if_pos (by omega), if_pos (by omega), if_pos (by omega), if_pos (by omega), e2, wrap_eq ((n : Int) - 1) (by omega) (by omega), ih]
    have h3 : xs.take (n + 1) = xs.take n ++ [xs.getD n 0] := by
      rw [List.take_succ_eq_append_getElem (by omega)]
      simp [List.getD_eq_getElem?_getD, List.getElem?_eq_getElem (show n < xs.length by omega)]
    rw [h3]; simp
theorem specGreat (n many : Int) (k : Nat) (hk : 40 < k) : spec_Great.f k n many = some (leL n many).reverse := by
  have hl := leL_length n many
  unfold spec_Great.f
  rw [specLittle n many k (by omega)]
  simp only [Option.bind_some]
  rw [wrap_eq _ (by omega) (by omega), specGreat_l0 _ _ [] k (Nat.le_refl _) (by omega) (by simp; omega) (by omega)]
  simp
theorem turned_l0 : ∀ (rest pre junk b : List Int) (n : Int) (k : Nat), b = pre ++ rest → n = (b.length : Int) → junk.length = rest.length → b.length ≤ 1099511627776 → rest.length < k →
    impl_turned.l0 k b (junk ++ pre.reverse) b n (pre.length : Int) = some b.reverse
  | [], pre, junk, b, n, k, hb, hn, hj, hc, hk => by
    obtain ⟨k, rfl⟩ : ∃ m, k = m + 1 := ⟨k - 1, by omega⟩
    obtain rfl : junk = [] := List.eq_nil_of_length_eq_zero hj
    subst hb
    simp only [impl_turned.l0]; rw [if_neg (by rw [hn]; exact nlt_end pre)]; simp
  | a :: rest, pre, junk, b, n, k, hb, hn, hj, hc, hk => by
    obtain ⟨k, rfl⟩ : ∃ m, k = m + 1 := ⟨k - 1, by omega⟩
    simp only [List.length_cons] at hk hj
    have hne : junk ≠ [] := by intro h; rw [h] at hj; simp at hj
    obtain ⟨junk1, z, rfl⟩ : ∃ j z, junk = j ++ [z] := ⟨junk.dropLast, junk.getLast hne, (List.dropLast_concat_getLast hne).symm⟩
    have hj1 : junk1.length = rest.length := by simp at hj; omega
    have hbl : b.length = pre.length + rest.length + 1 := by rw [hb]; simp; omega
    have ih := turned_l0 rest (pre ++ [a]) junk1 b n k (by rw [hb]; simp) hn hj1 hc (by omega)
    simp only [impl_turned.l0]
    have e1 : wrap64 ((b.length : Int) - 1) = (b.length : Int) - 1 := wrap_eq _ (by omega) (by omega)
    have e2 : wrap64 ((b.length : Int) - 1 - (pre.length : Int)) = (junk1.length : Int) := by rw [wrap_eq _ (by omega) (by omega)]; omega
    have e3 : rd b (pre.length : Int) = a := by rw [hb]; exact rd_mid pre a rest
    have e4 : (junk1 ++ [z] ++ pre.reverse).set ((junk1.length : Int).toNat) a = junk1 ++ (pre ++ [a]).reverse := by simp
    rw [e1, e2, e3, e4, if_pos (by omega), if_pos (by omega), if_pos (by omega), if_pos (by omega), if_pos (by simp; omega), wrap_step pre a (by omega)]
    exact ih
theorem turned (b : List Int) (hc : b.length ≤ 1099511627776) (k : Nat) (hk : b.length < k) : impl_turned.f k b = some b.reverse := by
  unfold impl_turned.f
  rw [if_pos (by omega), if_pos (by simp; omega)]
  have h := turned_l0 b [] (List.replicate b.length 0) b _ k rfl rfl (by simp) hc hk
  simpa using h
theorem implGreat (n many : Int) (k : Nat) (hk : 40 < k) : impl_Great.f k n many = some (leL n many).reverse := by
  have hl := leL_length n many
  unfold impl_Great.f
  rw [implLittle n many k (by omega)]
  simp only [Option.bind_some]
  rw [turned _ (by omega) k (by omega)]
  simp
end Go.Proofs.Ytlkgffeanjigjaa.B
/- The parts, one behind the other; for at most 2^47 parts and bytes. -/
namespace Go.Proofs.Ytlkgffeanjigjaa.B
open Go.RowKit Go.Proofs.Ytlkgffeanjigjaa.P Go.Proofs.YtlkgffeanjigjaaW.PrintWords Go.Proofs.YtlkgffeanjigjaaW.PrintLast Go.Proofs.YtlkgffeanjigjaaW.PrintMore
theorem joined (ls : List (List Int)) (h1 : ls.flatten.length ≤ 140737488355328) (h2 : ls.length ≤ 140737488355328) : impl_joined.f ls = some ls.flatten := by
  unfold impl_joined.f bytes_Join.f
  rw [if_pos ⟨rfl, h1, h2⟩]; rfl
theorem joined2 (a b : List Int) (h : a.length + b.length ≤ 140737488355328) : impl_joined.f [a, b] = some (a ++ b) := by
  rw [joined _ (by simp; omega) (by simp)]; simp
theorem joined3 (a b c : List Int) (h : a.length + b.length + c.length ≤ 140737488355328) : impl_joined.f [a, b, c] = some (a ++ b ++ c) := by
  rw [joined _ (by simp; omega) (by simp)]; simp
theorem joined4 (a b c d : List Int) (h : a.length + b.length + c.length + d.length ≤ 140737488355328) : impl_joined.f [a, b, c, d] = some (a ++ b ++ c ++ d) := by
  rw [joined _ (by simp; omega) (by simp)]; simp
end Go.Proofs.Ytlkgffeanjigjaa.B
/- 'from lo to hi', by the program and by the reference; for every three numbers. -/
namespace Go.Proofs.Ytlkgffeanjigjaa.B
open Go.RowKit Go.Proofs.Ytlkgffeanjigjaa.P Go.Proofs.YtlkgffeanjigjaaW.PrintWords Go.Proofs.YtlkgffeanjigjaaW.PrintLast Go.Proofs.YtlkgffeanjigjaaW.PrintMore
theorem specIn (a b c : Int) : spec_l1In.f a b c = some (decide (b ≤ a ∧ a ≤ c)) := by
  unfold spec_l1In.f
  by_cases h : a ≥ b
  · rw [if_pos h]; simp [show b ≤ a from h]
  · rw [if_neg h]; simp [show ¬ b ≤ a from h]
theorem implIn (a b c : Int) : impl_in.f a b c = some (decide (b ≤ a ∧ a ≤ c)) := specIn a b c
end Go.Proofs.Ytlkgffeanjigjaa.B
/- LetterOk, by the program and by the reference: one answer; for every letter. -/
namespace Go.Proofs.Ytlkgffeanjigjaa.B
open Go.RowKit Go.Proofs.Ytlkgffeanjigjaa.P Go.Proofs.YtlkgffeanjigjaaW.PrintWords Go.Proofs.YtlkgffeanjigjaaW.PrintLast Go.Proofs.YtlkgffeanjigjaaW.PrintMore
def letterOk (e : Int) (l m : List Int) : Bool := decide (0 ≤ e ∧ e ≤ 65535 ∧ l.length = 32 ∧ 16 ≤ m.length ∧ m.length ≤ 1516)
theorem specLetterOk (e : Int) (l m : List Int) : spec_LetterOk.f e l m = some (letterOk e l m) := by
  unfold spec_LetterOk.f letterOk
  simp only [specIn, Option.bind_some, decide_eq_true_eq]
  by_cases h1 : 0 ≤ e ∧ e ≤ 65535
  · rw [if_pos h1]
    by_cases h2 : (l.length : Int) = 32
    · rw [if_pos h2]; congr 1; apply decide_eq_decide.2; omega
    · rw [if_neg h2]; congr 1; symm; apply decide_eq_false; omega
  · rw [if_neg h1]; congr 1; symm; apply decide_eq_false; omega
theorem implLetterOk (e : Int) (l m : List Int) : impl_LetterOk.f e l m = some (letterOk e l m) := by
  rw [← specLetterOk e l m]; rfl
end Go.Proofs.Ytlkgffeanjigjaa.B
/- LetterBytes, by the program and by the reference: one list; for every letter of at most 2^40 bytes a part. -/
namespace Go.Proofs.Ytlkgffeanjigjaa.B
open Go.RowKit Go.Proofs.Ytlkgffeanjigjaa.P Go.Proofs.YtlkgffeanjigjaaW.PrintWords Go.Proofs.YtlkgffeanjigjaaW.PrintLast Go.Proofs.YtlkgffeanjigjaaW.PrintMore
def headL (e : Int) (l : List Int) : List Int := [1] ++ (leL e 2).reverse ++ l
def letterBytesL (e : Int) (l m : List Int) : List Int := if letterOk e l m = true then headL e l ++ m else []
theorem headL_length (e : Int) (l : List Int) : (headL e l).length ≤ l.length + 9 := by
  have h := leL_length e 2
  unfold headL; simp only [List.length_append, List.length_reverse, List.length_cons, List.length_nil]; omega
theorem letterBytesL_length (e : Int) (l m : List Int) : (letterBytesL e l m).length ≤ l.length + m.length + 9 := by
  have h := headL_length e l
  unfold letterBytesL; split
  · rw [List.length_append]; omega
  · simp
theorem implHead (e : Int) (l : List Int) (hl : l.length ≤ 1099511627776) (k : Nat) (hk : 50 < k) : impl_headOf.f k e l = some (headL e l) := by
  have h := leL_length e 2
  unfold impl_headOf.f
  rw [implGreat _ _ _ (by omega), Option.bind_some, joined3 _ _ _ (by rw [List.length_reverse]; simp; omega)]; rfl
theorem specLetterBytes (e : Int) (l m : List Int) (hl : l.length ≤ 1099511627776) (hm : m.length ≤ 1099511627776) (k : Nat) (hk : 50 < k) : spec_LetterBytes.f k e l m = some (letterBytesL e l m) := by
  have h := leL_length e 2
  unfold spec_LetterBytes.f letterBytesL
  rw [specLetterOk, Option.bind_some]
  by_cases c : letterOk e l m = true
  · rw [if_pos c, if_pos c, Option.bind_some, specGreat _ _ _ (by omega), Option.bind_some, if_pos (by rw [List.length_reverse]; simp; omega), Option.bind_some, if_pos (by simp only [List.length_append, List.length_reverse, List.length_cons, List.length_nil]; omega), Option.bind_some, if_pos (by simp only [List.length_append, List.length_reverse, List.length_cons, List.length_nil]; omega)]; rfl
  · rw [if_neg c, if_neg c]
theorem implLetterBytes (e : Int) (l m : List Int) (hl : l.length ≤ 1099511627776) (hm : m.length ≤ 1099511627776) (k : Nat) (hk : 50 < k) : impl_LetterBytes.f k e l m = some (letterBytesL e l m) := by
  have h := headL_length e l
  unfold impl_LetterBytes.f letterBytesL
  rw [implLetterOk, Option.bind_some]
  by_cases c : letterOk e l m = true
  · rw [if_pos c, if_pos c, implHead _ _ hl _ hk, Option.bind_some, joined2 _ _ (by omega), Option.bind_some]
  · rw [if_neg c, if_neg c]
end Go.Proofs.Ytlkgffeanjigjaa.B
/- FnExactLetterBytes: of every letter both lists are one; it is not changed, and no two calls share what is answered. -/
namespace Go.Proofs.Ytlkgffeanjigjaa.Pure
open Go.RowKit Go.Proofs.Ytlkgffeanjigjaa.P Go.Proofs.Ytlkgffeanjigjaa.B Go.Proofs.YtlkgffeanjigjaaW.PrintWords Go.Proofs.YtlkgffeanjigjaaW.PrintLast Go.Proofs.YtlkgffeanjigjaaW.PrintMore
theorem FnExactLetterBytes : laws_FnExactLetterBytes.Pure := by
  intro e l m _ hl hm
  refine ⟨l.length + m.length + 99, ?_⟩
  unfold laws_FnExactLetterBytes.f
  rcases szLetter e l m hl.1 hm.1 with h | ⟨h, hs⟩
  · rw [h]; rfl
  · rw [h]
    simp only [Option.bind_some]
    rw [if_neg (by omega)]
    have hb := letterBytesL_length e l m
    have c : ¬ ((1 : Int) + (l.length : Int) + (m.length : Int) < 0) := by omega
    have c2 : ¬ ((1 : Int) + ((letterBytesL e l m).length : Int) < 0) := by omega
    simp (disch := omega) only [toLetter, specLetterBytes, implLetterBytes, eqLetter_same, eqByteS_same, laws_markLetter.f, markByteS, Option.bind_some, if_true, c, if_false, Bool.not_true]
    rw [laws_FnExactLetterBytes.j0, if_neg (by decide)]
    simp (disch := omega) only [toLetter, implLetterBytes, eqByteS_same, markByteS, heldByteS, Option.bind_some, if_true, c2, if_false]
end Go.Proofs.Ytlkgffeanjigjaa.Pure
