import Derived.Test.Ytdineaebljpfaaan26
import Derived.Test.Ytdineaebljpfaaan22
import Derived.Test.Ytdineaebljpfaaan14
/- Little, by the program and by the reference: the low bytes of a number, the lowest first; for every number and every count. -/
namespace Go.Proofs.Ytdineaebljpfaaa.B
open Go.RowKit Go.Proofs.Ytdineaebljpfaaa.P Go.Proofs.YtdineaebljpfaaaW.PrintWords Go.Proofs.YtdineaebljpfaaaW.PrintLast Go.Proofs.YtdineaebljpfaaaW.PrintMore
/-- So many low bytes, the lowest first. -/
def lowL : Nat → Int → List Int
  | 0, _ => []
  | m + 1, n => n % 256 :: lowL m (n / 256)
/-- What Little answers. -/
def leL (n many : Int) : List Int := if 0 ≤ n ∧ 1 ≤ many ∧ many ≤ 8 then lowL many.toNat n else []
theorem lowL_length : ∀ (m : Nat) (n : Int), (lowL m n).length = m
  | 0, _ => rfl
  | m + 1, n => by simp [lowL, lowL_length m]
theorem leL_length (n many : Int) : (leL n many).length ≤ 8 := by
  unfold leL; split
  · rw [lowL_length]; omega
  · simp
theorem specLittle_l0 : ∀ (m : Nat) (n i many : Int) (acc : List Int) (k : Nat), 0 ≤ i → many ≤ 8 → many - i = m → acc.length ≤ 100 - m → m ≤ 8 → m < k →
    spec_Little.l0 k n many acc i = some (acc ++ lowL m n)
  | 0, n, i, many, acc, k, h0, h8, hd, hc, hm, hk => by
    obtain ⟨k, rfl⟩ : ∃ m, k = m + 1 := ⟨k - 1, by omega⟩
    simp only [spec_Little.l0]; rw [if_neg (by omega)]; simp [lowL]
  | m + 1, n, i, many, acc, k, h0, h8, hd, hc, hm, hk => by
    obtain ⟨k, rfl⟩ : ∃ m, k = m + 1 := ⟨k - 1, by omega⟩
    have ih := specLittle_l0 m (n / 256) (i + 1) many (acc ++ [n % 256]) k (by omega) h8 (by omega) (by simp; omega) (by omega) (by omega)
    simp only [spec_Little.l0]
    rw [if_pos (by omega), if_pos (by omega), wrap_eq (i + 1) (by omega) (by omega), i64_and255, show n % 256 % 256 = n % 256 by omega, ih]
    simp [lowL]
theorem specLittle (n many : Int) (k : Nat) (hk : 20 < k) : spec_Little.f k n many = some (leL n many) := by
  obtain ⟨k, rfl⟩ : ∃ m, k = m + 1 := ⟨k - 1, by omega⟩
  unfold spec_Little.f leL spec_l1In.f
  simp only [Option.bind_some]
  by_cases h : n < 0
  · rw [if_pos h, if_neg (by omega)]; simp [spec_Little.j0]
  · rw [if_neg h]
    by_cases h1 : many ≥ 1
    · rw [if_pos h1]
      simp only [Option.bind_some]
      by_cases h2 : many ≤ 8
      · rw [if_pos ⟨by omega, by omega, h2⟩]
        simp only [spec_Little.j0, h2, decide_true, Bool.not_true, Bool.false_eq_true, if_false]
        have := specLittle_l0 many.toNat n 0 many [] k (by omega) h2 (by omega) (by simp) (by omega) (by omega)
        simpa using this
      · rw [if_neg (by omega)]; simp [spec_Little.j0, h2]
    · rw [if_neg h1, if_neg (by omega)]; simp [spec_Little.j0]
theorem implLittle_l0 : ∀ (m : Nat) (n i many : Int) (acc : List Int) (k : Nat), 0 ≤ i → many ≤ 8 → many - i = m → acc.length ≤ 100 - m → m ≤ 8 → m < k →
    impl_Little.l0 k n acc many i = some (acc ++ lowL m n)
  | 0, n, i, many, acc, k, h0, h8, hd, hc, hm, hk => by
    obtain ⟨k, rfl⟩ : ∃ m, k = m + 1 := ⟨k - 1, by omega⟩
    simp only [impl_Little.l0]; rw [if_neg (by omega)]; simp [lowL]
  | m + 1, n, i, many, acc, k, h0, h8, hd, hc, hm, hk => by
    obtain ⟨k, rfl⟩ : ∃ m, k = m + 1 := ⟨k - 1, by omega⟩
    have ih := implLittle_l0 m (n / 256) (i + 1) many (acc ++ [n % 256]) k (by omega) h8 (by omega) (by simp; omega) (by omega) (by omega)
    simp only [impl_Little.l0]
    rw [if_pos (by omega), if_pos (by omega), wrap_eq (i + 1) (by omega) (by omega), ih]
    simp [lowL]
theorem implLittle (n many : Int) (k : Nat) (hk : 20 < k) : impl_Little.f k n many = some (leL n many) := by
  obtain ⟨k, rfl⟩ : ∃ m, k = m + 1 := ⟨k - 1, by omega⟩
  unfold impl_Little.f leL impl_in.f
  by_cases h : n < 0
  · rw [if_pos h, if_neg (by omega)]; simp [impl_Little.j0]
  · rw [if_neg h]
    by_cases h1 : many ≥ 1
    · rw [if_pos h1]
      simp only [Option.bind_some]
      by_cases h2 : many ≤ 8
      · rw [if_pos ⟨by omega, by omega, h2⟩]
        simp only [impl_Little.j0, h2, decide_true, Bool.not_true, Bool.false_eq_true, if_false]
        have := implLittle_l0 many.toNat n 0 many [] k (by omega) h2 (by omega) (by simp) (by omega) (by omega)
        simpa using this
      · rw [if_neg (by omega)]; simp [impl_Little.j0, h2]
    · rw [if_neg h1, if_neg (by omega)]; simp [impl_Little.j0]
end Go.Proofs.Ytdineaebljpfaaa.B
/- Great, by the program and by the reference: Little, the other way round; for every number and every count. -/
namespace Go.Proofs.Ytdineaebljpfaaa.B
open Go.RowKit Go.Proofs.Ytdineaebljpfaaa.P Go.Proofs.YtdineaebljpfaaaW.PrintWords Go.Proofs.YtdineaebljpfaaaW.PrintLast Go.Proofs.YtdineaebljpfaaaW.PrintMore
theorem specGreat_l0 : ∀ (n : Nat) (xs acc : List Int) (k : Nat), n ≤ xs.length → xs.length ≤ 100 → acc.length + n ≤ 200 → n < k →
    spec_Great.l0 k xs acc ((n : Int) - 1) = some (acc ++ (xs.take n).reverse)
  | 0, xs, acc, k, hn, hx, hc, hk => by
    obtain ⟨k, rfl⟩ : ∃ m, k = m + 1 := ⟨k - 1, by omega⟩
    simp only [spec_Great.l0]; rw [if_neg (by omega)]; simp
  | n + 1, xs, acc, k, hn, hx, hc, hk => by
    obtain ⟨k, rfl⟩ : ∃ m, k = m + 1 := ⟨k - 1, by omega⟩
    have ih := specGreat_l0 n xs (acc ++ [xs.getD n 0]) k (by omega) hx (by simp; omega) (by omega)
    have e1 : ((n + 1 : Nat) : Int) - 1 = (n : Int) := by omega
    have e2 : rd xs (n : Int) = xs.getD n 0 := by simp [rd]
    simp only [spec_Great.l0]
    rw [e1, if_pos (by omega), if_pos (by omega), if_pos (by omega), if_pos (by omega), e2, wrap_eq ((n : Int) - 1) (by omega) (by omega), ih]
    have h3 : xs.take (n + 1) = xs.take n ++ [xs.getD n 0] := by
      rw [List.take_succ_eq_append_getElem (by omega)]
      simp [List.getD_eq_getElem?_getD, List.getElem?_eq_getElem (show n < xs.length by omega)]
    rw [h3]; simp
theorem specGreat (n many : Int) (k : Nat) (hk : 40 < k) : spec_Great.f k n many = some (leL n many).reverse := by
  have hl := leL_length n many
  unfold spec_Great.f
  rw [specLittle n many k (by omega)]
  simp only [Option.bind_some]
  rw [wrap_eq _ (by omega) (by omega), specGreat_l0 _ _ [] k (Nat.le_refl _) (by omega) (by simp; omega) (by omega)]
  simp
theorem turned_l0 : ∀ (rest pre junk b : List Int) (n : Int) (k : Nat), b = pre ++ rest → n = (b.length : Int) → junk.length = rest.length → b.length ≤ 1099511627776 → rest.length < k →
    impl_turned.l0 k b (junk ++ pre.reverse) b n (pre.length : Int) = some b.reverse
  | [], pre, junk, b, n, k, hb, hn, hj, hc, hk => by
    obtain ⟨k, rfl⟩ : ∃ m, k = m + 1 := ⟨k - 1, by omega⟩
    obtain rfl : junk = [] := List.eq_nil_of_length_eq_zero hj
    subst hb
    simp only [impl_turned.l0]; rw [if_neg (by rw [hn]; exact nlt_end pre)]; simp
  | a :: rest, pre, junk, b, n, k, hb, hn, hj, hc, hk => by
    obtain ⟨k, rfl⟩ : ∃ m, k = m + 1 := ⟨k - 1, by omega⟩
    simp only [List.length_cons] at hk hj
    have hne : junk ≠ [] := by intro h; rw [h] at hj; simp at hj
    obtain ⟨junk1, z, rfl⟩ : ∃ j z, junk = j ++ [z] := ⟨junk.dropLast, junk.getLast hne, (List.dropLast_concat_getLast hne).symm⟩
    have hj1 : junk1.length = rest.length := by simp at hj; omega
    have hbl : b.length = pre.length + rest.length + 1 := by rw [hb]; simp; omega
    have ih := turned_l0 rest (pre ++ [a]) junk1 b n k (by rw [hb]; simp) hn hj1 hc (by omega)
    simp only [impl_turned.l0]
    have e1 : wrap64 ((b.length : Int) - 1) = (b.length : Int) - 1 := wrap_eq _ (by omega) (by omega)
    have e2 : wrap64 ((b.length : Int) - 1 - (pre.length : Int)) = (junk1.length : Int) := by rw [wrap_eq _ (by omega) (by omega)]; omega
    have e3 : rd b (pre.length : Int) = a := by rw [hb]; exact rd_mid pre a rest
    have e4 : (junk1 ++ [z] ++ pre.reverse).set ((junk1.length : Int).toNat) a = junk1 ++ (pre ++ [a]).reverse := by simp
    rw [e1, e2, e3, e4, if_pos (by omega), if_pos (by omega), if_pos (by omega), if_pos (by omega), if_pos (by simp; omega), wrap_step pre a (by omega)]
    exact ih
theorem turned (b : List Int) (hc : b.length ≤ 1099511627776) (k : Nat) (hk : b.length < k) : impl_turned.f k b = some b.reverse := by
  unfold impl_turned.f
  rw [if_pos (by omega), if_pos (by simp; omega)]
  have h := turned_l0 b [] (List.replicate b.length 0) b _ k rfl rfl (by simp) hc hk
  simpa using h
theorem implGreat (n many : Int) (k : Nat) (hk : 40 < k) : impl_Great.f k n many = some (leL n many).reverse := by
  have hl := leL_length n many
  unfold impl_Great.f
  rw [implLittle n many k (by omega)]
  simp only [Option.bind_some]
  rw [turned _ (by omega) k (by omega)]
  simp
end Go.Proofs.Ytdineaebljpfaaa.B
/- WordBytes, by the program and by the reference: four bytes a word; for lists of at most 2^40 words. -/
namespace Go.Proofs.Ytdineaebljpfaaa.B
open Go.RowKit Go.Proofs.Ytdineaebljpfaaa.P Go.Proofs.YtdineaebljpfaaaW.PrintWords Go.Proofs.YtdineaebljpfaaaW.PrintLast Go.Proofs.YtdineaebljpfaaaW.PrintMore
def wb (big : Bool) (x : Int) : List Int := if big = true then (leL (Go.bits .and .i64 x 4294967295) 4).reverse else leL (Go.bits .and .i64 x 4294967295) 4
theorem wb_length (big : Bool) (x : Int) : (wb big x).length = 4 := by
  have h : (leL (Go.bits .and .i64 x 4294967295) 4).length = 4 := by
    unfold leL; rw [i64_and32, if_pos (by omega), lowL_length]; rfl
  unfold wb; cases big <;> simp [h]
def wordBytesL (big : Bool) (l : List Int) : List Int := l.flatMap (wb big)
theorem wordBytesL_length (big : Bool) : ∀ l : List Int, (wordBytesL big l).length = 4 * l.length
  | [] => rfl
  | x :: l => by
    have := wordBytesL_length big l
    unfold wordBytesL at this ⊢
    rw [List.flatMap_cons, List.length_append, wb_length, this, List.length_cons]; omega
theorem specWordBytes_l0 (big : Bool) : ∀ (rest pre acc : List Int) (k : Nat), pre.length + rest.length ≤ 1099511627776 → acc.length + 4 * rest.length ≤ 43980465111040 → rest.length + 50 < k →
    spec_WordBytes.l0 k (pre ++ rest) big acc (pre.length : Int) = some (acc ++ wordBytesL big rest)
  | [], pre, acc, k, hb, hc, hk => by
    obtain ⟨k, rfl⟩ : ∃ m, k = m + 1 := ⟨k - 1, by omega⟩
    simp only [spec_WordBytes.l0]; rw [if_neg (nlt_end pre)]; simp [wordBytesL]
  | x :: rest, pre, acc, k, hb, hc, hk => by
    obtain ⟨k, rfl⟩ : ∃ m, k = m + 1 := ⟨k - 1, by omega⟩
    simp only [List.length_cons] at hb hc hk
    have hw := wb_length big x
    have ih := specWordBytes_l0 big rest (pre ++ [x]) (acc ++ wb big x) k (by simp; omega) (by simp; omega) (by omega)
    have hy : (acc ++ wb big x) ++ wordBytesL big rest = acc ++ wordBytesL big (x :: rest) := by simp [wordBytesL]
    simp (disch := omega) only [spec_WordBytes.l0, rd_mid, spec_Word.f, Option.bind_some, specGreat, specLittle]
    rw [if_pos (lt_mid pre x rest), ← hy, ← ih, wrap_step pre x (by omega), snoc_app pre x rest]
    cases big
    · rw [if_neg (by decide), if_pos (pre_nonneg pre), if_pos (by have : (leL (Go.bits .and .i64 x 4294967295) 4).length = 4 := hw
                                                                  omega)]
      rfl
    · rw [if_pos rfl, if_pos (pre_nonneg pre), if_pos (by have : (leL (Go.bits .and .i64 x 4294967295) 4).reverse.length = 4 := hw
                                                          omega)]
      rfl
theorem specWordBytes (l : List Int) (big : Bool) (hn : l.length ≤ 1099511627776) (k : Nat) (hk : l.length + 50 < k) : spec_WordBytes.f k l big = some (wordBytesL big l) := by
  have h := specWordBytes_l0 big l [] [] k (by simpa using hn) (by simp; omega) hk
  simpa [spec_WordBytes.f] using h
theorem implWordBytes_l0 (big : Bool) : ∀ (rest pre acc : List Int) (n : Int) (k : Nat), n = (((pre ++ rest).length : Nat) : Int) → pre.length + rest.length ≤ 1099511627776 → acc.length + 4 * rest.length ≤ 43980465111040 → rest.length + 50 < k →
    impl_WordBytes.l0 k big acc (pre ++ rest) n (pre.length : Int) = some (acc ++ wordBytesL big rest)
  | [], pre, acc, n, k, he, hb, hc, hk => by
    obtain ⟨k, rfl⟩ : ∃ m, k = m + 1 := ⟨k - 1, by omega⟩
    simp only [impl_WordBytes.l0]; rw [if_neg (by rw [he]; exact nlt_end pre)]; simp [wordBytesL]
  | x :: rest, pre, acc, n, k, he, hb, hc, hk => by
    obtain ⟨k, rfl⟩ : ∃ m, k = m + 1 := ⟨k - 1, by omega⟩
    simp only [List.length_cons] at hb hc hk
    have hw := wb_length big x
    have ih := implWordBytes_l0 big rest (pre ++ [x]) (acc ++ wb big x) n k (by rw [he]; simp) (by simp; omega) (by simp; omega) (by omega)
    have hy : (acc ++ wb big x) ++ wordBytesL big rest = acc ++ wordBytesL big (x :: rest) := by simp [wordBytesL]
    simp (disch := omega) only [impl_WordBytes.l0, rd_mid, impl_Word.f, Option.bind_some, implGreat, implLittle]
    rw [if_pos (by rw [he]; exact lt_mid pre x rest), if_pos (pre_nonneg pre), if_pos (lt_mid pre x rest), ← hy, ← ih, wrap_step pre x (by omega), snoc_app pre x rest]
    cases big
    · rw [if_neg (by decide), if_pos (by have : (leL (Go.bits .and .i64 x 4294967295) 4).length = 4 := hw
                                         omega)]
      rfl
    · rw [if_pos rfl, if_pos (by have : (leL (Go.bits .and .i64 x 4294967295) 4).reverse.length = 4 := hw
                                 omega)]
      rfl
theorem implWordBytes (l : List Int) (big : Bool) (hn : l.length ≤ 1099511627776) (k : Nat) (hk : l.length + 50 < k) : impl_WordBytes.f k l big = some (wordBytesL big l) := by
  have h := implWordBytes_l0 big l [] [] _ k rfl (by simpa using hn) (by simp; omega) hk
  simpa [impl_WordBytes.f] using h
end Go.Proofs.Ytdineaebljpfaaa.B
