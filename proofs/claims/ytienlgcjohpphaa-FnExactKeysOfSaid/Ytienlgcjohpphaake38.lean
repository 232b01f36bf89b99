import Derived.Test.Ytienlgcjohpphaake37
/- WordBytes, by the program and by the reference: four bytes a word; for lists of at most 2^40 words. -/
namespace Go.Proofs.Ytienlgcjohpphaa.B
open Go.RowKit Go.Proofs.Ytienlgcjohpphaa.P Go.Proofs.YtienlgcjohpphaaW.PrintWords Go.Proofs.YtienlgcjohpphaaW.PrintLast Go.Proofs.YtienlgcjohpphaaW.PrintMore
def wb (big : Bool) (x : Int) : List Int := if big = true then (leL (Go.bits .and .i64 x 4294967295) 4).reverse else leL (Go.bits .and .i64 x 4294967295) 4
theorem wb_length (big : Bool) (x : Int) : (wb big x).length = 4 := by
  have h : (leL (Go.bits .and .i64 x 4294967295) 4).length = 4 := by
    unfold leL; rw [i64_and32, if_pos (by omega), lowL_length]; rfl
  unfold wb; cases big <;> simp [h]
def wordBytesL (big : Bool) (l : List Int) : List Int := l.flatMap (wb big)
theorem wordBytesL_length (big : Bool) : ∀ l : List Int, (wordBytesL big l).length = 4 * l.length
  | [] => rfl
  | x :: l => by
    have := wordBytesL_length big l
    unfold wordBytesL at this ⊢
    rw [List.flatMap_cons, List.length_append, wb_length, this, List.length_cons]; omega
theorem specWordBytes_l0 (big : Bool) : ∀ (rest pre acc : List Int) (k : Nat), pre.length + rest.length ≤ 1099511627776 → acc.length + 4 * rest.length ≤ 43980465111040 → rest.length + 50 < k →
    spec_WordBytes.l0 k (pre ++ rest) big acc (pre.length : Int) = some (acc ++ wordBytesL big rest)
  | [], pre, acc, k, hb, hc, hk => by
    obtain ⟨k, rfl⟩ : ∃ m, k = m + 1 := ⟨k - 1, by omega⟩
    simp only [spec_WordBytes.l0]; rw [if_neg (nlt_end pre)]; simp [wordBytesL]
  | x :: rest, pre, acc, k, hb, hc, hk => by
    obtain ⟨k, rfl⟩ : ∃ m, k = m + 1 := ⟨k - 1, by omega⟩
    simp only [List.length_cons] at hb hc hk
    have hw := wb_length big x
    have ih := specWordBytes_l0 big rest (pre ++ [x]) (acc ++ wb big x) k (by simp; omega) (by simp; omega) (by omega)
    have hy : (acc ++ wb big x) ++ wordBytesL big rest = acc ++ wordBytesL big (x :: rest) := by simp [wordBytesL]
    simp (disch := omega) only [spec_WordBytes.l0, rd_mid, spec_Word.f, Option.bind_some, specGreat, specLittle]
    rw [if_pos (lt_mid pre x rest), ← hy, ← ih, wrap_step pre x (by omega), snoc_app pre x rest]
    cases big
    · rw [if_neg (by decide), if_pos (pre_nonneg pre), if_pos (by have : (leL (Go.bits .and .i64 x 4294967295) 4).length = 4 := hw
                                                                  omega)]
      rfl
    · rw [if_pos rfl, if_pos (pre_nonneg pre), if_pos (by have : (leL (Go.bits .and .i64 x 4294967295) 4).reverse.length = 4 := hw
                                                          omega)]
      rfl
theorem specWordBytes (l : List Int) (big : Bool) (hn : l.length ≤ 1099511627776) (k : Nat) (hk : l.length + 50 < k) : spec_WordBytes.f k l big = some (wordBytesL big l) := by
  have h := specWordBytes_l0 big l [] [] k (by simpa using hn) (by simp; omega) hk
  simpa [spec_WordBytes.f] using h
theorem implWordBytes_l0 (big : Bool) : ∀ (rest pre acc : List Int) (n : Int) (k : Nat), n = (((pre ++ rest).length : Nat) : Int) → pre.length + rest.length ≤ 1099511627776 → acc.length + 4 * rest.length ≤ 43980465111040 → rest.length + 50 < k →
    impl_WordBytes.l0 k big acc (pre ++ rest) n (pre.length : Int) = some (acc ++ wordBytesL big rest)
  | [], pre, acc, n, k, he, hb, hc, hk => by
    obtain ⟨k, rfl⟩ : ∃ m, k = m + 1 := ⟨k - 1, by omega⟩
    simp only [impl_WordBytes.l0]; rw [if_neg (by rw [he]; exact nlt_end pre)]; simp [wordBytesL]
  | x :: rest, pre, acc, n, k, he, hb, hc, hk => by
    obtain ⟨k, rfl⟩ : ∃ m, k = m + 1 := ⟨k - 1, by omega⟩
    simp only [List.length_cons] at hb hc hk
    have hw := wb_length big x
    have ih := implWordBytes_l0 big rest (pre ++ [x]) (acc ++ wb big x) n k (by rw [he]; simp) (by simp; omega) (by simp; omega) (by omega)
    have hy : (acc ++ wb big x) ++ wordBytesL big rest = acc ++ wordBytesL big (x :: rest) := by simp [wordBytesL]
    simp (disch := omega) only [impl_WordBytes.l0, rd_mid, impl_Word.f, Option.bind_some, implGreat, implLittle]
    rw [if_pos (by rw [he]; exact lt_mid pre x rest), if_pos (pre_nonneg pre), if_pos (lt_mid pre x rest), ← hy, ← ih, wrap_step pre x (by omega), snoc_app pre x rest]
    cases big
    · rw [if_neg (by decide), if_pos (by have : (leL (Go.bits .and .i64 x 4294967295) 4).length = 4 := hw
                                         omega)]
      rfl
    · rw [if_pos rfl, if_pos (by have : (leL (Go.bits .and .i64 x 4294967295) 4).reverse.length = 4 := hw
                                 omega)]
      rfl
theorem implWordBytes (l : List Int) (big : Bool) (hn : l.length ≤ 1099511627776) (k : Nat) (hk : l.length + 50 < k) : impl_WordBytes.f k l big = some (wordBytesL big l) := by
  have h := implWordBytes_l0 big l [] [] _ k rfl (by simpa using hn) (by simp; omega) hk
  simpa [impl_WordBytes.f] using h
end Go.Proofs.Ytienlgcjohpphaa.B
/- Words and their bytes, there and back; for all bytes and all numbers. -/
namespace Go.Proofs.Ytienlgcjohpphaa.B
open Go.RowKit Go.Proofs.Ytienlgcjohpphaa.P Go.Proofs.YtienlgcjohpphaaW.PrintWords Go.Proofs.YtienlgcjohpphaaW.PrintLast Go.Proofs.YtienlgcjohpphaaW.PrintMore
theorem wraps_i64n (n : Int) (h₀ : 0 ≤ n) (h₁ : n < 2 ^ 62) : IntKind.i64.wrap n = n := by rw [IntKind.wrap_i64]; omega
theorem or_join (i : Nat) (x y : Int) (hx₀ : 0 ≤ x) (hx : x % 2 ^ i = 0) (hx₁ : x < 2 ^ 62) (h₀ : 0 ≤ y) (h₁ : y < 2 ^ i) (h₂ : y < 2 ^ 62) : Go.bits .or .i64 x y = x + y :=
  bits_join .i64 62 (by decide) wraps_i64n i x y hx₀ hx hx₁ h₀ h₁ h₂
theorem w4_eq (a b c d : Int) (ha : 0 ≤ a ∧ a < 256) (hb : 0 ≤ b ∧ b < 256) (hc : 0 ≤ c ∧ c < 256) (hd : 0 ≤ d ∧ d < 256) : w4 a b c d = a * 16777216 + b * 65536 + c * 256 + d := by
  unfold w4
  rw [wrap_eq a (by omega) (by omega), wrap_eq b (by omega) (by omega), wrap_eq c (by omega) (by omega), wrap_eq d (by omega) (by omega), wrap_eq (a * 16777216) (by omega) (by omega), wrap_eq (b * 65536) (by omega) (by omega), wrap_eq (c * 256) (by omega) (by omega)]
  rw [or_join 24 (a * 16777216) (b * 65536) (by omega) (by omega) (by omega) (by omega) (by omega) (by omega), or_join 16 _ (c * 256) (by omega) (by omega) (by omega) (by omega) (by omega) (by omega), or_join 8 _ d (by omega) (by omega) (by omega) (by omega) (by omega) (by omega)]
theorem leL4 (n : Int) (h : 0 ≤ n) : leL n 4 = [n % 256, n / 256 % 256, n / 256 / 256 % 256, n / 256 / 256 / 256 % 256] := by
  unfold leL; rw [if_pos (by omega)]; rfl
theorem wb_word4 (big : Bool) (a b c d : Int) (ha : 0 ≤ a ∧ a < 256) (hb : 0 ≤ b ∧ b < 256) (hc : 0 ≤ c ∧ c < 256) (hd : 0 ≤ d ∧ d < 256) : wb big (word4 big a b c d) = [a, b, c, d] := by
  cases big
  · show leL (Go.bits .and .i64 (w4 d c b a) 4294967295) 4 = _
    rw [w4_eq _ _ _ _ hd hc hb ha, i64_and32, leL4 _ (by omega)]
    simp only [List.cons.injEq, and_true]; omega
  · show (leL (Go.bits .and .i64 (w4 a b c d) 4294967295) 4).reverse = _
    rw [w4_eq _ _ _ _ ha hb hc hd, i64_and32, leL4 _ (by omega)]
    simp only [List.reverse_cons, List.reverse_nil, List.nil_append, List.cons_append, List.cons.injEq, and_true]; omega
theorem bytesBack (big : Bool) : ∀ l : List Int, (∀ x ∈ l, 0 ≤ x ∧ x < 256) → wordBytesL big (wordsL big l) = l.take (l.length / 4 * 4)
  | a :: b :: c :: d :: r, h => by
    have ih := bytesBack big r (fun x hx => h x (by simp [hx]))
    have e : (a :: b :: c :: d :: r).length / 4 * 4 = r.length / 4 * 4 + 4 := by simp only [List.length_cons]; omega
    rw [e]
    unfold wordBytesL at ih ⊢
    rw [wordsL, List.flatMap_cons, wb_word4 big a b c d (h a (by simp)) (h b (by simp)) (h c (by simp)) (h d (by simp)), ih]
    simp
  | [], _ => by simp [wordsL, wordBytesL]
  | [a], _ => by simp [wordsL, wordBytesL]
  | [a, b], _ => by simp [wordsL, wordBytesL]
  | [a, b, c], _ => by simp [wordsL, wordBytesL]
theorem wordsL_wb (big : Bool) (x : Int) (r : List Int) : wordsL big (wb big x ++ r) = Go.bits .and .i64 x 4294967295 :: wordsL big r := by
  have h : Go.bits .and .i64 x 4294967295 = x % 4294967296 := i64_and32 x
  unfold wb
  rw [h, leL4 _ (by omega)]
  cases big
  · rw [if_neg (by decide)]
    show word4 false _ _ _ _ :: wordsL false r = _
    congr 1
    show w4 _ _ _ _ = _
    rw [w4_eq _ _ _ _ (by omega) (by omega) (by omega) (by omega)]; omega
  · rw [if_pos rfl]
    show word4 true _ _ _ _ :: wordsL true r = _
    congr 1
    show w4 _ _ _ _ = _
    rw [w4_eq _ _ _ _ (by omega) (by omega) (by omega) (by omega)]; omega
theorem wordsBack (big : Bool) : ∀ l : List Int, wordsL big (wordBytesL big l) = l.map fun x => Go.bits .and .i64 x 4294967295
  | [] => by simp [wordsL, wordBytesL]
  | x :: l => by
    have ih := wordsBack big l
    unfold wordBytesL at ih ⊢
    rw [List.flatMap_cons, wordsL_wb, ih]; rfl
end Go.Proofs.Ytienlgcjohpphaa.B
