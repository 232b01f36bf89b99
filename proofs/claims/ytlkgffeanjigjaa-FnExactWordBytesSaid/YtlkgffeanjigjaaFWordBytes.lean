/- WordBytes, by the program and by the reference: four bytes a word; for lists of at most 2^40 words. -/
import Derived.Test.YtlkgffeanjigjaaFGreat
import Derived.Test.YtlkgffeanjigjaaPx23
import Derived.Test.YtlkgffeanjigjaaPx30
namespace Go.Proofs.Ytlkgffeanjigjaa.B
open Go.RowKit Go.Proofs.Ytlkgffeanjigjaa.P Go.Proofs.YtlkgffeanjigjaaW.PrintWords Go.Proofs.YtlkgffeanjigjaaW.PrintLast Go.Proofs.YtlkgffeanjigjaaW.PrintMore
def wb (big : Bool) (x : Int) : List Int := if big = true then (leL (Go.bits .and .i64 x 4294967295) 4).reverse else leL (Go.bits .and .i64 x 4294967295) 4
theorem wb_length (big : Bool) (x : Int) : (wb big x).length = 4 := by
  have h : (leL (Go.bits .and .i64 x 4294967295) 4).length = 4 := by
    unfold leL; rw [i64_and32, if_pos (by omega), lowL_length]; rfl
  unfold wb; cases big <;> simp [h]
def wordBytesL (big : Bool) (l : List Int) : List Int := l.flatMap (wb big)
theorem wordBytesL_length (big : Bool) : ∀ l : List Int, (wordBytesL big l).length = 4 * l.length
  | [] => rfl
  | x :: l => by
    have := wordBytesL_length big l
    unfold wordBytesL at this ⊢
    rw [List.flatMap_cons, List.length_append, wb_length, this, List.length_cons]; omega
theorem specWordBytes_l0 (big : Bool) : ∀ (rest pre acc : List Int) (k : Nat), pre.length + rest.length ≤ 1099511627776 → acc.length + 4 * rest.length ≤ 43980465111040 → rest.length + 50 < k →
    spec_WordBytes.l0 k (pre ++ rest) big acc (pre.length : Int) = some (acc ++ wordBytesL big rest)
  | [], pre, acc, k, hb, hc, hk => by
    obtain ⟨k, rfl⟩ : ∃ m, k = m + 1 := ⟨k - 1, by omega⟩
    simp only [spec_WordBytes.l0]; rw [if_neg (nlt_end pre)]; simp [wordBytesL]
  | x :: rest, pre, acc, k, hb, hc, hk => by
    obtain ⟨k, rfl⟩ : ∃ m, k = m + 1 := ⟨k - 1, by omega⟩
    simp only [List.length_cons] at hb hc hk
    have hw := wb_length big x
    have ih := specWordBytes_l0 big rest (pre ++ [x]) (acc ++ wb big x) k (by simp; omega) (by simp; omega) (by omega)
    have hy : (acc ++ wb big x) ++ wordBytesL big rest = acc ++ wordBytesL big (x :: rest) := by simp [wordBytesL]
    simp (disch := omega) only [spec_WordBytes.l0, rd_mid, spec_Word.f, Option.bind_some, specGreat, specLittle]
    rw [if_pos (lt_mid pre x rest), ← hy, ← ih, wrap_step pre x (by omega), snoc_app pre x rest]
    cases big
    · rw [if_neg (by decide), if_pos (pre_nonneg pre), if_pos (by have : (leL (Go.bits .and .i64 x 4294967295) 4).length = 4 := hw
                                                                  omega)]
      rfl
    · rw [if_pos rfl, if_pos (pre_nonneg pre), if_pos (by have : (leL (Go.bits .and .i64 x 4294967295) 4).reverse.length = 4 := hw
                                                          omega)]
      rfl
theorem specWordBytes (l : List Int) (big : Bool) (hn : l.length ≤ 1099511627776) (k : Nat) (hk : l.length + 50 < k) : spec_WordBytes.f k l big = some (wordBytesL big l) := by
  have h := specWordBytes_l0 big l [] [] k (by simpa using hn) (by simp; omega) hk
  simpa [spec_WordBytes.f] using h
theorem implWordBytes_l0 (big : Bool) : ∀ (rest pre acc : List Int) (n : Int) (k : Nat), n = (((pre ++ rest).length : Nat) : Int) → pre.length + rest.length ≤ 1099511627776 → acc.length + 4 * rest.length ≤ 43980465111040 → rest.length + 50 < k →
    impl_WordBytes.l0 k big acc (pre ++ rest) n (pre.length : Int) = some (acc ++ wordBytesL big rest)
  | [], pre, acc, n, k, he, hb, hc, hk => by
    obtain ⟨k, rfl⟩ : ∃ m, k = m + 1 := ⟨k - 1, by omega⟩
    simp only [impl_WordBytes.l0]; rw [if_neg (by rw [he]; exact nlt_end pre)]; simp [wordBytesL]
  | x :: rest, pre, acc, n, k, he, hb, hc, hk => by
    obtain ⟨k, rfl⟩ : ∃ m, k = m + 1 := ⟨k - 1, by omega⟩
    simp only [List.length_cons] at hb hc hk
    have hw := wb_length big x
    have ih := implWordBytes_l0 big rest (pre ++ [x]) (acc ++ wb big x) n k (by rw [he]; simp) (by simp; omega) (by simp; omega) (by omega)
    have hy : (acc ++ wb big x) ++ wordBytesL big rest = acc ++ wordBytesL big (x :: rest) := by simp [wordBytesL]
    simp (disch := omega) only [impl_WordBytes.l0, rd_mid, impl_Word.f, Option.bind_some, implGreat, implLittle]
    rw [if_pos (by rw [he]; exact lt_mid pre x rest), if_pos (pre_nonneg pre), if_pos (lt_mid pre x rest), ← hy, ← ih, wrap_step pre x (by omega), snoc_app pre x rest]
    cases big
    · rw [if_neg (by decide), if_pos (by have : (leL (Go.bits .and .i64 x 4294967295) 4).length = 4 := hw
                                         omega)]
      rfl
    · rw [if_pos rfl, if_pos (by have : (leL (Go.bits .and .i64 x 4294967295) 4).reverse.length = 4 := hw
                                 omega)]
      rfl
theorem implWordBytes (l : List Int) (big : Bool) (hn : l.length ≤ 1099511627776) (k : Nat) (hk : l.length + 50 < k) : impl_WordBytes.f k l big = some (wordBytesL big l) := by
  have h := implWordBytes_l0 big l [] [] _ k rfl (by simpa using hn) (by simp; omega) hk
  simpa [impl_WordBytes.f] using h
end Go.Proofs.Ytlkgffeanjigjaa.B
