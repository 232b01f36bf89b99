/- Words, by the program and by the reference: four bytes a word; for lists of at most 2^40 bytes. -/
import Derived.Test.YtlkgffeanjigjaaBase
import Derived.Test.YtlkgffeanjigjaaPx11
import Derived.Test.YtlkgffeanjigjaaPx14
namespace Go.Proofs.Ytlkgffeanjigjaa.B
open Go.RowKit Go.Proofs.Ytlkgffeanjigjaa.P Go.Proofs.YtlkgffeanjigjaaW.PrintWords Go.Proofs.YtlkgffeanjigjaaW.PrintLast Go.Proofs.YtlkgffeanjigjaaW.PrintMore
def w4 (a b c d : Int) : Int := Go.bits .or .i64 (Go.bits .or .i64 (Go.bits .or .i64 (wrap64 ((wrap64 a) * 16777216)) (wrap64 ((wrap64 b) * 65536))) (wrap64 ((wrap64 c) * 256))) (wrap64 d)
def word4 (big : Bool) (a b c d : Int) : Int := if big = true then w4 a b c d else w4 d c b a
/-- The words of a list of bytes. -/
def wordsL (big : Bool) : List Int → List Int
  | a :: b :: c :: d :: r => word4 big a b c d :: wordsL big r
  | _ => []
theorem wordsL_length (big : Bool) : ∀ l : List Int, (wordsL big l).length = l.length / 4
  | a :: b :: c :: d :: r => by simp [wordsL, wordsL_length big r]; omega
  | [] => rfl
  | [a] => by simp [wordsL]
  | [a, b] => by simp [wordsL]
  | [a, b, c] => by simp [wordsL]
theorem rd_at (pre l : List Int) (i : Nat) (j : Int) (h : j = (pre.length : Int) + i) : rd (pre ++ l) j = l.getD i 0 := by
  subst h
  unfold rd
  rw [show ((pre.length : Int) + i).toNat = pre.length + i from by omega]
  rw [List.getD_eq_getElem?_getD, List.getD_eq_getElem?_getD, List.getElem?_append_right (by omega), show pre.length + i - pre.length = i from by omega]
theorem specWords_l0 (big : Bool) : ∀ (rest pre acc : List Int) (k : Nat), pre.length + rest.length ≤ 1099511627776 → acc.length + rest.length ≤ 4398046511104 → rest.length < k →
    spec_Words.l0 k (pre ++ rest) big acc (pre.length : Int) = some (acc ++ wordsL big rest)
  | a :: b :: c :: d :: r, pre, acc, k, hb, hc, hk => by
    obtain ⟨k, rfl⟩ : ∃ m, k = m + 1 := ⟨k - 1, by omega⟩
    simp only [List.length_cons] at hb hc hk
    have ih := specWords_l0 big r (pre ++ [a, b, c, d]) (acc ++ [word4 big a b c d]) k (by simp; omega) (by simp; omega) (by omega)
    have hl : ((pre ++ a :: b :: c :: d :: r).length : Int) = pre.length + r.length + 4 := by simp; omega
    have e1 : wrap64 ((pre.length : Int) + 1) = pre.length + 1 := wrap_eq _ (by omega) (by omega)
    have e2 : wrap64 ((pre.length : Int) + 2) = pre.length + 2 := wrap_eq _ (by omega) (by omega)
    have e3 : wrap64 ((pre.length : Int) + 3) = pre.length + 3 := wrap_eq _ (by omega) (by omega)
    have e4 : wrap64 ((pre.length : Int) + 4) = ((pre ++ [a, b, c, d]).length : Int) := by rw [wrap_eq _ (by omega) (by omega)]; simp
    have r0 : rd (pre ++ a :: b :: c :: d :: r) (pre.length : Int) = a := rd_at _ _ 0 _ (by omega)
    have r1 : rd (pre ++ a :: b :: c :: d :: r) ((pre.length : Int) + 1) = b := rd_at _ _ 1 _ (by omega)
    have r2 : rd (pre ++ a :: b :: c :: d :: r) ((pre.length : Int) + 2) = c := rd_at _ _ 2 _ (by omega)
    have r3 : rd (pre ++ a :: b :: c :: d :: r) ((pre.length : Int) + 3) = d := rd_at _ _ 3 _ (by omega)
    have hx : pre ++ a :: b :: c :: d :: r = (pre ++ [a, b, c, d]) ++ r := by simp
    simp only [spec_Words.l0, e1, e2, e3, r0, r1, r2, r3]
    rw [hl]
    rw [if_pos (by omega)]
    have hy : (acc ++ [word4 big a b c d]) ++ wordsL big r = acc ++ wordsL big (a :: b :: c :: d :: r) := by simp [wordsL]
    rw [← hy, ← ih, ← e4, ← hx]
    cases big
    · rw [if_neg (by decide), if_pos (by omega), if_pos (by omega), if_pos (by omega), if_pos (by omega), if_pos (by omega), if_pos (by omega), if_pos (by omega), if_pos (by omega)]
      rfl
    · rw [if_pos rfl, if_pos (by omega), if_pos (by omega), if_pos (by omega), if_pos (by omega), if_pos (by omega), if_pos (by omega), if_pos (by omega), if_pos (by omega)]
      rfl
  | [], pre, acc, k, hb, hc, hk => by
    obtain ⟨k, rfl⟩ : ∃ m, k = m + 1 := ⟨k - 1, by omega⟩
    simp only [spec_Words.l0]; rw [wrap_eq _ (by omega) (by simp at hb; omega), if_neg (by simp; omega)]; simp [wordsL]
  | [a], pre, acc, k, hb, hc, hk => by
    obtain ⟨k, rfl⟩ : ∃ m, k = m + 1 := ⟨k - 1, by omega⟩
    simp only [spec_Words.l0]; rw [wrap_eq _ (by omega) (by simp at hb; omega), if_neg (by simp)]; simp [wordsL]
  | [a, b], pre, acc, k, hb, hc, hk => by
    obtain ⟨k, rfl⟩ : ∃ m, k = m + 1 := ⟨k - 1, by omega⟩
    simp only [spec_Words.l0]; rw [wrap_eq _ (by omega) (by simp at hb; omega), if_neg (by simp)]; simp [wordsL]
  | [a, b, c], pre, acc, k, hb, hc, hk => by
    obtain ⟨k, rfl⟩ : ∃ m, k = m + 1 := ⟨k - 1, by omega⟩
    simp only [spec_Words.l0]; rw [wrap_eq _ (by omega) (by simp at hb; omega), if_neg (by simp)]; simp [wordsL]
theorem specWords (l : List Int) (big : Bool) (hn : l.length ≤ 1099511627776) (k : Nat) (hk : l.length < k) : spec_Words.f k l big = some (wordsL big l) := by
  have h := specWords_l0 big l [] [] k (by simpa using hn) (by simp; omega) hk
  simpa [spec_Words.f] using h
theorem wordOf4 (big : Bool) (a b c d : Int) : impl_wordOf.f [a, b, c, d] big = some (word4 big a b c d) := by
  cases big <;> rfl
theorem implWords_l0 (big : Bool) : ∀ (rest pre acc : List Int) (k : Nat), pre.length + rest.length ≤ 1099511627776 → acc.length + rest.length ≤ 4398046511104 → rest.length < k →
    impl_Words.l0 k (pre ++ rest) big acc (pre.length : Int) = some (acc ++ wordsL big rest)
  | a :: b :: c :: d :: r, pre, acc, k, hb, hc, hk => by
    obtain ⟨k, rfl⟩ : ∃ m, k = m + 1 := ⟨k - 1, by omega⟩
    simp only [List.length_cons] at hb hc hk
    have ih := implWords_l0 big r (pre ++ [a, b, c, d]) (acc ++ [word4 big a b c d]) k (by simp; omega) (by simp; omega) (by omega)
    have hl : ((pre ++ a :: b :: c :: d :: r).length : Int) = pre.length + r.length + 4 := by simp; omega
    have e4 : wrap64 ((pre.length : Int) + 4) = pre.length + 4 := wrap_eq _ (by omega) (by omega)
    have e5 : (pre.length : Int) + 4 = ((pre ++ [a, b, c, d]).length : Int) := by simp
    have hx : pre ++ a :: b :: c :: d :: r = (pre ++ [a, b, c, d]) ++ r := by simp
    have ht : ((pre ++ a :: b :: c :: d :: r).take ((pre.length : Int) + 4).toNat).drop (pre.length : Int).toNat = [a, b, c, d] := by
      rw [show ((pre.length : Int) + 4).toNat = pre.length + 4 from by omega]
      simp [List.take_append]
    have hy : (acc ++ [word4 big a b c d]) ++ wordsL big r = acc ++ wordsL big (a :: b :: c :: d :: r) := by simp [wordsL]
    simp only [impl_Words.l0, e4, ht, wordOf4, Option.bind_some]
    rw [hl, if_pos (by omega), if_pos (by omega), if_pos (by omega), if_pos (by omega), ← hy, ← ih, e5, ← hx]
  | [], pre, acc, k, hb, hc, hk => by
    obtain ⟨k, rfl⟩ : ∃ m, k = m + 1 := ⟨k - 1, by omega⟩
    simp only [impl_Words.l0]; rw [wrap_eq _ (by omega) (by simp at hb; omega), if_neg (by simp <;> omega)]; simp [wordsL]
  | [a], pre, acc, k, hb, hc, hk => by
    obtain ⟨k, rfl⟩ : ∃ m, k = m + 1 := ⟨k - 1, by omega⟩
    simp only [impl_Words.l0]; rw [wrap_eq _ (by omega) (by simp at hb; omega), if_neg (by simp <;> omega)]; simp [wordsL]
  | [a, b], pre, acc, k, hb, hc, hk => by
    obtain ⟨k, rfl⟩ : ∃ m, k = m + 1 := ⟨k - 1, by omega⟩
    simp only [impl_Words.l0]; rw [wrap_eq _ (by omega) (by simp at hb; omega), if_neg (by simp <;> omega)]; simp [wordsL]
  | [a, b, c], pre, acc, k, hb, hc, hk => by
    obtain ⟨k, rfl⟩ : ∃ m, k = m + 1 := ⟨k - 1, by omega⟩
    simp only [impl_Words.l0]; rw [wrap_eq _ (by omega) (by simp at hb; omega), if_neg (by simp <;> omega)]; simp [wordsL]
theorem implWords (l : List Int) (big : Bool) (hn : l.length ≤ 1099511627776) (k : Nat) (hk : l.length < k) : impl_Words.f k l big = some (wordsL big l) := by
  have h := implWords_l0 big l [] [] k (by simpa using hn) (by simp; omega) hk
  simpa [impl_Words.f] using h
end Go.Proofs.Ytlkgffeanjigjaa.B
