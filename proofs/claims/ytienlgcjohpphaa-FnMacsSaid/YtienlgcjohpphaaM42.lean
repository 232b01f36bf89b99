import Derived.Test.YtienlgcjohpphaaM41
/- Words and their bytes, there and back; for all bytes and all numbers. -/
namespace Go.Proofs.Ytienlgcjohpphaa.B
open Go.RowKit Go.Proofs.Ytienlgcjohpphaa.P Go.Proofs.YtienlgcjohpphaaW.PrintWords Go.Proofs.YtienlgcjohpphaaW.PrintLast Go.Proofs.YtienlgcjohpphaaW.PrintMore
theorem wraps_i64n (n : Int) (h₀ : 0 ≤ n) (h₁ : n < 2 ^ 62) : IntKind.i64.wrap n = n := by rw [IntKind.wrap_i64]; omega
theorem or_join (i : Nat) (x y : Int) (hx₀ : 0 ≤ x) (hx : x % 2 ^ i = 0) (hx₁ : x < 2 ^ 62) (h₀ : 0 ≤ y) (h₁ : y < 2 ^ i) (h₂ : y < 2 ^ 62) : Go.bits .or .i64 x y = x + y :=
  bits_join .i64 62 (by decide) wraps_i64n i x y hx₀ hx hx₁ h₀ h₁ h₂
theorem w4_eq (a b c d : Int) (ha : 0 ≤ a ∧ a < 256) (hb : 0 ≤ b ∧ b < 256) (hc : 0 ≤ c ∧ c < 256) (hd : 0 ≤ d ∧ d < 256) : w4 a b c d = a * 16777216 + b * 65536 + c * 256 + d := by
  unfold w4
  rw [wrap_eq a (by omega) (by omega), wrap_eq b (by omega) (by omega), wrap_eq c (by omega) (by omega), wrap_eq d (by omega) (by omega), wrap_eq (a * 16777216) (by omega) (by omega), wrap_eq (b * 65536) (by omega) (by omega), wrap_eq (c * 256) (by omega) (by omega)]
  rw [or_join 24 (a * 16777216) (b * 65536) (by omega) (by omega) (by omega) (by omega) (by omega) (by omega), or_join 16 _ (c * 256) (by omega) (by omega) (by omega) (by omega) (by omega) (by omega), or_join 8 _ d (by omega) (by omega) (by omega) (by omega) (by omega) (by omega)]
theorem leL4 (n : Int) (h : 0 ≤ n) : leL n 4 = [n % 256, n / 256 % 256, n / 256 / 256 % 256, n / 256 / 256 / 256 % 256] := by
  unfold leL; rw [if_pos (by omega)]; rfl
theorem wb_word4 (big : Bool) (a b c d : Int) (ha : 0 ≤ a ∧ a < 256) (hb : 0 ≤ b ∧ b < 256) (hc : 0 ≤ c ∧ c < 256) (hd : 0 ≤ d ∧ d < 256) : wb big (word4 big a b c d) = [a, b, c, d] := by
  cases big
  · show leL (Go.bits .and .i64 (w4 d c b a) 4294967295) 4 = _
    rw [w4_eq _ _ _ _ hd hc hb ha, i64_and32, leL4 _ (by omega)]
    simp only [List.cons.injEq, and_true]; omega
  · show (leL (Go.bits .and .i64 (w4 a b c d) 4294967295) 4).reverse = _
    rw [w4_eq _ _ _ _ ha hb hc hd, i64_and32, leL4 _ (by omega)]
    simp only [List.reverse_cons, List.reverse_nil, List.nil_append, List.cons_append, List.cons.injEq, and_true]; omega
theorem bytesBack (big : Bool) : ∀ l : List Int, (∀ x ∈ l, 0 ≤ x ∧ x < 256) → wordBytesL big (wordsL big l) = l.take (l.length / 4 * 4)
  | a :: b :: c :: d :: r, h => by
    have ih := bytesBack big r (fun x hx => h x (by simp [hx]))
    have e : (a :: b :: c :: d :: r).length / 4 * 4 = r.length / 4 * 4 + 4 := by simp only [List.length_cons]; omega
    rw [e]
    unfold wordBytesL at ih ⊢
    rw [wordsL, List.flatMap_cons, wb_word4 big a b c d (h a (by simp)) (h b (by simp)) (h c (by simp)) (h d (by simp)), ih]
    simp
  | [], _ => by simp [wordsL, wordBytesL]
  | [a], _ => by simp [wordsL, wordBytesL]
  | [a, b], _ => by simp [wordsL, wordBytesL]
  | [a, b, c], _ => by simp [wordsL, wordBytesL]
theorem wordsL_wb (big : Bool) (x : Int) (r : List Int) : wordsL big (wb big x ++ r) = Go.bits .and .i64 x 4294967295 :: wordsL big r := by
  have h : Go.bits .and .i64 x 4294967295 = x % 4294967296 := i64_and32 x
  unfold wb
  rw [h, leL4 _ (by omega)]
  cases big
  · rw [if_neg (by decide)]
    show word4 false _ _ _ _ :: wordsL false r = _
    congr 1
    show w4 _ _ _ _ = _
    rw [w4_eq _ _ _ _ (by omega) (by omega) (by omega) (by omega)]; omega
  · rw [if_pos rfl]
    show word4 true _ _ _ _ :: wordsL true r = _
    congr 1
    show w4 _ _ _ _ = _
    rw [w4_eq _ _ _ _ (by omega) (by omega) (by omega) (by omega)]; omega
theorem wordsBack (big : Bool) : ∀ l : List Int, wordsL big (wordBytesL big l) = l.map fun x => Go.bits .and .i64 x 4294967295
  | [] => by simp [wordsL, wordBytesL]
  | x :: l => by
    have ih := wordsBack big l
    unfold wordBytesL at ih ⊢
    rw [List.flatMap_cons, wordsL_wb, ih]; rfl
end Go.Proofs.Ytienlgcjohpphaa.B
