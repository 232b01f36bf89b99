import Derived.Test.YtlkgffeanjigjaaMgFnWords24
import Derived.Test.YtlkgffeanjigjaaMgFnWords7
import Derived.Test.YtlkgffeanjigjaaMgFnWords10
import Derived.Test.YtlkgffeanjigjaaMgFnWords23
import Derived.Test.YtlkgffeanjigjaaMgFnWords1
import Derived.Test.YtlkgffeanjigjaaMgFnWords11
import Derived.Test.YtlkgffeanjigjaaMgFnWords22
/- WordBytes, by the program and by the reference: four bytes a word; for lists of at most 2^40 words. -/
namespace Go.Proofs.Ytlkgffeanjigjaa.B
open Go.RowKit Go.Proofs.Ytlkgffeanjigjaa.P Go.Proofs.YtlkgffeanjigjaaW.PrintWords Go.Proofs.YtlkgffeanjigjaaW.PrintLast Go.Proofs.YtlkgffeanjigjaaW.PrintMore
def wb (big : Bool) (x : Int) : List Int := if big = true then (leL (Go.bits .and .i64 x 4294967295) 4).reverse else leL (Go.bits .and .i64 x 4294967295) 4
theorem wb_length (big : Bool) (x : Int) : (wb big x).length = 4 := by
  have h : (leL (Go.bits .and .i64 x 4294967295) 4).length = 4 := by
    unfold leL; rw [i64_and32, if_pos (by omega), lowL_length]; rfl
  unfold wb; cases big <;> simp [h]
def wordBytesL (big : Bool) (l : List Int) : List Int := l.flatMap (wb big)
theorem wordBytesL_length (big : Bool) : ∀ l : List Int, (wordBytesL big l).length = 4 * l.length
  | [] => rfl
  | x :: l => by
    have := wordBytesL_length big l
    unfold wordBytesL at this ⊢
    rw [List.flatMap_cons, List.length_append, wb_length, this, List.length_cons]; omega
theorem specWordBytes_l0 (big : Bool) : ∀ (rest pre acc : List Int) (k : Nat), pre.length + rest.length ≤ 1099511627776 → acc.length + 4 * rest.length ≤ 43980465111040 → rest.length + 50 < k →
    spec_WordBytes.l0 k (pre ++ rest) big acc (pre.length : Int) = some (acc ++ wordBytesL big rest)
  | [], pre, acc, k, hb, hc, hk => by
    obtain ⟨k, rfl⟩ : ∃ m, k = m + 1 := ⟨k - 1, by omega⟩
    simp only [spec_WordBytes.l0]; rw [if_neg (nlt_end pre)]; simp [wordBytesL]
  | x :: rest, pre, acc, k, hb, hc, hk => by
    obtain ⟨k, rfl⟩ : ∃ m, k = m + 1 := ⟨k - 1, by omega⟩
    simp only [List.length_cons] at hb hc hk
    have hw := wb_length big x
    have ih := specWordBytes_l0 big rest (pre ++ [x]) (acc ++ wb big x) k (by simp; omega) (by simp; omega) (by omega)
    have hy : (acc ++ wb big x) ++ wordBytesL big rest = acc ++ wordBytesL big (x :: rest) := by simp [wordBytesL]
    simp (disch := omega) only [spec_WordBytes.l0, rd_mid, spec_Word.f, Option.bind_some, specGreat, specLittle]
    rw [if_pos (lt_mid pre x rest), ← hy, ← ih, wrap_step pre x (by omega), snoc_app pre x rest]
    cases big
    · rw [if_neg (by decide), if_pos (pre_nonneg pre), if_pos (by have : (leL (Go.bits .and .i64 x 4294967295) 4).length = 4 := hw
                                                                  omega)]
      rfl
    · rw [if_pos rfl, if_pos (pre_nonneg pre), if_pos (by have : (leL (Go.bits .and .i64 x 4294967295) 4).reverse.length = 4 := hw
                                                          omega)]
      rfl
theorem specWordBytes (l : List Int) (big : Bool) (hn : l.length ≤ 1099511627776) (k : Nat) (hk : l.length + 50 < k) : spec_WordBytes.f k l big = some (wordBytesL big l) := by
  have h := specWordBytes_l0 big l [] [] k (by simpa using hn) (by simp; omega) hk
  simpa [spec_WordBytes.f] using h
theorem implWordBytes_l0 (big : Bool) : ∀ (rest pre acc : List Int) (n : Int) (k : Nat), n = (((pre ++ rest).length : Nat) : Int) → pre.length + rest.length ≤ 1099511627776 → acc.length + 4 * rest.length ≤ 43980465111040 → rest.length + 50 < k →
    impl_WordBytes.l0 k big acc (pre ++ rest) n (pre.length : Int) = some (acc ++ wordBytesL big rest)
  | [], pre, acc, n, k, he, hb, hc, hk => by
    obtain ⟨k, rfl⟩ : ∃ m, k = m + 1 := ⟨k - 1, by omega⟩
    simp only [impl_WordBytes.l0]; rw [if_neg (by rw [he]; exact nlt_end pre)]; simp [wordBytesL]
  | x :: rest, pre, acc, n, k, he, hb, hc, hk => by
    obtain ⟨k, rfl⟩ : ∃ m, k = m + 1 := ⟨k - 1, by omega⟩
    simp only [List.length_cons] at hb hc hk
    have hw := wb_length big x
    have ih := implWordBytes_l0 big rest (pre ++ [x]) (acc ++ wb big x) n k (by rw [he]; simp) (by simp; omega) (by simp; omega) (by omega)
    have hy : (acc ++ wb big x) ++ wordBytesL big rest = acc ++ wordBytesL big (x :: rest) := by simp [wordBytesL]
    simp (disch := omega) only [impl_WordBytes.l0, rd_mid, impl_Word.f, Option.bind_some, implGreat, implLittle]
    rw [if_pos (by rw [he]; exact lt_mid pre x rest), if_pos (pre_nonneg pre), if_pos (lt_mid pre x rest), ← hy, ← ih, wrap_step pre x (by omega), snoc_app pre x rest]
    cases big
    · rw [if_neg (by decide), if_pos (by have : (leL (Go.bits .and .i64 x 4294967295) 4).length = 4 := hw
                                         omega)]
      rfl
    · rw [if_pos rfl, if_pos (by have : (leL (Go.bits .and .i64 x 4294967295) 4).reverse.length = 4 := hw
                                 omega)]
      rfl
theorem implWordBytes (l : List Int) (big : Bool) (hn : l.length ≤ 1099511627776) (k : Nat) (hk : l.length + 50 < k) : impl_WordBytes.f k l big = some (wordBytesL big l) := by
  have h := implWordBytes_l0 big l [] [] _ k rfl (by simpa using hn) (by simp; omega) hk
  simpa [impl_WordBytes.f] using h
end Go.Proofs.Ytlkgffeanjigjaa.B
/- Words and their bytes, there and back; for all bytes and all numbers. -/
namespace Go.Proofs.Ytlkgffeanjigjaa.B
open Go.RowKit Go.Proofs.Ytlkgffeanjigjaa.P Go.Proofs.YtlkgffeanjigjaaW.PrintWords Go.Proofs.YtlkgffeanjigjaaW.PrintLast Go.Proofs.YtlkgffeanjigjaaW.PrintMore
theorem wraps_i64n (n : Int) (h₀ : 0 ≤ n) (h₁ : n < 2 ^ 62) : IntKind.i64.wrap n = n := by rw [IntKind.wrap_i64]; omega
theorem or_join (i : Nat) (x y : Int) (hx₀ : 0 ≤ x) (hx : x % 2 ^ i = 0) (hx₁ : x < 2 ^ 62) (h₀ : 0 ≤ y) (h₁ : y < 2 ^ i) (h₂ : y < 2 ^ 62) : Go.bits .or .i64 x y = x + y :=
  bits_join .i64 62 (by decide) wraps_i64n i x y hx₀ hx hx₁ h₀ h₁ h₂
theorem w4_eq (a b c d : Int) (ha : 0 ≤ a ∧ a < 256) (hb : 0 ≤ b ∧ b < 256) (hc : 0 ≤ c ∧ c < 256) (hd : 0 ≤ d ∧ d < 256) : w4 a b c d = a * 16777216 + b * 65536 + c * 256 + d := by
  unfold w4
  rw [wrap_eq a (by omega) (by omega), wrap_eq b (by omega) (by omega), wrap_eq c (by omega) (by omega), wrap_eq d (by omega) (by omega), wrap_eq (a * 16777216) (by omega) (by omega), wrap_eq (b * 65536) (by omega) (by omega), wrap_eq (c * 256) (by omega) (by omega)]
  rw [or_join 24 (a * 16777216) (b * 65536) (by omega) (by omega) (by omega) (by omega) (by omega) (by omega), or_join 16 _ (c * 256) (by omega) (by omega) (by omega) (by omega) (by omega) (by omega), or_join 8 _ d (by omega) (by omega) (by omega) (by omega) (by omega) (by omega)]
theorem leL4 (n : Int) (h : 0 ≤ n) : leL n 4 = [n % 256, n / 256 % 256, n / 256 / 256 % 256, n / 256 / 256 / 256 % 256] := by
  unfold leL; rw [if_pos (by omega)]; rfl
theorem wb_word4 (big : Bool) (a b c d : Int) (ha : 0 ≤ a ∧ a < 256) (hb : 0 ≤ b ∧ b < 256) (hc : 0 ≤ c ∧ c < 256) (hd : 0 ≤ d ∧ d < 256) : wb big (word4 big a b c d) = [a, b, c, d] := by
  cases big
  · show leL (Go.bits .and .i64 (w4 d c b a) 4294967295) 4 = _
    rw [w4_eq _ _ _ _ hd hc hb ha, i64_and32, leL4 _ (by omega)]
    simp only [List.cons.injEq, and_true]; omega
  · show (leL (Go.bits .and .i64 (w4 a b c d) 4294967295) 4).reverse = _
    rw [w4_eq _ _ _ _ ha hb hc hd, i64_and32, leL4 _ (by omega)]
    simp only [List.reverse_cons, List.reverse_nil, List.nil_append, List.cons_append, List.cons.injEq, and_true]; omega
theorem bytesBack (big : Bool) : ∀ l : List Int, (∀ x ∈ l, 0 ≤ x ∧ x < 256) → wordBytesL big (wordsL big l) = l.take (l.length / 4 * 4)
  | a :: b :: c :: d :: r, h => by
    have ih := bytesBack big r (fun x hx => h x (by simp [hx]))
    have e : (a :: b :: c :: d :: r).length / 4 * 4 = r.length / 4 * 4 + 4 := by simp only [List.length_cons]; omega
    rw [e]
    unfold wordBytesL at ih ⊢
    rw [wordsL, List.flatMap_cons, wb_word4 big a b c d (h a (by simp)) (h b (by simp)) (h c (by simp)) (h d (by simp)), ih]
    simp
  | [], _ => by simp [wordsL, wordBytesL]
  | [a], _ => by simp [wordsL, wordBytesL]
  | [a, b], _ => by simp [wordsL, wordBytesL]
  | [a, b, c], _ => by simp [wordsL, wordBytesL]
theorem wordsL_wb (big : Bool) (x : Int) (r : List Int) : wordsL big (wb big x ++ r) = Go.bits .and .i64 x 4294967295 :: wordsL big r := by
  have h : Go.bits .and .i64 x 4294967295 = x % 4294967296 := i64_and32 x
  unfold wb
  rw [h, leL4 _ (by omega)]
  cases big
  · rw [if_neg (by decide)]
    show word4 false _ _ _ _ :: wordsL false r = _
    congr 1
    show w4 _ _ _ _ = _
    rw [w4_eq _ _ _ _ (by omega) (by omega) (by omega) (by omega)]; omega
  · rw [if_pos rfl]
    show word4 true _ _ _ _ :: wordsL true r = _
    congr 1
    show w4 _ _ _ _ = _
    rw [w4_eq _ _ _ _ (by omega) (by omega) (by omega) (by omega)]; omega
theorem wordsBack (big : Bool) : ∀ l : List Int, wordsL big (wordBytesL big l) = l.map fun x => Go.bits .and .i64 x 4294967295
  | [] => by simp [wordsL, wordBytesL]
  | x :: l => by
    have ih := wordsBack big l
    unfold wordBytesL at ih ⊢
    rw [List.flatMap_cons, wordsL_wb, ih]; rfl
end Go.Proofs.Ytlkgffeanjigjaa.B
-- Written by a program of this session (wip/drive.py) over the kit's print.
namespace Go.Proofs.Ytlkgffeanjigjaa.P
open Go.RowKit Go.Proofs.YtlkgffeanjigjaaW.PrintWords Go.Proofs.YtlkgffeanjigjaaW.PrintLast Go.Proofs.YtlkgffeanjigjaaW.PrintMore
attribute [local go_sem] max2_int min2_int max_two min_two max_three min_three max_four min_four   -- for this text's walks alone
set_option linter.unusedVariables false
set_option linter.unusedSimpArgs false

/-! ### spec_Same: function 70 -/
def spec_Same.f (l0 : List Int) (l1 : List Int) : Option (Bool) := some ((strOfNums l0).toList == (strOfNums l1).toList)
set_option maxHeartbeats 8000000 in
set_option maxRecDepth 100000 in
theorem spec_Same.calls (A0 : Option Addr) (c0 : Nat) (l0 : List Int) (A1 : Option Addr) (c1 : Nat) (l1 : List Int) (r : Bool) (w : World) (hr0 : Kd.C (Kd.int .u8) w A0 l0.length l0) (hc0 : l0.length ≤ c0) (hr1 : Kd.C (Kd.int .u8) w A1 l1.length l1) (hc1 : l1.length ≤ c1) (h : spec_Same.f l0 l1 = some r) :
    Calls Try.prog 70 #[.slice A0 l0.length c0, .slice A1 l1.length c1] w fun e w' => e = .returned (.bool r) ∧ Drawn0 w w' := by
  have HR0 := Aside0.mk hr0
  have HC0 := Aside0.mk hc0
  clear hr0 hc0
  have HR1 := Aside0.mk hr1
  have HC1 := Aside0.mk hc1
  clear hr1 hc1
  have H : (some ((strOfNums l0).toList == (strOfNums l1).toList)) = some r := h
  clear h
  obtain rfl := Option.some.inj H
  have hcv3 := Kd.C_string (P := Try.prog) (A := A0) (c := c0) Try.underlying22 Try.underlying5 Try.underlying9 HR0.out
  have hcv4 := Kd.C_string (P := Try.prog) (A := A1) (c := c1) Try.underlying22 Try.underlying5 Try.underlying9 HR1.out
  go_enter Try.func70, Try.ntmps70
  go_wp2
  go_ret
  exact ⟨by first | rfl | (simp; done) | (simp [*]; done), by repeat (first | exact Drawn0.refl _ | apply Drawn0.step)⟩

end Go.Proofs.Ytlkgffeanjigjaa.P
/- Same, by the program and by the reference: whether two lists of bytes are one. -/
namespace Go.Proofs.Ytlkgffeanjigjaa.B
open Go.RowKit Go.Proofs.Ytlkgffeanjigjaa.P Go.Proofs.YtlkgffeanjigjaaW.PrintWords Go.Proofs.YtlkgffeanjigjaaW.PrintLast Go.Proofs.YtlkgffeanjigjaaW.PrintMore
def sameL (a b : List Int) : Bool := (strOfNums a).toList == (strOfNums b).toList
theorem specSame (a b : List Int) : spec_Same.f a b = some (sameL a b) := rfl
theorem implSame (a b : List Int) : impl_Same.f a b = some (sameL a b) := rfl
theorem sameL_same (a : List Int) : sameL a a = true := by unfold sameL; simp
end Go.Proofs.Ytlkgffeanjigjaa.B
/- FnWords: of every note, what is drawn out of it is worked alike by both texts, and goes there and back. -/
namespace Go.Proofs.Ytlkgffeanjigjaa.B
open Go.RowKit Go.Proofs.Ytlkgffeanjigjaa.P Go.Proofs.YtlkgffeanjigjaaW.PrintWords Go.Proofs.YtlkgffeanjigjaaW.PrintLast Go.Proofs.YtlkgffeanjigjaaW.PrintMore
def turns7 : List Int := [0, 1, 7, 16, 31, 32, -1]
theorem turnsBack : ∀ v ∈ drawNums, ∀ t ∈ turns7, (impl_Turn.f v t).isSome = true ∧ (impl_Turn.f v t).bind (fun r => impl_Turn.f r (wrap64 (32 - Go.bits .and .i64 t 31))) = some (Go.bits .and .i64 v 4294967295) := by
  decide +kernel
theorem specTurnEq (v t : Int) : spec_Turn.f v t = impl_Turn.f v t := rfl
theorem words_l0 : ∀ (rest pre acc : List Int) (k : Nat), pre.length + rest.length ≤ 1099511627776 → acc.length + rest.length ≤ 4398046511104 → rest.length < k →
    laws_words.l0 k (pre ++ rest) acc (pre.length : Int) = some (acc ++ rest.map fun x => Go.bits .and .i64 x 4294967295)
  | [], pre, acc, k, hb, hc, hk => by
    obtain ⟨k, rfl⟩ : ∃ m, k = m + 1 := ⟨k - 1, by omega⟩
    simp only [laws_words.l0]; rw [if_neg (nlt_end pre)]; simp
  | x :: rest, pre, acc, k, hb, hc, hk => by
    obtain ⟨k, rfl⟩ : ∃ m, k = m + 1 := ⟨k - 1, by omega⟩
    simp only [List.length_cons] at hb hc hk
    have ih := words_l0 rest (pre ++ [x]) (acc ++ [Go.bits .and .i64 x 4294967295]) k (by simp; omega) (by simp; omega) (by omega)
    simp only [laws_words.l0, spec_Word.f, Option.bind_some]
    rw [if_pos (lt_mid pre x rest), if_pos (pre_nonneg pre), rd_mid, if_pos (by omega), wrap_step pre x (by omega), snoc_app pre x rest, ih]
    simp
theorem wordsLaw (l : List Int) (hn : l.length ≤ 1099511627776) (k : Nat) (hk : l.length < k) : laws_words.f k l = some (l.map fun x => Go.bits .and .i64 x 4294967295) := by
  have h := words_l0 l [] [] k (by simpa using hn) (by simp; omega) hk
  simpa [laws_words.f] using h
theorem sameInts_l0 : ∀ (rest pre : List Int) (k : Nat), pre.length + rest.length ≤ 1099511627776 → rest.length < k → laws_sameInts.l0 k (pre ++ rest) (pre ++ rest) (pre.length : Int) = some true
  | [], pre, k, hb, hk => by
    obtain ⟨k, rfl⟩ : ∃ m, k = m + 1 := ⟨k - 1, by omega⟩
    simp only [laws_sameInts.l0]; rw [if_neg (nlt_end pre)]
  | x :: rest, pre, k, hb, hk => by
    obtain ⟨k, rfl⟩ : ∃ m, k = m + 1 := ⟨k - 1, by omega⟩
    simp only [List.length_cons] at hb hk
    simp only [laws_sameInts.l0, if_true]
    rw [if_pos (lt_mid pre x rest), if_pos (pre_nonneg pre), if_pos (lt_mid pre x rest), wrap_step pre x (by omega), snoc_app pre x rest]
    exact sameInts_l0 rest (pre ++ [x]) k (by simp; omega) (by omega)
theorem sameInts (l : List Int) (hn : l.length ≤ 1099511627776) (k : Nat) (hk : l.length < k) : laws_sameInts.f k l l = some true := by
  unfold laws_sameInts.f
  rw [if_pos rfl]
  exact sameInts_l0 l [] k (by simpa using hn) hk
theorem drawWordBytes_l0 (d : List Int) (hd : d.length ≤ 1099511627776) : ∀ (n : Nat) (acc : List Int) (i p s : Int) (k : Nat), 0 ≤ i → (5 - i).toNat = n → acc.length + n ≤ 100 → 0 ≤ p → n < k →
    ∃ r b, spec_DrawWordBytes.l0 k acc i d p s = some (r, b) ∧ r.length ≤ acc.length + n
  | 0, acc, i, p, s, k, hi, hn, hc, hp, hk => by
    obtain ⟨k, rfl⟩ : ∃ m, k = m + 1 := ⟨k - 1, by omega⟩
    obtain ⟨v, p', s', e, h0, h1, hp'⟩ := belowD d p s 5 hd hp
    have h1 := h1 (by omega)
    obtain ⟨b, p2, s2, e2, _⟩ := onceD d p' s' 2 hd hp'
    simp only [spec_DrawWordBytes.l0]; rw [e, Option.bind_some, if_neg (by omega), e2]
    exact ⟨_, _, rfl, by omega⟩
  | n + 1, acc, i, p, s, k, hi, hn, hc, hp, hk => by
    obtain ⟨k, rfl⟩ : ∃ m, k = m + 1 := ⟨k - 1, by omega⟩
    obtain ⟨v, p', s', e, h0, h1, hp'⟩ := belowD d p s 5 hd hp
    have h1 := h1 (by omega)
    simp only [spec_DrawWordBytes.l0]; rw [e, Option.bind_some]
    by_cases h : i < v
    · obtain ⟨x, p3, s3, e3, _, hp3⟩ := numD d p' s' hd hp'
      obtain ⟨r, b, er, hr⟩ := drawWordBytes_l0 d hd n (acc ++ [x]) (i + 1) p3 s3 k (by omega) (by omega) (by simp; omega) hp3 (by omega)
      simp only []
      rw [if_pos h, e3, Option.bind_some, if_pos (by omega), wrap_eq (i + 1) (by omega) (by omega)]
      refine ⟨r, b, er, ?_⟩
      simp at hr; omega
    · obtain ⟨b, p2, s2, e2, _⟩ := onceD d p' s' 2 hd hp'
      simp only []
      rw [if_neg h, e2]
      exact ⟨_, _, rfl, by omega⟩
end Go.Proofs.Ytlkgffeanjigjaa.B
namespace Go.Proofs.Ytlkgffeanjigjaa.Pure
open Go.RowKit Go.Proofs.Ytlkgffeanjigjaa.P Go.Proofs.Ytlkgffeanjigjaa.B Go.Proofs.YtlkgffeanjigjaaW.PrintWords Go.Proofs.YtlkgffeanjigjaaW.PrintLast Go.Proofs.YtlkgffeanjigjaaW.PrintMore
theorem FnWords : laws_FnWords.Pure := by
  intro d _ _ _
  refine ⟨d.length + 200000, ?_⟩
  unfold laws_FnWords.f laws_big.f
  simp only [Option.bind_some, decide_eq_true_eq]
  by_cases h0 : (d.length : Int) > 1048576
  · rw [if_pos h0]
  · rw [if_neg h0]
    obtain ⟨s0, n0⟩ := newD d (d.length + 200000) (by omega) (by omega)
    obtain ⟨v1, p1, s1, e1, _, _⟩ := numD d 0 s0 (by omega) (by omega)
    obtain ⟨v2, p2, s2, e2, m2, hp2⟩ := numD d 0 s0 (by omega) (by omega)
    obtain ⟨v3, p3, s3, e3, m3, _⟩ := pickD d p2 s2 turns7 (by decide) (by omega) hp2
    obtain ⟨v4, p4, s4, e4, w4, l4, hp4⟩ := bytesD d 0 s0 20 (by omega) (by omega) (by omega) (by omega) (d.length + 200000) (by omega)
    obtain ⟨v5, p5, s5, e5, _⟩ := onceD d p4 s4 2 (by omega) hp4
    obtain ⟨v6, b6, e6, l6⟩ := drawWordBytes_l0 d (by omega) 5 [] 0 0 s0 (d.length + 200000) (by omega) (by omega) (by simp) (by omega) (by omega)
    simp only [List.length_nil] at l6
    have d1 : spec_DrawWord.f (d.length + 200000) d = some v1 := by unfold spec_DrawWord.f; rw [n0, Option.bind_some, e1, Option.bind_some]
    have d2 : spec_DrawTurn.f (d.length + 200000) d = some (v2, v3) := by
      unfold spec_DrawTurn.f; rw [n0, Option.bind_some, e2, Option.bind_some]
      simp only []
      rw [show ([0, 1, 7, 16, 31, 32, (-1)] : List Int) = turns7 from rfl, e3, Option.bind_some]
    have d3 : spec_DrawWords.f (d.length + 200000) d = some (v4, v5) := by unfold spec_DrawWords.f; rw [n0, Option.bind_some, e4, Option.bind_some, e5, Option.bind_some]
    have d4 : spec_DrawWordBytes.f (d.length + 200000) d = some (v6, b6) := by unfold spec_DrawWordBytes.f; rw [n0, Option.bind_some, e6]
    obtain ⟨t1, t2⟩ := turnsBack v2 m2 v3 m3
    obtain ⟨r, hr⟩ := Option.isSome_iff_exists.1 t1
    rw [hr, Option.bind_some] at t2
    have hw := wordsL_length v5 v4
    have hb := wordBytesL_length b6 v6
    simp (disch := omega) only [d1, d2, d3, d4, Option.bind_some, implWords, specWords, specTurnEq, hr, impl_Word.f, spec_Word.f, if_true, sameInts, implWordBytes, specWordBytes, implSame, sameL_same, Bool.not_true]
    rw [laws_FnWords.j0, if_neg (by decide)]
    have e7 : wrap64 (wrap64 ((v4.length : Int) / 4) * 4) = ((v4.length / 4 * 4 : Nat) : Int) := by rw [wrap_eq ((v4.length : Int) / 4) (by omega) (by omega), wrap_eq _ (by omega) (by omega)]; omega
    rw [implWordBytes _ _ (by omega) _ (by omega), Option.bind_some, e7, if_pos (by omega), if_pos (by omega), bytesBack v5 v4 w4, Int.toNat_natCast, implSame, Option.bind_some, sameL_same, if_pos rfl, t2]
    simp (disch := omega) only [Option.bind_some, impl_Word.f, if_true, implWordBytes, implWords, wordsBack, wordsLaw]
    rw [sameInts _ (by simp; omega) _ (by simp; omega), Option.bind_some]
end Go.Proofs.Ytlkgffeanjigjaa.Pure
