import Derived.Test.Ytdineaebljpfaaan24
import Derived.Laws.BitsAllLaws
import Derived.Test.Ytdineaebljpfaaan11
import Derived.Test.Ytdineaebljpfaaan19
import Derived.Test.Ytdineaebljpfaaan9
import Derived.Test.Ytdineaebljpfaaan20
/- What masks and shifts of whole numbers are, as remainders; each for the numbers that it names. -/
namespace Go.Proofs.Ytdineaebljpfaaa.B
open Go.RowKit Go.Proofs.YtdineaebljpfaaaW.PrintWords Go.Proofs.YtdineaebljpfaaaW.PrintLast Go.Proofs.YtdineaebljpfaaaW.PrintMore

theorem i64_and_nat (x : Int) (m : Nat) (hm : m < 9223372036854775808) : Go.bits .and .i64 x (m : Int) = (((x % 18446744073709551616).toNat &&& m : Nat) : Int) := by
  have h1 : (BitVec.ofInt 64 x).toNat = (x % 18446744073709551616).toNat := by
    rw [BitVec.toNat_ofInt]; rfl
  have h2 : (BitVec.ofInt 64 (m : Int)).toNat = m := ofInt_u64 m (by omega)
  have hx : (x % 18446744073709551616).toNat &&& m ≤ m := Nat.and_le_right
  show IntKind.i64.wrap ((BitVec.ofInt 64 x &&& BitVec.ofInt 64 (m : Int)).toNat : Int) = _
  rw [BitVec.toNat_and, h1, h2, IntKind.wrap_i64]
  omega
theorem i64_and31 (x : Int) : Go.bits .and .i64 x 31 = x % 32 := by
  rw [show (31 : Int) = ((31 : Nat) : Int) from rfl, i64_and_nat x 31 (by omega), show (31 : Nat) = 2 ^ 5 - 1 from rfl, Nat.and_two_pow_sub_one_eq_mod]
  omega
theorem i64_and255 (x : Int) : Go.bits .and .i64 x 255 = x % 256 := by
  rw [show (255 : Int) = ((255 : Nat) : Int) from rfl, i64_and_nat x 255 (by omega), show (255 : Nat) = 2 ^ 8 - 1 from rfl, Nat.and_two_pow_sub_one_eq_mod]
  omega
theorem i64_and32 (x : Int) : Go.bits .and .i64 x 4294967295 = x % 4294967296 := by
  rw [show (4294967295 : Int) = ((4294967295 : Nat) : Int) from rfl, i64_and_nat x 4294967295 (by omega), show (4294967295 : Nat) = 2 ^ 32 - 1 from rfl, Nat.and_two_pow_sub_one_eq_mod]
  omega
theorem wf8 {l : List Int} (h : ∀ x ∈ l, (Lit.int .u8 x).wf = true) : ∀ x ∈ l, 0 ≤ x ∧ x < 256 := by
  intro x hx
  have := h x hx
  have m1 : IntKind.u8.min = 0 := by decide
  have m2 : IntKind.u8.max = 255 := by decide
  simp only [Lit.wf, m1, m2, Bool.and_eq_true, decide_eq_true_eq] at this
  omega
theorem wf64 {x : Int} (h : (Lit.int .i64 x).wf = true) : -9223372036854775808 ≤ x ∧ x ≤ 9223372036854775807 := by
  have m1 : IntKind.i64.min = -9223372036854775808 := by decide
  have m2 : IntKind.i64.max = 9223372036854775807 := by decide
  simp only [Lit.wf, m1, m2, Bool.and_eq_true, decide_eq_true_eq] at h
  omega
end Go.Proofs.Ytdineaebljpfaaa.B
/- 'from lo to hi', by the program and by the reference; for every three numbers. -/
namespace Go.Proofs.Ytdineaebljpfaaa.B
open Go.RowKit Go.Proofs.Ytdineaebljpfaaa.P Go.Proofs.YtdineaebljpfaaaW.PrintWords Go.Proofs.YtdineaebljpfaaaW.PrintLast Go.Proofs.YtdineaebljpfaaaW.PrintMore
theorem specIn (a b c : Int) : spec_l1In.f a b c = some (decide (b ≤ a ∧ a ≤ c)) := by
  unfold spec_l1In.f
  by_cases h : a ≥ b
  · rw [if_pos h]; simp [show b ≤ a from h]
  · rw [if_neg h]; simp [show ¬ b ≤ a from h]
theorem implIn (a b c : Int) : impl_in.f a b c = some (decide (b ≤ a ∧ a ≤ c)) := specIn a b c
end Go.Proofs.Ytdineaebljpfaaa.B
/- Quarter, by the program and by the reference: one list; for every list and every four places. -/
namespace Go.Proofs.Ytdineaebljpfaaa.B
open Go.RowKit Go.Proofs.Ytdineaebljpfaaa.P Go.Proofs.YtdineaebljpfaaaW.PrintWords Go.Proofs.YtdineaebljpfaaaW.PrintLast Go.Proofs.YtdineaebljpfaaaW.PrintMore
def wL (x : Int) : Int := Go.bits .and .i64 x 4294967295
def tL (x k : Int) : Int := (impl_Turn.f x k).getD 0
theorem implTurnL (x k : Int) : impl_Turn.f x k = some (tL x k) := by
  have s : ∃ r, impl_Turn.f x k = some r := by
    unfold impl_Turn.f impl_Word.f
    simp only [Option.bind_some, i64_and31]
    rw [if_pos (by omega), wrap_eq _ (by omega) (by omega), if_pos (by omega)]
    exact ⟨_, rfl⟩
  obtain ⟨r, hr⟩ := s
  unfold tL
  rw [hr]; rfl
theorem specTurnL (x k : Int) : spec_Turn.f x k = some (tL x k) := implTurnL x k
theorem implWordL (x : Int) : impl_Word.f x = some (wL x) := rfl
theorem specWordL (x : Int) : spec_Word.f x = some (wL x) := rfl
def putL (l : List Int) (a b : Int) : List Int := l.set a.toNat (wL (wrap64 (rd l a + rd l b)))
def turnL (l : List Int) (d a k : Int) : List Int := l.set d.toNat (tL (Go.bits .xor .i64 (rd l d) (rd l a)) k)
def stepL (l : List Int) (a b d k : Int) : List Int := turnL (putL l a b) d a k
theorem stepL_length (l : List Int) (a b d k : Int) : (stepL l a b d k).length = l.length := by simp [stepL, turnL, putL]
theorem implStep (l : List Int) (a b d k : Int) (ha : 0 ≤ a ∧ a < l.length) (hb : 0 ≤ b ∧ b < l.length) (hd : 0 ≤ d ∧ d < l.length) : impl_step.f l a b d k = some (stepL l a b d k) := by
  unfold impl_step.f
  rw [if_pos ha.1, if_pos ha.2, if_pos hb.1, if_pos hb.2, implWordL, Option.bind_some, Option.bind_some, if_pos hd.1, if_pos hd.2, implTurnL]
  rfl
def quarterL (l : List Int) (a b c d : Int) : List Int := stepL (stepL (stepL (stepL l a b d 16) c d b 12) a b d 8) c d b 7
theorem idx (x : Int) : ∀ (rest pre : List Int) (n : Int) (k : Nat), n = (((pre ++ rest).length : Nat) : Int) → pre.length + rest.length ≤ 1000 → rest.length < k →
    ∃ r, slices_Index_int_int.l0 k (pre ++ rest) x n (pre.length : Int) = some r ∧ (r ≥ 0 ↔ x ∈ rest)
  | [], pre, n, k, hn, hb, hk => by
    obtain ⟨k, rfl⟩ : ∃ m, k = m + 1 := ⟨k - 1, by omega⟩
    refine ⟨-1, ?_, by simp⟩
    simp only [slices_Index_int_int.l0]; rw [hn, if_neg (nlt_end pre)]
  | y :: rest, pre, n, k, hn, hb, hk => by
    obtain ⟨k, rfl⟩ : ∃ m, k = m + 1 := ⟨k - 1, by simp at hk; omega⟩
    simp only [List.length_cons] at hb hk
    simp only [slices_Index_int_int.l0]
    rw [if_pos (by rw [hn]; exact lt_mid pre y rest), if_pos (pre_nonneg pre), if_pos (lt_mid pre y rest), rd_mid]
    by_cases e : x = y
    · rw [if_pos e]
      exact ⟨_, rfl, by constructor <;> intro _ <;> first | exact (by rw [e]; exact List.mem_cons_self) | omega⟩
    · rw [if_neg e, wrap_step pre y (by omega), snoc_app pre y rest]
      obtain ⟨r, hr, hi⟩ := idx x rest (pre ++ [y]) n k (by rw [hn]; simp) (by simp; omega) (by omega)
      exact ⟨r, hr, by rw [hi, List.mem_cons]; constructor <;> intro h <;> first | exact .inr h | (rcases h with h | h; exact absurd h e; exact h)⟩
theorem contains (l : List Int) (x : Int) (hl : l.length ≤ 1000) (k : Nat) (hk : l.length < k) : slices_Contains_int_int.f k l x = some (decide (x ∈ l)) := by
  obtain ⟨r, hr, hi⟩ := idx x l [] (l.length : Int) k rfl (by simpa using hl) hk
  unfold slices_Contains_int_int.f slices_Index_int_int.f
  rw [show slices_Index_int_int.l0 k l x (l.length : Int) 0 = some r from hr, Option.bind_some]
  congr 1
  exact decide_eq_decide.2 hi
def okR (m : Int) : List Int → List Int → Bool
  | _, [] => true
  | pre, p :: rest => if decide (0 ≤ p ∧ p ≤ m - 1) = true then (if decide (p ∈ pre) = true then false else okR m (pre ++ [p]) rest) else false
theorem places_l0 (m : Int) (hm : 0 ≤ m ∧ m ≤ 1000) : ∀ (rest pre : List Int) (n : Int) (k : Nat), n = (((pre ++ rest).length : Nat) : Int) → pre.length + rest.length ≤ 1000 → rest.length + 1001 < k →
    impl_placesOk.l0 k (pre ++ rest) m (pre ++ rest) n (pre.length : Int) = some (okR m pre rest)
  | [], pre, n, k, hn, hb, hk => by
    obtain ⟨k, rfl⟩ : ∃ m, k = m + 1 := ⟨k - 1, by omega⟩
    simp only [impl_placesOk.l0]; rw [hn, if_neg (nlt_end pre)]; rfl
  | p :: rest, pre, n, k, hn, hb, hk => by
    obtain ⟨k, rfl⟩ : ∃ m, k = m + 1 := ⟨k - 1, by simp at hk; omega⟩
    simp only [List.length_cons] at hb hk
    have ht : (pre ++ p :: rest).take ((pre.length : Int)).toNat = pre := by rw [Int.toNat_natCast]; exact List.take_left
    simp only [impl_placesOk.l0]
    rw [if_pos (by rw [hn]; exact lt_mid pre p rest), if_pos (pre_nonneg pre), if_pos (lt_mid pre p rest), rd_mid, wrap_eq (m - 1) (by omega) (by omega), implIn, Option.bind_some]
    unfold okR
    by_cases c1 : decide (0 ≤ p ∧ p ≤ m - 1) = true
    · rw [if_pos c1, if_pos c1, if_pos (by simp; omega), ht, contains pre p (by omega) k (by omega), Option.bind_some]
      by_cases c2 : decide (p ∈ pre) = true
      · rw [if_pos c2, if_pos c2]
      · rw [if_neg c2, if_neg c2, wrap_step pre p (by omega), snoc_app pre p rest]
        exact places_l0 m hm rest (pre ++ [p]) n k (by rw [hn]; simp) (by simp; omega) (by omega)
    · rw [if_neg c1, if_neg c1]
theorem okR_four (a b c d : Int) : okR 16 [] [a, b, c, d] = decide ((0 ≤ a ∧ a ≤ 15) ∧ (0 ≤ b ∧ b ≤ 15) ∧ (0 ≤ c ∧ c ≤ 15) ∧ (0 ≤ d ∧ d ≤ 15) ∧ a ≠ b ∧ a ≠ c ∧ a ≠ d ∧ b ≠ c ∧ b ≠ d ∧ c ≠ d) := by
  simp only [okR, List.nil_append, List.cons_append, List.mem_cons, List.not_mem_nil, or_false, decide_eq_true_eq]
  symm
  by_cases h1 : 0 ≤ a ∧ a ≤ 16 - 1
  · rw [if_pos h1, if_neg (by simp)]
    by_cases h2 : 0 ≤ b ∧ b ≤ 16 - 1
    · rw [if_pos h2]
      by_cases e1 : b = a
      · rw [if_pos e1]; exact decide_eq_false (by omega)
      · rw [if_neg e1]
        by_cases h3 : 0 ≤ c ∧ c ≤ 16 - 1
        · rw [if_pos h3]
          by_cases e2 : c = a ∨ c = b
          · rw [if_pos e2]; exact decide_eq_false (by omega)
          · rw [if_neg e2]
            by_cases h4 : 0 ≤ d ∧ d ≤ 16 - 1
            · rw [if_pos h4]
              by_cases e3 : d = a ∨ d = b ∨ d = c
              · rw [if_pos e3]; exact decide_eq_false (by omega)
              · rw [if_neg e3]; exact decide_eq_true (by omega)
            · rw [if_neg h4]; exact decide_eq_false (by omega)
        · rw [if_neg h3]; exact decide_eq_false (by omega)
    · rw [if_neg h2]; exact decide_eq_false (by omega)
  · rw [if_neg h1]; exact decide_eq_false (by omega)
def goodQ (a b c d : Int) : Prop := (0 ≤ a ∧ a ≤ 15) ∧ (0 ≤ b ∧ b ≤ 15) ∧ (0 ≤ c ∧ c ≤ 15) ∧ (0 ≤ d ∧ d ≤ 15) ∧ a ≠ b ∧ a ≠ c ∧ a ≠ d ∧ b ≠ c ∧ b ≠ d ∧ c ≠ d
theorem implPlaces (a b c d : Int) (k : Nat) (hk : 2000 < k) (q : Bool) (hq : q = true ↔ goodQ a b c d) : impl_placesOk.f k [a, b, c, d] 16 = some q := by
  have h := places_l0 16 (by omega) [a, b, c, d] [] 4 k rfl (by simp) (by simp; omega)
  unfold impl_placesOk.f
  refine (show impl_placesOk.l0 k [a, b, c, d] 16 [a, b, c, d] ((([a, b, c, d] : List Int).length : Nat) : Int) 0 = some q from ?_)
  refine (show impl_placesOk.l0 k [a, b, c, d] 16 [a, b, c, d] 4 0 = some q from ?_)
  rw [show impl_placesOk.l0 k [a, b, c, d] 16 [a, b, c, d] 4 0 = some (okR 16 [] [a, b, c, d]) from h, okR_four]
  congr 1
  rw [Bool.eq_iff_iff, decide_eq_true_eq, hq]
  rfl
def quarterR (l : List Int) (a b c d : Int) (q : Bool) : List Int := if (l.length : Int) = 16 ∧ q = true then quarterL l a b c d else l
theorem implQuarter (l : List Int) (a b c d : Int) (hl : l.length ≤ 1099511627776) (q : Bool) (hq : q = true ↔ goodQ a b c d) (k : Nat) (hk : 2001 < k) : impl_Quarter.f k l a b c d = some (quarterR l a b c d q) := by
  obtain ⟨k, rfl⟩ : ∃ m, k = m + 1 := ⟨k - 1, by omega⟩
  unfold impl_Quarter.f slices_Clone_int_int.f quarterR
  rw [if_pos (by omega), Option.bind_some]
  by_cases h1 : (l.length : Int) = 16
  · rw [if_pos h1, implPlaces a b c d (k + 1) (by omega) q hq, Option.bind_some]
    by_cases h2 : q = true
    · have g := hq.1 h2
      unfold goodQ at g
      rw [if_pos ⟨h1, h2⟩, h2]
      simp only [impl_Quarter.j0]
      rw [if_neg (by decide), implStep _ _ _ _ _ (by omega) (by omega) (by omega), Option.bind_some, implStep _ _ _ _ _ (by rw [stepL_length]; omega) (by rw [stepL_length]; omega) (by rw [stepL_length]; omega), Option.bind_some,
        implStep _ _ _ _ _ (by rw [stepL_length, stepL_length]; omega) (by rw [stepL_length, stepL_length]; omega) (by rw [stepL_length, stepL_length]; omega), Option.bind_some,
        implStep _ _ _ _ _ (by rw [stepL_length, stepL_length, stepL_length]; omega) (by rw [stepL_length, stepL_length, stepL_length]; omega) (by rw [stepL_length, stepL_length, stepL_length]; omega), Option.bind_some]
      rfl
    · rw [if_neg (fun h => h2 h.2), Bool.eq_false_iff.mpr h2]; rfl
  · rw [if_neg h1, if_neg (fun h => h1 h.1)]; rfl
theorem specJ (l : List Int) (a b c d : Int) (hl : l.length = 16) (g : goodQ a b c d) (k : Nat) : spec_Quarter.j0 (k + 1) a b c d l false = some (quarterL l a b c d) := by
  unfold goodQ at g
  simp only [spec_Quarter.j0, specWordL, specTurnL, Option.bind_some]
  rw [if_neg (by decide), if_pos (by omega), if_pos (by omega), if_pos (by omega), if_pos (by omega), if_pos (by omega), if_pos (by omega), if_pos (by omega), if_pos (by omega)]
  rfl
theorem specQuarter (l : List Int) (a b c d : Int) (hl : l.length ≤ 1099511627776) (q : Bool) (hq : q = true ↔ goodQ a b c d) (k : Nat) (hk : 0 < k) : spec_Quarter.f k l a b c d = some (quarterR l a b c d q) := by
  obtain ⟨k, rfl⟩ : ∃ m, k = m + 1 := ⟨k - 1, by omega⟩
  unfold spec_Quarter.f quarterR
  simp only [Option.bind_some, List.nil_append, List.length_nil]
  rw [if_pos (by omega)]
  by_cases h1 : (l.length : Int) = 16
  · rw [if_pos h1]
    simp only [specIn, Option.bind_some, decide_eq_true_eq]
    by_cases g : goodQ a b c d
    · have g' := g
      unfold goodQ at g'
      rw [show (if (l.length : Int) = 16 ∧ q = true then quarterL l a b c d else l) = quarterL l a b c d from if_pos ⟨h1, hq.2 g⟩, if_pos g'.1, if_pos g'.2.1, if_pos g'.2.2.1, if_pos g'.2.2.2.1, if_neg (show ¬ a = b by omega), if_neg (show ¬ a = c by omega), if_neg (show ¬ a = d by omega), if_neg (show ¬ b = c by omega), if_neg (show ¬ b = d by omega), beq_eq_false_iff_ne.2 (show c ≠ d by omega)]
      exact specJ l a b c d (by omega) g k
    · rw [if_neg (show ¬ ((l.length : Int) = 16 ∧ q = true) from fun h => g (hq.1 h.2))]
      have jt : spec_Quarter.j0 (k + 1) a b c d l true = some l := rfl
      unfold goodQ at g
      split
      · split
        · split
          · split
            · split
              · exact jt
              · split
                · exact jt
                · split
                  · exact jt
                  · split
                    · exact jt
                    · split
                      · exact jt
                      · rw [beq_iff_eq.2 (show c = d by omega)]; exact jt
            · exact jt
          · exact jt
        · exact jt
      · exact jt
  · rw [if_neg h1, if_neg (fun h => h1 h.1)]; rfl
end Go.Proofs.Ytdineaebljpfaaa.B
/- Words, by the program and by the reference: four bytes a word; for lists of at most 2^40 bytes. -/
namespace Go.Proofs.Ytdineaebljpfaaa.B
open Go.RowKit Go.Proofs.Ytdineaebljpfaaa.P Go.Proofs.YtdineaebljpfaaaW.PrintWords Go.Proofs.YtdineaebljpfaaaW.PrintLast Go.Proofs.YtdineaebljpfaaaW.PrintMore
def w4 (a b c d : Int) : Int := Go.bits .or .i64 (Go.bits .or .i64 (Go.bits .or .i64 (wrap64 ((wrap64 a) * 16777216)) (wrap64 ((wrap64 b) * 65536))) (wrap64 ((wrap64 c) * 256))) (wrap64 d)
def word4 (big : Bool) (a b c d : Int) : Int := if big = true then w4 a b c d else w4 d c b a
/-- The words of a list of bytes. -/
def wordsL (big : Bool) : List Int → List Int
  | a :: b :: c :: d :: r => word4 big a b c d :: wordsL big r
  | _ => []
theorem wordsL_length (big : Bool) : ∀ l : List Int, (wordsL big l).length = l.length / 4
  | a :: b :: c :: d :: r => by simp [wordsL, wordsL_length big r]; omega
  | [] => rfl
  | [a] => by simp [wordsL]
  | [a, b] => by simp [wordsL]
  | [a, b, c] => by simp [wordsL]
theorem rd_at (pre l : List Int) (i : Nat) (j : Int) (h : j = (pre.length : Int) + i) : rd (pre ++ l) j = l.getD i 0 := by
  subst h
  unfold rd
  rw [show ((pre.length : Int) + i).toNat = pre.length + i from by omega]
  rw [List.getD_eq_getElem?_getD, List.getD_eq_getElem?_getD, List.getElem?_append_right (by omega), show pre.length + i - pre.length = i from by omega]
theorem specWords_l0 (big : Bool) : ∀ (rest pre acc : List Int) (k : Nat), pre.length + rest.length ≤ 1099511627776 → acc.length + rest.length ≤ 4398046511104 → rest.length < k →
    spec_Words.l0 k (pre ++ rest) big acc (pre.length : Int) = some (acc ++ wordsL big rest)
  | a :: b :: c :: d :: r, pre, acc, k, hb, hc, hk => by
    obtain ⟨k, rfl⟩ : ∃ m, k = m + 1 := ⟨k - 1, by omega⟩
    simp only [List.length_cons] at hb hc hk
    have ih := specWords_l0 big r (pre ++ [a, b, c, d]) (acc ++ [word4 big a b c d]) k (by simp; omega) (by simp; omega) (by omega)
    have hl : ((pre ++ a :: b :: c :: d :: r).length : Int) = pre.length + r.length + 4 := by simp; omega
    have e1 : wrap64 ((pre.length : Int) + 1) = pre.length + 1 := wrap_eq _ (by omega) (by omega)
    have e2 : wrap64 ((pre.length : Int) + 2) = pre.length + 2 := wrap_eq _ (by omega) (by omega)
    have e3 : wrap64 ((pre.length : Int) + 3) = pre.length + 3 := wrap_eq _ (by omega) (by omega)
    have e4 : wrap64 ((pre.length : Int) + 4) = ((pre ++ [a, b, c, d]).length : Int) := by rw [wrap_eq _ (by omega) (by omega)]; simp
    have r0 : rd (pre ++ a :: b :: c :: d :: r) (pre.length : Int) = a := rd_at _ _ 0 _ (by omega)
    have r1 : rd (pre ++ a :: b :: c :: d :: r) ((pre.length : Int) + 1) = b := rd_at _ _ 1 _ (by omega)
    have r2 : rd (pre ++ a :: b :: c :: d :: r) ((pre.length : Int) + 2) = c := rd_at _ _ 2 _ (by omega)
    have r3 : rd (pre ++ a :: b :: c :: d :: r) ((pre.length : Int) + 3) = d := rd_at _ _ 3 _ (by omega)
    have hx : pre ++ a :: b :: c :: d :: r = (pre ++ [a, b, c, d]) ++ r := by simp
    simp only [spec_Words.l0, e1, e2, e3, r0, r1, r2, r3]
    rw [hl]
    rw [if_pos (by omega)]
    have hy : (acc ++ [word4 big a b c d]) ++ wordsL big r = acc ++ wordsL big (a :: b :: c :: d :: r) := by simp [wordsL]
    rw [← hy, ← ih, ← e4, ← hx]
    cases big
    · rw [if_neg (by decide), if_pos (by omega), if_pos (by omega), if_pos (by omega), if_pos (by omega), if_pos (by omega), if_pos (by omega), if_pos (by omega), if_pos (by omega)]
      rfl
    · rw [if_pos rfl, if_pos (by omega), if_pos (by omega), if_pos (by omega), if_pos (by omega), if_pos (by omega), if_pos (by omega), if_pos (by omega), if_pos (by omega)]
      rfl
  | [], pre, acc, k, hb, hc, hk => by
    obtain ⟨k, rfl⟩ : ∃ m, k = m + 1 := ⟨k - 1, by omega⟩
    simp only [spec_Words.l0]; rw [wrap_eq _ (by omega) (by simp at hb; omega), if_neg (by simp; omega)]; simp [wordsL]
  | [a], pre, acc, k, hb, hc, hk => by
    obtain ⟨k, rfl⟩ : ∃ m, k = m + 1 := ⟨k - 1, by omega⟩
    simp only [spec_Words.l0]; rw [wrap_eq _ (by omega) (by simp at hb; omega), if_neg (by simp)]; simp [wordsL]
  | [a, b], pre, acc, k, hb, hc, hk => by
    obtain ⟨k, rfl⟩ : ∃ m, k = m + 1 := ⟨k - 1, by omega⟩
    simp only [spec_Words.l0]; rw [wrap_eq _ (by omega) (by simp at hb; omega), if_neg (by simp)]; simp [wordsL]
  | [a, b, c], pre, acc, k, hb, hc, hk => by
    obtain ⟨k, rfl⟩ : ∃ m, k = m + 1 := ⟨k - 1, by omega⟩
    simp only [spec_Words.l0]; rw [wrap_eq _ (by omega) (by simp at hb; omega), if_neg (by simp)]; simp [wordsL]
theorem specWords (l : List Int) (big : Bool) (hn : l.length ≤ 1099511627776) (k : Nat) (hk : l.length < k) : spec_Words.f k l big = some (wordsL big l) := by
  have h := specWords_l0 big l [] [] k (by simpa using hn) (by simp; omega) hk
  simpa [spec_Words.f] using h
theorem wordOf4 (big : Bool) (a b c d : Int) : impl_wordOf.f [a, b, c, d] big = some (word4 big a b c d) := by
  cases big <;> rfl
theorem implWords_l0 (big : Bool) : ∀ (rest pre acc : List Int) (k : Nat), pre.length + rest.length ≤ 1099511627776 → acc.length + rest.length ≤ 4398046511104 → rest.length < k →
    impl_Words.l0 k (pre ++ rest) big acc (pre.length : Int) = some (acc ++ wordsL big rest)
  | a :: b :: c :: d :: r, pre, acc, k, hb, hc, hk => by
    obtain ⟨k, rfl⟩ : ∃ m, k = m + 1 := ⟨k - 1, by omega⟩
    simp only [List.length_cons] at hb hc hk
    have ih := implWords_l0 big r (pre ++ [a, b, c, d]) (acc ++ [word4 big a b c d]) k (by simp; omega) (by simp; omega) (by omega)
    have hl : ((pre ++ a :: b :: c :: d :: r).length : Int) = pre.length + r.length + 4 := by simp; omega
    have e4 : wrap64 ((pre.length : Int) + 4) = pre.length + 4 := wrap_eq _ (by omega) (by omega)
    have e5 : (pre.length : Int) + 4 = ((pre ++ [a, b, c, d]).length : Int) := by simp
    have hx : pre ++ a :: b :: c :: d :: r = (pre ++ [a, b, c, d]) ++ r := by simp
    have ht : ((pre ++ a :: b :: c :: d :: r).take ((pre.length : Int) + 4).toNat).drop (pre.length : Int).toNat = [a, b, c, d] := by
      rw [show ((pre.length : Int) + 4).toNat = pre.length + 4 from by omega]
      simp [List.take_append]
    have hy : (acc ++ [word4 big a b c d]) ++ wordsL big r = acc ++ wordsL big (a :: b :: c :: d :: r) := by simp [wordsL]
    simp only [impl_Words.l0, e4, ht, wordOf4, Option.bind_some]
    rw [hl, if_pos (by omega), if_pos (by omega), if_pos (by omega), if_pos (by omega), ← hy, ← ih, e5, ← hx]
  | [], pre, acc, k, hb, hc, hk => by
    obtain ⟨k, rfl⟩ : ∃ m, k = m + 1 := ⟨k - 1, by omega⟩
    simp only [impl_Words.l0]; rw [wrap_eq _ (by omega) (by simp at hb; omega), if_neg (by simp <;> omega)]; simp [wordsL]
  | [a], pre, acc, k, hb, hc, hk => by
    obtain ⟨k, rfl⟩ : ∃ m, k = m + 1 := ⟨k - 1, by omega⟩
    simp only [impl_Words.l0]; rw [wrap_eq _ (by omega) (by simp at hb; omega), if_neg (by simp <;> omega)]; simp [wordsL]
  | [a, b], pre, acc, k, hb, hc, hk => by
    obtain ⟨k, rfl⟩ : ∃ m, k = m + 1 := ⟨k - 1, by omega⟩
    simp only [impl_Words.l0]; rw [wrap_eq _ (by omega) (by simp at hb; omega), if_neg (by simp <;> omega)]; simp [wordsL]
  | [a, b, c], pre, acc, k, hb, hc, hk => by
    obtain ⟨k, rfl⟩ : ∃ m, k = m + 1 := ⟨k - 1, by omega⟩
    simp only [impl_Words.l0]; rw [wrap_eq _ (by omega) (by simp at hb; omega), if_neg (by simp <;> omega)]; simp [wordsL]
theorem implWords (l : List Int) (big : Bool) (hn : l.length ≤ 1099511627776) (k : Nat) (hk : l.length < k) : impl_Words.f k l big = some (wordsL big l) := by
  have h := implWords_l0 big l [] [] k (by simpa using hn) (by simp; omega) hk
  simpa [impl_Words.f] using h
end Go.Proofs.Ytdineaebljpfaaa.B
