import Derived.Test.Ytlalkldjpniakaapm17
import Derived.Test.Ytlalkldjpniakaapm4
/- Plain lemmas on lists and on numbers that do not wrap, used by all pure statements of this seat; no condition but those each lemma names. -/
namespace Go.Proofs.Ytlalkldjpniakaa.B
open Go.RowKit Go.Proofs.YtlalkldjpniakaaW.PrintWords Go.Proofs.YtlalkldjpniakaaW.PrintLast Go.Proofs.YtlalkldjpniakaaW.PrintMore

theorem wrap_eq (x : Int) (h0 : -9223372036854775808 ≤ x) (h1 : x ≤ 9223372036854775807) : wrap64 x = x := by
  unfold wrap64; omega
theorem rd_mid (pre : List Int) (a : Int) (rest : List Int) : rd (pre ++ a :: rest) (pre.length : Int) = a := by
  unfold rd; simp [List.getD_eq_getElem?_getD]
theorem set_mid (pre : List Int) (a b : Int) (rest : List Int) : (pre ++ b :: rest).set ((pre.length : Int).toNat) a = pre ++ a :: rest := by
  simp
theorem lt_mid {α : Type} (pre : List α) (a : α) (rest : List α) : (pre.length : Int) < (((pre ++ a :: rest).length : Nat) : Int) := by
  simp; omega
theorem nlt_end {α : Type} (pre : List α) : ¬ ((pre.length : Int) < (((pre ++ []).length : Nat) : Int)) := by
  simp
theorem wrap_step {α : Type} (pre : List α) (a : α) (h : pre.length ≤ 4611686018427387904) : wrap64 ((pre.length : Int) + 1) = (((pre ++ [a]).length : Nat) : Int) := by
  rw [wrap_eq _ (by omega) (by omega)]; simp
theorem snoc_app {α : Type} (pre : List α) (a : α) (rest : List α) : pre ++ a :: rest = (pre ++ [a]) ++ rest := by simp
theorem pre_nonneg {α : Type} (pre : List α) : 0 ≤ (pre.length : Int) := by omega

theorem rd_mid2 (pa pb : List Int) (a : Int) (rest : List Int) (h : pa.length = pb.length) : rd (pb ++ a :: rest) (pa.length : Int) = a := by
  rw [h]; exact rd_mid pb a rest
theorem lt_mid2 {α : Type} (pa pb : List α) (a : α) (rest : List α) (h : pa.length = pb.length) : (pa.length : Int) < (((pb ++ a :: rest).length : Nat) : Int) := by
  rw [h]; exact lt_mid pb a rest
theorem nlt_end2 {α : Type} (pa pb : List α) (h : pa.length = pb.length) : ¬ ((pa.length : Int) < (((pb ++ []).length : Nat) : Int)) := by
  rw [h]; exact nlt_end pb
/-- n numbers m, m + 1, .. as bytes. -/
def marks : Nat → Int → List Int
  | 0, _ => []
  | n + 1, m => m % 256 :: marks n (m + 1)
theorem marks_length : ∀ (n : Nat) (m : Int), (marks n m).length = n
  | 0, _ => rfl
  | n + 1, m => by simp [marks, marks_length n]
theorem marks_snoc : ∀ (n : Nat) (m : Int), marks n m ++ [(m + n) % 256] = marks (n + 1) m
  | 0, m => by simp [marks]
  | n + 1, m => by
    have h := marks_snoc n (m + 1)
    rw [show m + 1 + (n : Int) = m + ((n + 1 : Nat) : Int) from by omega] at h
    rw [marks, marks, List.cons_append, h]
/-- n numbers m, m + 1, .. -/
def counts : Nat → Int → List Int
  | 0, _ => []
  | n + 1, m => m :: counts n (m + 1)
theorem counts_length : ∀ (n : Nat) (m : Int), (counts n m).length = n
  | 0, _ => rfl
  | n + 1, m => by simp [counts, counts_length n]
theorem counts_snoc : ∀ (n : Nat) (m : Int), counts n m ++ [m + n] = counts (n + 1) m
  | 0, m => by simp [counts]
  | n + 1, m => by
    have h := counts_snoc n (m + 1)
    rw [show m + 1 + (n : Int) = m + ((n + 1 : Nat) : Int) from by omega] at h
    rw [counts, counts, List.cons_append, h]
end Go.Proofs.Ytlalkldjpniakaa.B
/- Unhex, by the program and by the reference; for texts of at most 2^40 bytes. -/
namespace Go.Proofs.Ytlalkldjpniakaa.B
open Go.RowKit Go.Proofs.Ytlalkldjpniakaa.P Go.Proofs.YtlalkldjpniakaaW.PrintWords Go.Proofs.YtlalkldjpniakaaW.PrintLast Go.Proofs.YtlalkldjpniakaaW.PrintMore
def sgn (c : Int) : Int := if 48 ≤ c ∧ c ≤ 57 then c - 48 else if 97 ≤ c ∧ c ≤ 102 then c - 87 else -1
theorem sgn_range (c : Int) : -1 ≤ sgn c ∧ sgn c < 16 := by
  unfold sgn
  split
  · omega
  · split <;> omega
theorem bt_rng (s : ByteArray) (i : Int) : 0 ≤ bt s i ∧ bt s i < 256 := by
  unfold bt; split
  · have := (s[i.toNat]'(by assumption)).toNat_lt; omega
  · omega
theorem specSign (c : Int) (h0 : 0 ≤ c) (h1 : c < 256) (k : Nat) : spec_l1Sign.f (k + 1) c = some (sgn c) := by
  have e0 : wrap64 c = c := wrap_eq _ (by omega) (by omega)
  unfold spec_l1Sign.f sgn
  simp only [spec_l1Sign.j0, e0, decide_eq_true_eq]
  repeat' split
  all_goals first | rfl | contradiction | (exfalso; omega) | (rw [wrap_eq _ (by omega) (by omega)])
theorem implSign256 : ∀ n : Fin 256, Lib.indexByte [48, 49, 50, 51, 52, 53, 54, 55, 56, 57, 97, 98, 99, 100, 101, 102] n.val.toUInt8 = sgn (n.val : Int) := by
  decide +kernel
theorem implSign (c : Int) (h0 : 0 ≤ c) (h1 : c < 256) : strings_IndexByte.f (⟨#[48, 49, 50, 51, 52, 53, 54, 55, 56, 57, 97, 98, 99, 100, 101, 102]⟩ : ByteArray) c = some (sgn c) := by
  have h := implSign256 ⟨c.toNat, by omega⟩
  simp only [strings_IndexByte.f, stringslite_IndexByte.f, Option.bind_some]
  rw [show ((c.toNat : Nat) : Int) = c from by omega] at h
  exact congrArg some h
theorem two16 : ∀ a b : Fin 16, (wrap64 ((wrap64 (16 * (a.val : Int))) + (b.val : Int))) % 256 = (Go.bits .or .i64 (wrap64 ((a.val : Int) * 16)) (b.val : Int)) % 256 := by
  decide +kernel
theorem two (a b : Int) (ha : 0 ≤ a ∧ a < 16) (hb : 0 ≤ b ∧ b < 16) : (Go.bits .or .i64 (wrap64 (a * 16)) b) % 256 = (wrap64 ((wrap64 (16 * a)) + b)) % 256 := by
  have h := two16 ⟨a.toNat, by omega⟩ ⟨b.toNat, by omega⟩
  simp only [] at h
  rw [show ((a.toNat : Nat) : Int) = a from by omega, show ((b.toNat : Nat) : Int) = b from by omega] at h
  exact h.symm
theorem unhex_l0 (s : ByteArray) (hs : s.size ≤ 1099511627776) : ∀ (n i : Nat) (acc : List Int), s.size - i ≤ n → i ≤ s.size → i % 2 = 0 → acc.length + (s.size - i) ≤ 4398046511104 →
    ∃ r : List Int × Bool, r.1.length ≤ acc.length + (s.size - i) ∧ (s.size % 2 = 1 → r = ([], false)) ∧ (∀ k, n + 2 < k → spec_Unhex.l0 k s acc (i : Int) = some r) ∧ (∀ k, n + 2 < k → s.size % 2 = 0 → impl_Unhex.l0 k s acc (i : Int) = some r) ∧ (r.2 = true → 2 * r.1.length = 2 * acc.length + (s.size - i))
  | 0, i, acc, hn, hi, h2, hc => by
    have he : i = s.size := by omega
    subst he
    refine ⟨(acc, true), by simp, fun h => by omega, fun k hk => ?_, fun k hk _ => ?_, fun _ => by simp⟩
    · obtain ⟨k, rfl⟩ : ∃ m, k = m + 1 := ⟨k - 1, by omega⟩
      simp only [spec_Unhex.l0]; rw [wrap_eq _ (by omega) (by omega), if_neg (by omega), if_pos (by omega)]
    · obtain ⟨k, rfl⟩ : ∃ m, k = m + 1 := ⟨k - 1, by omega⟩
      simp only [impl_Unhex.l0]; rw [if_neg (by omega)]
  | n + 1, i, acc, hn, hi, h2, hc => by
    by_cases hd : i + 1 < s.size
    · have e1 : wrap64 ((i : Int) + 1) = i + 1 := wrap_eq _ (by omega) (by omega)
      have e2 : wrap64 ((i : Int) + 2) = ((i + 2 : Nat) : Int) := by rw [wrap_eq _ (by omega) (by omega)]; rfl
      obtain ⟨a0, a1⟩ := bt_rng s i
      obtain ⟨b0, b1⟩ := bt_rng s ((i : Int) + 1)
      obtain ⟨sa0, sa1⟩ := sgn_range (bt s i)
      obtain ⟨sb0, sb1⟩ := sgn_range (bt s ((i : Int) + 1))
      by_cases bad : sgn (bt s i) < 0 ∨ sgn (bt s ((i : Int) + 1)) < 0
      · refine ⟨([], false), by simp, fun _ => rfl, fun k hk => ?_, fun k hk _ => ?_, fun h => by cases h⟩
        · obtain ⟨k, rfl⟩ : ∃ m, k = m + 2 := ⟨k - 2, by omega⟩
          simp only [spec_Unhex.l0, e1, specSign _ a0 a1, specSign _ b0 b1, Option.bind_some]
          rw [if_pos (by omega), if_pos (by omega), if_pos (by omega), if_pos (by omega)]
          by_cases hx : sgn (bt s i) < 0
          · rw [if_pos hx]
          · rw [if_neg hx, if_pos (by omega)]
        · obtain ⟨k, rfl⟩ : ∃ m, k = m + 1 := ⟨k - 1, by omega⟩
          simp only [impl_Unhex.l0, e1, implSign _ a0 a1, implSign _ b0 b1, Option.bind_some]
          rw [if_pos (by omega), if_pos (by omega), if_pos (by omega), if_pos (by omega)]
          by_cases hx : sgn (bt s i) < 0
          · rw [if_pos hx]
          · rw [if_neg hx, if_pos (by omega)]
      · obtain ⟨r, hr0, hr1, hr2, hr3, hr4⟩ := unhex_l0 s hs n (i + 2) (acc ++ [(wrap64 ((wrap64 (16 * sgn (bt s i))) + sgn (bt s ((i : Int) + 1)))) % 256]) (by omega) (by omega) (by omega) (by simp; omega)
        refine ⟨r, by simp at hr0; omega, hr1, fun k hk => ?_, fun k hk h => ?_, fun h => by have h4 := hr4 h; rw [List.length_append, List.length_singleton] at h4; omega⟩
        · obtain ⟨k, rfl⟩ : ∃ m, k = m + 2 := ⟨k - 2, by omega⟩
          simp only [spec_Unhex.l0.eq_2, e1, e2, specSign _ a0 a1, specSign _ b0 b1, Option.bind_some]
          rw [if_pos (by omega), if_pos (by omega), if_pos (by omega), if_pos (by omega), if_neg (by omega), if_neg (by omega), if_pos (by omega)]
          exact hr2 (k + 1) (by omega)
        · obtain ⟨k, rfl⟩ : ∃ m, k = m + 1 := ⟨k - 1, by omega⟩
          simp only [impl_Unhex.l0, e1, e2, implSign _ a0 a1, implSign _ b0 b1, Option.bind_some]
          rw [if_pos (by omega), if_pos (by omega), if_pos (by omega), if_pos (by omega), if_neg (by omega), if_neg (by omega), if_pos (by omega), two _ _ (by omega) (by omega)]
          exact hr3 k (by omega) h
    · by_cases ho : i = s.size
      · subst ho
        refine ⟨(acc, true), by simp, fun h => by omega, fun k hk => ?_, fun k hk _ => ?_, fun _ => by simp⟩
        · obtain ⟨k, rfl⟩ : ∃ m, k = m + 1 := ⟨k - 1, by omega⟩
          simp only [spec_Unhex.l0]; rw [wrap_eq _ (by omega) (by omega), if_neg (by omega), if_pos (by omega)]
        · obtain ⟨k, rfl⟩ : ∃ m, k = m + 1 := ⟨k - 1, by omega⟩
          simp only [impl_Unhex.l0]; rw [if_neg (by omega)]
      · refine ⟨([], false), by simp, fun _ => rfl, fun k hk => ?_, fun k hk h => by omega, fun h => by cases h⟩
        obtain ⟨k, rfl⟩ : ∃ m, k = m + 1 := ⟨k - 1, by omega⟩
        simp only [spec_Unhex.l0]; rw [wrap_eq _ (by omega) (by omega), if_neg (by omega), if_neg (by omega)]
theorem unhex (s : ByteArray) (hs : s.size ≤ 1099511627776) : ∃ r : List Int × Bool, r.1.length ≤ s.size ∧ (r.2 = true → 2 * r.1.length = s.size) ∧ ∀ k, s.size + 3 < k → spec_Unhex.f k s = some r ∧ impl_Unhex.f k s = some r := by
  obtain ⟨r, h0, h1, h2, h3, h4⟩ := unhex_l0 s hs s.size 0 [] (by omega) (by omega) rfl (by simp; omega)
  refine ⟨r, by simpa using h0, fun h => by simpa using h4 h, fun k hk => ⟨h2 k (by omega), ?_⟩⟩
  unfold impl_Unhex.f
  by_cases he : s.size % 2 = 0
  · rw [if_pos (by omega)]; exact h3 k (by omega) he
  · rw [if_neg (by omega), h1 (by omega)]
end Go.Proofs.Ytlalkldjpniakaa.B
/- 'from lo to hi', by the program and by the reference; for every three numbers. -/
namespace Go.Proofs.Ytlalkldjpniakaa.B
open Go.RowKit Go.Proofs.Ytlalkldjpniakaa.P Go.Proofs.YtlalkldjpniakaaW.PrintWords Go.Proofs.YtlalkldjpniakaaW.PrintLast Go.Proofs.YtlalkldjpniakaaW.PrintMore
theorem specIn (a b c : Int) : spec_l1In.f a b c = some (decide (b ≤ a ∧ a ≤ c)) := by
  unfold spec_l1In.f
  by_cases h : a ≥ b
  · rw [if_pos h]; simp [show b ≤ a from h]
  · rw [if_neg h]; simp [show ¬ b ≤ a from h]
theorem implIn (a b c : Int) : impl_in.f a b c = some (decide (b ≤ a ∧ a ≤ c)) := specIn a b c
end Go.Proofs.Ytlalkldjpniakaa.B
/- ItemOk, by the program and by the reference: one answer; for every item. -/
namespace Go.Proofs.Ytlalkldjpniakaa.B
open Go.RowKit Go.Proofs.Ytlalkldjpniakaa.P Go.Proofs.YtlalkldjpniakaaW.PrintWords Go.Proofs.YtlalkldjpniakaaW.PrintLast Go.Proofs.YtlalkldjpniakaaW.PrintMore
theorem route (s : ByteArray) (hs : s.size ≤ 1099511627776) : ∃ b : Bool, ∀ k, s.size + 3 < k → spec_l13Route.f k s = some b ∧ impl_isRoute.f k s = some b := by
  obtain ⟨r, h1, h2, h3⟩ := unhex s hs
  refine ⟨if r.2 = true then ((s.size : Int) == 16) else false, fun k hk => ⟨?_, ?_⟩⟩
  · unfold spec_l13Route.f
    rw [(h3 k hk).1, Option.bind_some]
    by_cases c : r.2 = true
    · have h := h2 c
      rw [if_pos c, if_pos c]
      congr 1
      rw [Bool.eq_iff_iff, beq_iff_eq, beq_iff_eq]
      omega
    · rw [if_neg c, if_neg c]
  · unfold impl_isRoute.f
    rw [(h3 k hk).2, Option.bind_some]
    by_cases c : r.2 = true
    · rw [if_pos c, if_pos c]
    · rw [if_neg c, if_neg c]
theorem itemOk (s : ByteArray) (n m : Int) (l : List Int) (hs : s.size ≤ 1099511627776) : ∃ b : Bool, ∀ k, s.size + 3 < k → spec_ItemOk.f k s n m l = some b ∧ impl_ItemOk.f k s n m l = some b := by
  obtain ⟨b, hb⟩ := route s hs
  refine ⟨if b = true then (if decide (0 ≤ n ∧ n ≤ 9) = true then (if decide (0 ≤ m ∧ m ≤ 100000) = true then decide ((l.length : Int) ≤ 1560) else false) else false) else false, fun k hk => ⟨?_, ?_⟩⟩
  · unfold spec_ItemOk.f
    rw [(hb k hk).1, Option.bind_some, specIn, specIn]
    simp only [Option.bind_some]
    split <;> (try split) <;> (try split) <;> rfl
  · unfold impl_ItemOk.f
    rw [(hb k hk).2, Option.bind_some, implIn, implIn]
    simp only [Option.bind_some]
    split <;> (try split) <;> (try split) <;> rfl
end Go.Proofs.Ytlalkldjpniakaa.B
/- LineOk, by the program and by the reference: one answer; for lines whose lists are of at most 2^40 bytes. -/
namespace Go.Proofs.Ytlalkldjpniakaa.B
open Go.RowKit Go.Proofs.Ytlalkldjpniakaa.P Go.Proofs.YtlalkldjpniakaaW.PrintWords Go.Proofs.YtlalkldjpniakaaW.PrintLast Go.Proofs.YtlalkldjpniakaaW.PrintMore
theorem lineOk (q : Int) (s : ByteArray) (n m : Int) (l : List Int) (hs : s.size ≤ 1099511627776) (hl : l.length ≤ 1099511627776) : ∃ b : Bool, ∀ k, s.size + 3 < k → spec_LineOk.f k q s n m l = some b ∧ impl_LineOk.f k q s n m l = some b := by
  obtain ⟨b1, h1⟩ := itemOk s n m l hs
  obtain ⟨b2, h2⟩ := route s hs
  by_cases c1 : q = 1
  · refine ⟨b1, fun k hk => ⟨?_, ?_⟩⟩
    · unfold spec_LineOk.f spec_l14Item.f
      rw [if_pos c1, Option.bind_some, if_pos (by simp; omega), Option.bind_some]
      simp only [List.nil_append]
      rw [(h1 k hk).1]; rfl
    · unfold impl_LineOk.f impl_itemOf.f slices_Clone_byte_byte.f
      rw [if_pos c1, if_pos (by omega), Option.bind_some, Option.bind_some, (h1 k hk).2]; rfl
  · by_cases c2 : q = 2
    · refine ⟨if b2 = true then (if n = 0 then (if m = 0 then ((l.length : Int) == 0) else false) else false) else false, fun k hk => ⟨?_, ?_⟩⟩
      · unfold spec_LineOk.f
        rw [if_neg c1, if_pos c2, (h2 k hk).1, Option.bind_some]
        split <;> (try split) <;> (try split) <;> rfl
      · unfold impl_LineOk.f
        rw [if_neg c1, if_pos c2, (h2 k hk).2, Option.bind_some]
        split <;> (try split) <;> (try split) <;> rfl
    · by_cases c3 : q = 3
      · refine ⟨if s.toList = [] then (if n = 0 then (if decide (0 ≤ m ∧ m ≤ 100000) = true then ((l.length : Int) == 0) else false) else false) else false, fun k hk => ⟨?_, ?_⟩⟩
        · unfold spec_LineOk.f
          rw [if_neg c1, if_neg c2, if_pos c3, specIn]
          simp only [Option.bind_some]
          split <;> (try split) <;> (try split) <;> rfl
        · unfold impl_LineOk.f
          rw [if_neg c1, if_neg c2, if_pos c3, implIn, Option.bind_some]
          by_cases d : decide (0 ≤ m ∧ m ≤ 100000) = true
          · rw [if_pos d, if_pos d]
            split <;> (try split) <;> rfl
          · rw [if_neg d, if_neg d]
            split <;> (try split) <;> rfl
      · refine ⟨false, fun k hk => ⟨?_, ?_⟩⟩
        · unfold spec_LineOk.f; rw [if_neg c1, if_neg c2, if_neg c3]
        · unfold impl_LineOk.f; rw [if_neg c1, if_neg c2, if_neg c3]
end Go.Proofs.Ytlalkldjpniakaa.B
/- What masks and shifts of whole numbers are, as remainders; each for the numbers that it names. -/
namespace Go.Proofs.Ytlalkldjpniakaa.B
open Go.RowKit Go.Proofs.YtlalkldjpniakaaW.PrintWords Go.Proofs.YtlalkldjpniakaaW.PrintLast Go.Proofs.YtlalkldjpniakaaW.PrintMore

theorem i64_and_nat (x : Int) (m : Nat) (hm : m < 9223372036854775808) : Go.bits .and .i64 x (m : Int) = (((x % 18446744073709551616).toNat &&& m : Nat) : Int) := by
  have h1 : (BitVec.ofInt 64 x).toNat = (x % 18446744073709551616).toNat := by
    rw [BitVec.toNat_ofInt]; rfl
  have h2 : (BitVec.ofInt 64 (m : Int)).toNat = m := ofInt_u64 m (by omega)
  have hx : (x % 18446744073709551616).toNat &&& m ≤ m := Nat.and_le_right
  show IntKind.i64.wrap ((BitVec.ofInt 64 x &&& BitVec.ofInt 64 (m : Int)).toNat : Int) = _
  rw [BitVec.toNat_and, h1, h2, IntKind.wrap_i64]
  omega
theorem i64_and31 (x : Int) : Go.bits .and .i64 x 31 = x % 32 := by
  rw [show (31 : Int) = ((31 : Nat) : Int) from rfl, i64_and_nat x 31 (by omega), show (31 : Nat) = 2 ^ 5 - 1 from rfl, Nat.and_two_pow_sub_one_eq_mod]
  omega
theorem i64_and255 (x : Int) : Go.bits .and .i64 x 255 = x % 256 := by
  rw [show (255 : Int) = ((255 : Nat) : Int) from rfl, i64_and_nat x 255 (by omega), show (255 : Nat) = 2 ^ 8 - 1 from rfl, Nat.and_two_pow_sub_one_eq_mod]
  omega
theorem i64_and32 (x : Int) : Go.bits .and .i64 x 4294967295 = x % 4294967296 := by
  rw [show (4294967295 : Int) = ((4294967295 : Nat) : Int) from rfl, i64_and_nat x 4294967295 (by omega), show (4294967295 : Nat) = 2 ^ 32 - 1 from rfl, Nat.and_two_pow_sub_one_eq_mod]
  omega
theorem wf8 {l : List Int} (h : ∀ x ∈ l, (Lit.int .u8 x).wf = true) : ∀ x ∈ l, 0 ≤ x ∧ x < 256 := by
  intro x hx
  have := h x hx
  have m1 : IntKind.u8.min = 0 := by decide
  have m2 : IntKind.u8.max = 255 := by decide
  simp only [Lit.wf, m1, m2, Bool.and_eq_true, decide_eq_true_eq] at this
  omega
theorem wf64 {x : Int} (h : (Lit.int .i64 x).wf = true) : -9223372036854775808 ≤ x ∧ x ≤ 9223372036854775807 := by
  have m1 : IntKind.i64.min = -9223372036854775808 := by decide
  have m2 : IntKind.i64.max = 9223372036854775807 := by decide
  simp only [Lit.wf, m1, m2, Bool.and_eq_true, decide_eq_true_eq] at h
  omega
end Go.Proofs.Ytlalkldjpniakaa.B
/- Little, by the program and by the reference: the low bytes of a number, the lowest first; for every number and every count. -/
namespace Go.Proofs.Ytlalkldjpniakaa.B
open Go.RowKit Go.Proofs.Ytlalkldjpniakaa.P Go.Proofs.YtlalkldjpniakaaW.PrintWords Go.Proofs.YtlalkldjpniakaaW.PrintLast Go.Proofs.YtlalkldjpniakaaW.PrintMore
/-- So many low bytes, the lowest first. -/
def lowL : Nat → Int → List Int
  | 0, _ => []
  | m + 1, n => n % 256 :: lowL m (n / 256)
/-- What Little answers. -/
def leL (n many : Int) : List Int := if 0 ≤ n ∧ 1 ≤ many ∧ many ≤ 8 then lowL many.toNat n else []
theorem lowL_length : ∀ (m : Nat) (n : Int), (lowL m n).length = m
  | 0, _ => rfl
  | m + 1, n => by simp [lowL, lowL_length m]
theorem leL_length (n many : Int) : (leL n many).length ≤ 8 := by
  unfold leL; split
  · rw [lowL_length]; omega
  · simp
theorem specLittle_l0 : ∀ (m : Nat) (n i many : Int) (acc : List Int) (k : Nat), 0 ≤ i → many ≤ 8 → many - i = m → acc.length ≤ 100 - m → m ≤ 8 → m < k →
    spec_Little.l0 k n many acc i = some (acc ++ lowL m n)
  | 0, n, i, many, acc, k, h0, h8, hd, hc, hm, hk => by
    obtain ⟨k, rfl⟩ : ∃ m, k = m + 1 := ⟨k - 1, by omega⟩
    simp only [spec_Little.l0]; rw [if_neg (by omega)]; simp [lowL]
  | m + 1, n, i, many, acc, k, h0, h8, hd, hc, hm, hk => by
    obtain ⟨k, rfl⟩ : ∃ m, k = m + 1 := ⟨k - 1, by omega⟩
    have ih := specLittle_l0 m (n / 256) (i + 1) many (acc ++ [n % 256]) k (by omega) h8 (by omega) (by simp; omega) (by omega) (by omega)
    simp only [spec_Little.l0]
    rw [if_pos (by omega), if_pos (by omega), wrap_eq (i + 1) (by omega) (by omega), i64_and255, show n % 256 % 256 = n % 256 by omega, ih]
    simp [lowL]
theorem specLittle (n many : Int) (k : Nat) (hk : 20 < k) : spec_Little.f k n many = some (leL n many) := by
  obtain ⟨k, rfl⟩ : ∃ m, k = m + 1 := ⟨k - 1, by omega⟩
  unfold spec_Little.f leL spec_l1In.f
  simp only [Option.bind_some]
  by_cases h : n < 0
  · rw [if_pos h, if_neg (by omega)]; simp [spec_Little.j0]
  · rw [if_neg h]
    by_cases h1 : many ≥ 1
    · rw [if_pos h1]
      simp only [Option.bind_some]
      by_cases h2 : many ≤ 8
      · rw [if_pos ⟨by omega, by omega, h2⟩]
        simp only [spec_Little.j0, h2, decide_true, Bool.not_true, Bool.false_eq_true, if_false]
        have := specLittle_l0 many.toNat n 0 many [] k (by omega) h2 (by omega) (by simp) (by omega) (by omega)
        simpa using this
      · rw [if_neg (by omega)]; simp [spec_Little.j0, h2]
    · rw [if_neg h1, if_neg (by omega)]; simp [spec_Little.j0]
theorem implLittle_l0 : ∀ (m : Nat) (n i many : Int) (acc : List Int) (k : Nat), 0 ≤ i → many ≤ 8 → many - i = m → acc.length ≤ 100 - m → m ≤ 8 → m < k →
    impl_Little.l0 k n acc many i = some (acc ++ lowL m n)
  | 0, n, i, many, acc, k, h0, h8, hd, hc, hm, hk => by
    obtain ⟨k, rfl⟩ : ∃ m, k = m + 1 := ⟨k - 1, by omega⟩
    simp only [impl_Little.l0]; rw [if_neg (by omega)]; simp [lowL]
  | m + 1, n, i, many, acc, k, h0, h8, hd, hc, hm, hk => by
    obtain ⟨k, rfl⟩ : ∃ m, k = m + 1 := ⟨k - 1, by omega⟩
    have ih := implLittle_l0 m (n / 256) (i + 1) many (acc ++ [n % 256]) k (by omega) h8 (by omega) (by simp; omega) (by omega) (by omega)
    simp only [impl_Little.l0]
    rw [if_pos (by omega), if_pos (by omega), wrap_eq (i + 1) (by omega) (by omega), ih]
    simp [lowL]
theorem implLittle (n many : Int) (k : Nat) (hk : 20 < k) : impl_Little.f k n many = some (leL n many) := by
  obtain ⟨k, rfl⟩ : ∃ m, k = m + 1 := ⟨k - 1, by omega⟩
  unfold impl_Little.f leL impl_in.f
  by_cases h : n < 0
  · rw [if_pos h, if_neg (by omega)]; simp [impl_Little.j0]
  · rw [if_neg h]
    by_cases h1 : many ≥ 1
    · rw [if_pos h1]
      simp only [Option.bind_some]
      by_cases h2 : many ≤ 8
      · rw [if_pos ⟨by omega, by omega, h2⟩]
        simp only [impl_Little.j0, h2, decide_true, Bool.not_true, Bool.false_eq_true, if_false]
        have := implLittle_l0 many.toNat n 0 many [] k (by omega) h2 (by omega) (by simp) (by omega) (by omega)
        simpa using this
      · rw [if_neg (by omega)]; simp [impl_Little.j0, h2]
    · rw [if_neg h1, if_neg (by omega)]; simp [impl_Little.j0]
end Go.Proofs.Ytlalkldjpniakaa.B
/- Great, by the program and by the reference: Little, the other way round; for every number and every count. -/
namespace Go.Proofs.Ytlalkldjpniakaa.B
open Go.RowKit Go.Proofs.Ytlalkldjpniakaa.P Go.Proofs.YtlalkldjpniakaaW.PrintWords Go.Proofs.YtlalkldjpniakaaW.PrintLast Go.Proofs.YtlalkldjpniakaaW.PrintMore
theorem specGreat_l0 : ∀ (n : Nat) (xs acc : List Int) (k : Nat), n ≤ xs.length → xs.length ≤ 100 → acc.length + n ≤ 200 → n < k →
    spec_Great.l0 k xs acc ((n : Int) - 1) = some (acc ++ (xs.take n).reverse)
  | 0, xs, acc, k, hn, hx, hc, hk => by
    obtain ⟨k, rfl⟩ : ∃ m, k = m + 1 := ⟨k - 1, by omega⟩
    simp only [spec_Great.l0]; rw [if_neg (by omega)]; simp
  | n + 1, xs, acc, k, hn, hx, hc, hk => by
    obtain ⟨k, rfl⟩ : ∃ m, k = m + 1 := ⟨k - 1, by omega⟩
    have ih := specGreat_l0 n xs (acc ++ [xs.getD n 0]) k (by omega) hx (by simp; omega) (by omega)
    have e1 : ((n + 1 : Nat) : Int) - 1 = (n : Int) := by omega
    have e2 : rd xs (n : Int) = xs.getD n 0 := by simp [rd]
    simp only [spec_Great.l0]
    rw [e1, if_pos (by omega), if_pos (by omega), if_pos (by omega), if_pos (by omega), e2, wrap_eq ((n : Int) - 1) (by omega) (by omega), ih]
    have h3 : xs.take (n + 1) = xs.take n ++ [xs.getD n 0] := by
      rw [List.take_succ_eq_append_getElem (by omega)]
      simp [List.getD_eq_getElem?_getD, List.getElem?_eq_getElem (show n < xs.length by omega)]
    rw [h3]; simp
theorem specGreat (n many : Int) (k : Nat) (hk : 40 < k) : spec_Great.f k n many = some (leL n many).reverse := by
  have hl := leL_length n many
  unfold spec_Great.f
  rw [specLittle n many k (by omega)]
  simp only [Option.bind_some]
  rw [wrap_eq _ (by omega) (by omega), specGreat_l0 _ _ [] k (Nat.le_refl _) (by omega) (by simp; omega) (by omega)]
  simp
theorem turned_l0 : ∀ (rest pre junk b : List Int) (n : Int) (k : Nat), b = pre ++ rest → n = (b.length : Int) → junk.length = rest.length → b.length ≤ 1099511627776 → rest.length < k →
    impl_turned.l0 k b (junk ++ pre.reverse) b n (pre.length : Int) = some b.reverse
  | [], pre, junk, b, n, k, hb, hn, hj, hc, hk => by
    obtain ⟨k, rfl⟩ : ∃ m, k = m + 1 := ⟨k - 1, by omega⟩
    obtain rfl : junk = [] := List.eq_nil_of_length_eq_zero hj
    subst hb
    simp only [impl_turned.l0]; rw [if_neg (by rw [hn]; exact nlt_end pre)]; simp
  | a :: rest, pre, junk, b, n, k, hb, hn, hj, hc, hk => by
    obtain ⟨k, rfl⟩ : ∃ m, k = m + 1 := ⟨k - 1, by omega⟩
    simp only [List.length_cons] at hk hj
    have hne : junk ≠ [] := by intro h; rw [h] at hj; simp at hj
    obtain ⟨junk1, z, rfl⟩ : ∃ j z, junk = j ++ [z] := ⟨junk.dropLast, junk.getLast hne, (List.dropLast_concat_getLast hne).symm⟩
    have hj1 : junk1.length = rest.length := by simp at hj; omega
    have hbl : b.length = pre.length + rest.length + 1 := by rw [hb]; simp; omega
    have ih := turned_l0 rest (pre ++ [a]) junk1 b n k (by rw [hb]; simp) hn hj1 hc (by omega)
    simp only [impl_turned.l0]
    have e1 : wrap64 ((b.length : Int) - 1) = (b.length : Int) - 1 := wrap_eq _ (by omega) (by omega)
    have e2 : wrap64 ((b.length : Int) - 1 - (pre.length : Int)) = (junk1.length : Int) := by rw [wrap_eq _ (by omega) (by omega)]; omega
    have e3 : rd b (pre.length : Int) = a := by rw [hb]; exact rd_mid pre a rest
    have e4 : (junk1 ++ [z] ++ pre.reverse).set ((junk1.length : Int).toNat) a = junk1 ++ (pre ++ [a]).reverse := by simp
    rw [e1, e2, e3, e4, if_pos (by omega), if_pos (by omega), if_pos (by omega), if_pos (by omega), if_pos (by simp; omega), wrap_step pre a (by omega)]
    exact ih
theorem turned (b : List Int) (hc : b.length ≤ 1099511627776) (k : Nat) (hk : b.length < k) : impl_turned.f k b = some b.reverse := by
  unfold impl_turned.f
  rw [if_pos (by omega), if_pos (by simp; omega)]
  have h := turned_l0 b [] (List.replicate b.length 0) b _ k rfl rfl (by simp) hc hk
  simpa using h
theorem implGreat (n many : Int) (k : Nat) (hk : 40 < k) : impl_Great.f k n many = some (leL n many).reverse := by
  have hl := leL_length n many
  unfold impl_Great.f
  rw [implLittle n many k (by omega)]
  simp only [Option.bind_some]
  rw [turned _ (by omega) k (by omega)]
  simp
end Go.Proofs.Ytlalkldjpniakaa.B
/- The parts, one behind the other; for at most 2^47 parts and bytes. -/
namespace Go.Proofs.Ytlalkldjpniakaa.B
open Go.RowKit Go.Proofs.Ytlalkldjpniakaa.P Go.Proofs.YtlalkldjpniakaaW.PrintWords Go.Proofs.YtlalkldjpniakaaW.PrintLast Go.Proofs.YtlalkldjpniakaaW.PrintMore
theorem joined (ls : List (List Int)) (h1 : ls.flatten.length ≤ 140737488355328) (h2 : ls.length ≤ 140737488355328) : impl_joined.f ls = some ls.flatten := by
  unfold impl_joined.f bytes_Join.f
  rw [if_pos ⟨rfl, h1, h2⟩]; rfl
theorem joined2 (a b : List Int) (h : a.length + b.length ≤ 140737488355328) : impl_joined.f [a, b] = some (a ++ b) := by
  rw [joined _ (by simp; omega) (by simp)]; simp
theorem joined3 (a b c : List Int) (h : a.length + b.length + c.length ≤ 140737488355328) : impl_joined.f [a, b, c] = some (a ++ b ++ c) := by
  rw [joined _ (by simp; omega) (by simp)]; simp
theorem joined4 (a b c d : List Int) (h : a.length + b.length + c.length + d.length ≤ 140737488355328) : impl_joined.f [a, b, c, d] = some (a ++ b ++ c ++ d) := by
  rw [joined _ (by simp; omega) (by simp)]; simp
end Go.Proofs.Ytlalkldjpniakaa.B
/- LineBytes, by the program and by the reference: one list; for lines whose lists are of at most 2^20 bytes. -/
namespace Go.Proofs.Ytlalkldjpniakaa.B
open Go.RowKit Go.Proofs.Ytlalkldjpniakaa.P Go.Proofs.YtlalkldjpniakaaW.PrintWords Go.Proofs.YtlalkldjpniakaaW.PrintLast Go.Proofs.YtlalkldjpniakaaW.PrintMore
/-- A line's bytes, its route's bytes given. -/
def lineB (q : Int) (x : List Int) (n m : Int) (l : List Int) : List Int := [q % 256] ++ x ++ [n % 256] ++ (leL m 4).reverse ++ (leL (l.length : Int) 2).reverse ++ l
def lineL (q : Int) (x : List Int) (n m : Int) (l : List Int) : List Int := lineB q x n m l ++ (leL ((lineB q x n m l).length : Int) 2).reverse
theorem lineL_length (q : Int) (x : List Int) (n m : Int) (l : List Int) : (lineL q x n m l).length ≤ x.length + l.length + 26 := by
  have h1 := leL_length m 4
  have h2 := leL_length (l.length : Int) 2
  have h3 := leL_length ((lineB q x n m l).length : Int) 2
  unfold lineL
  rw [List.length_append, List.length_reverse]
  unfold lineB at *
  simp only [List.length_append, List.length_reverse, List.length_singleton] at *
  omega
theorem specTail (q : Int) (x : List Int) (n m : Int) (l : List Int) (hx : x.length ≤ 1048576) (hl : l.length ≤ 1048576) (k : Nat) (hk : 40 < k) :
    ((some (([(q) % 256] : List Int) : List Int)).bind fun y497 => (if y497.length + x.length < 140737488355328 then ((some (y497 ++ x : List Int)).bind fun y500 => (if y500.length < 140737488355328 then ((some (y500 ++ [(n) % 256] : List Int)).bind fun y503 => ((spec_Great.f k m 4).bind fun t506 => (if y503.length + t506.length < 140737488355328 then ((some (y503 ++ t506 : List Int)).bind fun y509 => ((spec_Great.f k (l.length : Int) 2).bind fun t512 => (if y509.length + t512.length < 140737488355328 then ((some (y509 ++ t512 : List Int)).bind fun y515 => (if y515.length + l.length < 140737488355328 then ((some (y515 ++ l : List Int)).bind fun y518 => ((spec_Great.f k (y518.length : Int) 2).bind fun t521 => (if y518.length + t521.length < 140737488355328 then (some (y518 ++ t521)) else (none)))) else (none))) else (none)))) else (none)))) else (none))) else (none))) = some (lineL q x n m l) := by
  have h1 := leL_length m 4
  have h2 := leL_length (l.length : Int) 2
  have h3 := leL_length ((lineB q x n m l).length : Int) 2
  simp only [Option.bind_some]
  rw [if_pos (by simp; omega), if_pos (by simp; omega), specGreat _ _ k hk, Option.bind_some, if_pos (by simp; omega), specGreat _ _ k hk, Option.bind_some, if_pos (by simp; omega), if_pos (by simp; omega), specGreat _ _ k hk, Option.bind_some, if_pos (by rw [List.length_reverse]; simp; unfold lineB at h3; simp at h3; omega)]
  rfl
theorem implTail (q : Int) (s : ByteArray) (x : List Int) (n m : Int) (l : List Int) (hx : x.length ≤ 1048576) (hl : l.length ≤ 1048576) (k : Nat) (hk : 40 < k) : impl_LineBytes.j0 (k + 1) x q s n m l = some (lineL q x n m l) := by
  have h1 := leL_length m 4
  have h2 := leL_length (l.length : Int) 2
  have h3 := leL_length ((lineB q x n m l).length : Int) 2
  have e : ([[q % 256], x, [n % 256], (leL m 4).reverse, (leL (l.length : Int) 2).reverse, l] : List (List Int)).flatten = lineB q x n m l := by simp [lineB]
  have hlen : (lineB q x n m l).length ≤ x.length + l.length + 18 := by
    unfold lineB
    simp only [List.length_append, List.length_reverse, List.length_singleton]
    omega
  simp only [impl_LineBytes.j0]
  rw [implGreat _ _ k hk, Option.bind_some, implGreat _ _ k hk, Option.bind_some, joined _ (by rw [e]; omega) (by simp), e, Option.bind_some, implGreat _ _ k hk, Option.bind_some, if_pos (by rw [List.length_reverse]; omega)]
  rfl
theorem lineBytes (q : Int) (s : ByteArray) (n m : Int) (l : List Int) (hs : s.size ≤ 1048576) (hl : l.length ≤ 1048576) : ∃ r : List Int, r.length ≤ s.size + l.length + 100 ∧ ∀ k, s.size + 50 < k → spec_LineBytes.f k q s n m l = some r ∧ impl_LineBytes.f k q s n m l = some r := by
  obtain ⟨b, hb⟩ := lineOk q s n m l (by omega) (by omega)
  obtain ⟨x, hx1, hx2, hx3⟩ := unhex s (by omega)
  by_cases c : b = true
  · by_cases c3 : q = 3
    · have h := lineL_length q (List.replicate 8 0) n m l
      rw [List.length_replicate] at h
      refine ⟨lineL q (List.replicate 8 0) n m l, by omega, fun k hk => ⟨?_, ?_⟩⟩
      · unfold spec_LineBytes.f
        rw [(hb k (by omega)).1, Option.bind_some, if_pos c, (hx3 k (by omega)).1, Option.bind_some, if_pos c3, if_pos (by omega), Option.bind_some]
        exact specTail q _ n m l (by rw [List.length_replicate]; omega) hl k (by omega)
      · obtain ⟨k, rfl⟩ : ∃ m, k = m + 1 := ⟨k - 1, by omega⟩
        unfold impl_LineBytes.f
        rw [(hb (k + 1) (by omega)).2, Option.bind_some, if_pos c, if_pos (by omega), if_pos c3]
        exact implTail q s _ n m l (by rw [List.length_replicate]; omega) hl k (by omega)
    · have h := lineL_length q x.1 n m l
      refine ⟨lineL q x.1 n m l, by omega, fun k hk => ⟨?_, ?_⟩⟩
      · unfold spec_LineBytes.f
        rw [(hb k (by omega)).1, Option.bind_some, if_pos c, (hx3 k (by omega)).1, Option.bind_some, if_neg c3]
        exact specTail q _ n m l (by omega) hl k (by omega)
      · obtain ⟨k, rfl⟩ : ∃ m, k = m + 1 := ⟨k - 1, by omega⟩
        unfold impl_LineBytes.f
        rw [(hb (k + 1) (by omega)).2, Option.bind_some, if_pos c, if_pos (by omega), if_neg c3, (hx3 (k + 1) (by omega)).2, Option.bind_some]
        exact implTail q s _ n m l (by omega) hl k (by omega)
  · refine ⟨[], by simp, fun k hk => ⟨?_, ?_⟩⟩
    · unfold spec_LineBytes.f; rw [(hb k (by omega)).1, Option.bind_some, if_neg c]
    · unfold impl_LineBytes.f; rw [(hb k (by omega)).2, Option.bind_some, if_neg c]
end Go.Proofs.Ytlalkldjpniakaa.B
/- Hex, by the program and by the reference: two signs a byte; for lists of at most 2^40 bytes. -/
namespace Go.Proofs.Ytlalkldjpniakaa.B
open Go.RowKit Go.Proofs.Ytlalkldjpniakaa.P Go.Proofs.YtlalkldjpniakaaW.PrintWords Go.Proofs.YtlalkldjpniakaaW.PrintLast Go.Proofs.YtlalkldjpniakaaW.PrintMore
def signs : ByteArray := ⟨#[48, 49, 50, 51, 52, 53, 54, 55, 56, 57, 97, 98, 99, 100, 101, 102]⟩
/-- Two signs a byte. -/
def hexL : List Int → List Int
  | [] => []
  | x :: l => bt signs (x / 16) :: bt signs (x % 16) :: hexL l
theorem hexL_length : ∀ l : List Int, (hexL l).length = 2 * l.length
  | [] => rfl
  | x :: l => by simp [hexL, hexL_length l]; omega
theorem specHex_l0 : ∀ (rest pre acc : List Int) (k : Nat), (∀ x ∈ rest, 0 ≤ x ∧ x < 256) → pre.length + rest.length ≤ 1099511627776 → acc.length + 2 * rest.length ≤ 4398046511104 → rest.length < k →
    spec_Hex.l0 k (pre ++ rest) signs acc (pre.length : Int) = some (strOfNums (acc ++ hexL rest))
  | [], pre, acc, k, hw, hb, hc, hk => by
    obtain ⟨k, rfl⟩ : ∃ m, k = m + 1 := ⟨k - 1, by omega⟩
    simp only [spec_Hex.l0]; rw [if_neg (nlt_end pre)]; simp [hexL]
  | x :: rest, pre, acc, k, hw, hb, hc, hk => by
    obtain ⟨k, rfl⟩ : ∃ m, k = m + 1 := ⟨k - 1, by omega⟩
    simp only [List.length_cons] at hb hc hk
    have hx := hw x (by simp)
    have hs : (signs.size : Int) = 16 := rfl
    have ih := specHex_l0 rest (pre ++ [x]) (acc ++ [bt signs (x / 16), bt signs (x % 16)]) k (fun y hy => hw y (by simp [hy])) (by simp; omega) (by simp; omega) (by omega)
    simp only [spec_Hex.l0, Option.bind_some]
    rw [if_pos (lt_mid pre x rest), if_pos (pre_nonneg pre), rd_mid, u8_and15 _ hx.1 hx.2, hs, if_pos (by omega), if_pos (by omega), if_pos (by omega), if_pos (by omega), if_pos (by simp; omega), wrap_step pre x (by omega), snoc_app pre x rest, ih]
    simp [hexL]
theorem specHex (l : List Int) (hw : ∀ x ∈ l, 0 ≤ x ∧ x < 256) (hn : l.length ≤ 1099511627776) (k : Nat) (hk : l.length < k) : spec_Hex.f k l = some (strOfNums (hexL l)) := by
  have h := specHex_l0 l [] [] k hw (by simpa using hn) (by simp; omega) hk
  simpa [spec_Hex.f, signs] using h
theorem implHex_l0 : ∀ (rest pre acc : List Int) (n : Int) (k : Nat), n = (((pre ++ rest).length : Nat) : Int) → (∀ x ∈ rest, 0 ≤ x ∧ x < 256) → pre.length + rest.length ≤ 1099511627776 → acc.length + 2 * rest.length ≤ 4398046511104 → rest.length < k →
    impl_Hex.l0 k acc (pre ++ rest) n (pre.length : Int) = some (strOfNums (acc ++ hexL rest))
  | [], pre, acc, n, k, he, hw, hb, hc, hk => by
    obtain ⟨k, rfl⟩ : ∃ m, k = m + 1 := ⟨k - 1, by omega⟩
    simp only [impl_Hex.l0]; rw [if_neg (by rw [he]; exact nlt_end pre)]; simp [hexL]
  | x :: rest, pre, acc, n, k, he, hw, hb, hc, hk => by
    obtain ⟨k, rfl⟩ : ∃ m, k = m + 1 := ⟨k - 1, by omega⟩
    simp only [List.length_cons] at hb hc hk
    have hx := hw x (by simp)
    have ih := implHex_l0 rest (pre ++ [x]) (acc ++ [bt signs (x / 16), bt signs (x % 16)]) n k (by rw [he]; simp) (fun y hy => hw y (by simp [hy])) (by simp; omega) (by simp; omega) (by omega)
    simp only [impl_Hex.l0, Option.bind_some]
    rw [if_pos (by rw [he]; exact lt_mid pre x rest), if_pos (pre_nonneg pre), if_pos (lt_mid pre x rest), rd_mid, u8_and15 _ hx.1 hx.2, if_pos (by omega), if_pos (by omega), if_pos (by omega), if_pos (by omega), if_pos (by simp; omega), wrap_step pre x (by omega), snoc_app pre x rest]
    refine Eq.trans ?_ (ih.trans ?_)
    · rfl
    · simp [hexL]
theorem implHex (l : List Int) (hw : ∀ x ∈ l, 0 ≤ x ∧ x < 256) (hn : l.length ≤ 1099511627776) (k : Nat) (hk : l.length < k) : impl_Hex.f k l = some (strOfNums (hexL l)) := by
  have h := implHex_l0 l [] [] _ k rfl hw (by simpa using hn) (by simp; omega) hk
  simpa [impl_Hex.f] using h
end Go.Proofs.Ytlalkldjpniakaa.B
/- Same, by the program and by the reference: whether two lists of bytes are one. -/
namespace Go.Proofs.Ytlalkldjpniakaa.B
open Go.RowKit Go.Proofs.Ytlalkldjpniakaa.P Go.Proofs.YtlalkldjpniakaaW.PrintWords Go.Proofs.YtlalkldjpniakaaW.PrintLast Go.Proofs.YtlalkldjpniakaaW.PrintMore
def sameL (a b : List Int) : Bool := (strOfNums a).toList == (strOfNums b).toList
theorem specSame (a b : List Int) : spec_Same.f a b = some (sameL a b) := rfl
theorem implSame (a b : List Int) : impl_Same.f a b = some (sameL a b) := rfl
theorem sameL_same (a : List Int) : sameL a a = true := by unfold sameL; simp
end Go.Proofs.Ytlalkldjpniakaa.B
/- Words, by the reference, and one word by the program; for lists of at most 2^40 bytes. -/
namespace Go.Proofs.Ytlalkldjpniakaa.B
open Go.RowKit Go.Proofs.Ytlalkldjpniakaa.P Go.Proofs.YtlalkldjpniakaaW.PrintWords Go.Proofs.YtlalkldjpniakaaW.PrintLast Go.Proofs.YtlalkldjpniakaaW.PrintMore
def w4 (a b c d : Int) : Int := Go.bits .or .i64 (Go.bits .or .i64 (Go.bits .or .i64 (wrap64 ((wrap64 a) * 16777216)) (wrap64 ((wrap64 b) * 65536))) (wrap64 ((wrap64 c) * 256))) (wrap64 d)
def word4 (big : Bool) (a b c d : Int) : Int := if big = true then w4 a b c d else w4 d c b a
/-- The words of a list of bytes. -/
def wordsL (big : Bool) : List Int → List Int
  | a :: b :: c :: d :: r => word4 big a b c d :: wordsL big r
  | _ => []
theorem wordsL_length (big : Bool) : ∀ l : List Int, (wordsL big l).length = l.length / 4
  | a :: b :: c :: d :: r => by simp [wordsL, wordsL_length big r]; omega
  | [] => rfl
  | [a] => by simp [wordsL]
  | [a, b] => by simp [wordsL]
  | [a, b, c] => by simp [wordsL]
theorem rd_at (pre l : List Int) (i : Nat) (j : Int) (h : j = (pre.length : Int) + i) : rd (pre ++ l) j = l.getD i 0 := by
  subst h
  unfold rd
  rw [show ((pre.length : Int) + i).toNat = pre.length + i from by omega]
  rw [List.getD_eq_getElem?_getD, List.getD_eq_getElem?_getD, List.getElem?_append_right (by omega), show pre.length + i - pre.length = i from by omega]
theorem specWords_l0 (big : Bool) : ∀ (rest pre acc : List Int) (k : Nat), pre.length + rest.length ≤ 1099511627776 → acc.length + rest.length ≤ 4398046511104 → rest.length < k →
    spec_Words.l0 k (pre ++ rest) big acc (pre.length : Int) = some (acc ++ wordsL big rest)
  | a :: b :: c :: d :: r, pre, acc, k, hb, hc, hk => by
    obtain ⟨k, rfl⟩ : ∃ m, k = m + 1 := ⟨k - 1, by omega⟩
    simp only [List.length_cons] at hb hc hk
    have ih := specWords_l0 big r (pre ++ [a, b, c, d]) (acc ++ [word4 big a b c d]) k (by simp; omega) (by simp; omega) (by omega)
    have hl : ((pre ++ a :: b :: c :: d :: r).length : Int) = pre.length + r.length + 4 := by simp; omega
    have e1 : wrap64 ((pre.length : Int) + 1) = pre.length + 1 := wrap_eq _ (by omega) (by omega)
    have e2 : wrap64 ((pre.length : Int) + 2) = pre.length + 2 := wrap_eq _ (by omega) (by omega)
    have e3 : wrap64 ((pre.length : Int) + 3) = pre.length + 3 := wrap_eq _ (by omega) (by omega)
    have e4 : wrap64 ((pre.length : Int) + 4) = ((pre ++ [a, b, c, d]).length : Int) := by rw [wrap_eq _ (by omega) (by omega)]; simp
    have r0 : rd (pre ++ a :: b :: c :: d :: r) (pre.length : Int) = a := rd_at _ _ 0 _ (by omega)
    have r1 : rd (pre ++ a :: b :: c :: d :: r) ((pre.length : Int) + 1) = b := rd_at _ _ 1 _ (by omega)
    have r2 : rd (pre ++ a :: b :: c :: d :: r) ((pre.length : Int) + 2) = c := rd_at _ _ 2 _ (by omega)
    have r3 : rd (pre ++ a :: b :: c :: d :: r) ((pre.length : Int) + 3) = d := rd_at _ _ 3 _ (by omega)
    have hx : pre ++ a :: b :: c :: d :: r = (pre ++ [a, b, c, d]) ++ r := by simp
    simp only [spec_Words.l0, e1, e2, e3, r0, r1, r2, r3]
    rw [hl]
    rw [if_pos (by omega)]
    have hy : (acc ++ [word4 big a b c d]) ++ wordsL big r = acc ++ wordsL big (a :: b :: c :: d :: r) := by simp [wordsL]
    rw [← hy, ← ih, ← e4, ← hx]
    cases big
    · rw [if_neg (by decide), if_pos (by omega), if_pos (by omega), if_pos (by omega), if_pos (by omega), if_pos (by omega), if_pos (by omega), if_pos (by omega), if_pos (by omega)]
      rfl
    · rw [if_pos rfl, if_pos (by omega), if_pos (by omega), if_pos (by omega), if_pos (by omega), if_pos (by omega), if_pos (by omega), if_pos (by omega), if_pos (by omega)]
      rfl
  | [], pre, acc, k, hb, hc, hk => by
    obtain ⟨k, rfl⟩ : ∃ m, k = m + 1 := ⟨k - 1, by omega⟩
    simp only [spec_Words.l0]; rw [wrap_eq _ (by omega) (by simp at hb; omega), if_neg (by simp; omega)]; simp [wordsL]
  | [a], pre, acc, k, hb, hc, hk => by
    obtain ⟨k, rfl⟩ : ∃ m, k = m + 1 := ⟨k - 1, by omega⟩
    simp only [spec_Words.l0]; rw [wrap_eq _ (by omega) (by simp at hb; omega), if_neg (by simp)]; simp [wordsL]
  | [a, b], pre, acc, k, hb, hc, hk => by
    obtain ⟨k, rfl⟩ : ∃ m, k = m + 1 := ⟨k - 1, by omega⟩
    simp only [spec_Words.l0]; rw [wrap_eq _ (by omega) (by simp at hb; omega), if_neg (by simp)]; simp [wordsL]
  | [a, b, c], pre, acc, k, hb, hc, hk => by
    obtain ⟨k, rfl⟩ : ∃ m, k = m + 1 := ⟨k - 1, by omega⟩
    simp only [spec_Words.l0]; rw [wrap_eq _ (by omega) (by simp at hb; omega), if_neg (by simp)]; simp [wordsL]
theorem specWords (l : List Int) (big : Bool) (hn : l.length ≤ 1099511627776) (k : Nat) (hk : l.length < k) : spec_Words.f k l big = some (wordsL big l) := by
  have h := specWords_l0 big l [] [] k (by simpa using hn) (by simp; omega) hk
  simpa [spec_Words.f] using h
theorem wordOf4 (big : Bool) (a b c d : Int) : impl_wordOf.f [a, b, c, d] big = some (word4 big a b c d) := by
  cases big <;> rfl
end Go.Proofs.Ytlalkldjpniakaa.B
/- What a computation with fuel answers, from some fuel on: more lemmas. -/
namespace Go.Proofs.Ytlalkldjpniakaa.B
open Go.Proofs.YtlalkldjpniakaaW.PrintWords
theorem evConst {α : Type} (r : α) : Ev (fun _ => some r) r := ⟨0, fun _ _ => rfl⟩
theorem evUp {α : Type} {f : Nat → Option α} {r : α} (h : Ev (fun k => f (k + 1)) r) : Ev f r := by
  obtain ⟨k0, h⟩ := h
  refine ⟨k0 + 1, fun k hk => ?_⟩
  obtain ⟨m, rfl⟩ : ∃ m, k = m + 1 := ⟨k - 1, by omega⟩
  exact h m (by omega)
theorem evBind {α β : Type} {f : Nat → Option α} {g : Nat → α → Option β} {a : α} {r : β} (h : Ev f a) (h2 : Ev (fun k => g k a) r) : Ev (fun k => (f k).bind fun t => g k t) r := by
  obtain ⟨k0, h⟩ := h
  obtain ⟨k1, h2⟩ := h2
  refine ⟨k0 + k1, fun k hk => ?_⟩
  show (f k).bind (fun t => g k t) = some r
  rw [h k (by omega)]
  exact h2 k (by omega)
theorem evPos {α : Type} {c : Prop} [Decidable c] {f g : Nat → Option α} {r : α} (hc : c) (h : Ev f r) : Ev (fun k => if c then f k else g k) r := by
  obtain ⟨k0, h⟩ := h
  exact ⟨k0, fun k hk => by show (if c then f k else g k) = some r; rw [if_pos hc]; exact h k hk⟩
theorem evNeg {α : Type} {c : Prop} [Decidable c] {f g : Nat → Option α} {r : α} (hc : ¬ c) (h : Ev g r) : Ev (fun k => if c then f k else g k) r := by
  obtain ⟨k0, h⟩ := h
  exact ⟨k0, fun k hk => by show (if c then f k else g k) = some r; rw [if_neg hc]; exact h k hk⟩
theorem evOf {α : Type} {f : Nat → Option α} {r : α} (n : Nat) (h : ∀ k, n < k → f k = some r) : Ev f r := ⟨n + 1, fun k hk => h k (by omega)⟩
end Go.Proofs.Ytlalkldjpniakaa.B
/- LineOf, by the program and by the reference: one line, one end; for bytes of at most 2^20. -/
namespace Go.Proofs.Ytlalkldjpniakaa.B
open Go.RowKit Go.Proofs.Ytlalkldjpniakaa.P Go.Proofs.YtlalkldjpniakaaW.PrintWords Go.Proofs.YtlalkldjpniakaaW.PrintLast Go.Proofs.YtlalkldjpniakaaW.PrintMore
theorem rd_in (l : List Int) (h : ∀ x ∈ l, 0 ≤ x ∧ x < 256) (i : Int) : 0 ≤ rd l i ∧ rd l i ≤ 255 := by
  unfold rd
  rw [List.getD_eq_getElem?_getD]
  cases e : l[i.toNat]? with
  | none => simp
  | some x => have := h x (List.mem_of_getElem? e); simp; omega
theorem rd_drop (l : List Int) (a i : Int) (ha : 0 ≤ a) (hi : 0 ≤ i) : rd (l.drop a.toNat) i = rd l (a + i) := by
  unfold rd
  rw [List.getD_eq_getElem?_getD, List.getD_eq_getElem?_getD, List.getElem?_drop, show (a + i).toNat = a.toNat + i.toNat from by omega]
theorem mid_drop (l : List Int) (a lo hi : Int) (ha : 0 ≤ a) (h0 : 0 ≤ lo) (h1 : lo ≤ hi) : (l.take (a + hi).toNat).drop (a + lo).toNat = ((l.drop a.toNat).take hi.toNat).drop lo.toNat := by
  rw [show (a + hi).toNat = a.toNat + hi.toNat from by omega, show (a + lo).toNat = a.toNat + lo.toNat from by omega, ← List.drop_drop, List.take_drop.symm]
theorem four (l : List Int) (h : l.length = 4) : ∃ a b c d, l = [a, b, c, d] := by
  match l, h with
  | [a, b, c, d], _ => exact ⟨a, b, c, d, rfl⟩
theorem mem_cut {l : List Int} {m n : Nat} {x : Int} (h : x ∈ (l.take m).drop n) : x ∈ l := List.mem_of_mem_take (List.mem_of_mem_drop h)
/-- What is read of a line. -/
def LineGood (l : List Int) (a : Int) (r : Int × ByteArray × Int × Int × List Int × Int × Bool) : Prop :=
  r = (0, ⟨#[]⟩, 0, 0, [], 0, false) ∨ (r.2.2.2.2.2.2 = true ∧ 0 ≤ a ∧ a + 18 ≤ r.2.2.2.2.2.1 ∧ r.2.2.2.2.2.1 ≤ (l.length : Int) ∧ r.2.1.size ≤ 16 ∧ r.2.2.2.2.1.length ≤ 65535 ∧ (∀ x ∈ r.2.2.2.2.1, 0 ≤ x ∧ x < 256) ∧
    ∃ bb, Ev (fun k => spec_LineBytes.f k r.1 r.2.1 r.2.2.1 r.2.2.2.1 r.2.2.2.2.1) bb ∧ Ev (fun k => impl_LineBytes.f k r.1 r.2.1 r.2.2.1 r.2.2.2.1 r.2.2.2.2.1) bb ∧ sameL bb ((l.drop a.toNat).take (r.2.2.2.2.2.1 - a).toNat) = true)
theorem hex_size (l : List Int) : (strOfNums (hexL l)).size = 2 * l.length := by
  rw [← hexL_length l]
  show ((hexL l).map _).toArray.size = _
  simp
theorem lineOf (l : List Int) (a : Int) (hl : l.length ≤ 1048576) (hb : ∀ x ∈ l, 0 ≤ x ∧ x < 256) :
    ∃ r, Ev (fun k => spec_LineOf.f k l a) r ∧ Ev (fun k => impl_LineOf.f k l a) r ∧ LineGood l a r := by
  have hlm : (l.length : Int) ≤ 140737488355232 := by omega
  by_cases c2 : 0 ≤ a ∧ a + 18 ≤ (l.length : Int)
  · have hin : impl_in.f a 0 ((l.length : Int) - 16 - 2) = some true := by
      unfold impl_in.f
      rw [if_pos c2.1, decide_eq_true (by omega)]
    obtain ⟨xs, exs⟩ : ∃ xs, xs = l.drop a.toNat := ⟨_, rfl⟩
    have hxl : (xs.length : Int) = (l.length : Int) - a := by rw [exs, List.length_drop]; omega
    have hxb : ∀ x ∈ xs, 0 ≤ x ∧ x < 256 := fun x hx => hb x (by rw [exs] at hx; exact List.mem_of_mem_drop hx)
    have hr : ∀ i, 0 ≤ i → rd l (a + i) = rd xs i := fun i hi => by rw [exs]; exact (rd_drop l a i c2.1 hi).symm
    have hr0 : rd l a = rd xs 0 := by have := hr 0 (by omega); rwa [Int.add_zero] at this
    have hc3 : (0 ≤ rd xs 0 ∧ rd xs 0 ≤ 255) ∧ (0 ≤ rd xs 9 ∧ rd xs 9 ≤ 255) ∧ (0 ≤ rd xs 14 ∧ rd xs 14 ≤ 255) ∧ (0 ≤ rd xs 15 ∧ rd xs 15 ≤ 255) := ⟨rd_in xs hxb 0, rd_in xs hxb 9, rd_in xs hxb 14, rd_in xs hxb 15⟩
    obtain ⟨n, hn⟩ : ∃ n, n = 256 * rd xs 14 + rd xs 15 := ⟨_, rfl⟩
    have hn0 : 0 ≤ n ∧ n ≤ 65535 := by omega
    have hm : ∀ lo hi, 0 ≤ lo → lo ≤ hi → (l.take (a + hi).toNat).drop (a + lo).toNat = (xs.take hi.toNat).drop lo.toNat := fun lo hi h0 h1 => by rw [exs]; exact mid_drop l a lo hi c2.1 h0 h1
    have hm0 : ∀ hi, 0 ≤ hi → (l.take (a + hi).toNat).drop a.toNat = xs.take hi.toNat := fun hi h0 => by have := hm 0 hi (by omega) h0; simpa using this
    by_cases c4 : 18 + n ≤ (xs.length : Int)
    · obtain ⟨d0, d1, d2, d3, hd⟩ := four ((xs.take (14 : Int).toNat).drop (10 : Int).toNat) (by rw [List.length_drop, List.length_take, show (14 : Int).toNat = 14 from rfl, show (10 : Int).toNat = 10 from rfl]; omega)
      obtain ⟨due, hdue⟩ : ∃ due, due = word4 true d0 d1 d2 d3 := ⟨_, rfl⟩
      obtain ⟨lh, hlh⟩ : ∃ lh, lh = (xs.take (9 : Int).toNat).drop (1 : Int).toNat := ⟨_, rfl⟩
      have hlh8 : lh.length = 8 := by rw [hlh, List.length_drop, List.length_take, show (9 : Int).toNat = 9 from rfl, show (1 : Int).toNat = 1 from rfl]; omega
      obtain ⟨lb, hlb⟩ : ∃ lb, lb = (xs.take (16 + n).toNat).drop (16 : Int).toNat := ⟨_, rfl⟩
      have hlbn : lb.length = n.toNat := by rw [hlb, List.length_drop, List.length_take, show (16 : Int).toNat = 16 from rfl]; omega
      have hlbb : ∀ x ∈ lb, 0 ≤ x ∧ x < 256 := fun x hx => hxb x (mem_cut (by rw [hlb] at hx; exact hx))
      obtain ⟨rt, hrt⟩ : ∃ rt : ByteArray, rt = if rd xs 0 = 3 then ⟨#[]⟩ else strOfNums (hexL lh) := ⟨_, rfl⟩
      have hrs : rt.size ≤ 16 := by
        rw [hrt]
        split
        · exact Nat.zero_le _
        · rw [hex_size, hlh8]; omega
      obtain ⟨bb, hbl, hbb⟩ := lineBytes (rd xs 0) rt (rd xs 9) due lb (by omega) (by omega)
      have eD : Ev (fun k => spec_Words.f k ((xs.take (14 : Int).toNat).drop (10 : Int).toNat) true) [due] := by
        rw [hd, hdue]
        exact evOf 4 fun k hk => specWords [d0, d1, d2, d3] true (by simp) k (by simpa using hk)
      have eW : impl_wordOf.f ((xs.take (14 : Int).toNat).drop (10 : Int).toNat) true = some due := by rw [hd, hdue]; exact wordOf4 true d0 d1 d2 d3
      have hlhb : ∀ x ∈ lh, 0 ≤ x ∧ x < 256 := fun x hx => hxb x (mem_cut (by rw [hlh] at hx; exact hx))
      have eHs : Ev (fun k => spec_Hex.f k lh) (strOfNums (hexL lh)) := evOf lh.length fun k hk => specHex lh hlhb (by omega) k hk
      have eHi : Ev (fun k => impl_Hex.f k lh) (strOfNums (hexL lh)) := evOf lh.length fun k hk => implHex lh hlhb (by omega) k hk
      have eBs : Ev (fun k => spec_LineBytes.f k (rd xs 0) rt (rd xs 9) due lb) bb := evOf (rt.size + 50) fun k hk => (hbb k hk).1
      have eBi : Ev (fun k => impl_LineBytes.f k (rd xs 0) rt (rd xs 9) due lb) bb := evOf (rt.size + 50) fun k hk => (hbb k hk).2
      have eC : slices_Clone_byte_byte.f lb = some lb := by unfold slices_Clone_byte_byte.f; rw [if_pos (by omega)]
      obtain ⟨s, hs⟩ : ∃ s, s = sameL bb (xs.take (16 + n + 2).toNat) := ⟨_, rfl⟩
      have e18 : a + 18 + n = a + (18 + n) := by omega
      have e16 : a + 16 + n = a + (16 + n) := by omega
      refine ⟨if s = true then (rd xs 0, rt, rd xs 9, due, lb, a + 18 + n, true) else (0, ⟨#[]⟩, 0, 0, [], 0, false), ?_, ?_, ?_⟩
      · unfold spec_LineOf.f
        rw [hr 9 (by omega), hr 14 (by omega), hr 15 (by omega), hr0, ← hn]
        refine evPos hlm (evPos c2 (evPos hc3 (evPos (by omega) ?_)))
        rw [hm 10 14 (by omega) (by omega), hm 1 9 (by omega) (by omega), e16, hm 16 (16 + n) (by omega) (by omega), e18, hm0 (18 + n) (by omega), ← hlh, ← hlb]
        refine evBind eD (evPos (by simp) (evBind eHs ?_))
        have hrd : rd [due] 0 = due := rfl
        simp only [← hrt, hrd]
        refine evBind eBs ?_
        rw [show (18 + n).toNat = (16 + n + 2).toNat from by omega]
        simp only [specSame, ← hs, Option.bind_some]
        cases s
        · exact evNeg (by decide) (evConst _)
        · exact evPos rfl (evConst _)
      · unfold impl_LineOf.f
        refine evPos hlm ?_
        rw [hin]
        refine evPos c2 ?_
        rw [← exs]
        unfold impl_LineOf.g
        rw [← hn]
        refine evPos hc3 (evPos c4 ?_)
        rw [← hlh, ← hlb]
        refine evBind eHi ?_
        simp only [← hrt, eW, eC, Option.bind_some]
        refine evBind eBi ?_
        simp only [implSame, ← hs, Option.bind_some]
        rw [show a + (16 + n + 2) = a + 18 + n from by omega]
        cases s
        · exact evNeg (by decide) (evConst _)
        · exact evPos rfl (evConst _)
      · cases s with
        | false => exact .inl rfl
        | true =>
          refine .inr ⟨rfl, c2.1, ?_, ?_, hrs, ?_, hlbb, bb, eBs, eBi, ?_⟩
          · show a + 18 ≤ a + 18 + n; omega
          · show a + 18 + n ≤ _; omega
          · show lb.length ≤ _; omega
          · show sameL bb ((l.drop a.toNat).take (a + 18 + n - a).toNat) = true
            rw [show (a + 18 + n - a).toNat = (16 + n + 2).toNat from by omega, ← exs]
            exact hs.symm
    · refine ⟨(0, ⟨#[]⟩, 0, 0, [], 0, false), ?_, ?_, .inl rfl⟩
      · unfold spec_LineOf.f
        rw [hr 9 (by omega), hr 14 (by omega), hr 15 (by omega), hr0, ← hn]
        exact evPos hlm (evPos c2 (evPos hc3 (evNeg (by omega) (evConst _))))
      · unfold impl_LineOf.f
        refine evPos hlm ?_
        rw [hin]
        refine evPos c2 ?_
        rw [← exs]
        unfold impl_LineOf.g
        rw [← hn]
        exact evPos hc3 (evNeg c4 (evConst _))
  · have hin : impl_in.f a 0 ((l.length : Int) - 16 - 2) = some false := by
      unfold impl_in.f
      by_cases h : a ≥ 0
      · rw [if_pos h, decide_eq_false (by omega)]
      · rw [if_neg h]
    refine ⟨(0, ⟨#[]⟩, 0, 0, [], 0, false), ?_, ?_, .inl rfl⟩
    · unfold spec_LineOf.f
      exact evPos hlm (evNeg c2 (evConst _))
    · unfold impl_LineOf.f
      refine evPos hlm ?_
      rw [hin]
      exact evConst _
end Go.Proofs.Ytlalkldjpniakaa.B
/- What the laws' own helpers over bytes compute: copies, comparisons, marks; for lists of at most 2^40 numbers. -/
namespace Go.Proofs.Ytlalkldjpniakaa.B
open Go.RowKit Go.Proofs.YtlalkldjpniakaaW.PrintWords Go.Proofs.YtlalkldjpniakaaW.PrintLast Go.Proofs.YtlalkldjpniakaaW.PrintMore Go.Proofs.Ytlalkldjpniakaa.P

theorem toByteS_l0 : ∀ (rest rest' pre : List Int) (k : Nat), rest'.length = rest.length → pre.length + rest.length ≤ 1099511627776 → rest.length < k →
    laws_toByteS.l0 k (pre ++ rest) (pre ++ rest') (pre.length : Int) = some (pre ++ rest)
  | [], rest', pre, k, hl, hb, hk => by
    obtain ⟨k, rfl⟩ : ∃ m, k = m + 1 := ⟨k - 1, by omega⟩
    obtain rfl : rest' = [] := List.eq_nil_of_length_eq_zero (by simpa using hl)
    simp only [laws_toByteS.l0]; rw [if_neg (nlt_end pre)]
  | a :: rest, rest', pre, k, hl, hb, hk => by
    obtain ⟨k, rfl⟩ : ∃ m, k = m + 1 := ⟨k - 1, by simp at hk; omega⟩
    cases rest' with
    | nil => simp at hl
    | cons b rest' =>
      simp only [List.length_cons] at hl hb hk
      have ih := toByteS_l0 rest rest' (pre ++ [a]) k (by omega) (by simp; omega) (by omega)
      simp only [laws_toByteS.l0]
      rw [if_pos (lt_mid pre a rest), if_pos (pre_nonneg pre), if_pos (lt_mid pre b rest'), rd_mid, set_mid, wrap_step pre a (by omega), snoc_app pre a rest, snoc_app pre a rest']
      exact ih
theorem toByteS (l : List Int) (hn : l.length ≤ 1099511627776) (k : Nat) (hk : l.length < k) : laws_toByteS.f k l = some l := by
  unfold laws_toByteS.f
  rw [if_pos (by omega), if_pos (by simp; omega)]
  have h := toByteS_l0 l (List.replicate l.length 0) [] k (by simp) (by simpa using hn) hk
  simpa using h

theorem eqByteS_l0 : ∀ (a b pre : List Int) (k : Nat), a.length = b.length → pre.length + a.length ≤ 1099511627776 → a.length < k →
    laws_eqByteS.l0 k (pre ++ a) (pre ++ b) (pre.length : Int) = some (decide (a = b))
  | [], b, pre, k, hl, hb, hk => by
    obtain ⟨k, rfl⟩ : ∃ m, k = m + 1 := ⟨k - 1, by omega⟩
    obtain rfl : b = [] := List.eq_nil_of_length_eq_zero (by simpa using hl.symm)
    simp only [laws_eqByteS.l0]; rw [if_neg (nlt_end pre)]; simp
  | x :: a, b, pre, k, hl, hb, hk => by
    obtain ⟨k, rfl⟩ : ∃ m, k = m + 1 := ⟨k - 1, by simp at hk; omega⟩
    cases b with
    | nil => simp at hl
    | cons y b =>
      simp only [List.length_cons] at hl hb hk
      simp only [laws_eqByteS.l0]
      rw [if_pos (lt_mid pre x a), if_pos (pre_nonneg pre), if_pos (lt_mid pre y b), rd_mid, rd_mid]
      by_cases e : x = y
      · subst e
        rw [if_pos rfl, wrap_step pre x (by omega), snoc_app pre x a, snoc_app pre x b, eqByteS_l0 a b (pre ++ [x]) k (by omega) (by simp; omega) (by omega)]
        simp
      · rw [if_neg e]; simp [e]
theorem eqByteS (a b : List Int) (hn : a.length ≤ 1099511627776) (k : Nat) (hk : a.length < k) : laws_eqByteS.f k a b = some (decide (a = b)) := by
  unfold laws_eqByteS.f
  by_cases e : a.length = b.length
  · rw [if_pos (by omega)]
    have h := eqByteS_l0 a b [] k e (by simpa using hn) hk
    simpa using h
  · rw [if_neg (by omega)]
    have : a ≠ b := fun h => e (by rw [h])
    simp [this]
theorem eqByteS_same (a : List Int) (hn : a.length ≤ 1099511627776) (k : Nat) (hk : a.length < k) : laws_eqByteS.f k a a = some true := by
  rw [eqByteS a a hn k hk]; simp

theorem markByteS_l0 : ∀ (rest pre : List Int) (m : Int) (k : Nat), 0 ≤ m → m + rest.length ≤ 4611686018427387904 → pre.length + rest.length ≤ 1099511627776 → rest.length < k →
    laws_markByteS.l0 k (pre ++ rest) m (pre.length : Int) = some (m + rest.length, pre ++ marks rest.length m)
  | [], pre, m, k, h0, hm, hb, hk => by
    obtain ⟨k, rfl⟩ : ∃ m, k = m + 1 := ⟨k - 1, by omega⟩
    simp only [laws_markByteS.l0]; rw [if_neg (nlt_end pre)]; simp [marks]
  | a :: rest, pre, m, k, h0, hm, hb, hk => by
    obtain ⟨k, rfl⟩ : ∃ m, k = m + 1 := ⟨k - 1, by simp at hk; omega⟩
    simp only [List.length_cons] at hm hb hk
    have ih := markByteS_l0 rest (pre ++ [m % 256]) (m + 1) k (by omega) (by omega) (by simp; omega) (by omega)
    simp only [laws_markByteS.l0]
    rw [if_pos (lt_mid pre a rest), if_pos (pre_nonneg pre), set_mid, wrap_step pre (m % 256) (by omega), wrap_eq (m + 1) (by omega) (by omega), snoc_app pre (m % 256) rest, ih]
    simp only [List.length_cons, marks, List.append_assoc, List.singleton_append]
    congr 2
    omega
theorem markByteS (l : List Int) (m : Int) (h0 : 0 ≤ m) (hm : m ≤ 1152921504606846976) (hn : l.length ≤ 1099511627776) (k : Nat) (hk : l.length < k) :
    laws_markByteS.f k l m = some (m + l.length, marks l.length m) := by
  unfold laws_markByteS.f
  have h := markByteS_l0 l [] m k h0 (by omega) (by simpa using hn) hk
  simpa using h

theorem heldByteS_l0 : ∀ (n : Nat) (pre : List Int) (m : Int) (k : Nat), 0 ≤ m → m + n ≤ 4611686018427387904 → pre.length + n ≤ 1099511627776 → n < k →
    laws_heldByteS.l0 k (pre ++ marks n m) m (pre.length : Int) = some (m + n)
  | 0, pre, m, k, h0, hm, hb, hk => by
    obtain ⟨k, rfl⟩ : ∃ m, k = m + 1 := ⟨k - 1, by omega⟩
    rw [show marks 0 m = [] from rfl]; simp only [laws_heldByteS.l0]; rw [if_neg (nlt_end pre)]; simp
  | n + 1, pre, m, k, h0, hm, hb, hk => by
    obtain ⟨k, rfl⟩ : ∃ m, k = m + 1 := ⟨k - 1, by omega⟩
    have ih := heldByteS_l0 n (pre ++ [m % 256]) (m + 1) k (by omega) (by omega) (by simp; omega) (by omega)
    rw [show marks (n + 1) m = m % 256 :: marks n (m + 1) from rfl]
    simp only [laws_heldByteS.l0]
    rw [if_pos (lt_mid pre _ _), if_pos (pre_nonneg pre), rd_mid, if_pos rfl, wrap_step pre (m % 256) (by omega), wrap_eq (m + 1) (by omega) (by omega), snoc_app pre (m % 256) (marks n (m + 1)), ih]
    congr 1
    omega
theorem heldByteS (n : Nat) (m : Int) (h0 : 0 ≤ m) (hm : m ≤ 1152921504606846976) (hn : n ≤ 1099511627776) (k : Nat) (hk : n < k) :
    laws_heldByteS.f k (marks n m) m = some (m + n) := by
  unfold laws_heldByteS.f
  have h := heldByteS_l0 n [] m k h0 (by omega) (by simpa using hn) hk
  simpa using h
end Go.Proofs.Ytlalkldjpniakaa.B
namespace Go.Proofs.Ytlalkldjpniakaa.P
open Go.RowKit Go.Proofs.YtlalkldjpniakaaW.PrintWords Go.Proofs.YtlalkldjpniakaaW.PrintLast Go.Proofs.YtlalkldjpniakaaW.PrintMore
attribute [local go_sem] zcm zcn zdi zdj zbz zca zco zcp   -- for this text's walks alone
set_option linter.unusedVariables false
set_option linter.unusedSimpArgs false
set_option maxHeartbeats 8000000
set_option maxRecDepth 100000

def laws_szByteS.f (l0 : List Int) (a1 : Int) : Option (Int) := if (wrap64 (a1 - (l0.length : Int))) < 0 then (some (-1)) else (some (wrap64 (a1 - (l0.length : Int))))
theorem laws_szByteS.wk {P : Prop} (h : P := by
 go_enter Try.func87, Try.ntmps87
 go_wp2
 go_ret
 exact ⟨by first | rfl | (simp; done) | (simp [*]; done), by repeat (first | exact Drawn0.refl _ | apply Drawn0.step)⟩) : P := h
theorem laws_szByteS.calls (A0 : Option Addr) (c0 : Nat) (l0 : List Int) (a1 : Int) (r : Int) (w : World) (hr0 : Kd.C (Kd.int .u8) w A0 l0.length l0) (hc0 : l0.length ≤ c0) (h : laws_szByteS.f l0 a1 = some r) :
  Calls Try.prog 87 #[.slice A0 l0.length c0, .int .i64 a1] w fun e w' => e = .returned (.int .i64 r) ∧ Drawn0 w w' := by
 have HR0 := Aside0.mk hr0
 have HC0 := Aside0.mk hc0
 clear hr0 hc0
 have H : (if (wrap64 (a1 - (l0.length : Int))) < 0 then (some (-1)) else (some (wrap64 (a1 - (l0.length : Int))))) = some r := h
 clear h
 by_cases c3 : (wrap64 (a1 - (l0.length : Int))) < 0
 ·rw [if_pos c3] at H
  have c3b0 := zae c3
  clear c3
  obtain rfl := Option.some.inj H
  exact laws_szByteS.wk
 ·rw [if_neg c3] at H
  have c3b0 := zas c3
  clear c3
  obtain rfl := Option.some.inj H
  exact laws_szByteS.wk
def laws_szItem.f (a0_0 : ByteArray) (a0_1 : Int) (a0_2 : Int) (l0_3 : List Int) (a1 : Int) : Option (Int) := if (wrap64 (a1 - (a0_0.size : Int))) < 0 then (some (-1)) else ((laws_szByteS.f l0_3 (wrap64 (a1 - (a0_0.size : Int)))).bind fun t102 => (if t102 < 0 then (some (-1)) else (some t102)))
theorem laws_szItem.wk {P : Prop} (h : P := by
 go_enter Try.func23, Try.ntmps23
 go_wp2_with (first | (refine jgd 2 ?_; refine bx 2 (#[.string a0_0, .int .i64 a0_1, .int .i64 a0_2, .slice A0_3 l0_3.length c0_3]) 31 ?_; intro gb101 hg w_ hbox hb; have xb_ := below_ofs bq hb; have n_ := jA4 (zad xb_ hb) (hbox) (ge0 hg xb_ : w.heap.size ≤ gb101) (ge0 hg xb_ : w.heap.size ≤ gb101); clear HB; obtain ⟨HB, BK101, GW101, GE101⟩ := n_; clear xb_ hb hbox hg; obtain ⟨c0, c1, c2, c3, z0, z1, z2, z3⟩ := cz4 BK101.out) | (refine jgc 87 ?_; refine jgs 15 Try.func87 #[.slice A0_3 l0_3.length c0_3, .int .i64 (wrap64 (a1 - (a0_0.size : Int)))] ?_; (with_reducible refine (laws_szByteS.calls _ _ l0_3 (wrap64 (a1 - (a0_0.size : Int))) t102 _ ?side1 ?side2 A6.out).mono ?_); (case side1 => exact jcs HR0_3.out); (case side2 => exact HC0_3.out); rintro e w' ⟨rfl, ⟨nd, rfl⟩⟩; refine ⟨_, rfl, ?_⟩))
 go_ret
 exact ⟨jex, (bs1 GE101.out)⟩) : P := h
theorem laws_szItem.calls (a0_0 : ByteArray) (a0_1 : Int) (a0_2 : Int) (A0_3 : Option Addr) (c0_3 : Nat) (l0_3 : List Int) (a1 : Int) (r : Int) (w : World) (hr0_3 : Kd.C (Kd.int .u8) w A0_3 l0_3.length l0_3) (hc0_3 : l0_3.length ≤ c0_3) (h : laws_szItem.f a0_0 a0_1 a0_2 l0_3 a1 = some r) :
  Calls Try.prog 23 #[.agg #[.string a0_0, .int .i64 a0_1, .int .i64 a0_2, .slice A0_3 l0_3.length c0_3], .int .i64 a1] w fun e w' => e = .returned (.int .i64 r) ∧ Below w.heap.size w w' := by
 have hu31 := Try.underlying31
 have HR0_3 := Aside0.mk hr0_3
 have HC0_3 := Aside0.mk hc0_3
 clear hr0_3 hc0_3
 have HB := Aside0.mk (zbj w.heap.size w)
 have H : (if (wrap64 (a1 - (a0_0.size : Int))) < 0 then (some (-1)) else ((laws_szByteS.f l0_3 (wrap64 (a1 - (a0_0.size : Int)))).bind fun t102 => (if t102 < 0 then (some (-1)) else (some t102)))) = some r := h
 clear h
 by_cases c3 : (wrap64 (a1 - (a0_0.size : Int))) < 0
 ·rw [if_pos c3] at H
  have c3b0 := zae c3
  clear c3
  obtain rfl := Option.some.inj H
  exact laws_szItem.wk
 ·rw [if_neg c3] at H
  have c3b0 := zas c3
  clear c3
  obtain ⟨t102, A6, H⟩ := bnd H
  by_cases c7 : t102 < 0
  ·rw [if_pos c7] at H
   have c7b0 := zae c7
   clear c7
   obtain rfl := Option.some.inj H
   exact laws_szItem.wk
  ·rw [if_neg c7] at H
   have c7b0 := zas c7
   clear c7
   obtain rfl := Option.some.inj H
   exact laws_szItem.wk
def laws_szItemS.l0 : Nat → List (S31) → Int → Int → Option (Int)
 | 0, _, _, _ => none
 | k + 1, x0, x1, x5 => if x5 < (x0.length : Int) then (if 0 ≤ x5 then ((laws_szItem.f ((rd_T31 x0 x5).f0) ((rd_T31 x0 x5).f1) ((rd_T31 x0 x5).f2) ((rd_T31 x0 x5).f3) x1).bind fun t104 => (if t104 < 0 then (some (-1)) else (laws_szItemS.l0 k x0 t104 (wrap64 (x5 + 1))))) else (none)) else (some x1)
def laws_szItemS.f (k : Nat) (l0 : List (S31)) (a1 : Int) : Option (Int) := if (wrap64 (a1 - (l0.length : Int))) < 0 then (some (-1)) else (laws_szItemS.l0 k l0 (wrap64 (a1 - (l0.length : Int))) 0)
theorem laws_szItemS.mono_l : ∀ k, (∀ y0 y1 y2, LeO (laws_szItemS.l0 k y0 y1 y2) (laws_szItemS.l0 (k + 1) y0 y1 y2))
 | 0 => fun _ _ _ r h => by simp [laws_szItemS.l0] at h
 | k + 1 => by
  have ih0 := laws_szItemS.mono_l k
  ·intro y0 y1 y2
   unfold laws_szItemS.l0
   exact mt
theorem laws_szItemS.mono : ∀ a0 a1 k, LeO (laws_szItemS.f k a0 a1) (laws_szItemS.f (k + 1) a0 a1) := by
 intro a0 a1 k
 have ih0 := laws_szItemS.mono_l k
 unfold laws_szItemS.f
 exact mt
theorem laws_szItemS.calls (k : Nat) (A0 : Option Addr) (c0 : Nat) (l0 : List (S31)) (a1 : Int) (r : Int) (w : World) (hr0 : Kd.C k31 w A0 l0.length l0) (hc0 : l0.length ≤ c0) (h : laws_szItemS.f k l0 a1 = some r) :
  Calls Try.prog 18 #[.slice A0 l0.length c0, .int .i64 a1] w fun e w' => e = .returned (.int .i64 r) ∧ Below w.heap.size w w' := by
 have hu31 := Try.underlying31
 have HR0 := Aside0.mk hr0
 have HC0 := Aside0.mk hc0
 clear hr0 hc0
 have HB := Aside0.mk (zbj w.heap.size w)
 have H : (if (wrap64 (a1 - (l0.length : Int))) < 0 then (some (-1)) else (laws_szItemS.l0 k l0 (wrap64 (a1 - (l0.length : Int))) 0)) = some r := h
 clear h
 by_cases c3 : (wrap64 (a1 - (l0.length : Int))) < 0
 ·rw [if_pos c3] at H
  have c3b0 := zae c3
  clear c3
  obtain rfl := Option.some.inj H
  go_enter Try.func18, Try.ntmps18
  go_wp2
  go_ret
  exact ⟨jex, bq⟩
 ·rw [if_neg c3] at H
  have c3b0 := zas c3
  clear c3
  have H' := Aside0.mk H
  clear H
  go_enter Try.func18, Try.ntmps18
  go_wp2
  go_loopg [1, 5] k (fun kq v1 v5 w' => ∃ (x1_1 : Int) (x5_1 : Int), v1 = .int .i64 x1_1 ∧ v5 = .int .i64 x5_1 ∧ Aside0 (laws_szItemS.l0 kq l0 x1_1 x5_1 = some r) ∧ Aside0 (kq ≤ k) ∧ Aside0 (Below w.heap.size w w'))
  case atStart => exact ⟨(wrap64 (a1 - (l0.length : Int))), (0), jer, jer, H', ⟨zaf _⟩, ⟨bq⟩⟩
  case round =>
   clear H'
   try clear c1
   try clear p2
   try clear c3
   try clear c3b0
   obtain ⟨x1_1, x5_1, rfl, rfl, HA, HK1, HB⟩ := hrel
   cases gk with
   | zero => exact absurd HA.out (by simp [laws_szItemS.l0])
   | succ k1 =>
    have H := HA.out
    clear HA
    simp only [laws_szItemS.l0] at H
    by_cases c4 : x5_1 < (l0.length : Int)
    ·rw [if_pos c4] at H
     have c4b0 := zae c4
     clear c4
     by_cases c5 : 0 ≤ x5_1
     ·rw [if_pos c5] at H
      have c5b0 := zae c5
      clear c5
      obtain ⟨t104, A6, H⟩ := bnd H
      by_cases c7 : t104 < 0
      ·rw [if_pos c7] at H
       have c7b0 := zae c7
       clear c7
       obtain rfl := Option.some.inj H
       have p103 : 0 ≤ (x5_1 : Int) := zaa jab
       have q103 : x5_1 < (l0.length : Int) := zaa jab
       obtain ⟨ad103, A103_3, c103_3, e103, hx103_0, hx103_1, hx103_2, hx103_3, hl103_3, hi103_3⟩ := at_T31 HR0.out x5_1 p103 q103
       cases e103
       replace hx103_0 := jcB HB.out hx103_0
       replace hx103_1 := jcB HB.out hx103_1
       replace hx103_2 := jcB HB.out hx103_2
       replace hx103_3 := jcB HB.out hx103_3
       have HR103_3 := Aside0.mk hi103_3
       have HC103_3 := Aside0.mk hl103_3
       clear hi103_3 hl103_3
       replace p103 := zay p103
       replace q103 := zay q103
       go_wp2_with (first | (refine jgc 23 ?_; refine jgs 23 Try.func23 #[.agg #[.string ((rd_T31 l0 x5_1).f0), .int .i64 ((rd_T31 l0 x5_1).f1), .int .i64 ((rd_T31 l0 x5_1).f2), .slice A103_3 ((rd_T31 l0 x5_1).f3).length c103_3], .int .i64 x1_1] ?_; (with_reducible refine (laws_szItem.calls ((rd_T31 l0 x5_1).f0) ((rd_T31 l0 x5_1).f1) ((rd_T31 l0 x5_1).f2) _ _ ((rd_T31 l0 x5_1).f3) x1_1 t104 _ ?side1 ?side2 A6.out).mono ?_); (case side1 => exact jcs HR103_3.out); (case side2 => exact HC103_3.out); rintro e w8 ⟨rfl, hb⟩; refine ⟨_, rfl, ?_⟩; replace HB := Aside0.mk (zad bq hb); (try clear hb); (try clear hb2); (try clear hk); (try clear hi)))
       go_ret
       exact ⟨jex, bq⟩
      ·rw [if_neg c7] at H
       have c7b0 := zas c7
       clear c7
       have H' := Aside0.mk H
       clear H
       have p103 : 0 ≤ (x5_1 : Int) := zaa jab
       have q103 : x5_1 < (l0.length : Int) := zaa jab
       obtain ⟨ad103, A103_3, c103_3, e103, hx103_0, hx103_1, hx103_2, hx103_3, hl103_3, hi103_3⟩ := at_T31 HR0.out x5_1 p103 q103
       cases e103
       replace hx103_0 := jcB HB.out hx103_0
       replace hx103_1 := jcB HB.out hx103_1
       replace hx103_2 := jcB HB.out hx103_2
       replace hx103_3 := jcB HB.out hx103_3
       have HR103_3 := Aside0.mk hi103_3
       have HC103_3 := Aside0.mk hl103_3
       clear hi103_3 hl103_3
       replace p103 := zay p103
       replace q103 := zay q103
       go_wp2_with (first | (refine jgc 23 ?_; refine jgs 23 Try.func23 #[.agg #[.string ((rd_T31 l0 x5_1).f0), .int .i64 ((rd_T31 l0 x5_1).f1), .int .i64 ((rd_T31 l0 x5_1).f2), .slice A103_3 ((rd_T31 l0 x5_1).f3).length c103_3], .int .i64 x1_1] ?_; (with_reducible refine (laws_szItem.calls ((rd_T31 l0 x5_1).f0) ((rd_T31 l0 x5_1).f1) ((rd_T31 l0 x5_1).f2) _ _ ((rd_T31 l0 x5_1).f3) x1_1 t104 _ ?side1 ?side2 A6.out).mono ?_); (case side1 => exact jcs HR103_3.out); (case side2 => exact HC103_3.out); rintro e w9 ⟨rfl, hb⟩; refine ⟨_, rfl, ?_⟩; replace HB := Aside0.mk (zad bq hb); (try clear hb); (try clear hb2); (try clear hk); (try clear hi)))
       go_roundg k1
       case measure => have := HK1.out; omega
       case rel => exact ⟨(t104), (wrap64 (x5_1 + 1)), jer, jer, H', ⟨by have := HK1.out; omega⟩, ⟨bq⟩⟩
     ·rw [if_neg c5] at H
      exact absurd H (by simp)
    ·rw [if_neg c4] at H
     have c4b0 := zas c4
     clear c4
     obtain rfl := Option.some.inj H
     go_wp2
     go_ret
     exact ⟨jex, bq⟩
end Go.Proofs.Ytlalkldjpniakaa.P
