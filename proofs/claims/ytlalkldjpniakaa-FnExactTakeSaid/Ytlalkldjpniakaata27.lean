import Derived.Test.Ytlalkldjpniakaata26
import Derived.Laws.BitsAllLaws
import Derived.Test.Ytlalkldjpniakaata13
import Derived.Test.Ytlalkldjpniakaata16
/- What the laws' own helpers over bytes compute: copies, comparisons, marks; for lists of at most 2^40 numbers. -/
namespace Go.Proofs.Ytlalkldjpniakaa.B
open Go.RowKit Go.Proofs.YtlalkldjpniakaaW.PrintWords Go.Proofs.YtlalkldjpniakaaW.PrintLast Go.Proofs.YtlalkldjpniakaaW.PrintMore Go.Proofs.Ytlalkldjpniakaa.P

theorem toByteS_l0 : ∀ (rest rest' pre : List Int) (k : Nat), rest'.length = rest.length → pre.length + rest.length ≤ 1099511627776 → rest.length < k →
    laws_toByteS.l0 k (pre ++ rest) (pre ++ rest') (pre.length : Int) = some (pre ++ rest)
  | [], rest', pre, k, hl, hb, hk => by
    obtain ⟨k, rfl⟩ : ∃ m, k = m + 1 := ⟨k - 1, by omega⟩
    obtain rfl : rest' = [] := List.eq_nil_of_length_eq_zero (by simpa using hl)
    simp only [laws_toByteS.l0]; rw [if_neg (nlt_end pre)]
  | a :: rest, rest', pre, k, hl, hb, hk => by
    obtain ⟨k, rfl⟩ : ∃ m, k = m + 1 := ⟨k - 1, by simp at hk; omega⟩
    cases rest' with
    | nil => simp at hl
    | cons b rest' =>
      simp only [List.length_cons] at hl hb hk
      have ih := toByteS_l0 rest rest' (pre ++ [a]) k (by omega) (by simp; omega) (by omega)
      simp only [laws_toByteS.l0]
      rw [if_pos (lt_mid pre a rest), if_pos (pre_nonneg pre), if_pos (lt_mid pre b rest'), rd_mid, set_mid, wrap_step pre a (by omega), snoc_app pre a rest, snoc_app pre a rest']
      exact ih
theorem toByteS (l : List Int) (hn : l.length ≤ 1099511627776) (k : Nat) (hk : l.length < k) : laws_toByteS.f k l = some l := by
  unfold laws_toByteS.f
  rw [if_pos (by omega), if_pos (by simp; omega)]
  have h := toByteS_l0 l (List.replicate l.length 0) [] k (by simp) (by simpa using hn) hk
  simpa using h

theorem eqByteS_l0 : ∀ (a b pre : List Int) (k : Nat), a.length = b.length → pre.length + a.length ≤ 1099511627776 → a.length < k →
    laws_eqByteS.l0 k (pre ++ a) (pre ++ b) (pre.length : Int) = some (decide (a = b))
  | [], b, pre, k, hl, hb, hk => by
    obtain ⟨k, rfl⟩ : ∃ m, k = m + 1 := ⟨k - 1, by omega⟩
    obtain rfl : b = [] := List.eq_nil_of_length_eq_zero (by simpa using hl.symm)
    simp only [laws_eqByteS.l0]; rw [if_neg (nlt_end pre)]; simp
  | x :: a, b, pre, k, hl, hb, hk => by
    obtain ⟨k, rfl⟩ : ∃ m, k = m + 1 := ⟨k - 1, by simp at hk; omega⟩
    cases b with
    | nil => simp at hl
    | cons y b =>
      simp only [List.length_cons] at hl hb hk
      simp only [laws_eqByteS.l0]
      rw [if_pos (lt_mid pre x a), if_pos (pre_nonneg pre), if_pos (lt_mid pre y b), rd_mid, rd_mid]
      by_cases e : x = y
      · subst e
        rw [if_pos rfl, wrap_step pre x (by omega), snoc_app pre x a, snoc_app pre x b, eqByteS_l0 a b (pre ++ [x]) k (by omega) (by simp; omega) (by omega)]
        simp
      · rw [if_neg e]; simp [e]
theorem eqByteS (a b : List Int) (hn : a.length ≤ 1099511627776) (k : Nat) (hk : a.length < k) : laws_eqByteS.f k a b = some (decide (a = b)) := by
  unfold laws_eqByteS.f
  by_cases e : a.length = b.length
  · rw [if_pos (by omega)]
    have h := eqByteS_l0 a b [] k e (by simpa using hn) hk
    simpa using h
  · rw [if_neg (by omega)]
    have : a ≠ b := fun h => e (by rw [h])
    simp [this]
theorem eqByteS_same (a : List Int) (hn : a.length ≤ 1099511627776) (k : Nat) (hk : a.length < k) : laws_eqByteS.f k a a = some true := by
  rw [eqByteS a a hn k hk]; simp

theorem markByteS_l0 : ∀ (rest pre : List Int) (m : Int) (k : Nat), 0 ≤ m → m + rest.length ≤ 4611686018427387904 → pre.length + rest.length ≤ 1099511627776 → rest.length < k →
    laws_markByteS.l0 k (pre ++ rest) m (pre.length : Int) = some (m + rest.length, pre ++ marks rest.length m)
  | [], pre, m, k, h0, hm, hb, hk => by
    obtain ⟨k, rfl⟩ : ∃ m, k = m + 1 := ⟨k - 1, by omega⟩
    simp only [laws_markByteS.l0]; rw [if_neg (nlt_end pre)]; simp [marks]
  | a :: rest, pre, m, k, h0, hm, hb, hk => by
    obtain ⟨k, rfl⟩ : ∃ m, k = m + 1 := ⟨k - 1, by simp at hk; omega⟩
    simp only [List.length_cons] at hm hb hk
    have ih := markByteS_l0 rest (pre ++ [m % 256]) (m + 1) k (by omega) (by omega) (by simp; omega) (by omega)
    simp only [laws_markByteS.l0]
    rw [if_pos (lt_mid pre a rest), if_pos (pre_nonneg pre), set_mid, wrap_step pre (m % 256) (by omega), wrap_eq (m + 1) (by omega) (by omega), snoc_app pre (m % 256) rest, ih]
    simp only [List.length_cons, marks, List.append_assoc, List.singleton_append]
    congr 2
    omega
theorem markByteS (l : List Int) (m : Int) (h0 : 0 ≤ m) (hm : m ≤ 1152921504606846976) (hn : l.length ≤ 1099511627776) (k : Nat) (hk : l.length < k) :
    laws_markByteS.f k l m = some (m + l.length, marks l.length m) := by
  unfold laws_markByteS.f
  have h := markByteS_l0 l [] m k h0 (by omega) (by simpa using hn) hk
  simpa using h

theorem heldByteS_l0 : ∀ (n : Nat) (pre : List Int) (m : Int) (k : Nat), 0 ≤ m → m + n ≤ 4611686018427387904 → pre.length + n ≤ 1099511627776 → n < k →
    laws_heldByteS.l0 k (pre ++ marks n m) m (pre.length : Int) = some (m + n)
  | 0, pre, m, k, h0, hm, hb, hk => by
    obtain ⟨k, rfl⟩ : ∃ m, k = m + 1 := ⟨k - 1, by omega⟩
    rw [show marks 0 m = [] from rfl]; simp only [laws_heldByteS.l0]; rw [if_neg (nlt_end pre)]; simp
  | n + 1, pre, m, k, h0, hm, hb, hk => by
    obtain ⟨k, rfl⟩ : ∃ m, k = m + 1 := ⟨k - 1, by omega⟩
    have ih := heldByteS_l0 n (pre ++ [m % 256]) (m + 1) k (by omega) (by omega) (by simp; omega) (by omega)
    rw [show marks (n + 1) m = m % 256 :: marks n (m + 1) from rfl]
    simp only [laws_heldByteS.l0]
    rw [if_pos (lt_mid pre _ _), if_pos (pre_nonneg pre), rd_mid, if_pos rfl, wrap_step pre (m % 256) (by omega), wrap_eq (m + 1) (by omega) (by omega), snoc_app pre (m % 256) (marks n (m + 1)), ih]
    congr 1
    omega
theorem heldByteS (n : Nat) (m : Int) (h0 : 0 ≤ m) (hm : m ≤ 1152921504606846976) (hn : n ≤ 1099511627776) (k : Nat) (hk : n < k) :
    laws_heldByteS.f k (marks n m) m = some (m + n) := by
  unfold laws_heldByteS.f
  have h := heldByteS_l0 n [] m k h0 (by omega) (by simpa using hn) hk
  simpa using h
end Go.Proofs.Ytlalkldjpniakaa.B
/- What masks and shifts of whole numbers are, as remainders; each for the numbers that it names. -/
namespace Go.Proofs.Ytlalkldjpniakaa.B
open Go.RowKit Go.Proofs.YtlalkldjpniakaaW.PrintWords Go.Proofs.YtlalkldjpniakaaW.PrintLast Go.Proofs.YtlalkldjpniakaaW.PrintMore

theorem i64_and_nat (x : Int) (m : Nat) (hm : m < 9223372036854775808) : Go.bits .and .i64 x (m : Int) = (((x % 18446744073709551616).toNat &&& m : Nat) : Int) := by
  have h1 : (BitVec.ofInt 64 x).toNat = (x % 18446744073709551616).toNat := by
    rw [BitVec.toNat_ofInt]; rfl
  have h2 : (BitVec.ofInt 64 (m : Int)).toNat = m := ofInt_u64 m (by omega)
  have hx : (x % 18446744073709551616).toNat &&& m ≤ m := Nat.and_le_right
  show IntKind.i64.wrap ((BitVec.ofInt 64 x &&& BitVec.ofInt 64 (m : Int)).toNat : Int) = _
  rw [BitVec.toNat_and, h1, h2, IntKind.wrap_i64]
  omega
theorem i64_and31 (x : Int) : Go.bits .and .i64 x 31 = x % 32 := by
  rw [show (31 : Int) = ((31 : Nat) : Int) from rfl, i64_and_nat x 31 (by omega), show (31 : Nat) = 2 ^ 5 - 1 from rfl, Nat.and_two_pow_sub_one_eq_mod]
  omega
theorem i64_and255 (x : Int) : Go.bits .and .i64 x 255 = x % 256 := by
  rw [show (255 : Int) = ((255 : Nat) : Int) from rfl, i64_and_nat x 255 (by omega), show (255 : Nat) = 2 ^ 8 - 1 from rfl, Nat.and_two_pow_sub_one_eq_mod]
  omega
theorem i64_and32 (x : Int) : Go.bits .and .i64 x 4294967295 = x % 4294967296 := by
  rw [show (4294967295 : Int) = ((4294967295 : Nat) : Int) from rfl, i64_and_nat x 4294967295 (by omega), show (4294967295 : Nat) = 2 ^ 32 - 1 from rfl, Nat.and_two_pow_sub_one_eq_mod]
  omega
theorem wf8 {l : List Int} (h : ∀ x ∈ l, (Lit.int .u8 x).wf = true) : ∀ x ∈ l, 0 ≤ x ∧ x < 256 := by
  intro x hx
  have := h x hx
  have m1 : IntKind.u8.min = 0 := by decide
  have m2 : IntKind.u8.max = 255 := by decide
  simp only [Lit.wf, m1, m2, Bool.and_eq_true, decide_eq_true_eq] at this
  omega
theorem wf64 {x : Int} (h : (Lit.int .i64 x).wf = true) : -9223372036854775808 ≤ x ∧ x ≤ 9223372036854775807 := by
  have m1 : IntKind.i64.min = -9223372036854775808 := by decide
  have m2 : IntKind.i64.max = 9223372036854775807 := by decide
  simp only [Lit.wf, m1, m2, Bool.and_eq_true, decide_eq_true_eq] at h
  omega
end Go.Proofs.Ytlalkldjpniakaa.B
/- What the laws' own helpers over items compute: sizes, copies, comparisons. -/
namespace Go.Proofs.Ytlalkldjpniakaa.B
open Go.RowKit Go.Proofs.Ytlalkldjpniakaa.P Go.Proofs.YtlalkldjpniakaaW.PrintWords Go.Proofs.YtlalkldjpniakaaW.PrintLast Go.Proofs.YtlalkldjpniakaaW.PrintMore
theorem szByteS (l : List Int) (a : Int) (hl : l.length ≤ maxLen) (h0 : 0 ≤ a) (h1 : a ≤ 1048576) : laws_szByteS.f l a = some (if (l.length : Int) > a then -1 else a - l.length) := by
  unfold laws_szByteS.f
  unfold maxLen at hl
  rw [wrap_eq _ (by omega) (by omega)]
  by_cases h : (l.length : Int) > a
  · rw [if_pos (by omega), if_pos h]
  · rw [if_neg (by omega), if_neg h]
/-- The size of an item: what is left, or less than nothing. -/
theorem szItem (s : ByteArray) (n m : Int) (l : List Int) (a : Int) (hs : s.size ≤ maxLen) (hl : l.length ≤ maxLen) (h0 : 0 ≤ a) (h1 : a ≤ 1048576) :
    laws_szItem.f s n m l a = some (-1) ∨ (laws_szItem.f s n m l a = some (a - s.size - l.length) ∧ (s.size : Int) + l.length ≤ a) := by
  unfold laws_szItem.f
  have hs' := hs
  unfold maxLen at hs'
  rw [wrap_eq _ (by omega) (by omega)]
  by_cases h : a - (s.size : Int) < 0
  · rw [if_pos h]; exact .inl rfl
  · rw [if_neg h, szByteS l _ hl (by omega) (by omega), Option.bind_some]
    by_cases h2 : (l.length : Int) > a - (s.size : Int)
    · rw [if_pos h2, if_pos (by omega)]; exact .inl rfl
    · rw [if_neg h2, if_neg (by omega)]; exact .inr ⟨rfl, by omega⟩
def okIt (x : S31) : Prop := x.f0.size ≤ maxLen ∧ x.f3.length ≤ maxLen
def fits (x : S31) : Prop := x.f0.size ≤ 1048576 ∧ x.f3.length ≤ 1048576
/-- The item as it is built anew. -/
def it (x : S31) : S34 := ⟨x.f0, x.f1, x.f2, x.f3⟩
theorem rdT31_mid (pre : List S31) (x : S31) (rest : List S31) : rd_T31 (pre ++ x :: rest) (pre.length : Int) = x := by
  unfold rd_T31; simp [List.getD_eq_getElem?_getD]
theorem rdT34_mid (pre : List S34) (x : S34) (rest : List S34) : rd_T34 (pre ++ x :: rest) (pre.length : Int) = x := by
  unfold rd_T34; simp [List.getD_eq_getElem?_getD]
theorem set_midT (pre : List S34) (a b : S34) (rest : List S34) : (pre ++ b :: rest).set ((pre.length : Int).toNat) a = pre ++ a :: rest := by simp
theorem szItemS_l0 : ∀ (rest pre : List S31) (a : Int) (k : Nat), (∀ y ∈ rest, okIt y) → 0 ≤ a → a ≤ 1048576 → pre.length + rest.length ≤ 4611686018427387904 → rest.length < k →
    ∃ r, laws_szItemS.l0 k (pre ++ rest) a (pre.length : Int) = some r ∧ (¬ r < 0 → ∀ y ∈ rest, fits y)
  | [], pre, a, k, hg, h0, h1, hb, hk => by
    obtain ⟨k, rfl⟩ : ∃ m, k = m + 1 := ⟨k - 1, by omega⟩
    refine ⟨a, ?_, by simp⟩
    simp only [laws_szItemS.l0]; rw [if_neg (nlt_end pre)]
  | x :: rest, pre, a, k, hg, h0, h1, hb, hk => by
    obtain ⟨k, rfl⟩ : ∃ m, k = m + 1 := ⟨k - 1, by simp at hk; omega⟩
    simp only [List.length_cons] at hb hk
    have hx := hg x List.mem_cons_self
    simp only [laws_szItemS.l0]
    rw [if_pos (lt_mid pre x rest), if_pos (pre_nonneg pre), rdT31_mid]
    rcases szItem x.f0 x.f1 x.f2 x.f3 a hx.1 hx.2 h0 h1 with e | ⟨e, hle⟩
    · rw [e, Option.bind_some, if_pos (by omega)]
      exact ⟨-1, rfl, fun h => absurd (by omega) h⟩
    · rw [e, Option.bind_some, if_neg (by omega), wrap_step pre x (by omega), snoc_app pre x rest]
      obtain ⟨r, hr, hf⟩ := szItemS_l0 rest (pre ++ [x]) (a - x.f0.size - x.f3.length) k (fun y hy => hg y (List.mem_cons_of_mem _ hy)) (by omega) (by omega) (by simp; omega) (by omega)
      refine ⟨r, hr, fun h y hy => ?_⟩
      rcases List.mem_cons.1 hy with rfl | hy
      · unfold fits; omega
      · exact hf h y hy
theorem szItemS (l : List S31) (a : Int) (hl : l.length ≤ maxLen) (hg : ∀ y ∈ l, okIt y) (h0 : 0 ≤ a) (h1 : a ≤ 1048576) (k : Nat) (hk : l.length < k) :
    ∃ r, laws_szItemS.f k l a = some r ∧ (¬ r < 0 → l.length ≤ 1048576 ∧ ∀ y ∈ l, fits y) := by
  unfold laws_szItemS.f
  have hl' := hl
  unfold maxLen at hl'
  rw [wrap_eq _ (by omega) (by omega)]
  by_cases h : a - (l.length : Int) < 0
  · rw [if_pos h]; exact ⟨-1, rfl, fun h => absurd (by omega) h⟩
  · rw [if_neg h]
    obtain ⟨r, hr, hf⟩ := szItemS_l0 l [] (a - l.length) k hg (by omega) (by omega) (by simp; omega) hk
    exact ⟨r, hr, fun h => ⟨by omega, hf h⟩⟩
theorem toItem (s : ByteArray) (n m : Int) (l : List Int) (hl : l.length ≤ 1048576) (k : Nat) (hk : 1048576 < k) : laws_toItem.f k s n m l = some (s, n, m, l) := by
  unfold laws_toItem.f
  rw [toByteS l (by omega) k (by omega)]; rfl
theorem toItemS_l0 : ∀ (rest : List S31) (rest' : List S34) (pre : List S31) (k : Nat), (∀ y ∈ rest, fits y) → rest'.length = rest.length → pre.length + rest.length ≤ 1099511627776 → rest.length + 1048576 < k →
    laws_toItemS.l0 k (pre ++ rest) (pre.map it ++ rest') (pre.length : Int) = some ((pre ++ rest).map it)
  | [], rest', pre, k, hf, hl, hb, hk => by
    obtain ⟨k, rfl⟩ : ∃ m, k = m + 1 := ⟨k - 1, by omega⟩
    obtain rfl : rest' = [] := List.eq_nil_of_length_eq_zero (by simpa using hl)
    simp only [laws_toItemS.l0]; rw [if_neg (nlt_end pre)]; simp
  | x :: rest, rest', pre, k, hf, hl, hb, hk => by
    obtain ⟨k, rfl⟩ : ∃ m, k = m + 1 := ⟨k - 1, by simp at hk; omega⟩
    cases rest' with
    | nil => simp at hl
    | cons b rest' =>
      simp only [List.length_cons] at hl hb hk
      have hx := hf x List.mem_cons_self
      have ih := toItemS_l0 rest rest' (pre ++ [x]) k (fun y hy => hf y (List.mem_cons_of_mem _ hy)) (by omega) (by simp; omega) (by omega)
      have hp : pre.length = (pre.map it).length := by simp
      simp only [laws_toItemS.l0]
      rw [if_pos (lt_mid pre x rest), if_pos (pre_nonneg pre), rdT31_mid, toItem _ _ _ _ hx.2 k (by omega), Option.bind_some, if_pos (by rw [hp]; exact lt_mid _ b rest'), wrap_step pre x (by omega)]
      rw [show (pre.map it ++ b :: rest').set ((pre.length : Int).toNat) (⟨x.f0, x.f1, x.f2, x.f3⟩ : S34) = (pre ++ [x]).map it ++ rest' from by rw [hp, set_midT, List.map_append, List.append_assoc]; rfl, snoc_app pre x rest]
      exact ih
theorem toItemS (l : List S31) (hl : l.length ≤ 1048576) (hf : ∀ y ∈ l, fits y) (k : Nat) (hk : 2097152 < k) : laws_toItemS.f k l = some (l.map it) := by
  unfold laws_toItemS.f
  rw [if_pos (by omega), if_pos (by omega)]
  have h := toItemS_l0 l (List.replicate l.length z34) [] k hf (by simp) (by simp; omega) (by omega)
  rw [Int.toNat_natCast]
  exact h
theorem eqItem_same (s : ByteArray) (n m : Int) (l : List Int) (hl : l.length ≤ 1048576) (k : Nat) (hk : 1048576 < k) : laws_eqItem.f k s n m l s n m l = some true := by
  unfold laws_eqItem.f
  rw [if_pos rfl, if_pos rfl, if_pos rfl, eqByteS_same l (by omega) k (by omega)]; rfl
theorem eqItemS_l0 : ∀ (rest pre : List S34) (k : Nat), (∀ y ∈ rest, y.f3.length ≤ 1048576) → pre.length + rest.length ≤ 1099511627776 → rest.length + 1048576 < k → laws_eqItemS.l0 k (pre ++ rest) (pre ++ rest) (pre.length : Int) = some true
  | [], pre, k, hf, hb, hk => by
    obtain ⟨k, rfl⟩ : ∃ m, k = m + 1 := ⟨k - 1, by omega⟩
    simp only [laws_eqItemS.l0]; rw [if_neg (nlt_end pre)]
  | x :: rest, pre, k, hf, hb, hk => by
    obtain ⟨k, rfl⟩ : ∃ m, k = m + 1 := ⟨k - 1, by simp at hk; omega⟩
    simp only [List.length_cons] at hb hk
    have ih := eqItemS_l0 rest (pre ++ [x]) k (fun y hy => hf y (List.mem_cons_of_mem _ hy)) (by simp; omega) (by omega)
    simp only [laws_eqItemS.l0]
    rw [if_pos (lt_mid pre x rest), if_pos (pre_nonneg pre), if_pos (lt_mid pre x rest), rdT34_mid, eqItem_same _ _ _ _ (hf x List.mem_cons_self) k (by omega), Option.bind_some, if_pos rfl, wrap_step pre x (by omega), snoc_app pre x rest]
    exact ih
theorem eqItemS_same (l : List S34) (hl : l.length ≤ 1048576) (hf : ∀ y ∈ l, y.f3.length ≤ 1048576) (k : Nat) (hk : 2097152 < k) : laws_eqItemS.f k l l = some true := by
  unfold laws_eqItemS.f
  rw [if_pos rfl]
  exact eqItemS_l0 l [] k hf (by simp; omega) (by omega)
end Go.Proofs.Ytlalkldjpniakaa.B
namespace Go.Proofs.Ytlalkldjpniakaa.P
open Go.RowKit Go.Proofs.YtlalkldjpniakaaW.PrintWords Go.Proofs.YtlalkldjpniakaaW.PrintLast Go.Proofs.YtlalkldjpniakaaW.PrintMore
attribute [local go_sem] zdi zdj zea zeb zcy zcz zdk zdl   -- for this text's walks alone
set_option linter.unusedVariables false
set_option linter.unusedSimpArgs false

def spec_l1Bit.f (a0 : Bool) : Option (Int) := if a0 = true then (some 1) else (some 0)
set_option maxHeartbeats 8000000 in
set_option maxRecDepth 100000 in
theorem spec_l1Bit.calls (a0 : Bool) (r : Int) (w : World) (h : spec_l1Bit.f a0 = some r) :
  Calls Try.prog 86 #[.bool a0] w fun e w' => e = .returned (.int .i64 r) ∧ Drawn0 w w' := by
 have H : (if a0 = true then (some 1) else (some 0)) = some r := h
 clear h
 by_cases c2 : a0 = true
 ·subst c2
  have H1 : (some 1) = some r := by rw [if_pos rfl] at H; exact H
  clear H
  have H := H1
  clear H1
  obtain rfl := Option.some.inj H
  go_enter Try.func86, Try.ntmps86
  go_wp2
  go_ret
  exact ⟨by first | rfl | (simp; done) | (simp [*]; done), by repeat (first | exact Drawn0.refl _ | apply Drawn0.step)⟩
 ·replace c2 := zdp.mpr c2
  subst c2
  have H1 : (some 0) = some r := by rw [if_neg (show ¬ (false = true) by decide)] at H; exact H
  clear H
  have H := H1
  clear H1
  obtain rfl := Option.some.inj H
  go_enter Try.func86, Try.ntmps86
  go_wp2
  go_ret
  exact ⟨by first | rfl | (simp; done) | (simp [*]; done), by repeat (first | exact Drawn0.refl _ | apply Drawn0.step)⟩
end Go.Proofs.Ytlalkldjpniakaa.P
