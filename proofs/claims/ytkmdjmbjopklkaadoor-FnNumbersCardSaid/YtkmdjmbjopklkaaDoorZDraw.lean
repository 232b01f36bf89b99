/- Texts laid together. -/
import Derived.Test.YtkmdjmbjopklkaaDoorBase
import Derived.Laws.BitsLemmas
import Derived.Laws.BitsAllLaws
import Derived.Test.YtkmdjmbjopklkaaDoorPx60
import Derived.Test.YtkmdjmbjopklkaaDoorPx62
import Derived.Test.YtkmdjmbjopklkaaDoorPx61
/- What masks and shifts of whole numbers are, as remainders; each for the numbers that it names. -/
namespace Go.Proofs.YtkmdjmbjopklkaaDoor.B
open Go.RowKit Go.Proofs.YtkmdjmbjopklkaaDoorW.PrintWords Go.Proofs.YtkmdjmbjopklkaaDoorW.PrintLast Go.Proofs.YtkmdjmbjopklkaaDoorW.PrintMore

theorem i64_and_nat (x : Int) (m : Nat) (hm : m < 9223372036854775808) : Go.bits .and .i64 x (m : Int) = (((x % 18446744073709551616).toNat &&& m : Nat) : Int) := by
  have h1 : (BitVec.ofInt 64 x).toNat = (x % 18446744073709551616).toNat := by
    rw [BitVec.toNat_ofInt]; rfl
  have h2 : (BitVec.ofInt 64 (m : Int)).toNat = m := ofInt_u64 m (by omega)
  have hx : (x % 18446744073709551616).toNat &&& m ≤ m := Nat.and_le_right
  show IntKind.i64.wrap ((BitVec.ofInt 64 x &&& BitVec.ofInt 64 (m : Int)).toNat : Int) = _
  rw [BitVec.toNat_and, h1, h2, IntKind.wrap_i64]
  omega
theorem i64_and31 (x : Int) : Go.bits .and .i64 x 31 = x % 32 := by
  rw [show (31 : Int) = ((31 : Nat) : Int) from rfl, i64_and_nat x 31 (by omega), show (31 : Nat) = 2 ^ 5 - 1 from rfl, Nat.and_two_pow_sub_one_eq_mod]
  omega
theorem i64_and255 (x : Int) : Go.bits .and .i64 x 255 = x % 256 := by
  rw [show (255 : Int) = ((255 : Nat) : Int) from rfl, i64_and_nat x 255 (by omega), show (255 : Nat) = 2 ^ 8 - 1 from rfl, Nat.and_two_pow_sub_one_eq_mod]
  omega
theorem i64_and32 (x : Int) : Go.bits .and .i64 x 4294967295 = x % 4294967296 := by
  rw [show (4294967295 : Int) = ((4294967295 : Nat) : Int) from rfl, i64_and_nat x 4294967295 (by omega), show (4294967295 : Nat) = 2 ^ 32 - 1 from rfl, Nat.and_two_pow_sub_one_eq_mod]
  omega
theorem wf8 {l : List Int} (h : ∀ x ∈ l, (Lit.int .u8 x).wf = true) : ∀ x ∈ l, 0 ≤ x ∧ x < 256 := by
  intro x hx
  have := h x hx
  have m1 : IntKind.u8.min = 0 := by decide
  have m2 : IntKind.u8.max = 255 := by decide
  simp only [Lit.wf, m1, m2, Bool.and_eq_true, decide_eq_true_eq] at this
  omega
theorem wf64 {x : Int} (h : (Lit.int .i64 x).wf = true) : -9223372036854775808 ≤ x ∧ x ≤ 9223372036854775807 := by
  have m1 : IntKind.i64.min = -9223372036854775808 := by decide
  have m2 : IntKind.i64.max = 9223372036854775807 := by decide
  simp only [Lit.wf, m1, m2, Bool.and_eq_true, decide_eq_true_eq] at h
  omega
end Go.Proofs.YtkmdjmbjopklkaaDoor.B

/- What the reference draws out of a list of bytes: there is always an answer, and how large it is; for lists of at most 2^40 bytes. -/
namespace Go.Proofs.YtkmdjmbjopklkaaDoor.B
open Go.RowKit Go.Proofs.YtkmdjmbjopklkaaDoor.P Go.Proofs.YtkmdjmbjopklkaaDoorW.PrintWords Go.Proofs.YtkmdjmbjopklkaaDoorW.PrintLast Go.Proofs.YtkmdjmbjopklkaaDoorW.PrintMore
theorem byteD (d : List Int) (p s : Int) (hd : d.length ≤ 1099511627776) (hp : 0 ≤ p) : ∃ v p' s', spec_l1Byte.f d p s = some (v, p', s') ∧ 0 ≤ v ∧ v < 256 ∧ 0 ≤ p' := by
  unfold spec_l1Byte.f
  simp only [i64_and255]
  by_cases h : p < (d.length : Int)
  · rw [if_pos h, if_pos hp, wrap_eq (p + 1) (by omega) (by omega)]
    exact ⟨_, _, _, rfl, by omega, by omega, by omega⟩
  · rw [if_neg h]
    exact ⟨_, _, _, rfl, by omega, by omega, hp⟩
theorem belowD (d : List Int) (p s a : Int) (hd : d.length ≤ 1099511627776) (hp : 0 ≤ p) : ∃ v p' s', spec_l1Below.f d p s a = some (v, p', s') ∧ 0 ≤ v ∧ (0 < a → v < a) ∧ 0 ≤ p' := by
  unfold spec_l1Below.f
  by_cases h : a ≤ 0
  · rw [if_pos h]; exact ⟨_, _, _, rfl, by omega, by omega, hp⟩
  · rw [if_neg h]
    by_cases h2 : a ≤ 256
    · obtain ⟨v, p', s', e, h0, h1, hp'⟩ := byteD d p s hd hp
      rw [if_pos h2, e, Option.bind_some, if_neg (by omega)]
      exact ⟨_, _, _, rfl, Int.tmod_nonneg _ h0, fun ha => Int.tmod_lt_of_pos _ ha, hp'⟩
    · rw [if_neg h2]
      obtain ⟨v1, p1, s1, e1, a1, b1, hp1⟩ := byteD d p s hd hp
      obtain ⟨v2, p2, s2, e2, a2, b2, hp2⟩ := byteD d p1 s1 hd hp1
      obtain ⟨v3, p3, s3, e3, a3, b3, hp3⟩ := byteD d p2 s2 hd hp2
      obtain ⟨v4, p4, s4, e4, a4, b4, hp4⟩ := byteD d p3 s3 hd hp3
      rw [e1, Option.bind_some, e2, Option.bind_some, e3, Option.bind_some, e4, Option.bind_some, if_neg (by omega)]
      simp only []
      rw [wrap_eq (v1 * 16777216) (by omega) (by omega), wrap_eq (v2 * 65536) (by omega) (by omega), wrap_eq (v3 * 256) (by omega) (by omega), wrap_eq (v1 * 16777216 + v2 * 65536) (by omega) (by omega), wrap_eq (v1 * 16777216 + v2 * 65536 + v3 * 256) (by omega) (by omega), wrap_eq (v1 * 16777216 + v2 * 65536 + v3 * 256 + v4) (by omega) (by omega)]
      exact ⟨_, _, _, rfl, Int.tmod_nonneg _ (by omega), fun ha => Int.tmod_lt_of_pos _ ha, hp4⟩
theorem newD_l0 : ∀ (n : Nat) (l : List Int) (s : Int) (i : Nat) (k : Nat), l.length - i = n → l.length ≤ 1099511627776 → n < k → ∃ s', spec_l1New.l0 k l s (i : Int) = some (l, 0, s')
  | 0, l, s, i, k, hn, hl, hk => by
    obtain ⟨k, rfl⟩ : ∃ m, k = m + 1 := ⟨k - 1, by omega⟩
    simp only [spec_l1New.l0]; rw [if_neg (by omega)]; exact ⟨_, rfl⟩
  | n + 1, l, s, i, k, hn, hl, hk => by
    obtain ⟨k, rfl⟩ : ∃ m, k = m + 1 := ⟨k - 1, by omega⟩
    simp only [spec_l1New.l0]; rw [if_pos (by omega)]
    by_cases h : (i : Int) < 4000
    · rw [if_pos h, if_pos (by omega), wrap_eq ((i : Int) + 1) (by omega) (by omega)]
      exact newD_l0 n l _ (i + 1) k (by omega) hl (by omega)
    · rw [if_neg h]; exact ⟨_, rfl⟩
theorem newD (l : List Int) (k : Nat) (hl : l.length ≤ 1099511627776) (hk : l.length < k) : ∃ s', spec_l1New.f k l = some (l, 0, s') :=
  newD_l0 _ l _ 0 k rfl hl (by omega)
theorem pickD (d : List Int) (p s : Int) (l : List Int) (hl : 0 < l.length) (hd : d.length ≤ 1099511627776) (hp : 0 ≤ p) : ∃ v p' s', spec_l1PickInt.f d p s l = some (v, p', s') ∧ v ∈ l ∧ 0 ≤ p' := by
  obtain ⟨i, p', s', e, h0, h1, hp'⟩ := belowD d p s (l.length : Int) hd hp
  have h1 := h1 (by omega)
  unfold spec_l1PickInt.f
  rw [e, Option.bind_some, if_pos h0, if_pos h1]
  refine ⟨_, _, _, rfl, ?_, hp'⟩
  unfold rd
  rw [List.getD_eq_getElem?_getD, List.getElem?_eq_getElem (show i.toNat < l.length by omega)]
  exact List.getElem_mem _
end Go.Proofs.YtkmdjmbjopklkaaDoor.B
