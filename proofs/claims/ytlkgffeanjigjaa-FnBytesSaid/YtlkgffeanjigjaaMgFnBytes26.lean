import Derived.Test.YtlkgffeanjigjaaMgFnBytes25
import Derived.Test.YtlkgffeanjigjaaMgFnBytes11
import Derived.Test.YtlkgffeanjigjaaMgFnBytes10
import Derived.Test.YtlkgffeanjigjaaMgFnBytes21
import Derived.Test.YtlkgffeanjigjaaMgFnBytes12
import Derived.Test.YtlkgffeanjigjaaMgFnBytes16
import Derived.Test.YtlkgffeanjigjaaMgFnBytes15
import Derived.Test.YtlkgffeanjigjaaMgFnBytes14
import Derived.Test.YtlkgffeanjigjaaMgFnBytes1
import Derived.Test.YtlkgffeanjigjaaMgFnBytes3
/- What the reference draws out of a list of bytes: there is always an answer, and how large it is; for lists of at most 2^40 bytes. -/
namespace Go.Proofs.Ytlkgffeanjigjaa.B
open Go.RowKit Go.Proofs.Ytlkgffeanjigjaa.P Go.Proofs.YtlkgffeanjigjaaW.PrintWords Go.Proofs.YtlkgffeanjigjaaW.PrintLast Go.Proofs.YtlkgffeanjigjaaW.PrintMore
theorem byteD (d : List Int) (p s : Int) (hd : d.length ≤ 1099511627776) (hp : 0 ≤ p) : ∃ v p' s', spec_l1Byte.f d p s = some (v, p', s') ∧ 0 ≤ v ∧ v < 256 ∧ 0 ≤ p' := by
  unfold spec_l1Byte.f
  simp only [i64_and255]
  by_cases h : p < (d.length : Int)
  · rw [if_pos h, if_pos hp, wrap_eq (p + 1) (by omega) (by omega)]
    exact ⟨_, _, _, rfl, by omega, by omega, by omega⟩
  · rw [if_neg h]
    exact ⟨_, _, _, rfl, by omega, by omega, hp⟩
theorem belowD (d : List Int) (p s a : Int) (hd : d.length ≤ 1099511627776) (hp : 0 ≤ p) : ∃ v p' s', spec_l1Below.f d p s a = some (v, p', s') ∧ 0 ≤ v ∧ (0 < a → v < a) ∧ 0 ≤ p' := by
  unfold spec_l1Below.f
  by_cases h : a ≤ 0
  · rw [if_pos h]; exact ⟨_, _, _, rfl, by omega, by omega, hp⟩
  · rw [if_neg h]
    by_cases h2 : a ≤ 256
    · obtain ⟨v, p', s', e, h0, h1, hp'⟩ := byteD d p s hd hp
      rw [if_pos h2, e, Option.bind_some, if_neg (by omega)]
      exact ⟨_, _, _, rfl, Int.tmod_nonneg _ h0, fun ha => Int.tmod_lt_of_pos _ ha, hp'⟩
    · rw [if_neg h2]
      obtain ⟨v1, p1, s1, e1, a1, b1, hp1⟩ := byteD d p s hd hp
      obtain ⟨v2, p2, s2, e2, a2, b2, hp2⟩ := byteD d p1 s1 hd hp1
      obtain ⟨v3, p3, s3, e3, a3, b3, hp3⟩ := byteD d p2 s2 hd hp2
      obtain ⟨v4, p4, s4, e4, a4, b4, hp4⟩ := byteD d p3 s3 hd hp3
      rw [e1, Option.bind_some, e2, Option.bind_some, e3, Option.bind_some, e4, Option.bind_some, if_neg (by omega)]
      simp only []
      rw [wrap_eq (v1 * 16777216) (by omega) (by omega), wrap_eq (v2 * 65536) (by omega) (by omega), wrap_eq (v3 * 256) (by omega) (by omega), wrap_eq (v1 * 16777216 + v2 * 65536) (by omega) (by omega), wrap_eq (v1 * 16777216 + v2 * 65536 + v3 * 256) (by omega) (by omega), wrap_eq (v1 * 16777216 + v2 * 65536 + v3 * 256 + v4) (by omega) (by omega)]
      exact ⟨_, _, _, rfl, Int.tmod_nonneg _ (by omega), fun ha => Int.tmod_lt_of_pos _ ha, hp4⟩
theorem newD_l0 : ∀ (n : Nat) (l : List Int) (s : Int) (i : Nat) (k : Nat), l.length - i = n → l.length ≤ 1099511627776 → n < k → ∃ s', spec_l1New.l0 k l s (i : Int) = some (l, 0, s')
  | 0, l, s, i, k, hn, hl, hk => by
    obtain ⟨k, rfl⟩ : ∃ m, k = m + 1 := ⟨k - 1, by omega⟩
    simp only [spec_l1New.l0]; rw [if_neg (by omega)]; exact ⟨_, rfl⟩
  | n + 1, l, s, i, k, hn, hl, hk => by
    obtain ⟨k, rfl⟩ : ∃ m, k = m + 1 := ⟨k - 1, by omega⟩
    simp only [spec_l1New.l0]; rw [if_pos (by omega)]
    by_cases h : (i : Int) < 4000
    · rw [if_pos h, if_pos (by omega), wrap_eq ((i : Int) + 1) (by omega) (by omega)]
      exact newD_l0 n l _ (i + 1) k (by omega) hl (by omega)
    · rw [if_neg h]; exact ⟨_, rfl⟩
theorem newD (l : List Int) (k : Nat) (hl : l.length ≤ 1099511627776) (hk : l.length < k) : ∃ s', spec_l1New.f k l = some (l, 0, s') :=
  newD_l0 _ l _ 0 k rfl hl (by omega)
theorem pickD (d : List Int) (p s : Int) (l : List Int) (hl : 0 < l.length) (hd : d.length ≤ 1099511627776) (hp : 0 ≤ p) : ∃ v p' s', spec_l1PickInt.f d p s l = some (v, p', s') ∧ v ∈ l ∧ 0 ≤ p' := by
  obtain ⟨i, p', s', e, h0, h1, hp'⟩ := belowD d p s (l.length : Int) hd hp
  have h1 := h1 (by omega)
  unfold spec_l1PickInt.f
  rw [e, Option.bind_some, if_pos h0, if_pos h1]
  refine ⟨_, _, _, rfl, ?_, hp'⟩
  unfold rd
  rw [List.getD_eq_getElem?_getD, List.getElem?_eq_getElem (show i.toNat < l.length by omega)]
  exact List.getElem_mem _
def drawNums : List Int := [0, 1, 305419896, 4294967295, 4294967296, -1, 9223372036854775807]
theorem numD (d : List Int) (p s : Int) (hd : d.length ≤ 1099511627776) (hp : 0 ≤ p) : ∃ v p' s', spec_l2DrawNum.f d p s = some (v, p', s') ∧ v ∈ drawNums ∧ 0 ≤ p' := by
  obtain ⟨v, p', s', e, h, hp'⟩ := pickD d p s drawNums (by decide) hd hp
  unfold spec_l2DrawNum.f
  rw [show ([0, 1, 305419896, 4294967295, 4294967296, (-1), 9223372036854775807] : List Int) = drawNums from rfl, e]
  exact ⟨v, p', s', rfl, h, hp'⟩
theorem bytesD_l0 (d : List Int) (hd : d.length ≤ 1099511627776) : ∀ (n : Nat) (acc : List Int) (m i p s : Int) (k : Nat), 0 ≤ i → (m - i).toNat = n → m ≤ 1000000 → acc.length ≤ 10000000 → (∀ x ∈ acc, 0 ≤ x ∧ x < 256) → n < 1000001 → acc.length + n ≤ 10000000 → 0 ≤ p → n < k →
    ∃ r p' s', spec_l1DrawBytes.l0 k acc m i d p s = some (r, p', s') ∧ (∀ x ∈ r, 0 ≤ x ∧ x < 256) ∧ r.length = acc.length + n ∧ 0 ≤ p'
  | 0, acc, m, i, p, s, k, hi, hn, hm, ha, hw, hc, hx, hp, hk => by
    obtain ⟨k, rfl⟩ : ∃ m, k = m + 1 := ⟨k - 1, by omega⟩
    simp only [spec_l1DrawBytes.l0]; rw [if_neg (by omega)]; exact ⟨_, _, _, rfl, hw, rfl, hp⟩
  | n + 1, acc, m, i, p, s, k, hi, hn, hm, ha, hw, hc, hx, hp, hk => by
    obtain ⟨k, rfl⟩ : ∃ m, k = m + 1 := ⟨k - 1, by omega⟩
    obtain ⟨v, p', s', e, h0, h1, hp'⟩ := belowD d p s 256 hd hp
    simp only [spec_l1DrawBytes.l0]; rw [if_pos (by omega), e, Option.bind_some, if_pos (by omega), wrap_eq (i + 1) (by omega) (by omega)]
    obtain ⟨r, p2, s2, h, hr, hl, hp2⟩ := bytesD_l0 d hd n (acc ++ [v % 256]) m (i + 1) p' s' k (by omega) (by omega) hm (by simp; omega) (by intro x hx; rcases List.mem_append.1 hx with h | h; exact hw x h; simp at h; omega) (by omega) (by simp; omega) hp' (by omega)
    exact ⟨r, p2, s2, h, hr, by rw [hl]; simp; omega, hp2⟩
theorem bytesD (d : List Int) (p s a : Int) (hd : d.length ≤ 1099511627776) (hp : 0 ≤ p) (ha : 0 ≤ a) (hb : a ≤ 100000) (k : Nat) (hk : 100001 < k) : ∃ r p' s', spec_l1DrawBytes.f k d p s a = some (r, p', s') ∧ (∀ x ∈ r, 0 ≤ x ∧ x < 256) ∧ (r.length : Int) ≤ a ∧ 0 ≤ p' := by
  obtain ⟨v, p', s', e, h0, h1, hp'⟩ := belowD d p s (a + 1) hd hp
  have h1 := h1 (by omega)
  unfold spec_l1DrawBytes.f
  rw [wrap_eq (a + 1) (by omega) (by omega), e, Option.bind_some]
  obtain ⟨r, p2, s2, h, hr, hl, hp2⟩ := bytesD_l0 d hd v.toNat [] v 0 p' s' k (by omega) (by omega) (by omega) (by simp) (by simp) (by omega) (by simp; omega) hp' (by omega)
  exact ⟨r, p2, s2, h, hr, by rw [hl]; simp; omega, hp2⟩
theorem onceD (d : List Int) (p s a : Int) (hd : d.length ≤ 1099511627776) (hp : 0 ≤ p) : ∃ v p' s', spec_l1Once.f d p s a = some (v, p', s') ∧ 0 ≤ p' := by
  obtain ⟨v, p', s', e, _, _, hp'⟩ := belowD d p s a hd hp
  unfold spec_l1Once.f
  rw [e]
  exact ⟨_, _, _, rfl, hp'⟩
end Go.Proofs.Ytlkgffeanjigjaa.B
/- Hex, by the program and by the reference: two signs a byte; for lists of at most 2^40 bytes. -/
namespace Go.Proofs.Ytlkgffeanjigjaa.B
open Go.RowKit Go.Proofs.Ytlkgffeanjigjaa.P Go.Proofs.YtlkgffeanjigjaaW.PrintWords Go.Proofs.YtlkgffeanjigjaaW.PrintLast Go.Proofs.YtlkgffeanjigjaaW.PrintMore
def signs : ByteArray := ⟨#[48, 49, 50, 51, 52, 53, 54, 55, 56, 57, 97, 98, 99, 100, 101, 102]⟩
/-- Two signs a byte. -/
def hexL : List Int → List Int
  | [] => []
  | x :: l => bt signs (x / 16) :: bt signs (x % 16) :: hexL l
theorem hexL_length : ∀ l : List Int, (hexL l).length = 2 * l.length
  | [] => rfl
  | x :: l => by simp [hexL, hexL_length l]; omega
theorem specHex_l0 : ∀ (rest pre acc : List Int) (k : Nat), (∀ x ∈ rest, 0 ≤ x ∧ x < 256) → pre.length + rest.length ≤ 1099511627776 → acc.length + 2 * rest.length ≤ 4398046511104 → rest.length < k →
    spec_Hex.l0 k (pre ++ rest) signs acc (pre.length : Int) = some (strOfNums (acc ++ hexL rest))
  | [], pre, acc, k, hw, hb, hc, hk => by
    obtain ⟨k, rfl⟩ : ∃ m, k = m + 1 := ⟨k - 1, by omega⟩
    simp only [spec_Hex.l0]; rw [if_neg (nlt_end pre)]; simp [hexL]
  | x :: rest, pre, acc, k, hw, hb, hc, hk => by
    obtain ⟨k, rfl⟩ : ∃ m, k = m + 1 := ⟨k - 1, by omega⟩
    simp only [List.length_cons] at hb hc hk
    have hx := hw x (by simp)
    have hs : (signs.size : Int) = 16 := rfl
    have ih := specHex_l0 rest (pre ++ [x]) (acc ++ [bt signs (x / 16), bt signs (x % 16)]) k (fun y hy => hw y (by simp [hy])) (by simp; omega) (by simp; omega) (by omega)
    simp only [spec_Hex.l0, Option.bind_some]
    rw [if_pos (lt_mid pre x rest), if_pos (pre_nonneg pre), rd_mid, u8_and15 _ hx.1 hx.2, hs, if_pos (by omega), if_pos (by omega), if_pos (by omega), if_pos (by omega), if_pos (by simp; omega), wrap_step pre x (by omega), snoc_app pre x rest, ih]
    simp [hexL]
theorem specHex (l : List Int) (hw : ∀ x ∈ l, 0 ≤ x ∧ x < 256) (hn : l.length ≤ 1099511627776) (k : Nat) (hk : l.length < k) : spec_Hex.f k l = some (strOfNums (hexL l)) := by
  have h := specHex_l0 l [] [] k hw (by simpa using hn) (by simp; omega) hk
  simpa [spec_Hex.f, signs] using h
theorem implHex_l0 : ∀ (rest pre acc : List Int) (n : Int) (k : Nat), n = (((pre ++ rest).length : Nat) : Int) → (∀ x ∈ rest, 0 ≤ x ∧ x < 256) → pre.length + rest.length ≤ 1099511627776 → acc.length + 2 * rest.length ≤ 4398046511104 → rest.length < k →
    impl_Hex.l0 k acc (pre ++ rest) n (pre.length : Int) = some (strOfNums (acc ++ hexL rest))
  | [], pre, acc, n, k, he, hw, hb, hc, hk => by
    obtain ⟨k, rfl⟩ : ∃ m, k = m + 1 := ⟨k - 1, by omega⟩
    simp only [impl_Hex.l0]; rw [if_neg (by rw [he]; exact nlt_end pre)]; simp [hexL]
  | x :: rest, pre, acc, n, k, he, hw, hb, hc, hk => by
    obtain ⟨k, rfl⟩ : ∃ m, k = m + 1 := ⟨k - 1, by omega⟩
    simp only [List.length_cons] at hb hc hk
    have hx := hw x (by simp)
    have ih := implHex_l0 rest (pre ++ [x]) (acc ++ [bt signs (x / 16), bt signs (x % 16)]) n k (by rw [he]; simp) (fun y hy => hw y (by simp [hy])) (by simp; omega) (by simp; omega) (by omega)
    simp only [impl_Hex.l0, Option.bind_some]
    rw [if_pos (by rw [he]; exact lt_mid pre x rest), if_pos (pre_nonneg pre), if_pos (lt_mid pre x rest), rd_mid, u8_and15 _ hx.1 hx.2, if_pos (by omega), if_pos (by omega), if_pos (by omega), if_pos (by omega), if_pos (by simp; omega), wrap_step pre x (by omega), snoc_app pre x rest]
    refine Eq.trans ?_ (ih.trans ?_)
    · rfl
    · simp [hexL]
theorem implHex (l : List Int) (hw : ∀ x ∈ l, 0 ≤ x ∧ x < 256) (hn : l.length ≤ 1099511627776) (k : Nat) (hk : l.length < k) : impl_Hex.f k l = some (strOfNums (hexL l)) := by
  have h := implHex_l0 l [] [] _ k rfl hw (by simpa using hn) (by simp; omega) hk
  simpa [impl_Hex.f] using h
end Go.Proofs.Ytlkgffeanjigjaa.B
/- Unhex, by the program and by the reference; for texts of at most 2^40 bytes. -/
namespace Go.Proofs.Ytlkgffeanjigjaa.B
open Go.RowKit Go.Proofs.Ytlkgffeanjigjaa.P Go.Proofs.YtlkgffeanjigjaaW.PrintWords Go.Proofs.YtlkgffeanjigjaaW.PrintLast Go.Proofs.YtlkgffeanjigjaaW.PrintMore
def sgn (c : Int) : Int := if 48 ≤ c ∧ c ≤ 57 then c - 48 else if 97 ≤ c ∧ c ≤ 102 then c - 87 else -1
theorem sgn_range (c : Int) : -1 ≤ sgn c ∧ sgn c < 16 := by
  unfold sgn
  split
  · omega
  · split <;> omega
theorem bt_rng (s : ByteArray) (i : Int) : 0 ≤ bt s i ∧ bt s i < 256 := by
  unfold bt; split
  · have := (s[i.toNat]'(by assumption)).toNat_lt; omega
  · omega
theorem specSign (c : Int) (h0 : 0 ≤ c) (h1 : c < 256) (k : Nat) : spec_l1Sign.f (k + 1) c = some (sgn c) := by
  have e0 : wrap64 c = c := wrap_eq _ (by omega) (by omega)
  unfold spec_l1Sign.f sgn
  simp only [spec_l1Sign.j0, e0, decide_eq_true_eq]
  repeat' split
  all_goals first | rfl | contradiction | (exfalso; omega) | (rw [wrap_eq _ (by omega) (by omega)])
theorem implSign256 : ∀ n : Fin 256, Lib.indexByte [48, 49, 50, 51, 52, 53, 54, 55, 56, 57, 97, 98, 99, 100, 101, 102] n.val.toUInt8 = sgn (n.val : Int) := by
  decide +kernel
theorem implSign (c : Int) (h0 : 0 ≤ c) (h1 : c < 256) : strings_IndexByte.f (⟨#[48, 49, 50, 51, 52, 53, 54, 55, 56, 57, 97, 98, 99, 100, 101, 102]⟩ : ByteArray) c = some (sgn c) := by
  have h := implSign256 ⟨c.toNat, by omega⟩
  simp only [strings_IndexByte.f, stringslite_IndexByte.f, Option.bind_some]
  rw [show ((c.toNat : Nat) : Int) = c from by omega] at h
  exact congrArg some h
theorem two16 : ∀ a b : Fin 16, (wrap64 ((wrap64 (16 * (a.val : Int))) + (b.val : Int))) % 256 = (Go.bits .or .i64 (wrap64 ((a.val : Int) * 16)) (b.val : Int)) % 256 := by
  decide +kernel
theorem two (a b : Int) (ha : 0 ≤ a ∧ a < 16) (hb : 0 ≤ b ∧ b < 16) : (Go.bits .or .i64 (wrap64 (a * 16)) b) % 256 = (wrap64 ((wrap64 (16 * a)) + b)) % 256 := by
  have h := two16 ⟨a.toNat, by omega⟩ ⟨b.toNat, by omega⟩
  simp only [] at h
  rw [show ((a.toNat : Nat) : Int) = a from by omega, show ((b.toNat : Nat) : Int) = b from by omega] at h
  exact h.symm
theorem unhex_l0 (s : ByteArray) (hs : s.size ≤ 1099511627776) : ∀ (n i : Nat) (acc : List Int), s.size - i ≤ n → i ≤ s.size → i % 2 = 0 → acc.length + (s.size - i) ≤ 4398046511104 →
    ∃ r : List Int × Bool, r.1.length ≤ acc.length + (s.size - i) ∧ (s.size % 2 = 1 → r = ([], false)) ∧ (∀ k, n + 2 < k → spec_Unhex.l0 k s acc (i : Int) = some r) ∧ (∀ k, n + 2 < k → s.size % 2 = 0 → impl_Unhex.l0 k s acc (i : Int) = some r)
  | 0, i, acc, hn, hi, h2, hc => by
    have he : i = s.size := by omega
    subst he
    refine ⟨(acc, true), by simp, fun h => by omega, fun k hk => ?_, fun k hk _ => ?_⟩
    · obtain ⟨k, rfl⟩ : ∃ m, k = m + 1 := ⟨k - 1, by omega⟩
      simp only [spec_Unhex.l0]; rw [wrap_eq _ (by omega) (by omega), if_neg (by omega), if_pos (by omega)]
    · obtain ⟨k, rfl⟩ : ∃ m, k = m + 1 := ⟨k - 1, by omega⟩
      simp only [impl_Unhex.l0]; rw [if_neg (by omega)]
  | n + 1, i, acc, hn, hi, h2, hc => by
    by_cases hd : i + 1 < s.size
    · have e1 : wrap64 ((i : Int) + 1) = i + 1 := wrap_eq _ (by omega) (by omega)
      have e2 : wrap64 ((i : Int) + 2) = ((i + 2 : Nat) : Int) := by rw [wrap_eq _ (by omega) (by omega)]; rfl
      obtain ⟨a0, a1⟩ := bt_rng s i
      obtain ⟨b0, b1⟩ := bt_rng s ((i : Int) + 1)
      obtain ⟨sa0, sa1⟩ := sgn_range (bt s i)
      obtain ⟨sb0, sb1⟩ := sgn_range (bt s ((i : Int) + 1))
      by_cases bad : sgn (bt s i) < 0 ∨ sgn (bt s ((i : Int) + 1)) < 0
      · refine ⟨([], false), by simp, fun _ => rfl, fun k hk => ?_, fun k hk _ => ?_⟩
        · obtain ⟨k, rfl⟩ : ∃ m, k = m + 2 := ⟨k - 2, by omega⟩
          simp only [spec_Unhex.l0, e1, specSign _ a0 a1, specSign _ b0 b1, Option.bind_some]
          rw [if_pos (by omega), if_pos (by omega), if_pos (by omega), if_pos (by omega)]
          by_cases hx : sgn (bt s i) < 0
          · rw [if_pos hx]
          · rw [if_neg hx, if_pos (by omega)]
        · obtain ⟨k, rfl⟩ : ∃ m, k = m + 1 := ⟨k - 1, by omega⟩
          simp only [impl_Unhex.l0, e1, implSign _ a0 a1, implSign _ b0 b1, Option.bind_some]
          rw [if_pos (by omega), if_pos (by omega), if_pos (by omega), if_pos (by omega)]
          by_cases hx : sgn (bt s i) < 0
          · rw [if_pos hx]
          · rw [if_neg hx, if_pos (by omega)]
      · obtain ⟨r, hr0, hr1, hr2, hr3⟩ := unhex_l0 s hs n (i + 2) (acc ++ [(wrap64 ((wrap64 (16 * sgn (bt s i))) + sgn (bt s ((i : Int) + 1)))) % 256]) (by omega) (by omega) (by omega) (by simp; omega)
        refine ⟨r, by simp at hr0; omega, hr1, fun k hk => ?_, fun k hk h => ?_⟩
        · obtain ⟨k, rfl⟩ : ∃ m, k = m + 2 := ⟨k - 2, by omega⟩
          simp only [spec_Unhex.l0.eq_2, e1, e2, specSign _ a0 a1, specSign _ b0 b1, Option.bind_some]
          rw [if_pos (by omega), if_pos (by omega), if_pos (by omega), if_pos (by omega), if_neg (by omega), if_neg (by omega), if_pos (by omega)]
          exact hr2 (k + 1) (by omega)
        · obtain ⟨k, rfl⟩ : ∃ m, k = m + 1 := ⟨k - 1, by omega⟩
          simp only [impl_Unhex.l0, e1, e2, implSign _ a0 a1, implSign _ b0 b1, Option.bind_some]
          rw [if_pos (by omega), if_pos (by omega), if_pos (by omega), if_pos (by omega), if_neg (by omega), if_neg (by omega), if_pos (by omega), two _ _ (by omega) (by omega)]
          exact hr3 k (by omega) h
    · by_cases ho : i = s.size
      · subst ho
        refine ⟨(acc, true), by simp, fun h => by omega, fun k hk => ?_, fun k hk _ => ?_⟩
        · obtain ⟨k, rfl⟩ : ∃ m, k = m + 1 := ⟨k - 1, by omega⟩
          simp only [spec_Unhex.l0]; rw [wrap_eq _ (by omega) (by omega), if_neg (by omega), if_pos (by omega)]
        · obtain ⟨k, rfl⟩ : ∃ m, k = m + 1 := ⟨k - 1, by omega⟩
          simp only [impl_Unhex.l0]; rw [if_neg (by omega)]
      · refine ⟨([], false), by simp, fun _ => rfl, fun k hk => ?_, fun k hk h => by omega⟩
        obtain ⟨k, rfl⟩ : ∃ m, k = m + 1 := ⟨k - 1, by omega⟩
        simp only [spec_Unhex.l0]; rw [wrap_eq _ (by omega) (by omega), if_neg (by omega), if_neg (by omega)]
theorem unhex (s : ByteArray) (hs : s.size ≤ 1099511627776) : ∃ r : List Int × Bool, r.1.length ≤ s.size ∧ ∀ k, s.size + 3 < k → spec_Unhex.f k s = some r ∧ impl_Unhex.f k s = some r := by
  obtain ⟨r, h0, h1, h2, h3⟩ := unhex_l0 s hs s.size 0 [] (by omega) (by omega) rfl (by simp; omega)
  refine ⟨r, by simpa using h0, fun k hk => ⟨h2 k (by omega), ?_⟩⟩
  unfold impl_Unhex.f
  by_cases he : s.size % 2 = 0
  · rw [if_pos (by omega)]; exact h3 k (by omega) he
  · rw [if_neg (by omega), h1 (by omega)]
end Go.Proofs.Ytlkgffeanjigjaa.B
