import Derived.Test.Ytdineaebljpfaaan37
import Derived.Test.Ytdineaebljpfaaan40
import Derived.Test.Ytdineaebljpfaaan32
/- What the reference draws out of a list of bytes: there is always an answer, and how large it is; for lists of at most 2^40 bytes. -/
namespace Go.Proofs.Ytdineaebljpfaaa.B
open Go.RowKit Go.Proofs.Ytdineaebljpfaaa.P Go.Proofs.YtdineaebljpfaaaW.PrintWords Go.Proofs.YtdineaebljpfaaaW.PrintLast Go.Proofs.YtdineaebljpfaaaW.PrintMore
theorem byteD (d : List Int) (p s : Int) (hd : d.length ≤ 1099511627776) (hp : 0 ≤ p) : ∃ v p' s', spec_l1Byte.f d p s = some (v, p', s') ∧ 0 ≤ v ∧ v < 256 ∧ 0 ≤ p' := by
  unfold spec_l1Byte.f
  simp only [i64_and255]
  by_cases h : p < (d.length : Int)
  · rw [if_pos h, if_pos hp, wrap_eq (p + 1) (by omega) (by omega)]
    exact ⟨_, _, _, rfl, by omega, by omega, by omega⟩
  · rw [if_neg h]
    exact ⟨_, _, _, rfl, by omega, by omega, hp⟩
theorem belowD (d : List Int) (p s a : Int) (hd : d.length ≤ 1099511627776) (hp : 0 ≤ p) : ∃ v p' s', spec_l1Below.f d p s a = some (v, p', s') ∧ 0 ≤ v ∧ (0 < a → v < a) ∧ 0 ≤ p' := by
  unfold spec_l1Below.f
  by_cases h : a ≤ 0
  · rw [if_pos h]; exact ⟨_, _, _, rfl, by omega, by omega, hp⟩
  · rw [if_neg h]
    by_cases h2 : a ≤ 256
    · obtain ⟨v, p', s', e, h0, h1, hp'⟩ := byteD d p s hd hp
      rw [if_pos h2, e, Option.bind_some, if_neg (by omega)]
      exact ⟨_, _, _, rfl, Int.tmod_nonneg _ h0, fun ha => Int.tmod_lt_of_pos _ ha, hp'⟩
    · rw [if_neg h2]
      obtain ⟨v1, p1, s1, e1, a1, b1, hp1⟩ := byteD d p s hd hp
      obtain ⟨v2, p2, s2, e2, a2, b2, hp2⟩ := byteD d p1 s1 hd hp1
      obtain ⟨v3, p3, s3, e3, a3, b3, hp3⟩ := byteD d p2 s2 hd hp2
      obtain ⟨v4, p4, s4, e4, a4, b4, hp4⟩ := byteD d p3 s3 hd hp3
      rw [e1, Option.bind_some, e2, Option.bind_some, e3, Option.bind_some, e4, Option.bind_some, if_neg (by omega)]
      simp only []
      rw [wrap_eq (v1 * 16777216) (by omega) (by omega), wrap_eq (v2 * 65536) (by omega) (by omega), wrap_eq (v3 * 256) (by omega) (by omega), wrap_eq (v1 * 16777216 + v2 * 65536) (by omega) (by omega), wrap_eq (v1 * 16777216 + v2 * 65536 + v3 * 256) (by omega) (by omega), wrap_eq (v1 * 16777216 + v2 * 65536 + v3 * 256 + v4) (by omega) (by omega)]
      exact ⟨_, _, _, rfl, Int.tmod_nonneg _ (by omega), fun ha => Int.tmod_lt_of_pos _ ha, hp4⟩
theorem newD_l0 : ∀ (n : Nat) (l : List Int) (s : Int) (i : Nat) (k : Nat), l.length - i = n → l.length ≤ 1099511627776 → n < k → ∃ s', spec_l1New.l0 k l s (i : Int) = some (l, 0, s')
  | 0, l, s, i, k, hn, hl, hk => by
    obtain ⟨k, rfl⟩ : ∃ m, k = m + 1 := ⟨k - 1, by omega⟩
    simp only [spec_l1New.l0]; rw [if_neg (by omega)]; exact ⟨_, rfl⟩
  | n + 1, l, s, i, k, hn, hl, hk => by
    obtain ⟨k, rfl⟩ : ∃ m, k = m + 1 := ⟨k - 1, by omega⟩
    simp only [spec_l1New.l0]; rw [if_pos (by omega)]
    by_cases h : (i : Int) < 4000
    · rw [if_pos h, if_pos (by omega), wrap_eq ((i : Int) + 1) (by omega) (by omega)]
      exact newD_l0 n l _ (i + 1) k (by omega) hl (by omega)
    · rw [if_neg h]; exact ⟨_, rfl⟩
theorem newD (l : List Int) (k : Nat) (hl : l.length ≤ 1099511627776) (hk : l.length < k) : ∃ s', spec_l1New.f k l = some (l, 0, s') :=
  newD_l0 _ l _ 0 k rfl hl (by omega)
theorem pickD (d : List Int) (p s : Int) (l : List Int) (hl : 0 < l.length) (hd : d.length ≤ 1099511627776) (hp : 0 ≤ p) : ∃ v p' s', spec_l1PickInt.f d p s l = some (v, p', s') ∧ v ∈ l ∧ 0 ≤ p' := by
  obtain ⟨i, p', s', e, h0, h1, hp'⟩ := belowD d p s (l.length : Int) hd hp
  have h1 := h1 (by omega)
  unfold spec_l1PickInt.f
  rw [e, Option.bind_some, if_pos h0, if_pos h1]
  refine ⟨_, _, _, rfl, ?_, hp'⟩
  unfold rd
  rw [List.getD_eq_getElem?_getD, List.getElem?_eq_getElem (show i.toNat < l.length by omega)]
  exact List.getElem_mem _
def drawNums : List Int := [0, 1, 305419896, 4294967295, 4294967296, -1, 9223372036854775807]
theorem numD (d : List Int) (p s : Int) (hd : d.length ≤ 1099511627776) (hp : 0 ≤ p) : ∃ v p' s', spec_l2DrawNum.f d p s = some (v, p', s') ∧ v ∈ drawNums ∧ 0 ≤ p' := by
  obtain ⟨v, p', s', e, h, hp'⟩ := pickD d p s drawNums (by decide) hd hp
  unfold spec_l2DrawNum.f
  rw [show ([0, 1, 305419896, 4294967295, 4294967296, (-1), 9223372036854775807] : List Int) = drawNums from rfl, e]
  exact ⟨v, p', s', rfl, h, hp'⟩
theorem bytesD_l0 (d : List Int) (hd : d.length ≤ 1099511627776) : ∀ (n : Nat) (acc : List Int) (m i p s : Int) (k : Nat), 0 ≤ i → (m - i).toNat = n → m ≤ 1000000 → acc.length ≤ 10000000 → (∀ x ∈ acc, 0 ≤ x ∧ x < 256) → n < 1000001 → acc.length + n ≤ 10000000 → 0 ≤ p → n < k →
    ∃ r p' s', spec_l1DrawBytes.l0 k acc m i d p s = some (r, p', s') ∧ (∀ x ∈ r, 0 ≤ x ∧ x < 256) ∧ r.length = acc.length + n ∧ 0 ≤ p'
  | 0, acc, m, i, p, s, k, hi, hn, hm, ha, hw, hc, hx, hp, hk => by
    obtain ⟨k, rfl⟩ : ∃ m, k = m + 1 := ⟨k - 1, by omega⟩
    simp only [spec_l1DrawBytes.l0]; rw [if_neg (by omega)]; exact ⟨_, _, _, rfl, hw, rfl, hp⟩
  | n + 1, acc, m, i, p, s, k, hi, hn, hm, ha, hw, hc, hx, hp, hk => by
    obtain ⟨k, rfl⟩ : ∃ m, k = m + 1 := ⟨k - 1, by omega⟩
    obtain ⟨v, p', s', e, h0, h1, hp'⟩ := belowD d p s 256 hd hp
    simp only [spec_l1DrawBytes.l0]; rw [if_pos (by omega), e, Option.bind_some, if_pos (by omega), wrap_eq (i + 1) (by omega) (by omega)]
    obtain ⟨r, p2, s2, h, hr, hl, hp2⟩ := bytesD_l0 d hd n (acc ++ [v % 256]) m (i + 1) p' s' k (by omega) (by omega) hm (by simp; omega) (by intro x hx; rcases List.mem_append.1 hx with h | h; exact hw x h; simp at h; omega) (by omega) (by simp; omega) hp' (by omega)
    exact ⟨r, p2, s2, h, hr, by rw [hl]; simp; omega, hp2⟩
theorem bytesD (d : List Int) (p s a : Int) (hd : d.length ≤ 1099511627776) (hp : 0 ≤ p) (ha : 0 ≤ a) (hb : a ≤ 100000) (k : Nat) (hk : 100001 < k) : ∃ r p' s', spec_l1DrawBytes.f k d p s a = some (r, p', s') ∧ (∀ x ∈ r, 0 ≤ x ∧ x < 256) ∧ (r.length : Int) ≤ a ∧ 0 ≤ p' := by
  obtain ⟨v, p', s', e, h0, h1, hp'⟩ := belowD d p s (a + 1) hd hp
  have h1 := h1 (by omega)
  unfold spec_l1DrawBytes.f
  rw [wrap_eq (a + 1) (by omega) (by omega), e, Option.bind_some]
  obtain ⟨r, p2, s2, h, hr, hl, hp2⟩ := bytesD_l0 d hd v.toNat [] v 0 p' s' k (by omega) (by omega) (by omega) (by simp) (by simp) (by omega) (by simp; omega) hp' (by omega)
  exact ⟨r, p2, s2, h, hr, by rw [hl]; simp; omega, hp2⟩
theorem onceD (d : List Int) (p s a : Int) (hd : d.length ≤ 1099511627776) (hp : 0 ≤ p) : ∃ v p' s', spec_l1Once.f d p s a = some (v, p', s') ∧ 0 ≤ p' := by
  obtain ⟨v, p', s', e, _, _, hp'⟩ := belowD d p s a hd hp
  unfold spec_l1Once.f
  rw [e]
  exact ⟨_, _, _, rfl, hp'⟩
end Go.Proofs.Ytdineaebljpfaaa.B
/- So many bytes, or nearly so many, as the reference draws them: there is always an answer; for lists of at most 2^40 bytes. -/
namespace Go.Proofs.Ytdineaebljpfaaa.B
open Go.RowKit Go.Proofs.Ytdineaebljpfaaa.P Go.Proofs.YtdineaebljpfaaaW.PrintWords Go.Proofs.YtdineaebljpfaaaW.PrintLast Go.Proofs.YtdineaebljpfaaaW.PrintMore
theorem justD_l0 (d : List Int) (hd : d.length ≤ 1099511627776) : ∀ (n : Nat) (acc : List Int) (m i p s : Int) (k : Nat), 0 ≤ i → (m - i).toNat = n → m ≤ 1000000 → acc.length + n ≤ 10000000 → (∀ x ∈ acc, 0 ≤ x ∧ x < 256) → 0 ≤ p → n < k →
    ∃ r p' s', spec_l1DrawJust.l0 k m acc i d p s = some (r, p', s') ∧ (∀ x ∈ r, 0 ≤ x ∧ x < 256) ∧ r.length = acc.length + n ∧ 0 ≤ p'
  | 0, acc, m, i, p, s, k, hi, hn, hm, hc, hw, hp, hk => by
    obtain ⟨k, rfl⟩ : ∃ m, k = m + 1 := ⟨k - 1, by omega⟩
    simp only [spec_l1DrawJust.l0]; rw [if_neg (by omega)]; exact ⟨_, _, _, rfl, hw, rfl, hp⟩
  | n + 1, acc, m, i, p, s, k, hi, hn, hm, hc, hw, hp, hk => by
    obtain ⟨k, rfl⟩ : ∃ m, k = m + 1 := ⟨k - 1, by omega⟩
    obtain ⟨v, p', s', e, h0, h1, hp'⟩ := belowD d p s 256 hd hp
    simp only [spec_l1DrawJust.l0]; rw [if_pos (by omega), e, Option.bind_some, if_pos (by omega), wrap_eq (i + 1) (by omega) (by omega)]
    obtain ⟨r, p2, s2, h, hr, hl, hp2⟩ := justD_l0 d hd n (acc ++ [v % 256]) m (i + 1) p' s' k (by omega) (by omega) hm (by simp; omega) (by intro x hx; rcases List.mem_append.1 hx with h | h; exact hw x h; simp at h; omega) hp' (by omega)
    exact ⟨r, p2, s2, h, hr, by rw [hl]; simp; omega, hp2⟩
theorem justD (d : List Int) (p s a : Int) (hd : d.length ≤ 1099511627776) (hp : 0 ≤ p) (hb : a ≤ 100000) (k : Nat) (hk : 100001 < k) : ∃ r p' s', spec_l1DrawJust.f k d p s a = some (r, p', s') ∧ (∀ x ∈ r, 0 ≤ x ∧ x < 256) ∧ r.length ≤ a.toNat ∧ 0 ≤ p' := by
  obtain ⟨r, p2, s2, h, hr, hl, hp2⟩ := justD_l0 d hd a.toNat [] a 0 p s k (by omega) (by omega) (by omega) (by simp; omega) (by simp) hp (by omega)
  exact ⟨r, p2, s2, h, hr, by rw [hl]; simp, hp2⟩
theorem nearD (d : List Int) (p s a : Int) (hd : d.length ≤ 1099511627776) (hp : 0 ≤ p) (ha : 0 ≤ a) (hb : a ≤ 10000) (k : Nat) (hk : 100001 < k) : ∃ r p' s', spec_l1DrawNear.f k d p s a = some (r, p', s') ∧ (∀ x ∈ r, 0 ≤ x ∧ x < 256) ∧ r.length ≤ 10001 ∧ 0 ≤ p' := by
  obtain ⟨v, p1, s1, e1, h0, h1, hp1⟩ := belowD d p s 16 hd hp
  unfold spec_l1DrawNear.f
  rw [e1, Option.bind_some]
  simp only []
  by_cases c0 : v = 0
  · obtain ⟨r, p2, s2, e2, w2, l2, hp2⟩ := justD d p1 s1 (a + 1) hd hp1 (by omega) k hk
    rw [if_pos c0, wrap_eq (a + 1) (by omega) (by omega), e2, Option.bind_some]
    exact ⟨r, p2, s2, rfl, w2, by omega, hp2⟩
  · rw [if_neg c0]
    by_cases c1 : v = 1
    · rw [if_pos c1]
      obtain ⟨m, em, hm⟩ : ∃ m, spec_l1Max.f (wrap64 (a - 1)) 0 = some m ∧ m ≤ 10000 := by
        unfold spec_l1Max.f
        rw [wrap_eq (a - 1) (by omega) (by omega)]
        split
        · exact ⟨_, rfl, by omega⟩
        · exact ⟨_, rfl, by omega⟩
      obtain ⟨r, p2, s2, e2, w2, l2, hp2⟩ := justD d p1 s1 m hd hp1 (by omega) k hk
      rw [em, Option.bind_some, e2, Option.bind_some]
      exact ⟨r, p2, s2, rfl, w2, by omega, hp2⟩
    · rw [if_neg c1]
      by_cases c2 : v = 2
      · rw [if_pos c2]; exact ⟨[], p1, s1, rfl, by simp, by simp, hp1⟩
      · obtain ⟨r, p2, s2, e2, w2, l2, hp2⟩ := justD d p1 s1 a hd hp1 (by omega) k hk
        rw [if_neg c2, e2, Option.bind_some]
        exact ⟨r, p2, s2, rfl, w2, by omega, hp2⟩
end Go.Proofs.Ytdineaebljpfaaa.B
/- What the reference draws for a block; for lists of at most 2^40 bytes. -/
namespace Go.Proofs.Ytdineaebljpfaaa.B
open Go.RowKit Go.Proofs.Ytdineaebljpfaaa.P Go.Proofs.YtdineaebljpfaaaW.PrintWords Go.Proofs.YtdineaebljpfaaaW.PrintLast Go.Proofs.YtdineaebljpfaaaW.PrintMore
def drawCounts : List Int := [0, 1, 7, 4294967295, 4294967296, -1]
theorem countD (d : List Int) (p s : Int) (hd : d.length ≤ 1099511627776) (hp : 0 ≤ p) : ∃ v p' s', spec_l5DrawCount.f d p s = some (v, p', s') ∧ v ∈ drawCounts ∧ 0 ≤ p' := by
  obtain ⟨v, p', s', e, h, hp'⟩ := pickD d p s drawCounts (by decide) hd hp
  unfold spec_l5DrawCount.f
  rw [show ([0, 1, 7, 4294967295, 4294967296, (-1)] : List Int) = drawCounts from rfl, e]
  exact ⟨v, p', s', rfl, h, hp'⟩
theorem counts_rng {v : Int} (h : v ∈ drawCounts) : -1 ≤ v ∧ v ≤ 4294967296 := by
  simp only [drawCounts, List.mem_cons, List.not_mem_nil, or_false] at h
  omega
theorem drawBlock (d : List Int) (hd : d.length ≤ 1099511627776) (k : Nat) (hk : d.length + 100002 < k) : ∃ a c b, spec_DrawBlock.f k d = some (a, c, b) ∧ c ∈ drawCounts := by
  obtain ⟨s0, n0⟩ := newD d k hd (by omega)
  obtain ⟨a, p1, s1, e1, w1, l1, hp1⟩ := nearD d 0 s0 32 hd (by omega) (by omega) (by omega) k (by omega)
  obtain ⟨c, p2, s2, e2, w2, hp2⟩ := countD d p1 s1 hd hp1
  obtain ⟨b, p3, s3, e3, w3, l3, hp3⟩ := nearD d p2 s2 12 hd hp2 (by omega) (by omega) k (by omega)
  refine ⟨a, c, b, ?_, w2⟩
  unfold spec_DrawBlock.f
  rw [n0, Option.bind_some, e1, Option.bind_some, e2, Option.bind_some, e3]
  rfl
end Go.Proofs.Ytdineaebljpfaaa.B
/- Same, by the program and by the reference: whether two lists of bytes are one. -/
namespace Go.Proofs.Ytdineaebljpfaaa.B
open Go.RowKit Go.Proofs.Ytdineaebljpfaaa.P Go.Proofs.YtdineaebljpfaaaW.PrintWords Go.Proofs.YtdineaebljpfaaaW.PrintLast Go.Proofs.YtdineaebljpfaaaW.PrintMore
def sameL (a b : List Int) : Bool := (strOfNums a).toList == (strOfNums b).toList
theorem implSame (a b : List Int) : impl_Same.f a b = some (sameL a b) := rfl
theorem sameL_same (a : List Int) : sameL a a = true := by unfold sameL; simp
end Go.Proofs.Ytdineaebljpfaaa.B
/- Bytes put together with one another, twice, and with nothing; for bytes. -/
namespace Go.Proofs.Ytdineaebljpfaaa.B
open Go.RowKit Go.Proofs.Ytdineaebljpfaaa.P Go.Proofs.YtdineaebljpfaaaW.PrintWords Go.Proofs.YtdineaebljpfaaaW.PrintLast Go.Proofs.YtdineaebljpfaaaW.PrintMore
theorem xor8 (x y : Int) (hx : 0 ≤ x ∧ x < 256) : Go.bits .xor .u8 (Go.bits .xor .u8 x y) y = x := by
  have h1 : BitVec.ofInt 8 (Go.bits .xor .u8 x y) = BitVec.ofInt 8 x ^^^ BitVec.ofInt 8 y := by
    show BitVec.ofInt 8 (IntKind.u8.wrap ((BitVec.ofInt 8 x ^^^ BitVec.ofInt 8 y).toNat : Int)) = _
    apply BitVec.eq_of_toNat_eq
    rw [BitVec.toNat_ofInt, IntKind.wrap_u8]
    have := (BitVec.ofInt 8 x ^^^ BitVec.ofInt 8 y).isLt
    omega
  show IntKind.u8.wrap ((BitVec.ofInt 8 (Go.bits .xor .u8 x y) ^^^ BitVec.ofInt 8 y).toNat : Int) = x
  rw [h1, BitVec.xor_assoc, BitVec.xor_self, BitVec.xor_zero, BitVec.toNat_ofInt, IntKind.wrap_u8]
  omega
theorem xorBack : ∀ a b : List Int, (∀ x ∈ a, 0 ≤ x ∧ x < 256) → xorL (xorL a b) b = a.take (xorL a b).length
  | [], b, _ => by simp [xorL]
  | x :: a, [], _ => by simp [xorL]
  | x :: a, y :: b, h => by
    have ih := xorBack a b (fun z hz => h z (by simp [hz]))
    unfold xorL at ih ⊢
    simp only [List.zipWith_cons_cons, List.length_cons, List.take_succ_cons]
    rw [xor8 x y (h x (by simp)), ih]
theorem xor0 (y : Int) (hy : 0 ≤ y ∧ y < 256) : Go.bits .xor .u8 0 y = y := by
  show IntKind.u8.wrap ((BitVec.ofInt 8 0 ^^^ BitVec.ofInt 8 y).toNat : Int) = y
  rw [show BitVec.ofInt 8 0 = 0#8 from rfl, BitVec.zero_xor, BitVec.toNat_ofInt, IntKind.wrap_u8]
  omega
theorem xorL_zero : ∀ (n : Nat) (b : List Int), (∀ x ∈ b, 0 ≤ x ∧ x < 256) → xorL (List.replicate n 0) b = b.take n
  | 0, b, _ => by simp [xorL]
  | n + 1, [], _ => by simp [xorL]
  | n + 1, y :: b, h => by
    have ih := xorL_zero n b (fun z hz => h z (by simp [hz]))
    unfold xorL at ih ⊢
    rw [List.replicate_succ, List.zipWith_cons_cons, List.take_succ_cons, xor0 y (h y (by simp)), ih]
theorem lowL_b : ∀ (m : Nat) (n : Int), ∀ x ∈ lowL m n, 0 ≤ x ∧ x < 256
  | 0, n, x, h => by simp [lowL] at h
  | m + 1, n, x, h => by
    rcases List.mem_cons.1 h with h | h
    · omega
    · exact lowL_b m _ x h
theorem leL_b (n m : Int) : ∀ x ∈ leL n m, 0 ≤ x ∧ x < 256 := by
  unfold leL; split
  · exact lowL_b _ _
  · simp
theorem blockL_b (a : List Int) (n : Int) (b : List Int) : ∀ x ∈ blockL a n b, 0 ≤ x ∧ x < 256 := by
  unfold blockL
  split
  · intro x hx
    unfold wordBytesL at hx
    obtain ⟨y, _, hy⟩ := List.mem_flatMap.1 hx
    exact leL_b _ _ x hy
  · simp
end Go.Proofs.Ytdineaebljpfaaa.B
