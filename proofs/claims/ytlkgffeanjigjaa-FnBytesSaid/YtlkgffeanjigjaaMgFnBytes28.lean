import Derived.Test.YtlkgffeanjigjaaMgFnBytes27
import Derived.Test.YtlkgffeanjigjaaMgFnBytes5
import Derived.Test.YtlkgffeanjigjaaMgFnBytes7
import Derived.Test.YtlkgffeanjigjaaMgFnBytes24
import Derived.Test.YtlkgffeanjigjaaMgFnBytes26
/- Great, by the program and by the reference: Little, the other way round; for every number and every count. -/
namespace Go.Proofs.Ytlkgffeanjigjaa.B
open Go.RowKit Go.Proofs.Ytlkgffeanjigjaa.P Go.Proofs.YtlkgffeanjigjaaW.PrintWords Go.Proofs.YtlkgffeanjigjaaW.PrintLast Go.Proofs.YtlkgffeanjigjaaW.PrintMore
theorem specGreat_l0 : ∀ (n : Nat) (xs acc : List Int) (k : Nat), n ≤ xs.length → xs.length ≤ 100 → acc.length + n ≤ 200 → n < k →
    spec_Great.l0 k xs acc ((n : Int) - 1) = some (acc ++ (xs.take n).reverse)
  | 0, xs, acc, k, hn, hx, hc, hk => by
    obtain ⟨k, rfl⟩ : ∃ m, k = m + 1 := ⟨k - 1, by omega⟩
    simp only [spec_Great.l0]; rw [if_neg (by omega)]; simp
  | n + 1, xs, acc, k, hn, hx, hc, hk => by
    obtain ⟨k, rfl⟩ : ∃ m, k = m + 1 := ⟨k - 1, by omega⟩
    have ih := specGreat_l0 n xs (acc ++ [xs.getD n 0]) k (by omega) hx (by simp; omega) (by omega)
    have e1 : ((n + 1 : Nat) : Int) - 1 = (n : Int) := by omega
    have e2 : rd xs (n : Int) = xs.getD n 0 := by simp [rd]
    simp only [spec_Great.l0]
    rw [e1, if_pos (by omega), if_pos (by omega), if_pos (by omega), if_pos (by omega), e2, wrap_eq ((n : Int) - 1) (by omega) (by omega), ih]
    have h3 : xs.take (n + 1) = xs.take n ++ [xs.getD n 0] := by
      rw [List.take_succ_eq_append_getElem (by omega)]
      simp [List.getD_eq_getElem?_getD, List.getElem?_eq_getElem (show n < xs.length by omega)]
    rw [h3]; simp
theorem specGreat (n many : Int) (k : Nat) (hk : 40 < k) : spec_Great.f k n many = some (leL n many).reverse := by
  have hl := leL_length n many
  unfold spec_Great.f
  rw [specLittle n many k (by omega)]
  simp only [Option.bind_some]
  rw [wrap_eq _ (by omega) (by omega), specGreat_l0 _ _ [] k (Nat.le_refl _) (by omega) (by simp; omega) (by omega)]
  simp
theorem turned_l0 : ∀ (rest pre junk b : List Int) (n : Int) (k : Nat), b = pre ++ rest → n = (b.length : Int) → junk.length = rest.length → b.length ≤ 1099511627776 → rest.length < k →
    impl_turned.l0 k b (junk ++ pre.reverse) b n (pre.length : Int) = some b.reverse
  | [], pre, junk, b, n, k, hb, hn, hj, hc, hk => by
    obtain ⟨k, rfl⟩ : ∃ m, k = m + 1 := ⟨k - 1, by omega⟩
    obtain rfl : junk = [] := List.eq_nil_of_length_eq_zero hj
    subst hb
    simp only [impl_turned.l0]; rw [if_neg (by rw [hn]; exact nlt_end pre)]; simp
  | a :: rest, pre, junk, b, n, k, hb, hn, hj, hc, hk => by
    obtain ⟨k, rfl⟩ : ∃ m, k = m + 1 := ⟨k - 1, by omega⟩
    simp only [List.length_cons] at hk hj
    have hne : junk ≠ [] := by intro h; rw [h] at hj; simp at hj
    obtain ⟨junk1, z, rfl⟩ : ∃ j z, junk = j ++ [z] := ⟨junk.dropLast, junk.getLast hne, (List.dropLast_concat_getLast hne).symm⟩
    have hj1 : junk1.length = rest.length := by simp at hj; omega
    have hbl : b.length = pre.length + rest.length + 1 := by rw [hb]; simp; omega
    have ih := turned_l0 rest (pre ++ [a]) junk1 b n k (by rw [hb]; simp) hn hj1 hc (by omega)
    simp only [impl_turned.l0]
    have e1 : wrap64 ((b.length : Int) - 1) = (b.length : Int) - 1 := wrap_eq _ (by omega) (by omega)
    have e2 : wrap64 ((b.length : Int) - 1 - (pre.length : Int)) = (junk1.length : Int) := by rw [wrap_eq _ (by omega) (by omega)]; omega
    have e3 : rd b (pre.length : Int) = a := by rw [hb]; exact rd_mid pre a rest
    have e4 : (junk1 ++ [z] ++ pre.reverse).set ((junk1.length : Int).toNat) a = junk1 ++ (pre ++ [a]).reverse := by simp
    rw [e1, e2, e3, e4, if_pos (by omega), if_pos (by omega), if_pos (by omega), if_pos (by omega), if_pos (by simp; omega), wrap_step pre a (by omega)]
    exact ih
theorem turned (b : List Int) (hc : b.length ≤ 1099511627776) (k : Nat) (hk : b.length < k) : impl_turned.f k b = some b.reverse := by
  unfold impl_turned.f
  rw [if_pos (by omega), if_pos (by simp; omega)]
  have h := turned_l0 b [] (List.replicate b.length 0) b _ k rfl rfl (by simp) hc hk
  simpa using h
theorem implGreat (n many : Int) (k : Nat) (hk : 40 < k) : impl_Great.f k n many = some (leL n many).reverse := by
  have hl := leL_length n many
  unfold impl_Great.f
  rw [implLittle n many k (by omega)]
  simp only [Option.bind_some]
  rw [turned _ (by omega) k (by omega)]
  simp
end Go.Proofs.Ytlkgffeanjigjaa.B
/- FnBytes: of every note, what is drawn out of it is worked alike by both texts, and goes there and back. -/
namespace Go.Proofs.Ytlkgffeanjigjaa.B
open Go.RowKit Go.Proofs.Ytlkgffeanjigjaa.P Go.Proofs.YtlkgffeanjigjaaW.PrintWords Go.Proofs.YtlkgffeanjigjaaW.PrintLast Go.Proofs.YtlkgffeanjigjaaW.PrintMore
theorem pickS (d : List Int) (p s : Int) (l : List ByteArray) (hl : 0 < l.length) (hd : d.length ≤ 1099511627776) (hp : 0 ≤ p) : ∃ v p' s', spec_l1Pick.f d p s l = some (v, p', s') ∧ v ∈ l ∧ 0 ≤ p' := by
  obtain ⟨i, p', s', e, h0, h1, hp'⟩ := belowD d p s (l.length : Int) hd hp
  have h1 := h1 (by omega)
  unfold spec_l1Pick.f
  rw [e, Option.bind_some, if_pos h0, if_pos h1]
  refine ⟨_, _, _, rfl, ?_, hp'⟩
  unfold rdOf
  rw [List.getD_eq_getElem?_getD, List.getElem?_eq_getElem (show i.toNat < l.length by omega)]
  exact List.getElem_mem _
def tails5 : List ByteArray := [(⟨#[48]⟩ : ByteArray), (⟨#[103, 48]⟩ : ByteArray), (⟨#[65, 49]⟩ : ByteArray), (⟨#[48, 120]⟩ : ByteArray), (⟨#[102, 102]⟩ : ByteArray)]
theorem tails5_size : ∀ v ∈ tails5, v.size ≤ 2 := by
  intro v hv
  simp only [tails5, List.mem_cons, List.not_mem_nil, or_false] at hv
  rcases hv with h | h | h | h | h <;> rw [h] <;> decide
theorem drawUnhex (d : List Int) (hd : d.length ≤ 1099511627776) (k : Nat) (hk : d.length + 100001 < k) : ∃ u, spec_DrawUnhex.f k d = some u ∧ u.size ≤ 100 := by
  obtain ⟨s0, n0⟩ := newD d k hd (by omega)
  obtain ⟨r, p1, s1, e1, w1, l1, hp1⟩ := bytesD d 0 s0 8 hd (by omega) (by omega) (by omega) k (by omega)
  obtain ⟨b, p2, s2, e2, hp2⟩ := onceD d p1 s1 4 hd hp1
  have hs : (strOfNums (hexL r)).size = 2 * r.length := by rw [strOfNums_size, hexL_length]
  unfold spec_DrawUnhex.f
  rw [n0, Option.bind_some, e1, Option.bind_some, specHex r w1 (by omega) k (by omega), Option.bind_some, e2, Option.bind_some]
  simp only []
  by_cases c : b = true
  · obtain ⟨v, p3, s3, e3, m3, _⟩ := pickS d p2 s2 tails5 (by decide) hd hp2
    have hv := tails5_size v m3
    rw [if_pos c, show ([(⟨#[48]⟩ : ByteArray), (⟨#[103, 48]⟩ : ByteArray), (⟨#[65, 49]⟩ : ByteArray), (⟨#[48, 120]⟩ : ByteArray), (⟨#[102, 102]⟩ : ByteArray)] : List ByteArray) = tails5 from rfl, e3, Option.bind_some]
    simp only []
    rw [if_pos (by omega)]
    exact ⟨_, rfl, by rw [ByteArray.size_append]; omega⟩
  · rw [if_neg c]
    exact ⟨_, rfl, by omega⟩
theorem drawTwo (d : List Int) (hd : d.length ≤ 1099511627776) (k : Nat) (hk : d.length + 100001 < k) : ∃ a b, spec_l1DrawTwo.f k d = some (a, b) ∧ (∀ x ∈ a, 0 ≤ x ∧ x < 256) ∧ a.length ≤ 12 ∧ b.length ≤ 12 := by
  obtain ⟨s0, n0⟩ := newD d k hd (by omega)
  obtain ⟨r, p1, s1, e1, w1, l1, hp1⟩ := bytesD d 0 s0 12 hd (by omega) (by omega) (by omega) k (by omega)
  obtain ⟨b, p2, s2, e2, hp2⟩ := onceD d p1 s1 2 hd hp1
  unfold spec_l1DrawTwo.f
  rw [n0, Option.bind_some, e1, Option.bind_some, e2, Option.bind_some]
  simp only []
  by_cases c : b = true
  · rw [if_pos c, Option.bind_some, if_pos (by simp; omega)]
    exact ⟨_, _, rfl, w1, by omega, by simp; omega⟩
  · obtain ⟨r2, p3, s3, e3, w3, l3, _⟩ := bytesD d p2 s2 12 hd hp2 (by omega) (by omega) k (by omega)
    rw [if_neg c, e3, Option.bind_some]
    exact ⟨r, r2, rfl, w1, by omega, by omega⟩
theorem drawLittle (d : List Int) (hd : d.length ≤ 1099511627776) (k : Nat) (hk : d.length + 100001 < k) : ∃ a b, spec_DrawLittle.f k d = some (a, b) := by
  obtain ⟨s0, n0⟩ := newD d k hd (by omega)
  obtain ⟨v, p1, s1, e1, _, hp1⟩ := pickD d 0 s0 [0, 1, 255, 256, 70000, 9223372036854775807, -1] (by decide) hd (by omega)
  obtain ⟨v2, p2, s2, e2, _, hp2⟩ := pickD d p1 s1 [1, 2, 4, 8, 0, 9, -1] (by decide) hd hp1
  unfold spec_DrawLittle.f
  rw [n0, Option.bind_some, e1, Option.bind_some, e2, Option.bind_some]
  exact ⟨_, _, rfl⟩
end Go.Proofs.Ytlkgffeanjigjaa.B
namespace Go.Proofs.Ytlkgffeanjigjaa.Pure
open Go.RowKit Go.Proofs.Ytlkgffeanjigjaa.P Go.Proofs.Ytlkgffeanjigjaa.B Go.Proofs.YtlkgffeanjigjaaW.PrintWords Go.Proofs.YtlkgffeanjigjaaW.PrintLast Go.Proofs.YtlkgffeanjigjaaW.PrintMore
theorem bytesEnd (h a b : List Int) (hw : ∀ x ∈ h, 0 ≤ x ∧ x < 256) (wa : ∀ x ∈ a, 0 ≤ x ∧ x < 256) (lh : h.length ≤ 100) (la : a.length ≤ 100) (k : Nat) (hk : 1000 < k) :
    laws_FnBytes.j0 (k + 1) h (strOfNums (hexL h)) a b (xorL a b) false = some true := by
  have hs : (strOfNums (hexL h)).size = 2 * h.length := by rw [strOfNums_size, hexL_length]
  have hu : unhexA [] (numsL (strOfNums (hexL h))) = (h, true) := by
    unfold unhexA; rw [nums_str _ (hexL_bytes h), unhexHex h hw]; rfl
  have hx := xorL_length a b
  rw [laws_FnBytes.j0, if_neg (by decide), (unhexSpec _ (by omega) k (by omega)).2, hu, Option.bind_some]
  simp only [if_true, implSame, sameL_same, Option.bind_some]
  rw [implXor _ _ (by omega) _ (by omega), Option.bind_some, if_pos (by omega), if_pos (by omega), xorBack a b wa, Int.toNat_natCast, sameL_same]
theorem FnBytes : laws_FnBytes.Pure := by
  intro d _ _ _
  refine ⟨d.length + 200000, ?_⟩
  unfold laws_FnBytes.f laws_big.f
  simp only [Option.bind_some, decide_eq_true_eq]
  by_cases h0 : (d.length : Int) > 1048576
  · rw [if_pos h0]
  · rw [if_neg h0]
    obtain ⟨s0, n0⟩ := newD d (d.length + 200000) (by omega) (by omega)
    obtain ⟨h, p1, s1, e1, w1, l1, _⟩ := bytesD d 0 s0 20 (by omega) (by omega) (by omega) (by omega) (d.length + 200000) (by omega)
    obtain ⟨u, e2, lu⟩ := drawUnhex d (by omega) (d.length + 200000) (by omega)
    obtain ⟨a, b, e3, w3, la, lb⟩ := drawTwo d (by omega) (d.length + 200000) (by omega)
    obtain ⟨m, n, e4⟩ := drawLittle d (by omega) (d.length + 200000) (by omega)
    have d1 : spec_DrawHex.f (d.length + 200000) d = some h := by unfold spec_DrawHex.f; rw [n0, Option.bind_some, e1, Option.bind_some]
    have d3 : spec_DrawXor.f (d.length + 200000) d = some (a, b) := by unfold spec_DrawXor.f; rw [e3, Option.bind_some]
    have d4 : spec_DrawSame.f (d.length + 200000) d = some (a, b) := by unfold spec_DrawSame.f; rw [e3, Option.bind_some]
    have d5 : spec_DrawGreat.f (d.length + 200000) d = some (m, n) := by unfold spec_DrawGreat.f; rw [e4, Option.bind_some]
    obtain ⟨u1, u2⟩ := unhexSpec u (by omega) (d.length + 200000) (by omega)
    have fin := bytesEnd h a b w1 w3 (by omega) (by omega) (d.length + 199999) (by omega)
    have hh := specHex h w1 (by omega) (d.length + 200000) (by omega)
    have hi := implHex h w1 (by omega) (d.length + 200000) (by omega)
    simp (disch := omega) only [d1, e2, d3, d4, e4, d5, hh, hi, u1, u2, Option.bind_some, specXor, implXor, specSame, implSame, sameL_same, specLittle, implLittle, specGreat, implGreat, if_true, bne_self_eq_false, Bool.false_eq_true, if_false]
    by_cases c : (unhexA [] (numsL u)).2 = true
    · rw [if_pos c]
      obtain ⟨r, hr⟩ : ∃ r, unhexP (numsL u) = some r := by
        unfold unhexA at c
        cases hq : unhexP (numsL u) with
        | none => rw [hq] at c; cases c
        | some r => exact ⟨r, rfl⟩
      have hv : unhexA [] (numsL u) = (r, true) := by unfold unhexA; rw [hr]; rfl
      have hb := hexUnhex _ _ hr (numsL_bytes u)
      have hrl : 2 * r.length = u.size := by rw [← numsL_length, ← hb, hexL_length]
      have hrw : ∀ x ∈ r, 0 ≤ x ∧ x < 256 := unhexP_bytes _ _ hr
      rw [hv]
      simp only []
      rw [implHex r hrw (by omega) _ (by omega), Option.bind_some, hb, str_nums, bne_self_eq_false]
      exact fin
    · rw [if_neg c]; exact fin
end Go.Proofs.Ytlkgffeanjigjaa.Pure
