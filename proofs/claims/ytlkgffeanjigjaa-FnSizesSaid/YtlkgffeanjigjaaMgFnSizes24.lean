import Derived.Test.YtlkgffeanjigjaaMgFnSizes23
import Derived.Test.YtlkgffeanjigjaaMgFnSizes3
import Derived.Test.YtlkgffeanjigjaaMgFnSizes6
import Derived.Test.YtlkgffeanjigjaaMgFnSizes22
import Derived.Test.YtlkgffeanjigjaaMgFnSizes8
import Derived.Test.YtlkgffeanjigjaaMgFnSizes4
import Derived.Test.YtlkgffeanjigjaaMgFnSizes9
import Derived.Test.YtlkgffeanjigjaaMgFnSizes10
import Derived.Test.YtlkgffeanjigjaaMgFnSizes12
import Derived.Lib.Bytes
import Derived.Test.YtlkgffeanjigjaaMgFnSizes11
import Derived.Test.YtlkgffeanjigjaaMgFnSizes13
/- Great, by the program and by the reference: Little, the other way round; for every number and every count. -/
namespace Go.Proofs.Ytlkgffeanjigjaa.B
open Go.RowKit Go.Proofs.Ytlkgffeanjigjaa.P Go.Proofs.YtlkgffeanjigjaaW.PrintWords Go.Proofs.YtlkgffeanjigjaaW.PrintLast Go.Proofs.YtlkgffeanjigjaaW.PrintMore
theorem specGreat_l0 : ∀ (n : Nat) (xs acc : List Int) (k : Nat), n ≤ xs.length → xs.length ≤ 100 → acc.length + n ≤ 200 → n < k →
    spec_Great.l0 k xs acc ((n : Int) - 1) = some (acc ++ (xs.take n).reverse)
  | 0, xs, acc, k, hn, hx, hc, hk => by
    obtain ⟨k, rfl⟩ : ∃ m, k = m + 1 := ⟨k - 1, by omega⟩
    simp only [spec_Great.l0]; rw [if_neg (by omega)]; simp
  | n + 1, xs, acc, k, hn, hx, hc, hk => by
    obtain ⟨k, rfl⟩ : ∃ m, k = m + 1 := ⟨k - 1, by omega⟩
    have ih := specGreat_l0 n xs (acc ++ [xs.getD n 0]) k (by omega) hx (by simp; omega) (by omega)
    have e1 : ((n + 1 : Nat) : Int) - 1 = (n : Int) := by omega
    have e2 : rd xs (n : Int) = xs.getD n 0 := by simp [rd]
    simp only [spec_Great.l0]
    rw [e1, if_pos (by omega), if_pos (by omega), if_pos (by omega), if_pos (by omega), e2, wrap_eq ((n : Int) - 1) (by omega) (by omega), ih]
    have h3 : xs.take (n + 1) = xs.take n ++ [xs.getD n 0] := by
      rw [List.take_succ_eq_append_getElem (by omega)]
      simp [List.getD_eq_getElem?_getD, List.getElem?_eq_getElem (show n < xs.length by omega)]
    rw [h3]; simp
theorem specGreat (n many : Int) (k : Nat) (hk : 40 < k) : spec_Great.f k n many = some (leL n many).reverse := by
  have hl := leL_length n many
  unfold spec_Great.f
  rw [specLittle n many k (by omega)]
  simp only [Option.bind_some]
  rw [wrap_eq _ (by omega) (by omega), specGreat_l0 _ _ [] k (Nat.le_refl _) (by omega) (by simp; omega) (by omega)]
  simp
theorem turned_l0 : ∀ (rest pre junk b : List Int) (n : Int) (k : Nat), b = pre ++ rest → n = (b.length : Int) → junk.length = rest.length → b.length ≤ 1099511627776 → rest.length < k →
    impl_turned.l0 k b (junk ++ pre.reverse) b n (pre.length : Int) = some b.reverse
  | [], pre, junk, b, n, k, hb, hn, hj, hc, hk => by
    obtain ⟨k, rfl⟩ : ∃ m, k = m + 1 := ⟨k - 1, by omega⟩
    obtain rfl : junk = [] := List.eq_nil_of_length_eq_zero hj
    subst hb
    simp only [impl_turned.l0]; rw [if_neg (by rw [hn]; exact nlt_end pre)]; simp
  | a :: rest, pre, junk, b, n, k, hb, hn, hj, hc, hk => by
    obtain ⟨k, rfl⟩ : ∃ m, k = m + 1 := ⟨k - 1, by omega⟩
    simp only [List.length_cons] at hk hj
    have hne : junk ≠ [] := by intro h; rw [h] at hj; simp at hj
    obtain ⟨junk1, z, rfl⟩ : ∃ j z, junk = j ++ [z] := ⟨junk.dropLast, junk.getLast hne, (List.dropLast_concat_getLast hne).symm⟩
    have hj1 : junk1.length = rest.length := by simp at hj; omega
    have hbl : b.length = pre.length + rest.length + 1 := by rw [hb]; simp; omega
    have ih := turned_l0 rest (pre ++ [a]) junk1 b n k (by rw [hb]; simp) hn hj1 hc (by omega)
    simp only [impl_turned.l0]
    have e1 : wrap64 ((b.length : Int) - 1) = (b.length : Int) - 1 := wrap_eq _ (by omega) (by omega)
    have e2 : wrap64 ((b.length : Int) - 1 - (pre.length : Int)) = (junk1.length : Int) := by rw [wrap_eq _ (by omega) (by omega)]; omega
    have e3 : rd b (pre.length : Int) = a := by rw [hb]; exact rd_mid pre a rest
    have e4 : (junk1 ++ [z] ++ pre.reverse).set ((junk1.length : Int).toNat) a = junk1 ++ (pre ++ [a]).reverse := by simp
    rw [e1, e2, e3, e4, if_pos (by omega), if_pos (by omega), if_pos (by omega), if_pos (by omega), if_pos (by simp; omega), wrap_step pre a (by omega)]
    exact ih
theorem turned (b : List Int) (hc : b.length ≤ 1099511627776) (k : Nat) (hk : b.length < k) : impl_turned.f k b = some b.reverse := by
  unfold impl_turned.f
  rw [if_pos (by omega), if_pos (by simp; omega)]
  have h := turned_l0 b [] (List.replicate b.length 0) b _ k rfl rfl (by simp) hc hk
  simpa using h
theorem implGreat (n many : Int) (k : Nat) (hk : 40 < k) : impl_Great.f k n many = some (leL n many).reverse := by
  have hl := leL_length n many
  unfold impl_Great.f
  rw [implLittle n many k (by omega)]
  simp only [Option.bind_some]
  rw [turned _ (by omega) k (by omega)]
  simp
end Go.Proofs.Ytlkgffeanjigjaa.B
/- The parts, one behind the other; for at most 2^47 parts and bytes. -/
namespace Go.Proofs.Ytlkgffeanjigjaa.B
open Go.RowKit Go.Proofs.Ytlkgffeanjigjaa.P Go.Proofs.YtlkgffeanjigjaaW.PrintWords Go.Proofs.YtlkgffeanjigjaaW.PrintLast Go.Proofs.YtlkgffeanjigjaaW.PrintMore
theorem joined (ls : List (List Int)) (h1 : ls.flatten.length ≤ 140737488355328) (h2 : ls.length ≤ 140737488355328) : impl_joined.f ls = some ls.flatten := by
  unfold impl_joined.f bytes_Join.f
  rw [if_pos ⟨rfl, h1, h2⟩]; rfl
theorem joined2 (a b : List Int) (h : a.length + b.length ≤ 140737488355328) : impl_joined.f [a, b] = some (a ++ b) := by
  rw [joined _ (by simp; omega) (by simp)]; simp
theorem joined3 (a b c : List Int) (h : a.length + b.length + c.length ≤ 140737488355328) : impl_joined.f [a, b, c] = some (a ++ b ++ c) := by
  rw [joined _ (by simp; omega) (by simp)]; simp
theorem joined4 (a b c d : List Int) (h : a.length + b.length + c.length + d.length ≤ 140737488355328) : impl_joined.f [a, b, c, d] = some (a ++ b ++ c ++ d) := by
  rw [joined _ (by simp; omega) (by simp)]; simp
end Go.Proofs.Ytlkgffeanjigjaa.B
/- Padded, by the program and by the reference; for every list. -/
namespace Go.Proofs.Ytlkgffeanjigjaa.B
open Go.RowKit Go.Proofs.Ytlkgffeanjigjaa.P Go.Proofs.YtlkgffeanjigjaaW.PrintWords Go.Proofs.YtlkgffeanjigjaaW.PrintLast Go.Proofs.YtlkgffeanjigjaaW.PrintMore
def paddedBody (l : List Int) : List Int := (leL (l.length : Int) 2).reverse ++ l
def paddedL (l : List Int) : List Int :=
  if (l.length : Int) > 200 then [] else
  if ((paddedBody l).length : Int) > 96 then paddedBody l ++ List.replicate ((96 - (paddedBody l).length % 96) % 96) 0 else paddedBody l ++ List.replicate ((32 - (paddedBody l).length % 32) % 32) 0
theorem paddedBody_length (l : List Int) (h : ¬ (l.length : Int) > 200) : (paddedBody l).length = l.length + 2 := by
  unfold paddedBody leL
  rw [if_pos (by omega), List.length_append, List.length_reverse, lowL_length]
  rw [show (2 : Int).toNat = 2 from rfl]; omega
theorem paddedL_length (l : List Int) : (paddedL l).length ≤ 300 := by
  unfold paddedL; split
  · simp
  · rename_i h
    have := paddedBody_length l h
    split
    · rw [List.length_append, List.length_replicate]; omega
    · rw [List.length_append, List.length_replicate]; omega
theorem specPadded_l0 (m : Nat) (hm : 0 < m) (hm2 : m < 1000) : ∀ (d : Nat) (acc : List Int) (k : Nat), (m - acc.length % m) % m = d → acc.length + d ≤ 4398046511104 → d < k →
    spec_Padded.l0 k acc (m : Int) = some (acc ++ List.replicate d 0)
  | 0, acc, k, hd, hc, hk => by
    obtain ⟨k, rfl⟩ : ∃ m, k = m + 1 := ⟨k - 1, by omega⟩
    have h1 : acc.length % m < m := Nat.mod_lt _ hm
    have h2 : acc.length % m = 0 := by
      rcases Nat.eq_zero_or_pos (acc.length % m) with h | h
      · exact h
      · rw [Nat.mod_eq_of_lt (by omega)] at hd; omega
    have h3 : (acc.length : Int) % (m : Int) = 0 := by exact_mod_cast h2
    simp only [spec_Padded.l0]; rw [if_neg (by omega), if_pos h3]; simp
  | d + 1, acc, k, hd, hc, hk => by
    obtain ⟨k, rfl⟩ : ∃ m, k = m + 1 := ⟨k - 1, by omega⟩
    have h1 : acc.length % m < m := Nat.mod_lt _ hm
    have h2 : acc.length % m ≠ 0 := by
      intro h; rw [h, Nat.sub_zero, Nat.mod_self] at hd; omega
    have h3 : ¬ (acc.length : Int) % (m : Int) = 0 := by exact_mod_cast h2
    rw [Nat.mod_eq_of_lt (by omega)] at hd
    have h4 : (acc.length + 1) % m = (acc.length % m + 1) % m := by rw [Nat.mod_add_mod]
    have hd' : (m - (acc.length + 1) % m) % m = d := by
      rw [h4]
      by_cases he : acc.length % m + 1 = m
      · rw [he, Nat.mod_self, Nat.sub_zero, Nat.mod_self]; omega
      · rw [Nat.mod_eq_of_lt (show acc.length % m + 1 < m by omega), Nat.mod_eq_of_lt (by omega)]; omega
    have ih := specPadded_l0 m hm hm2 d (acc ++ [0]) k (by rw [List.length_append]; exact hd') (by simp; omega) (by omega)
    simp only [spec_Padded.l0]; rw [if_neg (by omega), if_neg h3, if_pos (by omega), ih, List.replicate_succ]; simp
theorem specPadded (l : List Int) (k : Nat) (hk : 200 < k) : spec_Padded.f k l = some (paddedL l) := by
  unfold spec_Padded.f paddedL
  by_cases h : (l.length : Int) > 200
  · rw [if_pos h, if_pos h]
  · rw [if_neg h, if_neg h, specGreat _ _ _ (by omega)]
    have hb := paddedBody_length l h
    obtain ⟨k, rfl⟩ : ∃ m, k = m + 1 := ⟨k - 1, by omega⟩
    have hle := leL_length (l.length : Int) 2
    simp only [Option.bind_some]
    rw [if_pos (by rw [List.length_reverse]; omega)]
    show (if ((paddedBody l).length : Int) > 96 then spec_Padded.j0 (k + 1) (paddedBody l) 96 else spec_Padded.j0 (k + 1) (paddedBody l) 32) = _
    simp only [spec_Padded.j0]
    split
    · exact specPadded_l0 96 (by omega) (by omega) _ _ _ rfl (by omega) (by omega)
    · exact specPadded_l0 32 (by omega) (by omega) _ _ _ rfl (by omega) (by omega)
theorem implPadded (l : List Int) (k : Nat) (hk : 200 < k) : impl_Padded.f k l = some (paddedL l) := by
  unfold impl_Padded.f paddedL
  by_cases h : (l.length : Int) > 200
  · rw [if_pos h, if_pos h]
  · rw [if_neg h, if_neg h, implGreat _ _ _ (by omega)]
    have hb := paddedBody_length l h
    have hle := leL_length (l.length : Int) 2
    simp only [Option.bind_some]
    rw [joined2 _ _ (by rw [List.length_reverse]; omega)]
    simp only [Option.bind_some]
    rw [show (leL (l.length : Int) 2).reverse ++ l = paddedBody l from rfl]
    have e1 : ((96 - (((paddedBody l).length : Int) % 96)) % 96 : Int).toNat = (96 - (paddedBody l).length % 96) % 96 := by omega
    have e2 : ((32 - (((paddedBody l).length : Int) % 32)) % 32 : Int).toNat = (32 - (paddedBody l).length % 32) % 32 := by omega
    rw [e1, e2]
    split
    · rw [if_pos (by omega), if_pos (by omega)]
    · rw [if_pos (by omega), if_pos (by omega)]
end Go.Proofs.Ytlkgffeanjigjaa.B
/- Same, by the program and by the reference: whether two lists of bytes are one. -/
namespace Go.Proofs.Ytlkgffeanjigjaa.B
open Go.RowKit Go.Proofs.Ytlkgffeanjigjaa.P Go.Proofs.YtlkgffeanjigjaaW.PrintWords Go.Proofs.YtlkgffeanjigjaaW.PrintLast Go.Proofs.YtlkgffeanjigjaaW.PrintMore
def sameL (a b : List Int) : Bool := (strOfNums a).toList == (strOfNums b).toList
theorem specSame (a b : List Int) : spec_Same.f a b = some (sameL a b) := rfl
theorem implSame (a b : List Int) : impl_Same.f a b = some (sameL a b) := rfl
theorem sameL_same (a : List Int) : sameL a a = true := by unfold sameL; simp
end Go.Proofs.Ytlkgffeanjigjaa.B
/- Unpadded, by the program and by the reference; for every list of at most 2^40 bytes. -/
namespace Go.Proofs.Ytlkgffeanjigjaa.B
open Go.RowKit Go.Proofs.Ytlkgffeanjigjaa.P Go.Proofs.YtlkgffeanjigjaaW.PrintWords Go.Proofs.YtlkgffeanjigjaaW.PrintLast Go.Proofs.YtlkgffeanjigjaaW.PrintMore
theorem two256 : ∀ a b : Fin 256, Go.bits .or .i64 (wrap64 ((wrap64 (a.val : Int)) * 256)) (wrap64 (b.val : Int)) = (a.val : Int) * 256 + (b.val : Int) := by
  decide +kernel
theorem or256 (a b : Int) (ha : 0 ≤ a ∧ a < 256) (hb : 0 ≤ b ∧ b < 256) : Go.bits .or .i64 (wrap64 ((wrap64 a) * 256)) (wrap64 b) = a * 256 + b := by
  have h := two256 ⟨a.toNat, by omega⟩ ⟨b.toNat, by omega⟩
  simp only [] at h
  rw [show ((a.toNat : Nat) : Int) = a from by omega, show ((b.toNat : Nat) : Int) = b from by omega] at h
  exact h
theorem rd_wf (l : List Int) (hw : ∀ x ∈ l, 0 ≤ x ∧ x < 256) (i : Int) : 0 ≤ rd l i ∧ rd l i < 256 := by
  unfold rd
  rw [List.getD_eq_getElem?_getD]
  by_cases h : i.toNat < l.length
  · rw [List.getElem?_eq_getElem h]; exact hw _ (List.getElem_mem h)
  · rw [List.getElem?_eq_none (by omega)]; exact ⟨by simp, by simp⟩
/-- What is laid in: so many bytes as the first two tell. -/
def innerL (l : List Int) : List Int := (l.take ((2 + (rd l 0 * 256 + rd l 1) : Int)).toNat).drop 2
def unpaddedL (l : List Int) : List Int × Bool :=
  if (l.length : Int) < 2 then ([], false) else if rd l 0 * 256 + rd l 1 > (l.length : Int) - 2 then ([], false) else
  if sameL (paddedL (innerL l)) l = true then (innerL l, true) else ([], false)
theorem unpaddedL_length (l : List Int) : (unpaddedL l).1.length ≤ l.length := by
  unfold unpaddedL; split
  · simp
  · split
    · simp
    · split
      · unfold innerL; simp only [List.length_drop, List.length_take]; omega
      · simp
theorem sameL_len {a b : List Int} (h : sameL a b = true) : a.length = b.length := by
  unfold sameL at h
  rw [beq_iff_eq, Lib.strOfNums_toList, Lib.strOfNums_toList] at h
  have := congrArg List.length h
  rwa [Lib.bytesOf_length, Lib.bytesOf_length] at this
theorem specUnpadded (l : List Int) (hw : ∀ x ∈ l, 0 ≤ x ∧ x < 256) (hn : l.length ≤ 1099511627776) (k : Nat) (hk : 200 < k) : spec_Unpadded.f k l = some (unpaddedL l) := by
  obtain ⟨a0, a1⟩ := rd_wf l hw 0
  obtain ⟨b0, b1⟩ := rd_wf l hw 1
  have e0 : wrap64 (rd l 0) = rd l 0 := wrap_eq _ (by omega) (by omega)
  have e1 : wrap64 (rd l 1) = rd l 1 := wrap_eq _ (by omega) (by omega)
  have e2 : wrap64 (256 * rd l 0) = rd l 0 * 256 := by rw [wrap_eq _ (by omega) (by omega)]; omega
  have e3 : wrap64 (rd l 0 * 256 + rd l 1) = rd l 0 * 256 + rd l 1 := wrap_eq _ (by omega) (by omega)
  have e4 : wrap64 (2 + (rd l 0 * 256 + rd l 1)) = 2 + (rd l 0 * 256 + rd l 1) := wrap_eq _ (by omega) (by omega)
  unfold spec_Unpadded.f unpaddedL
  by_cases h2 : (l.length : Int) < 2
  · rw [if_pos h2, if_pos h2]
  · rw [if_neg h2, if_neg h2]
    have e5 : wrap64 ((l.length : Int) - 2) = (l.length : Int) - 2 := wrap_eq _ (by omega) (by omega)
    simp only [e0, e1, e2, e3, e4, e5]
    rw [if_pos (by omega), if_pos (by omega)]
    by_cases h3 : rd l 0 * 256 + rd l 1 > (l.length : Int) - 2
    · rw [if_pos h3, if_pos h3]
    · rw [if_neg h3, if_neg h3]
      by_cases h4 : rd l 0 * 256 + rd l 1 > 200
      · have hil : (innerL l).length > 200 := by unfold innerL; simp only [List.length_drop, List.length_take]; omega
        have hp : paddedL (innerL l) = [] := by unfold paddedL; rw [if_pos (by omega)]
        have hs : ¬ sameL (paddedL (innerL l)) l = true := by
          intro h; have := sameL_len h; rw [hp] at this; simp at this; omega
        rw [if_pos h4, if_neg hs]
      · rw [if_neg h4, if_pos (by omega), if_pos (by omega)]
        show ((spec_Padded.f k (innerL l)).bind _) = _
        rw [specPadded _ _ hk]
        simp only [Option.bind_some, specSame, List.nil_append, List.length_nil]
        by_cases h5 : sameL (paddedL (innerL l)) l = true
        · rw [if_pos h5, if_pos h5, if_pos (by simp only [List.length_drop, List.length_take]; omega)]; rfl
        · rw [if_neg h5, if_neg h5]
theorem implUnpadded (l : List Int) (hw : ∀ x ∈ l, 0 ≤ x ∧ x < 256) (hn : l.length ≤ 1099511627776) (k : Nat) (hk : 200 < k) : impl_Unpadded.f k l = some (unpaddedL l) := by
  obtain ⟨a0, a1⟩ := rd_wf l hw 0
  obtain ⟨b0, b1⟩ := rd_wf l hw 1
  have e3 : Go.bits .or .i64 (wrap64 ((wrap64 (rd l 0)) * 256)) (wrap64 (rd l 1)) = rd l 0 * 256 + rd l 1 := or256 _ _ ⟨a0, a1⟩ ⟨b0, b1⟩
  have e4 : wrap64 (2 + (rd l 0 * 256 + rd l 1)) = 2 + (rd l 0 * 256 + rd l 1) := wrap_eq _ (by omega) (by omega)
  unfold impl_Unpadded.f unpaddedL
  by_cases h2 : (l.length : Int) < 2
  · rw [if_pos h2, if_pos h2]
  · rw [if_neg h2, if_neg h2]
    have e5 : wrap64 ((l.length : Int) - 2) = (l.length : Int) - 2 := wrap_eq _ (by omega) (by omega)
    simp only [e3, e4, e5]
    rw [if_pos (by omega), if_pos (by omega)]
    by_cases h3 : rd l 0 * 256 + rd l 1 > (l.length : Int) - 2
    · rw [if_pos h3, if_pos h3]
    · rw [if_neg h3, if_neg h3, if_pos (by omega), if_pos (by omega)]
      show ((impl_Padded.f k (innerL l)).bind _) = _
      rw [implPadded _ _ hk]
      simp only [Option.bind_some, implSame]
      by_cases h5 : sameL (paddedL (innerL l)) l = true
      · rw [if_pos h5, if_pos h5, joined _ (by simp only [List.flatten_cons, List.flatten_nil, List.append_nil, List.length_drop, List.length_take]; omega) (by simp)]
        simp only [Option.bind_some, List.flatten_cons, List.flatten_nil, List.append_nil]; rfl
      · rw [if_neg h5, if_neg h5]
end Go.Proofs.Ytlkgffeanjigjaa.B
