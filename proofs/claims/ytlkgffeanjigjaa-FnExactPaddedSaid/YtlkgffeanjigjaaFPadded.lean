/- Padded, by the program and by the reference; for every list. -/
import Derived.Test.YtlkgffeanjigjaaFGreat
import Derived.Test.YtlkgffeanjigjaaFJoin
import Derived.Test.YtlkgffeanjigjaaPx58
import Derived.Test.YtlkgffeanjigjaaPx59
namespace Go.Proofs.Ytlkgffeanjigjaa.B
open Go.RowKit Go.Proofs.Ytlkgffeanjigjaa.P Go.Proofs.YtlkgffeanjigjaaW.PrintWords Go.Proofs.YtlkgffeanjigjaaW.PrintLast Go.Proofs.YtlkgffeanjigjaaW.PrintMore
def paddedBody (l : List Int) : List Int := (leL (l.length : Int) 2).reverse ++ l
def paddedL (l : List Int) : List Int :=
  if (l.length : Int) > 200 then [] else
  if ((paddedBody l).length : Int) > 96 then paddedBody l ++ List.replicate ((96 - (paddedBody l).length % 96) % 96) 0 else paddedBody l ++ List.replicate ((32 - (paddedBody l).length % 32) % 32) 0
theorem paddedBody_length (l : List Int) (h : ¬ (l.length : Int) > 200) : (paddedBody l).length = l.length + 2 := by
  unfold paddedBody leL
  rw [if_pos (by omega), List.length_append, List.length_reverse, lowL_length]
  rw [show (2 : Int).toNat = 2 from rfl]; omega
theorem paddedL_length (l : List Int) : (paddedL l).length ≤ 300 := by
  unfold paddedL; split
  · simp
  · rename_i h
    have := paddedBody_length l h
    split
    · rw [List.length_append, List.length_replicate]; omega
    · rw [List.length_append, List.length_replicate]; omega
theorem specPadded_l0 (m : Nat) (hm : 0 < m) (hm2 : m < 1000) : ∀ (d : Nat) (acc : List Int) (k : Nat), (m - acc.length % m) % m = d → acc.length + d ≤ 4398046511104 → d < k →
    spec_Padded.l0 k acc (m : Int) = some (acc ++ List.replicate d 0)
  | 0, acc, k, hd, hc, hk => by
    obtain ⟨k, rfl⟩ : ∃ m, k = m + 1 := ⟨k - 1, by omega⟩
    have h1 : acc.length % m < m := Nat.mod_lt _ hm
    have h2 : acc.length % m = 0 := by
      rcases Nat.eq_zero_or_pos (acc.length % m) with h | h
      · exact h
      · rw [Nat.mod_eq_of_lt (by omega)] at hd; omega
    have h3 : (acc.length : Int) % (m : Int) = 0 := by exact_mod_cast h2
    simp only [spec_Padded.l0]; rw [if_neg (by omega), if_pos h3]; simp
  | d + 1, acc, k, hd, hc, hk => by
    obtain ⟨k, rfl⟩ : ∃ m, k = m + 1 := ⟨k - 1, by omega⟩
    have h1 : acc.length % m < m := Nat.mod_lt _ hm
    have h2 : acc.length % m ≠ 0 := by
      intro h; rw [h, Nat.sub_zero, Nat.mod_self] at hd; omega
    have h3 : ¬ (acc.length : Int) % (m : Int) = 0 := by exact_mod_cast h2
    rw [Nat.mod_eq_of_lt (by omega)] at hd
    have h4 : (acc.length + 1) % m = (acc.length % m + 1) % m := by rw [Nat.mod_add_mod]
    have hd' : (m - (acc.length + 1) % m) % m = d := by
      rw [h4]
      by_cases he : acc.length % m + 1 = m
      · rw [he, Nat.mod_self, Nat.sub_zero, Nat.mod_self]; omega
      · rw [Nat.mod_eq_of_lt (show acc.length % m + 1 < m by omega), Nat.mod_eq_of_lt (by omega)]; omega
    have ih := specPadded_l0 m hm hm2 d (acc ++ [0]) k (by rw [List.length_append]; exact hd') (by simp; omega) (by omega)
    simp only [spec_Padded.l0]; rw [if_neg (by omega), if_neg h3, if_pos (by omega), ih, List.replicate_succ]; simp
theorem specPadded (l : List Int) (k : Nat) (hk : 200 < k) : spec_Padded.f k l = some (paddedL l) := by
  unfold spec_Padded.f paddedL
  by_cases h : (l.length : Int) > 200
  · rw [if_pos h, if_pos h]
  · rw [if_neg h, if_neg h, specGreat _ _ _ (by omega)]
    have hb := paddedBody_length l h
    obtain ⟨k, rfl⟩ : ∃ m, k = m + 1 := ⟨k - 1, by omega⟩
    have hle := leL_length (l.length : Int) 2
    simp only [Option.bind_some]
    rw [if_pos (by rw [List.length_reverse]; omega)]
    show (if ((paddedBody l).length : Int) > 96 then spec_Padded.j0 (k + 1) (paddedBody l) 96 else spec_Padded.j0 (k + 1) (paddedBody l) 32) = _
    simp only [spec_Padded.j0]
    split
    · exact specPadded_l0 96 (by omega) (by omega) _ _ _ rfl (by omega) (by omega)
    · exact specPadded_l0 32 (by omega) (by omega) _ _ _ rfl (by omega) (by omega)
theorem implPadded (l : List Int) (k : Nat) (hk : 200 < k) : impl_Padded.f k l = some (paddedL l) := by
  unfold impl_Padded.f paddedL
  by_cases h : (l.length : Int) > 200
  · rw [if_pos h, if_pos h]
  · rw [if_neg h, if_neg h, implGreat _ _ _ (by omega)]
    have hb := paddedBody_length l h
    have hle := leL_length (l.length : Int) 2
    simp only [Option.bind_some]
    rw [joined2 _ _ (by rw [List.length_reverse]; omega)]
    simp only [Option.bind_some]
    rw [show (leL (l.length : Int) 2).reverse ++ l = paddedBody l from rfl]
    have e1 : ((96 - (((paddedBody l).length : Int) % 96)) % 96 : Int).toNat = (96 - (paddedBody l).length % 96) % 96 := by omega
    have e2 : ((32 - (((paddedBody l).length : Int) % 32)) % 32 : Int).toNat = (32 - (paddedBody l).length % 32) % 32 := by omega
    rw [e1, e2]
    split
    · rw [if_pos (by omega), if_pos (by omega)]
    · rw [if_pos (by omega), if_pos (by omega)]
end Go.Proofs.Ytlkgffeanjigjaa.B
