/- HashPad, by the program and by the reference; for every list. -/
import Derived.Test.YtlkgffeanjigjaaFGreat
import Derived.Test.YtlkgffeanjigjaaFJoin
import Derived.Test.YtlkgffeanjigjaaPx40
import Derived.Test.YtlkgffeanjigjaaPx41
namespace Go.Proofs.Ytlkgffeanjigjaa.B
open Go.RowKit Go.Proofs.Ytlkgffeanjigjaa.P Go.Proofs.YtlkgffeanjigjaaW.PrintWords Go.Proofs.YtlkgffeanjigjaaW.PrintLast Go.Proofs.YtlkgffeanjigjaaW.PrintMore
def hashPadL (l : List Int) : List Int :=
  if (l.length : Int) > 4000 then [] else (l ++ [128]) ++ List.replicate ((120 - (l ++ [128]).length % 64) % 64) 0 ++ (leL (wrap64 (8 * (l.length : Int))) 8).reverse
theorem hashPadL_length (l : List Int) : (hashPadL l).length ≤ 4100 := by
  have h := leL_length (wrap64 (8 * (l.length : Int))) 8
  unfold hashPadL; split
  · simp
  · simp only [List.length_append, List.length_reverse, List.length_replicate, List.length_cons, List.length_nil]; omega
theorem hashPadL_div (l : List Int) : (hashPadL l).length % 64 = 0 := by
  unfold hashPadL; split
  · simp
  · rename_i hh
    have h : (leL (wrap64 (8 * (l.length : Int))) 8).length = 8 := by
      unfold leL; rw [wrap_eq _ (by omega) (by omega), if_pos (by omega), lowL_length]; rfl
    simp only [List.length_append, List.length_reverse, List.length_replicate, List.length_cons, List.length_nil, h]; omega
theorem specPad_l0 (l : List Int) : ∀ (d : Nat) (acc : List Int) (k : Nat), (acc.length + d) % 64 = 56 → d < 64 → acc.length + d ≤ 4398046511104 → d + 50 < k →
    spec_HashPad.l0 k l acc = some (acc ++ List.replicate d 0 ++ (leL (wrap64 (8 * (l.length : Int))) 8).reverse) := by
  intro d
  induction d with
  | zero =>
    intro acc k hd hd2 hc hk
    obtain ⟨k, rfl⟩ : ∃ m, k = m + 1 := ⟨k - 1, by omega⟩
    have h := leL_length (wrap64 (8 * (l.length : Int))) 8
    simp only [spec_HashPad.l0]; rw [if_pos (by omega), specGreat _ _ _ (by omega), Option.bind_some, if_pos (by rw [List.length_reverse]; omega)]; simp
  | succ d ihd =>
    intro acc k hd hd2 hc hk
    obtain ⟨k, rfl⟩ : ∃ m, k = m + 1 := ⟨k - 1, by omega⟩
    have ih := ihd (acc ++ [0]) k (by simp only [List.length_append, List.length_cons, List.length_nil]; omega) (by omega) (by simp only [List.length_append, List.length_cons, List.length_nil]; omega) (by omega)
    simp only [spec_HashPad.l0]; rw [if_neg (by omega), if_pos (by omega), ih, List.replicate_succ]; simp
theorem implPad_l0 (l : List Int) : ∀ (d : Nat) (acc : List Int) (k : Nat), (acc.length + d) % 64 = 56 → d < 64 → acc.length + d ≤ 4398046511104 → d + 50 < k →
    impl_HashPad.l0 k l acc = some (acc ++ List.replicate d 0 ++ (leL (wrap64 (8 * (l.length : Int))) 8).reverse) := by
  intro d
  induction d with
  | zero =>
    intro acc k hd hd2 hc hk
    obtain ⟨k, rfl⟩ : ∃ m, k = m + 1 := ⟨k - 1, by omega⟩
    have h := leL_length (wrap64 (8 * (l.length : Int))) 8
    simp only [impl_HashPad.l0]; rw [if_pos (by omega), implGreat _ _ _ (by omega), Option.bind_some, if_pos (by rw [List.length_reverse]; omega)]; simp
  | succ d ihd =>
    intro acc k hd hd2 hc hk
    obtain ⟨k, rfl⟩ : ∃ m, k = m + 1 := ⟨k - 1, by omega⟩
    have ih := ihd (acc ++ [0]) k (by simp only [List.length_append, List.length_cons, List.length_nil]; omega) (by omega) (by simp only [List.length_append, List.length_cons, List.length_nil]; omega) (by omega)
    simp only [impl_HashPad.l0]; rw [if_neg (by omega), if_pos (by omega), ih, List.replicate_succ]; simp
theorem specHashPad (l : List Int) (k : Nat) (hk : 130 < k) : spec_HashPad.f k l = some (hashPadL l) := by
  unfold spec_HashPad.f hashPadL
  by_cases h : (l.length : Int) > 4000
  · rw [if_pos h, if_pos h]
  · rw [if_neg h, if_neg h]
    have h := specPad_l0 l ((120 - (l ++ [128]).length % 64) % 64) (l ++ [128]) k (by omega) (by omega) (by simp only [List.length_append, List.length_cons, List.length_nil]; omega) (by omega)
    simp only [Option.bind_some, List.nil_append, List.length_nil]
    rw [if_pos (by omega), if_pos (by omega), h]
theorem implHashPad (l : List Int) (k : Nat) (hk : 130 < k) : impl_HashPad.f k l = some (hashPadL l) := by
  unfold impl_HashPad.f hashPadL
  by_cases h : (l.length : Int) > 4000
  · rw [if_pos h, if_pos h]
  · rw [if_neg h, if_neg h]
    have h := implPad_l0 l ((120 - (l ++ [128]).length % 64) % 64) (l ++ [128]) k (by omega) (by omega) (by simp only [List.length_append, List.length_cons, List.length_nil]; omega) (by omega)
    rw [joined2 _ _ (by simp; omega)]
    simp only [Option.bind_some]
    rw [h]
end Go.Proofs.Ytlkgffeanjigjaa.B
