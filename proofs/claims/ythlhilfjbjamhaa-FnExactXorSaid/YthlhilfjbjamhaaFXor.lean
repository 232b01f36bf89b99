/- Xor, by the program and by the reference: the two lists byte by byte, as far as the shorter one goes; for lists of at most 2^40 bytes. -/
import Derived.Test.YthlhilfjbjamhaaBase
import Derived.Test.YthlhilfjbjamhaaPx28
import Derived.Test.YthlhilfjbjamhaaPx29
namespace Go.Proofs.Ythlhilfjbjamhaa.B
open Go.RowKit Go.Proofs.Ythlhilfjbjamhaa.P Go.Proofs.YthlhilfjbjamhaaW.PrintWords Go.Proofs.YthlhilfjbjamhaaW.PrintLast Go.Proofs.YthlhilfjbjamhaaW.PrintMore
/-- Byte by byte, one or the other, not both. -/
def xorL (a b : List Int) : List Int := List.zipWith (Go.bits .xor .u8) a b
theorem specXor_l0 : ∀ (a b pa pb acc : List Int) (k : Nat), pa.length = pb.length → pa.length + a.length ≤ 1099511627776 → acc.length + a.length ≤ 2199023255552 → a.length < k →
    spec_Xor.l0 k (pa ++ a) (pb ++ b) acc (pa.length : Int) = some (acc ++ xorL a b)
  | [], b, pa, pb, acc, k, he, hb, hc, hk => by
    obtain ⟨k, rfl⟩ : ∃ m, k = m + 1 := ⟨k - 1, by omega⟩
    simp only [spec_Xor.l0]; rw [if_neg (nlt_end pa)]; simp [xorL]
  | x :: a, [], pa, pb, acc, k, he, hb, hc, hk => by
    obtain ⟨k, rfl⟩ : ∃ m, k = m + 1 := ⟨k - 1, by omega⟩
    simp only [spec_Xor.l0]; rw [if_pos (lt_mid pa x a), if_neg (nlt_end2 pa pb he)]; simp [xorL]
  | x :: a, y :: b, pa, pb, acc, k, he, hb, hc, hk => by
    obtain ⟨k, rfl⟩ : ∃ m, k = m + 1 := ⟨k - 1, by omega⟩
    simp only [List.length_cons] at hb hc hk
    have ih := specXor_l0 a b (pa ++ [x]) (pb ++ [y]) (acc ++ [Go.bits .xor .u8 x y]) k (by simp [he]) (by simp; omega) (by simp; omega) (by omega)
    simp only [spec_Xor.l0]
    rw [if_pos (lt_mid pa x a), if_pos (lt_mid2 pa pb y b he), if_pos (pre_nonneg pa), if_pos (by omega), rd_mid, rd_mid2 pa pb y b he, wrap_step pa x (by omega), snoc_app pa x a, snoc_app pb y b, ih]
    simp [xorL]
theorem specXor (a b : List Int) (hn : a.length ≤ 1099511627776) (k : Nat) (hk : a.length < k) : spec_Xor.f k a b = some (xorL a b) := by
  have h := specXor_l0 a b [] [] [] k rfl (by simpa using hn) (by simp; omega) hk
  simpa [spec_Xor.f] using h
theorem implXor_l0 : ∀ (a b pa pb acc : List Int) (m : Int) (k : Nat), pa.length = pb.length → m = mn (((pa ++ a).length : Nat) : Int) (((pb ++ b).length : Nat) : Int) → pa.length + a.length ≤ 1099511627776 → acc.length + a.length ≤ 2199023255552 → a.length < k →
    impl_Xor.l0 k (pa ++ a) (pb ++ b) acc m (pa.length : Int) = some (acc ++ xorL a b)
  | [], b, pa, pb, acc, m, k, he, hm, hb, hc, hk => by
    obtain ⟨k, rfl⟩ : ∃ m, k = m + 1 := ⟨k - 1, by omega⟩
    simp only [impl_Xor.l0]; rw [if_neg (by rw [hm]; unfold mn; simp; split <;> omega)]; simp [xorL]
  | x :: a, [], pa, pb, acc, m, k, he, hm, hb, hc, hk => by
    obtain ⟨k, rfl⟩ : ∃ m, k = m + 1 := ⟨k - 1, by omega⟩
    simp only [impl_Xor.l0]; rw [if_neg (by rw [hm]; unfold mn; simp; split <;> omega)]; simp [xorL]
  | x :: a, y :: b, pa, pb, acc, m, k, he, hm, hb, hc, hk => by
    obtain ⟨k, rfl⟩ : ∃ m, k = m + 1 := ⟨k - 1, by omega⟩
    simp only [List.length_cons] at hb hc hk
    have ih := implXor_l0 a b (pa ++ [x]) (pb ++ [y]) (acc ++ [Go.bits .xor .u8 x y]) m k (by simp [he]) (by rw [hm]; simp) (by simp; omega) (by simp; omega) (by omega)
    simp only [impl_Xor.l0]
    rw [if_pos (by rw [hm]; unfold mn; simp; split <;> omega), if_pos (pre_nonneg pa), if_pos (lt_mid pa x a), if_pos (lt_mid2 pa pb y b he), if_pos (by omega), rd_mid, rd_mid2 pa pb y b he, wrap_step pa x (by omega), snoc_app pa x a, snoc_app pb y b, ih]
    simp [xorL]
theorem implXor (a b : List Int) (hn : a.length ≤ 1099511627776) (k : Nat) (hk : a.length < k) : impl_Xor.f k a b = some (xorL a b) := by
  have h := implXor_l0 a b [] [] [] _ k rfl rfl (by simpa using hn) (by simp; omega) hk
  simpa [impl_Xor.f] using h
theorem xorL_length (a b : List Int) : (xorL a b).length ≤ a.length := by
  simp [xorL]; omega
end Go.Proofs.Ythlhilfjbjamhaa.B
