/- Hex, by the program and by the reference: two signs a byte; for lists of at most 2^40 bytes. -/
import Derived.Test.YthlhilfjbjamhaaBits
import Derived.Test.YthlhilfjbjamhaaPx19
import Derived.Test.YthlhilfjbjamhaaPx20
namespace Go.Proofs.Ythlhilfjbjamhaa.B
open Go.RowKit Go.Proofs.Ythlhilfjbjamhaa.P Go.Proofs.YthlhilfjbjamhaaW.PrintWords Go.Proofs.YthlhilfjbjamhaaW.PrintLast Go.Proofs.YthlhilfjbjamhaaW.PrintMore
def signs : ByteArray := ⟨#[48, 49, 50, 51, 52, 53, 54, 55, 56, 57, 97, 98, 99, 100, 101, 102]⟩
/-- Two signs a byte. -/
def hexL : List Int → List Int
  | [] => []
  | x :: l => bt signs (x / 16) :: bt signs (x % 16) :: hexL l
theorem hexL_length : ∀ l : List Int, (hexL l).length = 2 * l.length
  | [] => rfl
  | x :: l => by simp [hexL, hexL_length l]; omega
theorem specHex_l0 : ∀ (rest pre acc : List Int) (k : Nat), (∀ x ∈ rest, 0 ≤ x ∧ x < 256) → pre.length + rest.length ≤ 1099511627776 → acc.length + 2 * rest.length ≤ 4398046511104 → rest.length < k →
    spec_Hex.l0 k (pre ++ rest) signs acc (pre.length : Int) = some (strOfNums (acc ++ hexL rest))
  | [], pre, acc, k, hw, hb, hc, hk => by
    obtain ⟨k, rfl⟩ : ∃ m, k = m + 1 := ⟨k - 1, by omega⟩
    simp only [spec_Hex.l0]; rw [if_neg (nlt_end pre)]; simp [hexL]
  | x :: rest, pre, acc, k, hw, hb, hc, hk => by
    obtain ⟨k, rfl⟩ : ∃ m, k = m + 1 := ⟨k - 1, by omega⟩
    simp only [List.length_cons] at hb hc hk
    have hx := hw x (by simp)
    have hs : (signs.size : Int) = 16 := rfl
    have ih := specHex_l0 rest (pre ++ [x]) (acc ++ [bt signs (x / 16), bt signs (x % 16)]) k (fun y hy => hw y (by simp [hy])) (by simp; omega) (by simp; omega) (by omega)
    simp only [spec_Hex.l0, Option.bind_some]
    rw [if_pos (lt_mid pre x rest), if_pos (pre_nonneg pre), rd_mid, u8_and15 _ hx.1 hx.2, hs, if_pos (by omega), if_pos (by omega), if_pos (by omega), if_pos (by omega), if_pos (by simp; omega), wrap_step pre x (by omega), snoc_app pre x rest, ih]
    simp [hexL]
theorem specHex (l : List Int) (hw : ∀ x ∈ l, 0 ≤ x ∧ x < 256) (hn : l.length ≤ 1099511627776) (k : Nat) (hk : l.length < k) : spec_Hex.f k l = some (strOfNums (hexL l)) := by
  have h := specHex_l0 l [] [] k hw (by simpa using hn) (by simp; omega) hk
  simpa [spec_Hex.f, signs] using h
theorem implHex_l0 : ∀ (rest pre acc : List Int) (n : Int) (k : Nat), n = (((pre ++ rest).length : Nat) : Int) → (∀ x ∈ rest, 0 ≤ x ∧ x < 256) → pre.length + rest.length ≤ 1099511627776 → acc.length + 2 * rest.length ≤ 4398046511104 → rest.length < k →
    impl_Hex.l0 k acc (pre ++ rest) n (pre.length : Int) = some (strOfNums (acc ++ hexL rest))
  | [], pre, acc, n, k, he, hw, hb, hc, hk => by
    obtain ⟨k, rfl⟩ : ∃ m, k = m + 1 := ⟨k - 1, by omega⟩
    simp only [impl_Hex.l0]; rw [if_neg (by rw [he]; exact nlt_end pre)]; simp [hexL]
  | x :: rest, pre, acc, n, k, he, hw, hb, hc, hk => by
    obtain ⟨k, rfl⟩ : ∃ m, k = m + 1 := ⟨k - 1, by omega⟩
    simp only [List.length_cons] at hb hc hk
    have hx := hw x (by simp)
    have ih := implHex_l0 rest (pre ++ [x]) (acc ++ [bt signs (x / 16), bt signs (x % 16)]) n k (by rw [he]; simp) (fun y hy => hw y (by simp [hy])) (by simp; omega) (by simp; omega) (by omega)
    simp only [impl_Hex.l0, Option.bind_some]
    rw [if_pos (by rw [he]; exact lt_mid pre x rest), if_pos (pre_nonneg pre), if_pos (lt_mid pre x rest), rd_mid, u8_and15 _ hx.1 hx.2, if_pos (by omega), if_pos (by omega), if_pos (by omega), if_pos (by omega), if_pos (by simp; omega), wrap_step pre x (by omega), snoc_app pre x rest]
    refine Eq.trans ?_ (ih.trans ?_)
    · rfl
    · simp [hexL]
theorem implHex (l : List Int) (hw : ∀ x ∈ l, 0 ≤ x ∧ x < 256) (hn : l.length ≤ 1099511627776) (k : Nat) (hk : l.length < k) : impl_Hex.f k l = some (strOfNums (hexL l)) := by
  have h := implHex_l0 l [] [] _ k rfl hw (by simpa using hn) (by simp; omega) hk
  simpa [impl_Hex.f] using h
end Go.Proofs.Ythlhilfjbjamhaa.B
