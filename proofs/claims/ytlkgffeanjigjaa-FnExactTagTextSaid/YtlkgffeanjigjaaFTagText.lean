/- TagText, by the program and by the reference; for lists of at most 2^40 bytes. -/
import Derived.Test.YtlkgffeanjigjaaFLittle
import Derived.Test.YtlkgffeanjigjaaFJoin
import Derived.Test.YtlkgffeanjigjaaPx33
import Derived.Test.YtlkgffeanjigjaaPx38
namespace Go.Proofs.Ytlkgffeanjigjaa.B
open Go.RowKit Go.Proofs.Ytlkgffeanjigjaa.P Go.Proofs.YtlkgffeanjigjaaW.PrintWords Go.Proofs.YtlkgffeanjigjaaW.PrintLast Go.Proofs.YtlkgffeanjigjaaW.PrintMore
/-- Filled up with noughts to a multiple of m, so that what is left over is r. -/
def zerosTo (m r n : Nat) : List Int := List.replicate ((m + r - n % m) % m) 0
theorem zerosTo_length (m r n : Nat) (hm : 0 < m) : (zerosTo m r n).length < m := by
  unfold zerosTo; rw [List.length_replicate]; exact Nat.mod_lt _ hm
def fillL (l : List Int) : List Int := l ++ zerosTo 16 0 l.length
theorem fillL_length (l : List Int) : (fillL l).length < l.length + 16 := by
  have := zerosTo_length 16 0 l.length (by omega)
  unfold fillL; rw [List.length_append]; omega
theorem specFill_l0 : ∀ (d : Nat) (acc : List Int) (k : Nat), (16 + 0 - acc.length % 16) % 16 = d → acc.length + d ≤ 4398046511104 → d < k →
    spec_l7Fill.l0 k acc = some (acc ++ List.replicate d 0)
  | 0, acc, k, hd, hc, hk => by
    obtain ⟨k, rfl⟩ : ∃ m, k = m + 1 := ⟨k - 1, by omega⟩
    simp only [spec_l7Fill.l0]; rw [if_pos (by omega)]; simp
  | d + 1, acc, k, hd, hc, hk => by
    obtain ⟨k, rfl⟩ : ∃ m, k = m + 1 := ⟨k - 1, by omega⟩
    have ih := specFill_l0 d (acc ++ [0]) k (by simp; omega) (by simp; omega) (by omega)
    simp only [spec_l7Fill.l0]; rw [if_neg (by omega), if_pos (by omega), ih, List.replicate_succ]; simp
theorem specFill (l : List Int) (hn : l.length ≤ 1099511627776) (k : Nat) (hk : 20 < k) : spec_l7Fill.f k l = some (fillL l) := by
  have h := specFill_l0 _ l k rfl (by omega) (by omega)
  unfold spec_l7Fill.f
  simp only [Option.bind_some, List.nil_append, List.length_nil]
  rw [if_pos (by omega), h]; rfl
theorem implFill (l : List Int) (hn : l.length ≤ 1099511627776) : impl_filled.f l = some (fillL l) := by
  unfold impl_filled.f
  have e : ((16 - ((l.length : Int) % 16)) % 16 : Int).toNat = (16 + 0 - l.length % 16) % 16 := by omega
  rw [if_pos (by omega), if_pos (by omega), e, joined2 _ _ (by simp; omega)]; rfl
def tagTextL (a b : List Int) : List Int := fillL a ++ fillL b ++ leL (a.length : Int) 8 ++ leL (b.length : Int) 8
theorem tagTextL_length (a b : List Int) : (tagTextL a b).length ≤ a.length + b.length + 50 := by
  have h1 := fillL_length a; have h2 := fillL_length b; have h3 := leL_length a.length 8; have h4 := leL_length b.length 8
  unfold tagTextL; simp only [List.length_append]; omega
theorem specTagText (a b : List Int) (ha : a.length ≤ 1099511627776) (hb : b.length ≤ 1099511627776) (k : Nat) (hk : 20 < k) : spec_TagText.f k a b = some (tagTextL a b) := by
  have h1 := fillL_length a; have h2 := fillL_length b; have h3 := leL_length a.length 8; have h4 := leL_length b.length 8
  unfold spec_TagText.f
  simp (disch := omega) only [specFill, specLittle, Option.bind_some]
  rw [if_pos (by omega), if_pos (by rw [List.length_append]; omega), if_pos (by simp only [List.length_append]; omega)]; rfl
theorem implTagText (a b : List Int) (ha : a.length ≤ 1099511627776) (hb : b.length ≤ 1099511627776) (k : Nat) (hk : 20 < k) : impl_TagText.f k a b = some (tagTextL a b) := by
  have h1 := fillL_length a; have h2 := fillL_length b; have h3 := leL_length a.length 8; have h4 := leL_length b.length 8
  unfold impl_TagText.f
  simp (disch := omega) only [implFill, implLittle, Option.bind_some, joined4]; rfl
end Go.Proofs.Ytlkgffeanjigjaa.B
