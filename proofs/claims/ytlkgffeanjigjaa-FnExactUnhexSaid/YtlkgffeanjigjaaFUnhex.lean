/- Unhex, by the program and by the reference; for texts of at most 2^40 bytes. -/
import Derived.Test.YtlkgffeanjigjaaBase
import Derived.Test.YtlkgffeanjigjaaPx2
import Derived.Test.YtlkgffeanjigjaaPx6
namespace Go.Proofs.Ytlkgffeanjigjaa.B
open Go.RowKit Go.Proofs.Ytlkgffeanjigjaa.P Go.Proofs.YtlkgffeanjigjaaW.PrintWords Go.Proofs.YtlkgffeanjigjaaW.PrintLast Go.Proofs.YtlkgffeanjigjaaW.PrintMore
def sgn (c : Int) : Int := if 48 ≤ c ∧ c ≤ 57 then c - 48 else if 97 ≤ c ∧ c ≤ 102 then c - 87 else -1
theorem sgn_range (c : Int) : -1 ≤ sgn c ∧ sgn c < 16 := by
  unfold sgn
  split
  · omega
  · split <;> omega
theorem bt_rng (s : ByteArray) (i : Int) : 0 ≤ bt s i ∧ bt s i < 256 := by
  unfold bt; split
  · have := (s[i.toNat]'(by assumption)).toNat_lt; omega
  · omega
theorem specSign (c : Int) (h0 : 0 ≤ c) (h1 : c < 256) (k : Nat) : spec_l1Sign.f (k + 1) c = some (sgn c) := by
  have e0 : wrap64 c = c := wrap_eq _ (by omega) (by omega)
  unfold spec_l1Sign.f sgn
  simp only [spec_l1Sign.j0, e0, decide_eq_true_eq]
  repeat' split
  all_goals first | rfl | contradiction | (exfalso; omega) | (rw [wrap_eq _ (by omega) (by omega)])
theorem implSign256 : ∀ n : Fin 256, Lib.indexByte [48, 49, 50, 51, 52, 53, 54, 55, 56, 57, 97, 98, 99, 100, 101, 102] n.val.toUInt8 = sgn (n.val : Int) := by
  decide +kernel
theorem implSign (c : Int) (h0 : 0 ≤ c) (h1 : c < 256) : strings_IndexByte.f (⟨#[48, 49, 50, 51, 52, 53, 54, 55, 56, 57, 97, 98, 99, 100, 101, 102]⟩ : ByteArray) c = some (sgn c) := by
  have h := implSign256 ⟨c.toNat, by omega⟩
  simp only [strings_IndexByte.f, stringslite_IndexByte.f, Option.bind_some]
  rw [show ((c.toNat : Nat) : Int) = c from by omega] at h
  exact congrArg some h
theorem two16 : ∀ a b : Fin 16, (wrap64 ((wrap64 (16 * (a.val : Int))) + (b.val : Int))) % 256 = (Go.bits .or .i64 (wrap64 ((a.val : Int) * 16)) (b.val : Int)) % 256 := by
  decide +kernel
theorem two (a b : Int) (ha : 0 ≤ a ∧ a < 16) (hb : 0 ≤ b ∧ b < 16) : (Go.bits .or .i64 (wrap64 (a * 16)) b) % 256 = (wrap64 ((wrap64 (16 * a)) + b)) % 256 := by
  have h := two16 ⟨a.toNat, by omega⟩ ⟨b.toNat, by omega⟩
  simp only [] at h
  rw [show ((a.toNat : Nat) : Int) = a from by omega, show ((b.toNat : Nat) : Int) = b from by omega] at h
  exact h.symm
theorem unhex_l0 (s : ByteArray) (hs : s.size ≤ 1099511627776) : ∀ (n i : Nat) (acc : List Int), s.size - i ≤ n → i ≤ s.size → i % 2 = 0 → acc.length + (s.size - i) ≤ 4398046511104 →
    ∃ r : List Int × Bool, r.1.length ≤ acc.length + (s.size - i) ∧ (s.size % 2 = 1 → r = ([], false)) ∧ (∀ k, n + 2 < k → spec_Unhex.l0 k s acc (i : Int) = some r) ∧ (∀ k, n + 2 < k → s.size % 2 = 0 → impl_Unhex.l0 k s acc (i : Int) = some r)
  | 0, i, acc, hn, hi, h2, hc => by
    have he : i = s.size := by omega
    subst he
    refine ⟨(acc, true), by simp, fun h => by omega, fun k hk => ?_, fun k hk _ => ?_⟩
    · obtain ⟨k, rfl⟩ : ∃ m, k = m + 1 := ⟨k - 1, by omega⟩
      simp only [spec_Unhex.l0]; rw [wrap_eq _ (by omega) (by omega), if_neg (by omega), if_pos (by omega)]
    · obtain ⟨k, rfl⟩ : ∃ m, k = m + 1 := ⟨k - 1, by omega⟩
      simp only [impl_Unhex.l0]; rw [if_neg (by omega)]
  | n + 1, i, acc, hn, hi, h2, hc => by
    by_cases hd : i + 1 < s.size
    · have e1 : wrap64 ((i : Int) + 1) = i + 1 := wrap_eq _ (by omega) (by omega)
      have e2 : wrap64 ((i : Int) + 2) = ((i + 2 : Nat) : Int) := by rw [wrap_eq _ (by omega) (by omega)]; rfl
      obtain ⟨a0, a1⟩ := bt_rng s i
      obtain ⟨b0, b1⟩ := bt_rng s ((i : Int) + 1)
      obtain ⟨sa0, sa1⟩ := sgn_range (bt s i)
      obtain ⟨sb0, sb1⟩ := sgn_range (bt s ((i : Int) + 1))
      by_cases bad : sgn (bt s i) < 0 ∨ sgn (bt s ((i : Int) + 1)) < 0
      · refine ⟨([], false), by simp, fun _ => rfl, fun k hk => ?_, fun k hk _ => ?_⟩
        · obtain ⟨k, rfl⟩ : ∃ m, k = m + 2 := ⟨k - 2, by omega⟩
          simp only [spec_Unhex.l0, e1, specSign _ a0 a1, specSign _ b0 b1, Option.bind_some]
          rw [if_pos (by omega), if_pos (by omega), if_pos (by omega), if_pos (by omega)]
          by_cases hx : sgn (bt s i) < 0
          · rw [if_pos hx]
          · rw [if_neg hx, if_pos (by omega)]
        · obtain ⟨k, rfl⟩ : ∃ m, k = m + 1 := ⟨k - 1, by omega⟩
          simp only [impl_Unhex.l0, e1, implSign _ a0 a1, implSign _ b0 b1, Option.bind_some]
          rw [if_pos (by omega), if_pos (by omega), if_pos (by omega), if_pos (by omega)]
          by_cases hx : sgn (bt s i) < 0
          · rw [if_pos hx]
          · rw [if_neg hx, if_pos (by omega)]
      · obtain ⟨r, hr0, hr1, hr2, hr3⟩ := unhex_l0 s hs n (i + 2) (acc ++ [(wrap64 ((wrap64 (16 * sgn (bt s i))) + sgn (bt s ((i : Int) + 1)))) % 256]) (by omega) (by omega) (by omega) (by simp; omega)
        refine ⟨r, by simp at hr0; omega, hr1, fun k hk => ?_, fun k hk h => ?_⟩
        · obtain ⟨k, rfl⟩ : ∃ m, k = m + 2 := ⟨k - 2, by omega⟩
          simp only [spec_Unhex.l0.eq_2, e1, e2, specSign _ a0 a1, specSign _ b0 b1, Option.bind_some]
          rw [if_pos (by omega), if_pos (by omega), if_pos (by omega), if_pos (by omega), if_neg (by omega), if_neg (by omega), if_pos (by omega)]
          exact hr2 (k + 1) (by omega)
        · obtain ⟨k, rfl⟩ : ∃ m, k = m + 1 := ⟨k - 1, by omega⟩
          simp only [impl_Unhex.l0, e1, e2, implSign _ a0 a1, implSign _ b0 b1, Option.bind_some]
          rw [if_pos (by omega), if_pos (by omega), if_pos (by omega), if_pos (by omega), if_neg (by omega), if_neg (by omega), if_pos (by omega), two _ _ (by omega) (by omega)]
          exact hr3 k (by omega) h
    · by_cases ho : i = s.size
      · subst ho
        refine ⟨(acc, true), by simp, fun h => by omega, fun k hk => ?_, fun k hk _ => ?_⟩
        · obtain ⟨k, rfl⟩ : ∃ m, k = m + 1 := ⟨k - 1, by omega⟩
          simp only [spec_Unhex.l0]; rw [wrap_eq _ (by omega) (by omega), if_neg (by omega), if_pos (by omega)]
        · obtain ⟨k, rfl⟩ : ∃ m, k = m + 1 := ⟨k - 1, by omega⟩
          simp only [impl_Unhex.l0]; rw [if_neg (by omega)]
      · refine ⟨([], false), by simp, fun _ => rfl, fun k hk => ?_, fun k hk h => by omega⟩
        obtain ⟨k, rfl⟩ : ∃ m, k = m + 1 := ⟨k - 1, by omega⟩
        simp only [spec_Unhex.l0]; rw [wrap_eq _ (by omega) (by omega), if_neg (by omega), if_neg (by omega)]
theorem unhex (s : ByteArray) (hs : s.size ≤ 1099511627776) : ∃ r : List Int × Bool, r.1.length ≤ s.size ∧ ∀ k, s.size + 3 < k → spec_Unhex.f k s = some r ∧ impl_Unhex.f k s = some r := by
  obtain ⟨r, h0, h1, h2, h3⟩ := unhex_l0 s hs s.size 0 [] (by omega) (by omega) rfl (by simp; omega)
  refine ⟨r, by simpa using h0, fun k hk => ⟨h2 k (by omega), ?_⟩⟩
  unfold impl_Unhex.f
  by_cases he : s.size % 2 = 0
  · rw [if_pos (by omega)]; exact h3 k (by omega) he
  · rw [if_neg (by omega), h1 (by omega)]
end Go.Proofs.Ytlkgffeanjigjaa.B
