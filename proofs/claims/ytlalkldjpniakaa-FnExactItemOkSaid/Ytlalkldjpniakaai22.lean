import Derived.Test.Ytlalkldjpniakaai18
import Derived.Test.Ytlalkldjpniakaai7
import Derived.Test.Ytlalkldjpniakaai9
import Derived.Test.Ytlalkldjpniakaai19
import Derived.Test.Ytlalkldjpniakaai20
import Derived.Test.Ytlalkldjpniakaai21
import Derived.Test.Ytlalkldjpniakaai16
/- What the laws' own helpers over one item and one line compute. -/
namespace Go.Proofs.Ytlalkldjpniakaa.B
open Go.RowKit Go.Proofs.Ytlalkldjpniakaa.P Go.Proofs.YtlalkldjpniakaaW.PrintWords Go.Proofs.YtlalkldjpniakaaW.PrintLast Go.Proofs.YtlalkldjpniakaaW.PrintMore
theorem szByteS1 (l : List Int) (a : Int) (hl : l.length ≤ maxLen) (h0 : 0 ≤ a) (h1 : a ≤ 1048576) : laws_szByteS.f l a = some (if (l.length : Int) > a then -1 else a - l.length) := by
  unfold laws_szByteS.f
  unfold maxLen at hl
  rw [wrap_eq _ (by omega) (by omega)]
  by_cases h : (l.length : Int) > a
  · rw [if_pos (by omega), if_pos h]
  · rw [if_neg (by omega), if_neg h]
theorem szItem1 (s : ByteArray) (n m : Int) (l : List Int) (hs : s.size ≤ maxLen) (hl : l.length ≤ maxLen) :
    laws_szItem.f s n m l 1048576 = some (-1) ∨ ∃ r, laws_szItem.f s n m l 1048576 = some r ∧ ¬ r < 0 ∧ s.size ≤ 1048576 ∧ l.length ≤ 1048576 := by
  unfold laws_szItem.f
  have hs' := hs
  unfold maxLen at hs'
  rw [wrap_eq _ (by omega) (by omega)]
  by_cases h : (1048576 : Int) - (s.size : Int) < 0
  · rw [if_pos h]; exact .inl rfl
  · rw [if_neg h, szByteS1 l _ hl (by omega) (by omega), Option.bind_some]
    by_cases h2 : (l.length : Int) > (1048576 : Int) - (s.size : Int)
    · rw [if_pos h2, if_pos (by omega)]; exact .inl rfl
    · rw [if_neg h2, if_neg (by omega)]; exact .inr ⟨_, rfl, by omega, by omega, by omega⟩
theorem toItem1 (s : ByteArray) (n m : Int) (l : List Int) (hl : l.length ≤ 1048576) (k : Nat) (hk : 1048576 < k) : laws_toItem.f k s n m l = some (s, n, m, l) := by
  unfold laws_toItem.f
  rw [toByteS l (by omega) k (by omega)]; rfl
theorem eqItem1 (s : ByteArray) (n m : Int) (l : List Int) (hl : l.length ≤ 1048576) (k : Nat) (hk : 1048576 < k) : laws_eqItem.f k s n m l s n m l = some true := by
  unfold laws_eqItem.f
  rw [if_pos rfl, if_pos rfl, if_pos rfl, eqByteS_same l (by omega) k (by omega)]; rfl
theorem szLine1 (q : Int) (s : ByteArray) (n m : Int) (l : List Int) (hs : s.size ≤ maxLen) (hl : l.length ≤ maxLen) :
    laws_szLine.f q s n m l 1048576 = some (-1) ∨ ∃ r, laws_szLine.f q s n m l 1048576 = some r ∧ ¬ r < 0 ∧ s.size ≤ 1048576 ∧ l.length ≤ 1048576 := szItem1 s n m l hs hl
theorem toLine1 (q : Int) (s : ByteArray) (n m : Int) (l : List Int) (hl : l.length ≤ 1048576) (k : Nat) (hk : 1048576 < k) : laws_toLine.f k q s n m l = some (q, s, n, m, l) := by
  unfold laws_toLine.f
  rw [toByteS l (by omega) k (by omega)]; rfl
theorem eqLine1 (q : Int) (s : ByteArray) (n m : Int) (l : List Int) (hl : l.length ≤ 1048576) (k : Nat) (hk : 1048576 < k) : laws_eqLine.f k q s n m l q s n m l = some true := by
  unfold laws_eqLine.f
  rw [if_pos rfl, if_pos rfl, if_pos rfl, if_pos rfl, eqByteS_same l (by omega) k (by omega)]; rfl
end Go.Proofs.Ytlalkldjpniakaa.B
/- Unhex, by the program and by the reference; for texts of at most 2^40 bytes. -/
namespace Go.Proofs.Ytlalkldjpniakaa.B
open Go.RowKit Go.Proofs.Ytlalkldjpniakaa.P Go.Proofs.YtlalkldjpniakaaW.PrintWords Go.Proofs.YtlalkldjpniakaaW.PrintLast Go.Proofs.YtlalkldjpniakaaW.PrintMore
def sgn (c : Int) : Int := if 48 ≤ c ∧ c ≤ 57 then c - 48 else if 97 ≤ c ∧ c ≤ 102 then c - 87 else -1
theorem sgn_range (c : Int) : -1 ≤ sgn c ∧ sgn c < 16 := by
  unfold sgn
  split
  · omega
  · split <;> omega
theorem bt_rng (s : ByteArray) (i : Int) : 0 ≤ bt s i ∧ bt s i < 256 := by
  unfold bt; split
  · have := (s[i.toNat]'(by assumption)).toNat_lt; omega
  · omega
theorem specSign (c : Int) (h0 : 0 ≤ c) (h1 : c < 256) (k : Nat) : spec_l1Sign.f (k + 1) c = some (sgn c) := by
  have e0 : wrap64 c = c := wrap_eq _ (by omega) (by omega)
  unfold spec_l1Sign.f sgn
  simp only [spec_l1Sign.j0, e0, decide_eq_true_eq]
  repeat' split
  all_goals first | rfl | contradiction | (exfalso; omega) | (rw [wrap_eq _ (by omega) (by omega)])
theorem implSign256 : ∀ n : Fin 256, Lib.indexByte [48, 49, 50, 51, 52, 53, 54, 55, 56, 57, 97, 98, 99, 100, 101, 102] n.val.toUInt8 = sgn (n.val : Int) := by
  decide +kernel
theorem implSign (c : Int) (h0 : 0 ≤ c) (h1 : c < 256) : strings_IndexByte.f (⟨#[48, 49, 50, 51, 52, 53, 54, 55, 56, 57, 97, 98, 99, 100, 101, 102]⟩ : ByteArray) c = some (sgn c) := by
  have h := implSign256 ⟨c.toNat, by omega⟩
  simp only [strings_IndexByte.f, stringslite_IndexByte.f, Option.bind_some]
  rw [show ((c.toNat : Nat) : Int) = c from by omega] at h
  exact congrArg some h
theorem two16 : ∀ a b : Fin 16, (wrap64 ((wrap64 (16 * (a.val : Int))) + (b.val : Int))) % 256 = (Go.bits .or .i64 (wrap64 ((a.val : Int) * 16)) (b.val : Int)) % 256 := by
  decide +kernel
theorem two (a b : Int) (ha : 0 ≤ a ∧ a < 16) (hb : 0 ≤ b ∧ b < 16) : (Go.bits .or .i64 (wrap64 (a * 16)) b) % 256 = (wrap64 ((wrap64 (16 * a)) + b)) % 256 := by
  have h := two16 ⟨a.toNat, by omega⟩ ⟨b.toNat, by omega⟩
  simp only [] at h
  rw [show ((a.toNat : Nat) : Int) = a from by omega, show ((b.toNat : Nat) : Int) = b from by omega] at h
  exact h.symm
theorem unhex_l0 (s : ByteArray) (hs : s.size ≤ 1099511627776) : ∀ (n i : Nat) (acc : List Int), s.size - i ≤ n → i ≤ s.size → i % 2 = 0 → acc.length + (s.size - i) ≤ 4398046511104 →
    ∃ r : List Int × Bool, r.1.length ≤ acc.length + (s.size - i) ∧ (s.size % 2 = 1 → r = ([], false)) ∧ (∀ k, n + 2 < k → spec_Unhex.l0 k s acc (i : Int) = some r) ∧ (∀ k, n + 2 < k → s.size % 2 = 0 → impl_Unhex.l0 k s acc (i : Int) = some r) ∧ (r.2 = true → 2 * r.1.length = 2 * acc.length + (s.size - i))
  | 0, i, acc, hn, hi, h2, hc => by
    have he : i = s.size := by omega
    subst he
    refine ⟨(acc, true), by simp, fun h => by omega, fun k hk => ?_, fun k hk _ => ?_, fun _ => by simp⟩
    · obtain ⟨k, rfl⟩ : ∃ m, k = m + 1 := ⟨k - 1, by omega⟩
      simp only [spec_Unhex.l0]; rw [wrap_eq _ (by omega) (by omega), if_neg (by omega), if_pos (by omega)]
    · obtain ⟨k, rfl⟩ : ∃ m, k = m + 1 := ⟨k - 1, by omega⟩
      simp only [impl_Unhex.l0]; rw [if_neg (by omega)]
  | n + 1, i, acc, hn, hi, h2, hc => by
    by_cases hd : i + 1 < s.size
    · have e1 : wrap64 ((i : Int) + 1) = i + 1 := wrap_eq _ (by omega) (by omega)
      have e2 : wrap64 ((i : Int) + 2) = ((i + 2 : Nat) : Int) := by rw [wrap_eq _ (by omega) (by omega)]; rfl
      obtain ⟨a0, a1⟩ := bt_rng s i
      obtain ⟨b0, b1⟩ := bt_rng s ((i : Int) + 1)
      obtain ⟨sa0, sa1⟩ := sgn_range (bt s i)
      obtain ⟨sb0, sb1⟩ := sgn_range (bt s ((i : Int) + 1))
      by_cases bad : sgn (bt s i) < 0 ∨ sgn (bt s ((i : Int) + 1)) < 0
      · refine ⟨([], false), by simp, fun _ => rfl, fun k hk => ?_, fun k hk _ => ?_, fun h => by cases h⟩
        · obtain ⟨k, rfl⟩ : ∃ m, k = m + 2 := ⟨k - 2, by omega⟩
          simp only [spec_Unhex.l0, e1, specSign _ a0 a1, specSign _ b0 b1, Option.bind_some]
          rw [if_pos (by omega), if_pos (by omega), if_pos (by omega), if_pos (by omega)]
          by_cases hx : sgn (bt s i) < 0
          · rw [if_pos hx]
          · rw [if_neg hx, if_pos (by omega)]
        · obtain ⟨k, rfl⟩ : ∃ m, k = m + 1 := ⟨k - 1, by omega⟩
          simp only [impl_Unhex.l0, e1, implSign _ a0 a1, implSign _ b0 b1, Option.bind_some]
          rw [if_pos (by omega), if_pos (by omega), if_pos (by omega), if_pos (by omega)]
          by_cases hx : sgn (bt s i) < 0
          · rw [if_pos hx]
          · rw [if_neg hx, if_pos (by omega)]
      · obtain ⟨r, hr0, hr1, hr2, hr3, hr4⟩ := unhex_l0 s hs n (i + 2) (acc ++ [(wrap64 ((wrap64 (16 * sgn (bt s i))) + sgn (bt s ((i : Int) + 1)))) % 256]) (by omega) (by omega) (by omega) (by simp; omega)
        refine ⟨r, by simp at hr0; omega, hr1, fun k hk => ?_, fun k hk h => ?_, fun h => by have h4 := hr4 h; rw [List.length_append, List.length_singleton] at h4; omega⟩
        · obtain ⟨k, rfl⟩ : ∃ m, k = m + 2 := ⟨k - 2, by omega⟩
          simp only [spec_Unhex.l0.eq_2, e1, e2, specSign _ a0 a1, specSign _ b0 b1, Option.bind_some]
          rw [if_pos (by omega), if_pos (by omega), if_pos (by omega), if_pos (by omega), if_neg (by omega), if_neg (by omega), if_pos (by omega)]
          exact hr2 (k + 1) (by omega)
        · obtain ⟨k, rfl⟩ : ∃ m, k = m + 1 := ⟨k - 1, by omega⟩
          simp only [impl_Unhex.l0, e1, e2, implSign _ a0 a1, implSign _ b0 b1, Option.bind_some]
          rw [if_pos (by omega), if_pos (by omega), if_pos (by omega), if_pos (by omega), if_neg (by omega), if_neg (by omega), if_pos (by omega), two _ _ (by omega) (by omega)]
          exact hr3 k (by omega) h
    · by_cases ho : i = s.size
      · subst ho
        refine ⟨(acc, true), by simp, fun h => by omega, fun k hk => ?_, fun k hk _ => ?_, fun _ => by simp⟩
        · obtain ⟨k, rfl⟩ : ∃ m, k = m + 1 := ⟨k - 1, by omega⟩
          simp only [spec_Unhex.l0]; rw [wrap_eq _ (by omega) (by omega), if_neg (by omega), if_pos (by omega)]
        · obtain ⟨k, rfl⟩ : ∃ m, k = m + 1 := ⟨k - 1, by omega⟩
          simp only [impl_Unhex.l0]; rw [if_neg (by omega)]
      · refine ⟨([], false), by simp, fun _ => rfl, fun k hk => ?_, fun k hk h => by omega, fun h => by cases h⟩
        obtain ⟨k, rfl⟩ : ∃ m, k = m + 1 := ⟨k - 1, by omega⟩
        simp only [spec_Unhex.l0]; rw [wrap_eq _ (by omega) (by omega), if_neg (by omega), if_neg (by omega)]
theorem unhex (s : ByteArray) (hs : s.size ≤ 1099511627776) : ∃ r : List Int × Bool, r.1.length ≤ s.size ∧ (r.2 = true → 2 * r.1.length = s.size) ∧ ∀ k, s.size + 3 < k → spec_Unhex.f k s = some r ∧ impl_Unhex.f k s = some r := by
  obtain ⟨r, h0, h1, h2, h3, h4⟩ := unhex_l0 s hs s.size 0 [] (by omega) (by omega) rfl (by simp; omega)
  refine ⟨r, by simpa using h0, fun h => by simpa using h4 h, fun k hk => ⟨h2 k (by omega), ?_⟩⟩
  unfold impl_Unhex.f
  by_cases he : s.size % 2 = 0
  · rw [if_pos (by omega)]; exact h3 k (by omega) he
  · rw [if_neg (by omega), h1 (by omega)]
end Go.Proofs.Ytlalkldjpniakaa.B
/- 'from lo to hi', by the program and by the reference; for every three numbers. -/
namespace Go.Proofs.Ytlalkldjpniakaa.B
open Go.RowKit Go.Proofs.Ytlalkldjpniakaa.P Go.Proofs.YtlalkldjpniakaaW.PrintWords Go.Proofs.YtlalkldjpniakaaW.PrintLast Go.Proofs.YtlalkldjpniakaaW.PrintMore
theorem specIn (a b c : Int) : spec_l1In.f a b c = some (decide (b ≤ a ∧ a ≤ c)) := by
  unfold spec_l1In.f
  by_cases h : a ≥ b
  · rw [if_pos h]; simp [show b ≤ a from h]
  · rw [if_neg h]; simp [show ¬ b ≤ a from h]
theorem implIn (a b c : Int) : impl_in.f a b c = some (decide (b ≤ a ∧ a ≤ c)) := specIn a b c
end Go.Proofs.Ytlalkldjpniakaa.B
/- ItemOk, by the program and by the reference: one answer; for every item. -/
namespace Go.Proofs.Ytlalkldjpniakaa.B
open Go.RowKit Go.Proofs.Ytlalkldjpniakaa.P Go.Proofs.YtlalkldjpniakaaW.PrintWords Go.Proofs.YtlalkldjpniakaaW.PrintLast Go.Proofs.YtlalkldjpniakaaW.PrintMore
theorem route (s : ByteArray) (hs : s.size ≤ 1099511627776) : ∃ b : Bool, ∀ k, s.size + 3 < k → spec_l13Route.f k s = some b ∧ impl_isRoute.f k s = some b := by
  obtain ⟨r, h1, h2, h3⟩ := unhex s hs
  refine ⟨if r.2 = true then ((s.size : Int) == 16) else false, fun k hk => ⟨?_, ?_⟩⟩
  · unfold spec_l13Route.f
    rw [(h3 k hk).1, Option.bind_some]
    by_cases c : r.2 = true
    · have h := h2 c
      rw [if_pos c, if_pos c]
      congr 1
      rw [Bool.eq_iff_iff, beq_iff_eq, beq_iff_eq]
      omega
    · rw [if_neg c, if_neg c]
  · unfold impl_isRoute.f
    rw [(h3 k hk).2, Option.bind_some]
    by_cases c : r.2 = true
    · rw [if_pos c, if_pos c]
    · rw [if_neg c, if_neg c]
theorem itemOk (s : ByteArray) (n m : Int) (l : List Int) (hs : s.size ≤ 1099511627776) : ∃ b : Bool, ∀ k, s.size + 3 < k → spec_ItemOk.f k s n m l = some b ∧ impl_ItemOk.f k s n m l = some b := by
  obtain ⟨b, hb⟩ := route s hs
  refine ⟨if b = true then (if decide (0 ≤ n ∧ n ≤ 9) = true then (if decide (0 ≤ m ∧ m ≤ 100000) = true then decide ((l.length : Int) ≤ 1560) else false) else false) else false, fun k hk => ⟨?_, ?_⟩⟩
  · unfold spec_ItemOk.f
    rw [(hb k hk).1, Option.bind_some, specIn, specIn]
    simp only [Option.bind_some]
    split <;> (try split) <;> (try split) <;> rfl
  · unfold impl_ItemOk.f
    rw [(hb k hk).2, Option.bind_some, implIn, implIn]
    simp only [Option.bind_some]
    split <;> (try split) <;> (try split) <;> rfl
end Go.Proofs.Ytlalkldjpniakaa.B
