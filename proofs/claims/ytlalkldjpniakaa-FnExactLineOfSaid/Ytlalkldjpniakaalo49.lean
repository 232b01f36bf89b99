import Derived.Test.Ytlalkldjpniakaalo41
import Derived.Test.Ytlalkldjpniakaalo45
import Derived.Test.Ytlalkldjpniakaalo46
import Derived.Test.Ytlalkldjpniakaalo47
import Derived.Test.Ytlalkldjpniakaalo48
import Derived.Test.Ytlalkldjpniakaalo10
/- What the laws' own helpers over one item and one line compute. -/
namespace Go.Proofs.Ytlalkldjpniakaa.B
open Go.RowKit Go.Proofs.Ytlalkldjpniakaa.P Go.Proofs.YtlalkldjpniakaaW.PrintWords Go.Proofs.YtlalkldjpniakaaW.PrintLast Go.Proofs.YtlalkldjpniakaaW.PrintMore
theorem szByteS1 (l : List Int) (a : Int) (hl : l.length ≤ maxLen) (h0 : 0 ≤ a) (h1 : a ≤ 1048576) : laws_szByteS.f l a = some (if (l.length : Int) > a then -1 else a - l.length) := by
  unfold laws_szByteS.f
  unfold maxLen at hl
  rw [wrap_eq _ (by omega) (by omega)]
  by_cases h : (l.length : Int) > a
  · rw [if_pos (by omega), if_pos h]
  · rw [if_neg (by omega), if_neg h]
theorem szItem1 (s : ByteArray) (n m : Int) (l : List Int) (hs : s.size ≤ maxLen) (hl : l.length ≤ maxLen) :
    laws_szItem.f s n m l 1048576 = some (-1) ∨ ∃ r, laws_szItem.f s n m l 1048576 = some r ∧ ¬ r < 0 ∧ s.size ≤ 1048576 ∧ l.length ≤ 1048576 := by
  unfold laws_szItem.f
  have hs' := hs
  unfold maxLen at hs'
  rw [wrap_eq _ (by omega) (by omega)]
  by_cases h : (1048576 : Int) - (s.size : Int) < 0
  · rw [if_pos h]; exact .inl rfl
  · rw [if_neg h, szByteS1 l _ hl (by omega) (by omega), Option.bind_some]
    by_cases h2 : (l.length : Int) > (1048576 : Int) - (s.size : Int)
    · rw [if_pos h2, if_pos (by omega)]; exact .inl rfl
    · rw [if_neg h2, if_neg (by omega)]; exact .inr ⟨_, rfl, by omega, by omega, by omega⟩
theorem toItem1 (s : ByteArray) (n m : Int) (l : List Int) (hl : l.length ≤ 1048576) (k : Nat) (hk : 1048576 < k) : laws_toItem.f k s n m l = some (s, n, m, l) := by
  unfold laws_toItem.f
  rw [toByteS l (by omega) k (by omega)]; rfl
theorem eqItem1 (s : ByteArray) (n m : Int) (l : List Int) (hl : l.length ≤ 1048576) (k : Nat) (hk : 1048576 < k) : laws_eqItem.f k s n m l s n m l = some true := by
  unfold laws_eqItem.f
  rw [if_pos rfl, if_pos rfl, if_pos rfl, eqByteS_same l (by omega) k (by omega)]; rfl
theorem szLine1 (q : Int) (s : ByteArray) (n m : Int) (l : List Int) (hs : s.size ≤ maxLen) (hl : l.length ≤ maxLen) :
    laws_szLine.f q s n m l 1048576 = some (-1) ∨ ∃ r, laws_szLine.f q s n m l 1048576 = some r ∧ ¬ r < 0 ∧ s.size ≤ 1048576 ∧ l.length ≤ 1048576 := szItem1 s n m l hs hl
theorem toLine1 (q : Int) (s : ByteArray) (n m : Int) (l : List Int) (hl : l.length ≤ 1048576) (k : Nat) (hk : 1048576 < k) : laws_toLine.f k q s n m l = some (q, s, n, m, l) := by
  unfold laws_toLine.f
  rw [toByteS l (by omega) k (by omega)]; rfl
theorem eqLine1 (q : Int) (s : ByteArray) (n m : Int) (l : List Int) (hl : l.length ≤ 1048576) (k : Nat) (hk : 1048576 < k) : laws_eqLine.f k q s n m l q s n m l = some true := by
  unfold laws_eqLine.f
  rw [if_pos rfl, if_pos rfl, if_pos rfl, if_pos rfl, eqByteS_same l (by omega) k (by omega)]; rfl
end Go.Proofs.Ytlalkldjpniakaa.B
