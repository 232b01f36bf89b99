/- What the laws' own helpers over letters compute: sizes, copies, comparisons; for lists of at most 2^40 bytes (sizes: of any length). -/
import Derived.Test.YthlhilfjbjamhaaLawBytes
import Derived.Test.YthlhilfjbjamhaaBits
import Derived.Test.YthlhilfjbjamhaaPx40
import Derived.Test.YthlhilfjbjamhaaPx41
import Derived.Test.YthlhilfjbjamhaaPx43
import Derived.Test.YthlhilfjbjamhaaPx45
namespace Go.Proofs.Ythlhilfjbjamhaa.B
open Go.RowKit Go.Proofs.Ythlhilfjbjamhaa.P Go.Proofs.YthlhilfjbjamhaaW.PrintWords Go.Proofs.YthlhilfjbjamhaaW.PrintLast Go.Proofs.YthlhilfjbjamhaaW.PrintMore
theorem szByteS (l : List Int) (a : Int) (hl : l.length ≤ maxLen) (h0 : 0 ≤ a) (h1 : a ≤ 1048576) : laws_szByteS.f l a = some (if (l.length : Int) > a then -1 else a - l.length) := by
  unfold laws_szByteS.f
  unfold maxLen at hl
  rw [wrap_eq _ (by omega) (by omega)]
  by_cases h : (l.length : Int) > a
  · rw [if_pos (by omega), if_pos h]
  · rw [if_neg (by omega), if_neg h]
theorem szLetter (e : Int) (l m : List Int) (hl : l.length ≤ maxLen) (hm : m.length ≤ maxLen) : (laws_szLetter.f e l m 1048576 = some (-1)) ∨ (laws_szLetter.f e l m 1048576 = some (1048576 - (l.length : Int) - (m.length : Int)) ∧ (l.length : Int) + (m.length : Int) ≤ 1048576) := by
  unfold laws_szLetter.f
  rw [szByteS l _ hl (by omega) (by omega)]
  simp only [Option.bind_some]
  by_cases h : (l.length : Int) > 1048576
  · rw [if_pos h]; left; rfl
  · rw [if_neg h, if_neg (by omega), szByteS m _ hm (by omega) (by omega)]
    simp only [Option.bind_some]
    by_cases h2 : (m.length : Int) > 1048576 - (l.length : Int)
    · rw [if_pos h2]; left; rfl
    · rw [if_neg h2, if_neg (by omega)]; right; exact ⟨rfl, by omega⟩
theorem toLetter (e : Int) (l m : List Int) (hl : l.length ≤ 1099511627776) (hm : m.length ≤ 1099511627776) (k : Nat) (hk : l.length < k) (hk2 : m.length < k) : laws_toLetter.f k e l m = some (e, l, m) := by
  unfold laws_toLetter.f
  simp (disch := omega) only [toByteS, Option.bind_some]
theorem eqLetter_same (e : Int) (l m : List Int) (hl : l.length ≤ 1099511627776) (hm : m.length ≤ 1099511627776) (k : Nat) (hk : l.length < k) (hk2 : m.length < k) : laws_eqLetter.f k e l m e l m = some true := by
  unfold laws_eqLetter.f
  simp (disch := omega) only [eqByteS_same, Option.bind_some, if_true]
end Go.Proofs.Ythlhilfjbjamhaa.B
