import Derived.Test.Ytlalkldjpniakaai22
import Derived.Test.Ytlalkldjpniakaai24
import Derived.Test.Ytlalkldjpniakaai27
/- LineOk, by the program and by the reference: one answer; for lines whose lists are of at most 2^40 bytes. -/
namespace Go.Proofs.Ytlalkldjpniakaa.B
open Go.RowKit Go.Proofs.Ytlalkldjpniakaa.P Go.Proofs.YtlalkldjpniakaaW.PrintWords Go.Proofs.YtlalkldjpniakaaW.PrintLast Go.Proofs.YtlalkldjpniakaaW.PrintMore
theorem lineOk (q : Int) (s : ByteArray) (n m : Int) (l : List Int) (hs : s.size ≤ 1099511627776) (hl : l.length ≤ 1099511627776) : ∃ b : Bool, ∀ k, s.size + 3 < k → spec_LineOk.f k q s n m l = some b ∧ impl_LineOk.f k q s n m l = some b := by
  obtain ⟨b1, h1⟩ := itemOk s n m l hs
  obtain ⟨b2, h2⟩ := route s hs
  by_cases c1 : q = 1
  · refine ⟨b1, fun k hk => ⟨?_, ?_⟩⟩
    · unfold spec_LineOk.f spec_l14Item.f
      rw [if_pos c1, Option.bind_some, if_pos (by simp; omega), Option.bind_some]
      simp only [List.nil_append]
      rw [(h1 k hk).1]; rfl
    · unfold impl_LineOk.f impl_itemOf.f slices_Clone_byte_byte.f
      rw [if_pos c1, if_pos (by omega), Option.bind_some, Option.bind_some, (h1 k hk).2]; rfl
  · by_cases c2 : q = 2
    · refine ⟨if b2 = true then (if n = 0 then (if m = 0 then ((l.length : Int) == 0) else false) else false) else false, fun k hk => ⟨?_, ?_⟩⟩
      · unfold spec_LineOk.f
        rw [if_neg c1, if_pos c2, (h2 k hk).1, Option.bind_some]
        split <;> (try split) <;> (try split) <;> rfl
      · unfold impl_LineOk.f
        rw [if_neg c1, if_pos c2, (h2 k hk).2, Option.bind_some]
        split <;> (try split) <;> (try split) <;> rfl
    · by_cases c3 : q = 3
      · refine ⟨if s.toList = [] then (if n = 0 then (if decide (0 ≤ m ∧ m ≤ 100000) = true then ((l.length : Int) == 0) else false) else false) else false, fun k hk => ⟨?_, ?_⟩⟩
        · unfold spec_LineOk.f
          rw [if_neg c1, if_neg c2, if_pos c3, specIn]
          simp only [Option.bind_some]
          split <;> (try split) <;> (try split) <;> rfl
        · unfold impl_LineOk.f
          rw [if_neg c1, if_neg c2, if_pos c3, implIn, Option.bind_some]
          by_cases d : decide (0 ≤ m ∧ m ≤ 100000) = true
          · rw [if_pos d, if_pos d]
            split <;> (try split) <;> rfl
          · rw [if_neg d, if_neg d]
            split <;> (try split) <;> rfl
      · refine ⟨false, fun k hk => ⟨?_, ?_⟩⟩
        · unfold spec_LineOk.f; rw [if_neg c1, if_neg c2, if_neg c3]
        · unfold impl_LineOk.f; rw [if_neg c1, if_neg c2, if_neg c3]
end Go.Proofs.Ytlalkldjpniakaa.B
