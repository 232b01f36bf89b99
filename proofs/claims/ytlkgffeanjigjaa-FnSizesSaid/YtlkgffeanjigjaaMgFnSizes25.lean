import Derived.Test.YtlkgffeanjigjaaMgFnSizes21
import Derived.Test.YtlkgffeanjigjaaMgFnSizes23
import Derived.Test.YtlkgffeanjigjaaMgFnSizes24
/- FnSizes: of every note, what is drawn out of it is padded alike by both texts, and comes back; the size is as said. -/
namespace Go.Proofs.Ytlkgffeanjigjaa.B
open Go.RowKit Go.Proofs.Ytlkgffeanjigjaa.P Go.Proofs.YtlkgffeanjigjaaW.PrintWords Go.Proofs.YtlkgffeanjigjaaW.PrintLast Go.Proofs.YtlkgffeanjigjaaW.PrintMore
theorem lowL_bytes : ∀ (m : Nat) (n : Int), ∀ x ∈ lowL m n, 0 ≤ x ∧ x < 256
  | 0, n, x, h => by simp [lowL] at h
  | m + 1, n, x, h => by
    rcases List.mem_cons.1 h with h | h
    · omega
    · exact lowL_bytes m _ x h
theorem leL_bytes (n m : Int) : ∀ x ∈ leL n m, 0 ≤ x ∧ x < 256 := by
  unfold leL; split
  · exact lowL_bytes _ _
  · simp
theorem rep_bytes (n : Nat) : ∀ x ∈ List.replicate n (0 : Int), 0 ≤ x ∧ x < 256 := by
  intro x hx; rw [List.eq_of_mem_replicate hx]; omega
theorem app_bytes {a b : List Int} (ha : ∀ x ∈ a, 0 ≤ x ∧ x < 256) (hb : ∀ x ∈ b, 0 ≤ x ∧ x < 256) : ∀ x ∈ a ++ b, 0 ≤ x ∧ x < 256 := by
  intro x hx; rcases List.mem_append.1 hx with h | h
  · exact ha x h
  · exact hb x h
theorem paddedL_bytes (l : List Int) (h : ∀ x ∈ l, 0 ≤ x ∧ x < 256) : ∀ x ∈ paddedL l, 0 ≤ x ∧ x < 256 := by
  have hb : ∀ x ∈ paddedBody l, 0 ≤ x ∧ x < 256 := app_bytes (fun x hx => leL_bytes _ _ x (List.mem_reverse.1 hx)) h
  unfold paddedL; split
  · simp
  · split <;> exact app_bytes hb (rep_bytes _)
theorem xor_u8_bytes (x y : Int) : 0 ≤ Go.bits .xor .u8 x y ∧ Go.bits .xor .u8 x y < 256 := by
  show 0 ≤ IntKind.u8.wrap _ ∧ IntKind.u8.wrap _ < 256
  rw [IntKind.wrap_u8]; omega
/-- What is padded comes back. -/
theorem unpad_pad (l : List Int) (hl : ¬ (l.length : Int) > 200) : unpaddedL (paddedL l) = (l, true) := by
  have hb : paddedBody l = [(l.length : Int) / 256 % 256, (l.length : Int) % 256] ++ l := by
    unfold paddedBody leL; rw [if_pos (by omega)]; rfl
  obtain ⟨z, hz⟩ : ∃ z : List Int, paddedL l = (l.length : Int) / 256 % 256 :: (l.length : Int) % 256 :: (l ++ z) := by
    unfold paddedL; rw [if_neg hl, hb]
    split
    · exact ⟨_, rfl⟩
    · exact ⟨_, rfl⟩
  have hlen : (paddedL l).length = l.length + z.length + 2 := by rw [hz]; simp
  have r0 : rd (paddedL l) 0 = 0 := by rw [hz]; show (l.length : Int) / 256 % 256 = 0; omega
  have r1 : rd (paddedL l) 1 = l.length := by rw [hz]; show (l.length : Int) % 256 = l.length; omega
  have hi : innerL (paddedL l) = l := by
    unfold innerL; rw [r0, r1, hz, show ((2 : Int) + (0 * 256 + (l.length : Int))).toNat = l.length + 2 from by omega]
    simp
  unfold unpaddedL
  rw [if_neg (by omega), r0, r1, if_neg (by omega), hi, sameL_same, if_pos rfl]
theorem paddedL_sizes (l : List Int) (hl : ¬ (l.length : Int) > 200) : (paddedL l).length % 32 = 0 ∧ l.length + 2 ≤ (paddedL l).length ∧ (paddedL l).length ≤ l.length + 98 := by
  have hb := paddedBody_length l hl
  unfold paddedL; rw [if_neg hl]
  split
  · rw [List.length_append, List.length_replicate]; omega
  · rw [List.length_append, List.length_replicate]; omega
theorem noteD (d : List Int) (p s : Int) (hd : d.length ≤ 1099511627776) (hp : 0 ≤ p) (k : Nat) (hk : 100001 < k) : ∃ r p' s', spec_l10DrawNote.f k d p s = some (r, p', s') ∧ (∀ x ∈ r, 0 ≤ x ∧ x < 256) ∧ r.length ≤ 300 ∧ 0 ≤ p' := by
  obtain ⟨v, p1, s1, e1, h0, h1, hp1⟩ := belowD d p s 20 hd hp
  unfold spec_l10DrawNote.f
  rw [e1, Option.bind_some]
  simp only []
  by_cases c0 : v = 0
  · obtain ⟨v2, p2, s2, e2, a2, b2, hp2⟩ := belowD d p1 s1 2 hd hp1
    have b2 := b2 (by omega)
    rw [if_pos c0, e2, Option.bind_some]
    simp only []
    rw [wrap_eq (200 + v2) (by omega) (by omega), if_pos (by omega), if_pos (by omega)]
    exact ⟨_, _, _, rfl, rep_bytes _, by rw [List.length_replicate]; omega, hp2⟩
  · rw [if_neg c0]
    by_cases c1 : v = 1
    · obtain ⟨v2, p2, s2, e2, a2, b2, hp2⟩ := belowD d p1 s1 5 hd hp1
      have b2 := b2 (by omega)
      rw [if_pos c1, e2, Option.bind_some]
      simp only []
      rw [wrap_eq (92 + v2) (by omega) (by omega), if_pos (by omega), if_pos (by omega)]
      exact ⟨_, _, _, rfl, rep_bytes _, by rw [List.length_replicate]; omega, hp2⟩
    · obtain ⟨r, p2, s2, e2, w2, l2, hp2⟩ := bytesD d p1 s1 40 hd hp1 (by omega) (by omega) k hk
      rw [if_neg c1, e2, Option.bind_some]
      exact ⟨r, p2, s2, rfl, w2, by omega, hp2⟩
theorem drawUnpadded (d : List Int) (hd : d.length ≤ 1099511627776) (k : Nat) (hk : d.length + 100001 < k) : ∃ r, spec_DrawUnpadded.f k d = some r ∧ (∀ x ∈ r, 0 ≤ x ∧ x < 256) ∧ r.length ≤ 400 := by
  obtain ⟨s0, n0⟩ := newD d k hd (by omega)
  obtain ⟨r1, p1, s1, e1, w1, l1, hp1⟩ := noteD d 0 s0 hd (by omega) k (by omega)
  have wp := paddedL_bytes r1 w1
  have lp := paddedL_length r1
  obtain ⟨v2, p2, s2, e2, a2, b2, hp2⟩ := belowD d p1 s1 6 hd hp1
  unfold spec_DrawUnpadded.f
  rw [n0, Option.bind_some, e1, Option.bind_some, specPadded _ _ (by omega), Option.bind_some, e2, Option.bind_some]
  simp only []
  by_cases c0 : v2 = 0
  · obtain ⟨v3, p3, s3, e3, a3, b3, hp3⟩ := belowD d p2 s2 ((paddedL r1).length + 1) hd hp2
    have b3 := b3 (by omega)
    rw [if_pos c0, wrap_eq _ (by omega) (by omega), e3, Option.bind_some, if_pos (by omega), if_pos (by omega)]
    exact ⟨_, rfl, fun x hx => wp x (List.mem_of_mem_take hx), by rw [List.length_take]; omega⟩
  · rw [if_neg c0]
    by_cases c1 : v2 = 1
    · rw [if_pos c1]
      by_cases c : ((paddedL r1).length : Int) > 0
      · rw [if_pos c, wrap_eq _ (by omega) (by omega), if_pos (by omega), if_pos (by omega)]
        refine ⟨_, rfl, fun x hx => ?_, by rw [List.length_set]; omega⟩
        rcases List.mem_or_eq_of_mem_set hx with h | h
        · exact wp x h
        · rw [h]; exact xor_u8_bytes _ _
      · rw [if_neg c]; exact ⟨_, rfl, wp, by omega⟩
    · rw [if_neg c1]
      by_cases c2 : v2 = 2
      · rw [if_pos c2, if_pos (by omega)]
        exact ⟨_, rfl, app_bytes wp (rep_bytes _), by rw [List.length_append, List.length_replicate]; omega⟩
      · rw [if_neg c2]; exact ⟨_, rfl, wp, by omega⟩
theorem unpaddedL_ok (l : List Int) (h : (unpaddedL l).2 = true) : sameL (paddedL (unpaddedL l).1) l = true := by
  unfold unpaddedL at h ⊢
  by_cases c1 : (l.length : Int) < 2
  · rw [if_pos c1] at h; cases h
  · rw [if_neg c1] at h ⊢
    by_cases c2 : rd l 0 * 256 + rd l 1 > (l.length : Int) - 2
    · rw [if_pos c2] at h; cases h
    · rw [if_neg c2] at h ⊢
      by_cases c3 : sameL (paddedL (innerL l)) l = true
      · rw [if_pos c3]; exact c3
      · rw [if_neg c3] at h; cases h
end Go.Proofs.Ytlkgffeanjigjaa.B
namespace Go.Proofs.Ytlkgffeanjigjaa.Pure
open Go.RowKit Go.Proofs.Ytlkgffeanjigjaa.P Go.Proofs.Ytlkgffeanjigjaa.B Go.Proofs.YtlkgffeanjigjaaW.PrintWords Go.Proofs.YtlkgffeanjigjaaW.PrintLast Go.Proofs.YtlkgffeanjigjaaW.PrintMore
theorem sizesEnd (n : List Int) (hw : ∀ x ∈ n, 0 ≤ x ∧ x < 256) (k : Nat) (hk : 300 < k) : laws_FnSizes.j0 (k + 1) n (paddedL n) false = some true := by
  rw [laws_FnSizes.j0, if_neg (by decide)]
  by_cases c : (n.length : Int) > 200
  · rw [if_pos c]; unfold paddedL; rw [if_pos c]; rfl
  · obtain ⟨z1, z2, z3⟩ := paddedL_sizes n c
    have hl := paddedL_length n
    rw [if_neg c, implUnpadded _ (paddedL_bytes n hw) (by omega) _ (by omega), unpad_pad n c, Option.bind_some]
    simp only [if_true, implSame, sameL_same, Option.bind_some]
    rw [if_pos (by omega), wrap_eq ((n.length : Int) + 2) (by omega) (by omega), if_pos (by omega), wrap_eq _ (by omega) (by omega)]
    congr 1; apply decide_eq_true; omega
theorem FnSizes : laws_FnSizes.Pure := by
  intro d _ _ _
  refine ⟨d.length + 200000, ?_⟩
  unfold laws_FnSizes.f laws_big.f
  simp only [Option.bind_some, decide_eq_true_eq]
  by_cases h0 : (d.length : Int) > 1048576
  · rw [if_pos h0]
  · rw [if_neg h0]
    obtain ⟨s0, n0⟩ := newD d (d.length + 200000) (by omega) (by omega)
    obtain ⟨n, p1, s1, e1, w1, l1, _⟩ := noteD d 0 s0 (by omega) (by omega) (d.length + 200000) (by omega)
    obtain ⟨u, e2, w2, l2⟩ := drawUnpadded d (by omega) (d.length + 200000) (by omega)
    have d1 : spec_DrawPadded.f (d.length + 200000) d = some n := by unfold spec_DrawPadded.f; rw [n0, Option.bind_some, e1, Option.bind_some]
    have fin := sizesEnd n w1 (d.length + 199999) (by omega)
    simp (disch := omega) only [d1, e2, Option.bind_some, implPadded, specPadded, implUnpadded u w2, specUnpadded u w2, implSame, sameL_same, if_true, bne_self_eq_false, Bool.false_eq_true, if_false]
    by_cases c : (unpaddedL u).2 = true
    · rw [if_pos c, unpaddedL_ok u c]; exact fin
    · rw [if_neg c]; exact fin
end Go.Proofs.Ytlkgffeanjigjaa.Pure
