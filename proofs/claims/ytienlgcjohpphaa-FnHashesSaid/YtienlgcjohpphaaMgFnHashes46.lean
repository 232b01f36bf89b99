import Derived.Test.YtienlgcjohpphaaMgFnHashes40
import Derived.Test.YtienlgcjohpphaaMgFnHashes41
import Derived.Test.YtienlgcjohpphaaMgFnHashes45
/- FnHashes: of every note, what is drawn out of it is hashed alike by both texts, block by block. -/
namespace Go.Proofs.Ytienlgcjohpphaa.B
open Go.RowKit Go.Proofs.Ytienlgcjohpphaa.P Go.Proofs.YtienlgcjohpphaaW.PrintWords Go.Proofs.YtienlgcjohpphaaW.PrintLast Go.Proofs.YtienlgcjohpphaaW.PrintMore
theorem rep_b (n : Nat) : ∀ x ∈ List.replicate n (0 : Int), 0 ≤ x ∧ x < 256 := by
  intro x hx; rw [List.eq_of_mem_replicate hx]; omega
theorem longJ (d : List Int) (b : Bool) (p s : Int) (hd : d.length ≤ 1099511627776) (hp : 0 ≤ p) (k : Nat) (hk : 100001 < k) : ∃ r p' s', spec_l3DrawLong.j0 (k + 1) b d p s = some (r, p', s') ∧ (∀ x ∈ r, 0 ≤ x ∧ x < 256) ∧ r.length ≤ 5000 ∧ 0 ≤ p' := by
  rw [spec_l3DrawLong.j0]
  by_cases c : b = true
  · obtain ⟨v2, p2, s2, e2, a2, b2, hp2⟩ := belowD d p s 14 hd hp
    have b2 := b2 (by omega)
    rw [if_pos c, e2, Option.bind_some]
    simp only []
    rw [wrap_eq (53 + v2) (by omega) (by omega), if_pos (by omega), if_pos (by omega)]
    exact ⟨_, _, _, rfl, rep_b _, by rw [List.length_replicate]; omega, hp2⟩
  · obtain ⟨r, p2, s2, e2, w2, l2, hp2⟩ := bytesD d p s 40 hd hp (by omega) (by omega) k hk
    rw [if_neg c, e2, Option.bind_some]
    exact ⟨r, p2, s2, rfl, w2, by omega, hp2⟩
theorem longD (d : List Int) (p s : Int) (hd : d.length ≤ 1099511627776) (hp : 0 ≤ p) (k : Nat) (hk : 100002 < k) : ∃ r p' s', spec_l3DrawLong.f k d p s = some (r, p', s') ∧ (∀ x ∈ r, 0 ≤ x ∧ x < 256) ∧ r.length ≤ 5000 ∧ 0 ≤ p' := by
  obtain ⟨k, rfl⟩ : ∃ m, k = m + 1 := ⟨k - 1, by omega⟩
  obtain ⟨v, p1, s1, e1, h0, h1, hp1⟩ := belowD d p s 40 hd hp
  unfold spec_l3DrawLong.f
  rw [e1, Option.bind_some]
  simp only []
  by_cases c0 : v = 0
  · obtain ⟨v2, p2, s2, e2, a2, b2, hp2⟩ := belowD d p1 s1 2 hd hp1
    have b2 := b2 (by omega)
    rw [if_pos c0, e2, Option.bind_some]
    simp only []
    rw [wrap_eq (4000 + v2) (by omega) (by omega), if_pos (by omega), if_pos (by omega)]
    exact ⟨_, _, _, rfl, rep_b _, by rw [List.length_replicate]; omega, hp2⟩
  · rw [if_neg c0]
    split
    · exact longJ d _ p1 s1 hd hp1 k (by omega)
    · split
      · exact longJ d _ p1 s1 hd hp1 k (by omega)
      · exact longJ d _ p1 s1 hd hp1 k (by omega)
theorem justD_l0 (d : List Int) (hd : d.length ≤ 1099511627776) : ∀ (n : Nat) (acc : List Int) (m i p s : Int) (k : Nat), 0 ≤ i → (m - i).toNat = n → m ≤ 1000000 → acc.length + n ≤ 10000000 → (∀ x ∈ acc, 0 ≤ x ∧ x < 256) → 0 ≤ p → n < k →
    ∃ r p' s', spec_l1DrawJust.l0 k m acc i d p s = some (r, p', s') ∧ (∀ x ∈ r, 0 ≤ x ∧ x < 256) ∧ r.length = acc.length + n ∧ 0 ≤ p'
  | 0, acc, m, i, p, s, k, hi, hn, hm, hc, hw, hp, hk => by
    obtain ⟨k, rfl⟩ : ∃ m, k = m + 1 := ⟨k - 1, by omega⟩
    simp only [spec_l1DrawJust.l0]; rw [if_neg (by omega)]; exact ⟨_, _, _, rfl, hw, rfl, hp⟩
  | n + 1, acc, m, i, p, s, k, hi, hn, hm, hc, hw, hp, hk => by
    obtain ⟨k, rfl⟩ : ∃ m, k = m + 1 := ⟨k - 1, by omega⟩
    obtain ⟨v, p', s', e, h0, h1, hp'⟩ := belowD d p s 256 hd hp
    simp only [spec_l1DrawJust.l0]; rw [if_pos (by omega), e, Option.bind_some, if_pos (by omega), wrap_eq (i + 1) (by omega) (by omega)]
    obtain ⟨r, p2, s2, h, hr, hl, hp2⟩ := justD_l0 d hd n (acc ++ [v % 256]) m (i + 1) p' s' k (by omega) (by omega) hm (by simp; omega) (by intro x hx; rcases List.mem_append.1 hx with h | h; exact hw x h; simp at h; omega) hp' (by omega)
    exact ⟨r, p2, s2, h, hr, by rw [hl]; simp; omega, hp2⟩
theorem justD (d : List Int) (p s a : Int) (hd : d.length ≤ 1099511627776) (hp : 0 ≤ p) (hb : a ≤ 100000) (k : Nat) (hk : 100001 < k) : ∃ r p' s', spec_l1DrawJust.f k d p s a = some (r, p', s') ∧ (∀ x ∈ r, 0 ≤ x ∧ x < 256) ∧ r.length ≤ a.toNat ∧ 0 ≤ p' := by
  obtain ⟨r, p2, s2, h, hr, hl, hp2⟩ := justD_l0 d hd a.toNat [] a 0 p s k (by omega) (by omega) (by omega) (by simp; omega) (by simp) hp (by omega)
  exact ⟨r, p2, s2, h, hr, by rw [hl]; simp, hp2⟩
theorem nearD (d : List Int) (p s a : Int) (hd : d.length ≤ 1099511627776) (hp : 0 ≤ p) (ha : 0 ≤ a) (hb : a ≤ 10000) (k : Nat) (hk : 100001 < k) : ∃ r p' s', spec_l1DrawNear.f k d p s a = some (r, p', s') ∧ (∀ x ∈ r, 0 ≤ x ∧ x < 256) ∧ r.length ≤ 10001 ∧ 0 ≤ p' := by
  obtain ⟨v, p1, s1, e1, h0, h1, hp1⟩ := belowD d p s 16 hd hp
  unfold spec_l1DrawNear.f
  rw [e1, Option.bind_some]
  simp only []
  by_cases c0 : v = 0
  · obtain ⟨r, p2, s2, e2, w2, l2, hp2⟩ := justD d p1 s1 (a + 1) hd hp1 (by omega) k hk
    rw [if_pos c0, wrap_eq (a + 1) (by omega) (by omega), e2, Option.bind_some]
    exact ⟨r, p2, s2, rfl, w2, by omega, hp2⟩
  · rw [if_neg c0]
    by_cases c1 : v = 1
    · rw [if_pos c1]
      obtain ⟨m, em, hm⟩ : ∃ m, spec_l1Max.f (wrap64 (a - 1)) 0 = some m ∧ m ≤ 10000 := by
        unfold spec_l1Max.f
        rw [wrap_eq (a - 1) (by omega) (by omega)]
        split
        · exact ⟨_, rfl, by omega⟩
        · exact ⟨_, rfl, by omega⟩
      obtain ⟨r, p2, s2, e2, w2, l2, hp2⟩ := justD d p1 s1 m hd hp1 (by omega) k hk
      rw [em, Option.bind_some, e2, Option.bind_some]
      exact ⟨r, p2, s2, rfl, w2, by omega, hp2⟩
    · rw [if_neg c1]
      by_cases c2 : v = 2
      · rw [if_pos c2]; exact ⟨[], p1, s1, rfl, by simp, by simp, hp1⟩
      · obtain ⟨r, p2, s2, e2, w2, l2, hp2⟩ := justD d p1 s1 a hd hp1 (by omega) k hk
        rw [if_neg c2, e2, Option.bind_some]
        exact ⟨r, p2, s2, rfl, w2, by omega, hp2⟩
theorem drawHB_j (x d : List Int) (p s : Int) (hx : x.length = 8) (hd : d.length ≤ 1099511627776) (hp : 0 ≤ p) (k : Nat) (hk : 100001 < k) : ∃ a b, spec_DrawHashBlock.j0 (k + 1) x d p s = some (a, b) ∧ (∀ y ∈ b, 0 ≤ y ∧ y < 256) := by
  obtain ⟨v, p1, s1, e1, hp1⟩ := onceD d p s 12 hd hp
  obtain ⟨r, p2, s2, e2, w2, _, _⟩ := nearD d p1 s1 64 hd hp1 (by omega) (by omega) k hk
  rw [spec_DrawHashBlock.j0, e1, Option.bind_some]
  simp only []
  by_cases c : v = true
  · rw [if_pos c, if_pos (by omega), e2, Option.bind_some]; exact ⟨_, _, rfl, w2⟩
  · rw [if_neg c, e2, Option.bind_some]; exact ⟨_, _, rfl, w2⟩
theorem drawHB (d : List Int) (hd : d.length ≤ 1099511627776) (k : Nat) (hk : d.length + 100002 < k) : ∃ a b, spec_DrawHashBlock.f k d = some (a, b) ∧ (∀ y ∈ b, 0 ≤ y ∧ y < 256) := by
  obtain ⟨s0, n0⟩ := newD d k hd (by omega)
  obtain ⟨v, p1, s1, e1, hp1⟩ := onceD d 0 s0 4 hd (by omega)
  obtain ⟨k, rfl⟩ : ∃ m, k = m + 1 := ⟨k - 1, by omega⟩
  unfold spec_DrawHashBlock.f
  rw [n0, Option.bind_some, show spec_HashStart.f = some startL from rfl, Option.bind_some, e1, Option.bind_some]
  simp only []
  by_cases c : v = true
  · obtain ⟨i, p2, s2, e2, h0, h1, hp2⟩ := belowD d p1 s1 8 hd hp1
    have h1 := h1 (by omega)
    obtain ⟨x, p3, s3, e3, _, hp3⟩ := numD d p2 s2 hd hp2
    rw [if_pos c, e2, Option.bind_some, e3, Option.bind_some, if_pos h0, if_pos (show i < (startL.length : Int) from h1)]
    exact drawHB_j _ d p3 s3 (by rw [List.length_set]; rfl) hd hp3 k (by omega)
  · rw [if_neg c]; exact drawHB_j _ d p1 s1 rfl hd hp1 k (by omega)
theorem sameInts_l0 : ∀ (rest pre : List Int) (k : Nat), pre.length + rest.length ≤ 1099511627776 → rest.length < k → laws_sameInts.l0 k (pre ++ rest) (pre ++ rest) (pre.length : Int) = some true
  | [], pre, k, hb, hk => by
    obtain ⟨k, rfl⟩ : ∃ m, k = m + 1 := ⟨k - 1, by omega⟩
    simp only [laws_sameInts.l0]; rw [if_neg (nlt_end pre)]
  | x :: rest, pre, k, hb, hk => by
    obtain ⟨k, rfl⟩ : ∃ m, k = m + 1 := ⟨k - 1, by omega⟩
    simp only [List.length_cons] at hb hk
    simp only [laws_sameInts.l0, if_true]
    rw [if_pos (lt_mid pre x rest), if_pos (pre_nonneg pre), if_pos (lt_mid pre x rest), wrap_step pre x (by omega), snoc_app pre x rest]
    exact sameInts_l0 rest (pre ++ [x]) k (by simp; omega) (by omega)
theorem sameInts (l : List Int) (hn : l.length ≤ 1099511627776) (k : Nat) (hk : l.length < k) : laws_sameInts.f k l l = some true := by
  unfold laws_sameInts.f
  rw [if_pos rfl]
  exact sameInts_l0 l [] k (by simpa using hn) hk
theorem hashPadL_sizes (l : List Int) (h : ¬ (l.length : Int) > 4000) : l.length + 9 ≤ (hashPadL l).length ∧ (hashPadL l).take l.length = l := by
  have h8 : (leL (wrap64 (8 * (l.length : Int))) 8).length = 8 := by
    unfold leL; rw [wrap_eq _ (by omega) (by omega), if_pos (by omega), lowL_length]; rfl
  unfold hashPadL; rw [if_neg h]
  constructor
  · simp only [List.length_append, List.length_reverse, List.length_replicate, List.length_cons, List.length_nil, h8]; omega
  · rw [List.append_assoc, List.append_assoc, List.take_left']; rfl
theorem lawLoop (h : List Int) (hh : ¬ (h.length : Int) > 4000) : ∀ (n : Nat) (rest pre s : List Int) (k : Nat), hashPadL h = pre ++ rest → rest.length = 64 * n → s.length = 8 → blocksL n s rest = stateL h → n + 300 < k →
    laws_FnHashes.l0 k h (hashL h) (pre ++ rest) s (pre.length : Int) = some true
  | 0, rest, pre, s, k, he, hr, hs, hb, hk => by
    obtain ⟨k, rfl⟩ : ∃ m, k = m + 1 := ⟨k - 1, by omega⟩
    have z1 := hashPadL_sizes h hh
    have z2 := hashPadL_div h
    have z3 := hashL_length h hh
    have hl : hashL h = wordBytesL true s := by unfold hashL; rw [if_neg hh, ← hb]; rfl
    simp only [laws_FnHashes.l0]
    rw [if_neg (by rw [List.length_append]; omega), ← he, if_pos (by omega), wrap_eq _ (by omega) (by omega), if_pos (by omega), if_pos (by omega), if_pos (by omega), Int.toNat_natCast, z1.2, implSame, Option.bind_some, sameL_same, if_pos rfl, implWordBytes s true (by omega) k (by omega), Option.bind_some, ← hl, implSame, Option.bind_some, sameL_same, if_pos rfl, z3]
    rfl
  | n + 1, rest, pre, s, k, he, hr, hs, hb, hk => by
    obtain ⟨k, rfl⟩ : ∃ m, k = m + 1 := ⟨k - 1, by omega⟩
    have hp := hashPadL_length h
    have hpl : pre.length + rest.length ≤ 4100 := by rw [he, List.length_append] at hp; exact hp
    have h64 : (rest.take 64).length = 64 := by rw [List.length_take]; omega
    have ih := lawLoop h hh n (rest.drop 64) (pre ++ rest.take 64) (hashBlockL s (rest.take 64)) k (by rw [List.append_assoc, List.take_append_drop]; exact he) (by rw [List.length_drop]; omega) (hashBlockL_eight s _ hs h64) hb (by omega)
    rw [List.append_assoc, List.take_append_drop] at ih
    have e2 : wrap64 ((pre.length : Int) + 64) = pre.length + 64 := wrap_eq _ (by omega) (by omega)
    simp only [laws_FnHashes.l0, e2]
    rw [mid64 pre rest _ rfl, implHashBlock s _ k (by omega), Option.bind_some]
    rw [if_pos (by rw [List.length_append]; omega), if_pos (by omega), if_pos (by omega), if_pos (by rw [List.length_append]; omega)]
    rw [show (pre.length : Int) + 64 = ((pre ++ rest.take 64).length : Int) from by rw [List.length_append, h64]; omega]
    exact ih
end Go.Proofs.Ytienlgcjohpphaa.B
namespace Go.Proofs.Ytienlgcjohpphaa.Pure
open Go.RowKit Go.Proofs.Ytienlgcjohpphaa.P Go.Proofs.Ytienlgcjohpphaa.B Go.Proofs.YtienlgcjohpphaaW.PrintWords Go.Proofs.YtienlgcjohpphaaW.PrintLast Go.Proofs.YtienlgcjohpphaaW.PrintMore
theorem hashesEnd (h : List Int) (k : Nat) (hk : 1000 < k) : laws_FnHashes.j0 (k + 1) h (hashL h) (hashPadL h) false = some true := by
  rw [laws_FnHashes.j0, if_neg (by decide)]
  by_cases c : (h.length : Int) > 4000
  · have e1 : hashL h = [] := by unfold hashL; rw [if_pos c]
    have e2 : hashPadL h = [] := by unfold hashPadL; rw [if_pos c]
    rw [if_pos c, e1, e2]; rfl
  · have hp := hashPadL_length h
    have hd := hashPadL_div h
    rw [if_neg c, show impl_HashStart.f = some startL from rfl, Option.bind_some]
    exact lawLoop h c ((hashPadL h).length / 64) (hashPadL h) [] startL k rfl (by omega) rfl rfl (by omega)
theorem FnHashes : laws_FnHashes.Pure := by
  intro d _ _ _
  refine ⟨d.length + 200000, ?_⟩
  unfold laws_FnHashes.f laws_big.f
  simp only [Option.bind_some, decide_eq_true_eq]
  by_cases h0 : (d.length : Int) > 1048576
  · rw [if_pos h0]
  · rw [if_neg h0]
    obtain ⟨s0, n0⟩ := newD d (d.length + 200000) (by omega) (by omega)
    obtain ⟨h, p1, s1, e1, w1, l1, _⟩ := longD d 0 s0 (by omega) (by omega) (d.length + 200000) (by omega)
    obtain ⟨a, b, e2, w2⟩ := drawHB d (by omega) (d.length + 200000) (by omega)
    have d1 : spec_DrawHash.f (d.length + 200000) d = some h := by unfold spec_DrawHash.f; rw [n0, Option.bind_some, e1, Option.bind_some]
    have d2 : spec_DrawHashPad.f (d.length + 200000) d = some h := by unfold spec_DrawHashPad.f; rw [n0, Option.bind_some, e1, Option.bind_some]
    have hl := hashBlockL_length a b
    have fin := hashesEnd h (d.length + 199999) (by omega)
    have g1 := specHash h w1 (d.length + 200000) (by omega)
    have g2 := specHashBlock a b w2 (d.length + 200000) (by omega)
    simp (disch := omega) only [d1, e2, d2, g1, g2, Option.bind_some, implHash, implHashPad, specHashPad, implHashBlock, implSame, sameL_same, if_true, sameInts, Bool.not_true]
    exact fin
end Go.Proofs.Ytienlgcjohpphaa.Pure
