import Derived.Test.Ytienlgcjohpphaake39
/- The parts, one behind the other; for at most 2^47 parts and bytes. -/
namespace Go.Proofs.Ytienlgcjohpphaa.B
open Go.RowKit Go.Proofs.Ytienlgcjohpphaa.P Go.Proofs.YtienlgcjohpphaaW.PrintWords Go.Proofs.YtienlgcjohpphaaW.PrintLast Go.Proofs.YtienlgcjohpphaaW.PrintMore
theorem joined (ls : List (List Int)) (h1 : ls.flatten.length ≤ 140737488355328) (h2 : ls.length ≤ 140737488355328) : impl_joined.f ls = some ls.flatten := by
  unfold impl_joined.f bytes_Join.f
  rw [if_pos ⟨rfl, h1, h2⟩]; rfl
theorem joined2 (a b : List Int) (h : a.length + b.length ≤ 140737488355328) : impl_joined.f [a, b] = some (a ++ b) := by
  rw [joined _ (by simp; omega) (by simp)]; simp
theorem joined3 (a b c : List Int) (h : a.length + b.length + c.length ≤ 140737488355328) : impl_joined.f [a, b, c] = some (a ++ b ++ c) := by
  rw [joined _ (by simp; omega) (by simp)]; simp
theorem joined4 (a b c d : List Int) (h : a.length + b.length + c.length + d.length ≤ 140737488355328) : impl_joined.f [a, b, c, d] = some (a ++ b ++ c ++ d) := by
  rw [joined _ (by simp; omega) (by simp)]; simp
end Go.Proofs.Ytienlgcjohpphaa.B
/- HashPad, by the program and by the reference; for every list. -/
namespace Go.Proofs.Ytienlgcjohpphaa.B
open Go.RowKit Go.Proofs.Ytienlgcjohpphaa.P Go.Proofs.YtienlgcjohpphaaW.PrintWords Go.Proofs.YtienlgcjohpphaaW.PrintLast Go.Proofs.YtienlgcjohpphaaW.PrintMore
def hashPadL (l : List Int) : List Int :=
  if (l.length : Int) > 4000 then [] else (l ++ [128]) ++ List.replicate ((120 - (l ++ [128]).length % 64) % 64) 0 ++ (leL (wrap64 (8 * (l.length : Int))) 8).reverse
theorem hashPadL_length (l : List Int) : (hashPadL l).length ≤ 4100 := by
  have h := leL_length (wrap64 (8 * (l.length : Int))) 8
  unfold hashPadL; split
  · simp
  · simp only [List.length_append, List.length_reverse, List.length_replicate, List.length_cons, List.length_nil]; omega
theorem hashPadL_div (l : List Int) : (hashPadL l).length % 64 = 0 := by
  unfold hashPadL; split
  · simp
  · rename_i hh
    have h : (leL (wrap64 (8 * (l.length : Int))) 8).length = 8 := by
      unfold leL; rw [wrap_eq _ (by omega) (by omega), if_pos (by omega), lowL_length]; rfl
    simp only [List.length_append, List.length_reverse, List.length_replicate, List.length_cons, List.length_nil, h]; omega
theorem specPad_l0 (l : List Int) : ∀ (d : Nat) (acc : List Int) (k : Nat), (acc.length + d) % 64 = 56 → d < 64 → acc.length + d ≤ 4398046511104 → d + 50 < k →
    spec_HashPad.l0 k l acc = some (acc ++ List.replicate d 0 ++ (leL (wrap64 (8 * (l.length : Int))) 8).reverse) := by
  intro d
  induction d with
  | zero =>
    intro acc k hd hd2 hc hk
    obtain ⟨k, rfl⟩ : ∃ m, k = m + 1 := ⟨k - 1, by omega⟩
    have h := leL_length (wrap64 (8 * (l.length : Int))) 8
    simp only [spec_HashPad.l0]; rw [if_pos (by omega), specGreat _ _ _ (by omega), Option.bind_some, if_pos (by rw [List.length_reverse]; omega)]; simp
  | succ d ihd =>
    intro acc k hd hd2 hc hk
    obtain ⟨k, rfl⟩ : ∃ m, k = m + 1 := ⟨k - 1, by omega⟩
    have ih := ihd (acc ++ [0]) k (by simp only [List.length_append, List.length_cons, List.length_nil]; omega) (by omega) (by simp only [List.length_append, List.length_cons, List.length_nil]; omega) (by omega)
    simp only [spec_HashPad.l0]; rw [if_neg (by omega), if_pos (by omega), ih, List.replicate_succ]; simp
theorem implPad_l0 (l : List Int) : ∀ (d : Nat) (acc : List Int) (k : Nat), (acc.length + d) % 64 = 56 → d < 64 → acc.length + d ≤ 4398046511104 → d + 50 < k →
    impl_HashPad.l0 k l acc = some (acc ++ List.replicate d 0 ++ (leL (wrap64 (8 * (l.length : Int))) 8).reverse) := by
  intro d
  induction d with
  | zero =>
    intro acc k hd hd2 hc hk
    obtain ⟨k, rfl⟩ : ∃ m, k = m + 1 := ⟨k - 1, by omega⟩
    have h := leL_length (wrap64 (8 * (l.length : Int))) 8
    simp only [impl_HashPad.l0]; rw [if_pos (by omega), implGreat _ _ _ (by omega), Option.bind_some, if_pos (by rw [List.length_reverse]; omega)]; simp
  | succ d ihd =>
    intro acc k hd hd2 hc hk
    obtain ⟨k, rfl⟩ : ∃ m, k = m + 1 := ⟨k - 1, by omega⟩
    have ih := ihd (acc ++ [0]) k (by simp only [List.length_append, List.length_cons, List.length_nil]; omega) (by omega) (by simp only [List.length_append, List.length_cons, List.length_nil]; omega) (by omega)
    simp only [impl_HashPad.l0]; rw [if_neg (by omega), if_pos (by omega), ih, List.replicate_succ]; simp
theorem specHashPad (l : List Int) (k : Nat) (hk : 130 < k) : spec_HashPad.f k l = some (hashPadL l) := by
  unfold spec_HashPad.f hashPadL
  by_cases h : (l.length : Int) > 4000
  · rw [if_pos h, if_pos h]
  · rw [if_neg h, if_neg h]
    have h := specPad_l0 l ((120 - (l ++ [128]).length % 64) % 64) (l ++ [128]) k (by omega) (by omega) (by simp only [List.length_append, List.length_cons, List.length_nil]; omega) (by omega)
    simp only [Option.bind_some, List.nil_append, List.length_nil]
    rw [if_pos (by omega), if_pos (by omega), h]
theorem implHashPad (l : List Int) (k : Nat) (hk : 130 < k) : impl_HashPad.f k l = some (hashPadL l) := by
  unfold impl_HashPad.f hashPadL
  by_cases h : (l.length : Int) > 4000
  · rw [if_pos h, if_pos h]
  · rw [if_neg h, if_neg h]
    have h := implPad_l0 l ((120 - (l ++ [128]).length % 64) % 64) (l ++ [128]) k (by omega) (by omega) (by simp only [List.length_append, List.length_cons, List.length_nil]; omega) (by omega)
    rw [joined2 _ _ (by simp; omega)]
    simp only [Option.bind_some]
    rw [h]
end Go.Proofs.Ytienlgcjohpphaa.B
/- Hash, by the program and by the reference: one list; for every list of bytes. -/
namespace Go.Proofs.Ytienlgcjohpphaa.B
open Go.RowKit Go.Proofs.Ytienlgcjohpphaa.P Go.Proofs.YtienlgcjohpphaaW.PrintWords Go.Proofs.YtienlgcjohpphaaW.PrintLast Go.Proofs.YtienlgcjohpphaaW.PrintMore
theorem lowL_by : ∀ (m : Nat) (n : Int), ∀ x ∈ lowL m n, 0 ≤ x ∧ x < 256
  | 0, n, x, h => by simp [lowL] at h
  | m + 1, n, x, h => by
    rcases List.mem_cons.1 h with h | h
    · omega
    · exact lowL_by m _ x h
theorem leL_by (n m : Int) : ∀ x ∈ leL n m, 0 ≤ x ∧ x < 256 := by
  unfold leL; split
  · exact lowL_by _ _
  · simp
theorem hashPadL_bytes (l : List Int) (h : ∀ x ∈ l, 0 ≤ x ∧ x < 256) : ∀ x ∈ hashPadL l, 0 ≤ x ∧ x < 256 := by
  unfold hashPadL; split
  · simp
  · intro x hx
    rcases List.mem_append.1 hx with hx | hx
    · rcases List.mem_append.1 hx with hx | hx
      · rcases List.mem_append.1 hx with hx | hx
        · exact h x hx
        · rw [List.mem_singleton.1 hx]; omega
      · rw [List.eq_of_mem_replicate hx]; omega
    · exact leL_by _ _ x (List.mem_reverse.1 hx)
/-- So many blocks, one after the other. -/
def blocksL : Nat → List Int → List Int → List Int
  | 0, s, _ => s
  | n + 1, s, l => blocksL n (hashBlockL s (l.take 64)) (l.drop 64)
theorem hashBlockL_eight (s l : List Int) (hs : s.length = 8) (hl : l.length = 64) : (hashBlockL s l).length = 8 := by
  obtain ⟨a, b, c, d, e, f, g, i, rfl⟩ := eight s hs
  show (if l.length = 64 then _ else ([] : List Int)).length = 8
  rw [if_pos hl, outL_length _ _ (by rw [compL_length]; rfl), compL_length]
theorem blocksL_length : ∀ (n : Nat) (s l : List Int), s.length = 8 → l.length = 64 * n → (blocksL n s l).length = 8
  | 0, s, l, hs, hl => hs
  | n + 1, s, l, hs, hl => blocksL_length n _ _ (hashBlockL_eight s _ hs (by rw [List.length_take]; omega)) (by rw [List.length_drop]; omega)
theorem mid64 (pre rest : List Int) (j : Int) (hj : j = pre.length + 64) : (((pre ++ rest).take j.toNat).drop ((pre.length : Int)).toNat) = rest.take 64 := by
  subst hj
  rw [show ((pre.length : Int) + 64).toNat = pre.length + 64 from by omega, Int.toNat_natCast]
  rw [List.take_append, List.take_of_length_le (by omega), show pre.length + 64 - pre.length = 64 from by omega, List.drop_left]
def startL : List Int := [1779033703, 3144134277, 1013904242, 2773480762, 1359893119, 2600822924, 528734635, 1541459225]
theorem specHash_l0 : ∀ (n : Nat) (rest pre s : List Int) (k : Nat), rest.length = 64 * n → pre.length + rest.length ≤ 100000 → s.length = 8 → (∀ x ∈ rest, 0 ≤ x ∧ x < 256) → n + 300 < k →
    spec_Hash.l0 k (pre ++ rest) s (pre.length : Int) = some (wordBytesL true (blocksL n s rest))
  | 0, rest, pre, s, k, hr, hb, hs, hw, hk => by
    obtain ⟨k, rfl⟩ : ∃ m, k = m + 1 := ⟨k - 1, by omega⟩
    simp only [spec_Hash.l0]
    rw [wrap_eq _ (by omega) (by omega), if_neg (by rw [List.length_append]; omega), specWordBytes s true (by omega) k (by omega)]; rfl
  | n + 1, rest, pre, s, k, hr, hb, hs, hw, hk => by
    obtain ⟨k, rfl⟩ : ∃ m, k = m + 1 := ⟨k - 1, by omega⟩
    have h64 : (rest.take 64).length = 64 := by rw [List.length_take]; omega
    have ih := specHash_l0 n (rest.drop 64) (pre ++ rest.take 64) (hashBlockL s (rest.take 64)) k (by rw [List.length_drop]; omega) (by rw [List.length_append, List.length_drop]; omega) (hashBlockL_eight s _ hs h64) (fun x hx => hw x (List.mem_of_mem_drop hx)) (by omega)
    rw [List.append_assoc, List.take_append_drop] at ih
    have e1 : wrap64 ((pre.length : Int) + 63) = pre.length + 63 := wrap_eq _ (by omega) (by omega)
    have e2 : wrap64 ((pre.length : Int) + 64) = pre.length + 64 := wrap_eq _ (by omega) (by omega)
    simp only [spec_Hash.l0, e1, e2]
    rw [mid64 pre rest _ rfl, specHashBlock s _ (fun x hx => hw x (List.mem_of_mem_take hx)) k (by omega), Option.bind_some]
    rw [if_pos (by rw [List.length_append]; omega), if_pos (by omega), if_pos (by omega), if_pos (by rw [List.length_append]; omega)]
    rw [show (pre.length : Int) + 64 = ((pre ++ rest.take 64).length : Int) from by rw [List.length_append, h64]; omega]
    exact ih
theorem implHash_l0 : ∀ (n : Nat) (rest pre s : List Int) (k : Nat), rest.length = 64 * n → pre.length + rest.length ≤ 100000 → s.length = 8 → n + 300 < k →
    impl_Hash.l0 k s (pre ++ rest) (pre.length : Int) = some (wordBytesL true (blocksL n s rest))
  | 0, rest, pre, s, k, hr, hb, hs, hk => by
    obtain ⟨k, rfl⟩ : ∃ m, k = m + 1 := ⟨k - 1, by omega⟩
    simp only [impl_Hash.l0]
    rw [if_neg (by rw [List.length_append]; omega), implWordBytes s true (by omega) k (by omega)]; rfl
  | n + 1, rest, pre, s, k, hr, hb, hs, hk => by
    obtain ⟨k, rfl⟩ : ∃ m, k = m + 1 := ⟨k - 1, by omega⟩
    have h64 : (rest.take 64).length = 64 := by rw [List.length_take]; omega
    have ih := implHash_l0 n (rest.drop 64) (pre ++ rest.take 64) (hashBlockL s (rest.take 64)) k (by rw [List.length_drop]; omega) (by rw [List.length_append, List.length_drop]; omega) (hashBlockL_eight s _ hs h64) (by omega)
    rw [List.append_assoc, List.take_append_drop] at ih
    have e2 : wrap64 ((pre.length : Int) + 64) = pre.length + 64 := wrap_eq _ (by omega) (by omega)
    simp only [impl_Hash.l0, e2]
    rw [mid64 pre rest _ rfl, implHashBlock s _ k (by omega), Option.bind_some]
    rw [if_pos (by rw [List.length_append]; omega), if_pos (by omega), if_pos (by omega), if_pos (by rw [List.length_append]; omega)]
    rw [show (pre.length : Int) + 64 = ((pre ++ rest.take 64).length : Int) from by rw [List.length_append, h64]; omega]
    exact ih
def stateL (l : List Int) : List Int := blocksL ((hashPadL l).length / 64) startL (hashPadL l)
def hashL (l : List Int) : List Int := if (l.length : Int) > 4000 then [] else wordBytesL true (stateL l)
theorem stateL_length (l : List Int) : (stateL l).length = 8 := by
  have h := hashPadL_div l
  exact blocksL_length _ _ _ rfl (by omega)
theorem hashL_length (l : List Int) (h : ¬ (l.length : Int) > 4000) : (hashL l).length = 32 := by
  unfold hashL; rw [if_neg h, wordBytesL_length, stateL_length]
theorem hashL_le (l : List Int) : (hashL l).length ≤ 32 := by
  by_cases h : (l.length : Int) > 4000
  · unfold hashL; rw [if_pos h]; simp
  · rw [hashL_length l h]; omega
theorem hashL_bytes (l : List Int) : ∀ x ∈ hashL l, 0 ≤ x ∧ x < 256 := by
  unfold hashL; split
  · simp
  · intro x hx
    unfold wordBytesL at hx
    obtain ⟨y, _, hy⟩ := List.mem_flatMap.1 hx
    unfold wb at hy
    split at hy
    · exact leL_by _ _ x (List.mem_reverse.1 hy)
    · exact leL_by _ _ x hy
theorem specHash (l : List Int) (hw : ∀ x ∈ l, 0 ≤ x ∧ x < 256) (k : Nat) (hk : 2000 < k) : spec_Hash.f k l = some (hashL l) := by
  have hp := hashPadL_length l
  have hd := hashPadL_div l
  unfold spec_Hash.f hashL
  by_cases h : (l.length : Int) > 4000
  · rw [if_pos h, if_pos h]
  · have := specHash_l0 ((hashPadL l).length / 64) (hashPadL l) [] startL k (by omega) (by simp; omega) rfl (hashPadL_bytes l hw) (by omega)
    rw [if_neg h, if_neg h, specHashPad l k (by omega), Option.bind_some]
    exact this
theorem implHash (l : List Int) (k : Nat) (hk : 2000 < k) : impl_Hash.f k l = some (hashL l) := by
  have hp := hashPadL_length l
  have hd := hashPadL_div l
  unfold impl_Hash.f hashL
  by_cases h : (l.length : Int) > 4000
  · rw [if_pos h, if_pos h]
  · have := implHash_l0 ((hashPadL l).length / 64) (hashPadL l) [] startL k (by omega) (by simp; omega) rfl (by omega)
    rw [if_neg h, if_neg h, implHashPad l k (by omega)]
    exact this
end Go.Proofs.Ytienlgcjohpphaa.B
/- Xor, by the program: the two lists byte by byte, as far as the shorter one goes; for lists of at most 2^40 bytes. -/
namespace Go.Proofs.Ytienlgcjohpphaa.B
open Go.RowKit Go.Proofs.Ytienlgcjohpphaa.P Go.Proofs.YtienlgcjohpphaaW.PrintWords Go.Proofs.YtienlgcjohpphaaW.PrintLast Go.Proofs.YtienlgcjohpphaaW.PrintMore
/-- Byte by byte, one or the other, not both. -/
def xorL (a b : List Int) : List Int := List.zipWith (Go.bits .xor .u8) a b
theorem implXor_l0 : ∀ (a b pa pb acc : List Int) (m : Int) (k : Nat), pa.length = pb.length → m = mn (((pa ++ a).length : Nat) : Int) (((pb ++ b).length : Nat) : Int) → pa.length + a.length ≤ 1099511627776 → acc.length + a.length ≤ 2199023255552 → a.length < k →
    impl_Xor.l0 k (pa ++ a) (pb ++ b) acc m (pa.length : Int) = some (acc ++ xorL a b)
  | [], b, pa, pb, acc, m, k, he, hm, hb, hc, hk => by
    obtain ⟨k, rfl⟩ : ∃ m, k = m + 1 := ⟨k - 1, by omega⟩
    simp only [impl_Xor.l0]; rw [if_neg (by rw [hm]; unfold mn; simp; split <;> omega)]; simp [xorL]
  | x :: a, [], pa, pb, acc, m, k, he, hm, hb, hc, hk => by
    obtain ⟨k, rfl⟩ : ∃ m, k = m + 1 := ⟨k - 1, by omega⟩
    simp only [impl_Xor.l0]; rw [if_neg (by rw [hm]; unfold mn; simp; split <;> omega)]; simp [xorL]
  | x :: a, y :: b, pa, pb, acc, m, k, he, hm, hb, hc, hk => by
    obtain ⟨k, rfl⟩ : ∃ m, k = m + 1 := ⟨k - 1, by omega⟩
    simp only [List.length_cons] at hb hc hk
    have ih := implXor_l0 a b (pa ++ [x]) (pb ++ [y]) (acc ++ [Go.bits .xor .u8 x y]) m k (by simp [he]) (by rw [hm]; simp) (by simp; omega) (by simp; omega) (by omega)
    simp only [impl_Xor.l0]
    rw [if_pos (by rw [hm]; unfold mn; simp; split <;> omega), if_pos (pre_nonneg pa), if_pos (lt_mid pa x a), if_pos (lt_mid2 pa pb y b he), if_pos (by omega), rd_mid, rd_mid2 pa pb y b he, wrap_step pa x (by omega), snoc_app pa x a, snoc_app pb y b, ih]
    simp [xorL]
theorem implXor (a b : List Int) (hn : a.length ≤ 1099511627776) (k : Nat) (hk : a.length < k) : impl_Xor.f k a b = some (xorL a b) := by
  have h := implXor_l0 a b [] [] [] _ k rfl rfl (by simpa using hn) (by simp; omega) hk
  simpa [impl_Xor.f] using h
theorem xorL_length (a b : List Int) : (xorL a b).length ≤ a.length := by
  simp [xorL]; omega
end Go.Proofs.Ytienlgcjohpphaa.B
/- Mac, by the program and by the reference: one list; for every key and every list of bytes. -/
namespace Go.Proofs.Ytienlgcjohpphaa.B
open Go.RowKit Go.Proofs.Ytienlgcjohpphaa.P Go.Proofs.YtienlgcjohpphaaW.PrintWords Go.Proofs.YtienlgcjohpphaaW.PrintLast Go.Proofs.YtienlgcjohpphaaW.PrintMore
/-- Every byte xored with one. -/
def xorB (x : Int) (l : List Int) : List Int := l.map (fun v => Go.bits .xor .u8 v x)
theorem xorB_length (x : Int) (l : List Int) : (xorB x l).length = l.length := by simp [xorB]
theorem xor_by (v x : Int) : 0 ≤ Go.bits .xor .u8 v x ∧ Go.bits .xor .u8 v x < 256 := by
  show 0 ≤ IntKind.u8.wrap _ ∧ IntKind.u8.wrap _ < 256
  rw [IntKind.wrap_u8]
  omega
theorem xorB_bytes (x : Int) (l : List Int) : ∀ y ∈ xorB x l, 0 ≤ y ∧ y < 256 := by
  intro y hy
  obtain ⟨v, _, rfl⟩ := List.mem_map.1 hy
  exact xor_by v x
theorem xorL_rep (x : Int) : ∀ l : List Int, xorL l (List.replicate l.length x) = xorB x l
  | [] => rfl
  | a :: l => by
    have ih := xorL_rep x l
    unfold xorL xorB at *
    rw [List.length_cons, List.replicate_succ, List.zipWith_cons_cons, List.map_cons, ih]
/-- The key as it is used: hashed where it is long, filled up to 64 bytes. -/
def keyL (key : List Int) : List Int := if key.length > 64 then hashL key else key
def padK (key : List Int) : List Int := keyL key ++ List.replicate (64 - (keyL key).length) 0
theorem keyL_le (key : List Int) : (keyL key).length ≤ 64 := by
  unfold keyL; split
  · have := hashL_le key; omega
  · omega
theorem padK_length (key : List Int) : (padK key).length = 64 := by
  have := keyL_le key
  unfold padK; rw [List.length_append, List.length_replicate]; omega
def macL (key b : List Int) : List Int := if (key.length : Int) > 3936 ∨ (b.length : Int) > 3936 then [] else hashL (xorB 92 (padK key) ++ hashL (xorB 54 (padK key) ++ b))
theorem macL_le (key b : List Int) : (macL key b).length ≤ 32 := by
  unfold macL; split
  · simp
  · exact hashL_le _
theorem macL_length (key b : List Int) (hk : key.length ≤ 3936) (hb : b.length ≤ 3936) : (macL key b).length = 32 := by
  unfold macL
  rw [if_neg (by omega)]
  refine hashL_length _ ?_
  have := hashL_le (xorB 54 (padK key) ++ b)
  rw [List.length_append, xorB_length, padK_length]
  omega
theorem macL_bytes (key b : List Int) : ∀ x ∈ macL key b, 0 ≤ x ∧ x < 256 := by
  unfold macL; split
  · simp
  · exact hashL_bytes _
theorem app_bytes {a b : List Int} (ha : ∀ x ∈ a, 0 ≤ x ∧ x < 256) (hb : ∀ x ∈ b, 0 ≤ x ∧ x < 256) : ∀ x ∈ a ++ b, 0 ≤ x ∧ x < 256 := by
  intro x hx
  rcases List.mem_append.1 hx with h | h
  · exact ha x h
  · exact hb x h
theorem xorB_snoc (x a : Int) (pre : List Int) : xorB x (pre ++ [a]) = xorB x pre ++ [Go.bits .xor .u8 a x] := by simp [xorB]
theorem specMac_l1 (x1 : List Int) (hx : ∀ x ∈ x1, 0 ≤ x ∧ x < 256) (hl : x1.length ≤ 3936) : ∀ (rest pre : List Int) (k : Nat), pre.length + rest.length = 64 → rest.length + 2100 < k →
    spec_Mac.l1 k x1 (pre ++ rest) (xorB 54 pre) (xorB 92 pre) (pre.length : Int) = some (hashL (xorB 92 (pre ++ rest) ++ hashL (xorB 54 (pre ++ rest) ++ x1)))
  | [], pre, k, hp, hk => by
    obtain ⟨k, rfl⟩ : ∃ m, k = m + 1 := ⟨k - 1, by omega⟩
    simp only [List.length_nil] at hp hk
    rw [List.append_nil]
    have h1 := hashL_le (xorB 54 pre ++ x1)
    simp only [spec_Mac.l1]
    rw [if_neg (by omega), if_pos (by rw [xorB_length]; omega), specHash _ (app_bytes (xorB_bytes _ _) hx) k (by omega), Option.bind_some, if_pos (by rw [xorB_length]; omega), specHash _ (app_bytes (xorB_bytes _ _) (hashL_bytes _)) k (by omega), Option.bind_some]
  | a :: rest, pre, k, hp, hk => by
    obtain ⟨k, rfl⟩ : ∃ m, k = m + 1 := ⟨k - 1, by omega⟩
    simp only [List.length_cons] at hp hk
    have ih := specMac_l1 x1 hx hl rest (pre ++ [a]) k (by simp; omega) (by omega)
    simp only [spec_Mac.l1]
    rw [if_pos (by omega), if_pos (pre_nonneg pre), if_pos (lt_mid pre a rest), if_pos (by rw [xorB_length]; omega), if_pos (by rw [xorB_length]; omega), rd_mid, wrap_step pre a (by omega), ← xorB_snoc, ← xorB_snoc, snoc_app pre a rest]
    exact ih
theorem specMac_l0 (x1 : List Int) (hx : ∀ x ∈ x1, 0 ≤ x ∧ x < 256) (hl : x1.length ≤ 3936) : ∀ (d : Nat) (y : List Int) (k : Nat), 64 - y.length = d → y.length ≤ 64 → d + 2300 < k →
    spec_Mac.l0 k x1 y = some (hashL (xorB 92 (y ++ List.replicate d 0) ++ hashL (xorB 54 (y ++ List.replicate d 0) ++ x1)))
  | 0, y, k, hd, hy, hk => by
    obtain ⟨k, rfl⟩ : ∃ m, k = m + 1 := ⟨k - 1, by omega⟩
    have h := specMac_l1 x1 hx hl y [] k (by simp; omega) (by omega)
    simp only [spec_Mac.l0]
    rw [if_neg (by omega), List.replicate_zero, List.append_nil]
    exact h
  | d + 1, y, k, hd, hy, hk => by
    obtain ⟨k, rfl⟩ : ∃ m, k = m + 1 := ⟨k - 1, by omega⟩
    have ih := specMac_l0 x1 hx hl d (y ++ [0]) k (by simp; omega) (by simp; omega) (by omega)
    simp only [spec_Mac.l0]
    rw [if_pos (by omega), if_pos (by omega), ih, List.replicate_succ]
    simp
theorem specMac (key b : List Int) (hw : ∀ x ∈ key, 0 ≤ x ∧ x < 256) (hb : ∀ x ∈ b, 0 ≤ x ∧ x < 256) (k : Nat) (hk : 2500 < k) : spec_Mac.f k key b = some (macL key b) := by
  obtain ⟨k, rfl⟩ : ∃ m, k = m + 2 := ⟨k - 2, by omega⟩
  unfold spec_Mac.f macL
  by_cases h1 : (key.length : Int) > 3936
  · rw [if_pos h1, if_pos (.inl h1)]; rfl
  · rw [if_neg h1]
    by_cases h2 : (b.length : Int) > 3936
    · rw [if_pos (.inr h2), decide_eq_true h2]; rfl
    · rw [if_neg (by omega), decide_eq_false h2]
      simp only [spec_Mac.j0]
      rw [if_neg (by decide)]
      simp only [Option.bind_some, List.nil_append, List.length_nil]
      rw [if_pos (by omega)]
      by_cases h3 : (key.length : Int) > 64
      · rw [if_pos h3, specHash key hw (k + 1) (by omega), Option.bind_some]
        have h4 := hashL_le key
        have h := specMac_l0 b hb (by omega) (64 - (hashL key).length) (hashL key) k rfl (by omega) (by omega)
        simp only [spec_Mac.j1]
        rw [h]
        unfold padK keyL
        rw [if_pos (by omega)]
      · rw [if_neg h3]
        have h := specMac_l0 b hb (by omega) (64 - key.length) key k rfl (by omega) (by omega)
        simp only [spec_Mac.j1]
        rw [h]
        unfold padK keyL
        rw [if_neg (by omega)]
theorem implXorAll (l : List Int) (x : Int) (hl : l.length = 64) (k : Nat) (hk : 100 < k) : impl_xorAll.f k l x = some (xorB x l) := by
  unfold impl_xorAll.f bytes_Repeat.f
  rw [if_pos ⟨rfl, by omega, by omega⟩, Option.bind_some, List.headD_cons, Int.toNat_natCast, implXor l _ (by omega) k (by omega), xorL_rep, Option.bind_some]
theorem implMac_t (y b : List Int) (hy : y.length ≤ 64) (hb : b.length ≤ 3936) (k : Nat) (hk : 2500 < k) : impl_Mac.t k y b = some (hashL (xorB 92 (y ++ List.replicate (64 - y.length) 0) ++ hashL (xorB 54 (y ++ List.replicate (64 - y.length) 0) ++ b))) := by
  unfold impl_Mac.t
  obtain ⟨z, hz⟩ : ∃ z, z = y ++ List.replicate (64 - y.length) 0 := ⟨_, rfl⟩
  have hzl : z.length = 64 := by rw [hz, List.length_append, List.length_replicate]; omega
  have h1 := hashL_le (xorB 54 z ++ b)
  rw [if_pos hy, joined2 _ _ (by rw [List.length_replicate]; omega), Option.bind_some, ← hz, implXorAll z 92 hzl k (by omega), Option.bind_some, implXorAll z 54 hzl k (by omega), Option.bind_some,
    joined2 _ _ (by rw [xorB_length]; omega), Option.bind_some, implHash _ k (by omega), Option.bind_some, joined2 _ _ (by rw [xorB_length]; omega), Option.bind_some, implHash _ k (by omega)]
theorem implMac (key b : List Int) (k : Nat) (hk : 2500 < k) : impl_Mac.f k key b = some (macL key b) := by
  unfold impl_Mac.f macL
  by_cases h2 : (b.length : Int) > 3936
  · rw [if_pos h2, if_pos (.inr h2)]
  · rw [if_neg h2]
    by_cases h1 : (key.length : Int) > 3936
    · rw [if_pos h1, if_pos (.inl h1)]
    · rw [if_neg h1]
      rw [if_neg (show ¬ ((key.length : Int) > 3936 ∨ (b.length : Int) > 3936) from by omega)]
      unfold padK keyL
      by_cases h3 : (key.length : Int) > 64
      · have h4 := hashL_le key
        rw [if_pos h3, implHash key k (by omega), Option.bind_some, implMac_t _ b (by omega) (by omega) k hk, if_pos (by omega)]
      · rw [if_neg h3, implMac_t _ b (by omega) (by omega) k hk, if_neg (by omega)]
end Go.Proofs.Ytienlgcjohpphaa.B
