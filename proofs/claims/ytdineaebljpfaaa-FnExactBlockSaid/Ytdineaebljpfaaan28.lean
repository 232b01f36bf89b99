import Derived.Test.Ytdineaebljpfaaan27
import Derived.Test.Ytdineaebljpfaaan15
import Derived.Test.Ytdineaebljpfaaan23
/- Block, by the program and by the reference: the rounds, the sums, the bytes; for every key, count and nonce. -/
namespace Go.Proofs.Ytdineaebljpfaaa.B
open Go.RowKit Go.Proofs.Ytdineaebljpfaaa.P Go.Proofs.YtdineaebljpfaaaW.PrintWords Go.Proofs.YtdineaebljpfaaaW.PrintLast Go.Proofs.YtdineaebljpfaaaW.PrintMore
theorem quarterR_length (l : List Int) (a b c d : Int) (q : Bool) : (quarterR l a b c d q).length = l.length := by
  unfold quarterR
  split
  · simp only [quarterL, stepL_length]
  · rfl
/-- A round of columns. -/
def colsL (x : List Int) : List Int := quarterR (quarterR (quarterR (quarterR x 0 4 8 12 true) 1 5 9 13 true) 2 6 10 14 true) 3 7 11 15 true
/-- A round of diagonals. -/
def diasL (x : List Int) : List Int := quarterR (quarterR (quarterR (quarterR x 0 5 10 15 true) 1 6 11 12 true) 2 7 8 13 true) 3 4 9 14 true
theorem colsL_length (x : List Int) : (colsL x).length = x.length := by simp only [colsL, quarterR_length]
theorem diasL_length (x : List Int) : (diasL x).length = x.length := by simp only [diasL, quarterR_length]
def iterL : Nat → List Int → List Int
  | 0, x => x
  | n + 1, x => iterL n (diasL (colsL x))
theorem iterL_length : ∀ (n : Nat) (x : List Int), (iterL n x).length = x.length
  | 0, _ => rfl
  | n + 1, x => by rw [iterL, iterL_length n, diasL_length, colsL_length]
theorem goodT (a b c d : Int) (h : goodQ a b c d) : (true = true) ↔ goodQ a b c d := by simp [h]
theorem implQ (l : List Int) (a b c d : Int) (hl : l.length = 16) (h : goodQ a b c d) (k : Nat) (hk : 2001 < k) : impl_Quarter.f k l a b c d = some (quarterR l a b c d true) := implQuarter l a b c d (by omega) true (goodT a b c d h) k hk
theorem specQ (l : List Int) (a b c d : Int) (hl : l.length = 16) (h : goodQ a b c d) (k : Nat) (hk : 0 < k) : spec_Quarter.f k l a b c d = some (quarterR l a b c d true) := specQuarter l a b c d (by omega) true (goodT a b c d h) k hk
theorem implCols (x : List Int) (hx : x.length = 16) (k : Nat) (hk : 2001 < k) : impl_Block.colL k [0, 1, 2, 3] x = some (colsL x) := by
  have g : ∀ i : Int, 0 ≤ i → i ≤ 3 → goodQ i (i + 4) (i + 8) (i + 12) := fun i h0 h1 => by unfold goodQ; omega
  simp only [impl_Block.colL]
  rw [implQ x _ _ _ _ hx (g 0 (by omega) (by omega)) k hk, Option.bind_some,
    implQ _ _ _ _ _ (by rw [quarterR_length]; exact hx) (g 1 (by omega) (by omega)) k hk, Option.bind_some,
    implQ _ _ _ _ _ (by rw [quarterR_length, quarterR_length]; exact hx) (g 2 (by omega) (by omega)) k hk, Option.bind_some,
    implQ _ _ _ _ _ (by rw [quarterR_length, quarterR_length, quarterR_length]; exact hx) (g 3 (by omega) (by omega)) k hk, Option.bind_some]
  rfl
theorem implDias (x : List Int) (hx : x.length = 16) (k : Nat) (hk : 2001 < k) : impl_Block.diaL k [0, 1, 2, 3] x = some (diasL x) := by
  have g : ∀ i : Int, 0 ≤ i → i ≤ 3 → goodQ i (4 + (i + 1) % 4) (8 + (i + 2) % 4) (12 + (i + 3) % 4) := fun i h0 h1 => by unfold goodQ; omega
  simp only [impl_Block.diaL]
  rw [implQ x _ _ _ _ hx (g 0 (by omega) (by omega)) k hk, Option.bind_some,
    implQ _ _ _ _ _ (by rw [quarterR_length]; exact hx) (g 1 (by omega) (by omega)) k hk, Option.bind_some,
    implQ _ _ _ _ _ (by rw [quarterR_length, quarterR_length]; exact hx) (g 2 (by omega) (by omega)) k hk, Option.bind_some,
    implQ _ _ _ _ _ (by rw [quarterR_length, quarterR_length, quarterR_length]; exact hx) (g 3 (by omega) (by omega)) k hk, Option.bind_some]
  rfl
theorem implDbls : ∀ (n : Nat) (x : List Int), x.length = 16 → ∀ k, 2001 < k → impl_Block.dbls k n x = some (iterL n x)
  | 0, x, hx, k, hk => rfl
  | n + 1, x, hx, k, hk => by
    rw [impl_Block.dbls, implCols x hx k hk, Option.bind_some, implDias _ (by rw [colsL_length]; exact hx) k hk, Option.bind_some, implDbls n _ (by rw [diasL_length, colsL_length]; exact hx) k hk]
    rfl
theorem specC (l : List Int) (i : Int) (hl : l.length = 16) (h0 : 0 ≤ i) (h1 : i ≤ 3) (k : Nat) (hk : 0 < k) : spec_Quarter.f k l i (wrap64 (i + 4)) (wrap64 (i + 8)) (wrap64 (i + 12)) = some (quarterR l i (i + 4) (i + 8) (i + 12) true) := by
  rw [wrap_eq (i + 4) (by omega) (by omega), wrap_eq (i + 8) (by omega) (by omega), wrap_eq (i + 12) (by omega) (by omega)]
  exact specQ l _ _ _ _ hl (by unfold goodQ; omega) k hk
theorem l0_step (x : List Int) (i : Int) (hx : x.length = 16) (h0 : 0 ≤ i) (h1 : i ≤ 3) (k : Nat) (hk : 0 < k) : spec_l5Double.l0 (k + 1) x i = spec_l5Double.l0 k (quarterR x i (i + 4) (i + 8) (i + 12) true) (i + 1) := by
  rw [spec_l5Double.l0, if_pos (by omega), specC x i hx h0 h1 k hk, Option.bind_some, wrap_eq (i + 1) (by omega) (by omega)]
theorem specCols (x : List Int) (hx : x.length = 16) (k : Nat) (hk : 20 < k) : spec_l5Double.l0 k x 0 = spec_l5Double.l1 (k - 5) (colsL x) 0 := by
  obtain ⟨k, rfl⟩ : ∃ m, k = m + 1 + 1 + 1 + 1 + 1 := ⟨k - 5, by omega⟩
  rw [l0_step x 0 hx (by omega) (by omega) _ (by omega), l0_step _ (0 + 1) (by rw [quarterR_length]; exact hx) (by omega) (by omega) _ (by omega), l0_step _ (0 + 1 + 1) (by rw [quarterR_length, quarterR_length]; exact hx) (by omega) (by omega) _ (by omega), l0_step _ (0 + 1 + 1 + 1) (by rw [quarterR_length, quarterR_length, quarterR_length]; exact hx) (by omega) (by omega) _ (by omega),
    spec_l5Double.l0, if_neg (by omega)]
  rfl
theorem specD (l : List Int) (i : Int) (hl : l.length = 16) (h0 : 0 ≤ i) (h1 : i ≤ 3) (k : Nat) (hk : 0 < k) : spec_Quarter.f k l i (wrap64 (4 + Int.tmod (wrap64 (i + 1)) 4)) (wrap64 (8 + Int.tmod (wrap64 (i + 2)) 4)) (wrap64 (12 + Int.tmod (wrap64 (i + 3)) 4)) = some (quarterR l i (4 + (i + 1) % 4) (8 + (i + 2) % 4) (12 + (i + 3) % 4) true) := by
  rw [wrap_eq (i + 1) (by omega) (by omega), wrap_eq (i + 2) (by omega) (by omega), wrap_eq (i + 3) (by omega) (by omega), Int.tmod_eq_emod_of_nonneg (by omega), Int.tmod_eq_emod_of_nonneg (by omega), Int.tmod_eq_emod_of_nonneg (by omega), wrap_eq (4 + (i + 1) % 4) (by omega) (by omega), wrap_eq (8 + (i + 2) % 4) (by omega) (by omega), wrap_eq (12 + (i + 3) % 4) (by omega) (by omega)]
  exact specQ l _ _ _ _ hl (by unfold goodQ; omega) k hk
theorem l1_step (x : List Int) (i : Int) (hx : x.length = 16) (h0 : 0 ≤ i) (h1 : i ≤ 3) (k : Nat) (hk : 0 < k) : spec_l5Double.l1 (k + 1) x i = spec_l5Double.l1 k (quarterR x i (4 + (i + 1) % 4) (8 + (i + 2) % 4) (12 + (i + 3) % 4) true) (i + 1) := by
  rw [spec_l5Double.l1, if_pos (by omega), specD x i hx h0 h1 k hk, Option.bind_some, wrap_eq (i + 1) (by omega) (by omega)]
theorem specDias (x : List Int) (hx : x.length = 16) (k : Nat) (hk : 10 < k) : spec_l5Double.l1 k x 0 = some (diasL x) := by
  obtain ⟨k, rfl⟩ : ∃ m, k = m + 1 + 1 + 1 + 1 + 1 := ⟨k - 5, by omega⟩
  rw [l1_step x 0 hx (by omega) (by omega) _ (by omega), l1_step _ (0 + 1) (by rw [quarterR_length]; exact hx) (by omega) (by omega) _ (by omega), l1_step _ (0 + 1 + 1) (by rw [quarterR_length, quarterR_length]; exact hx) (by omega) (by omega) _ (by omega), l1_step _ (0 + 1 + 1 + 1) (by rw [quarterR_length, quarterR_length, quarterR_length]; exact hx) (by omega) (by omega) _ (by omega),
    spec_l5Double.l1, if_neg (by omega)]
  rfl
theorem specDouble (x : List Int) (hx : x.length = 16) (k : Nat) (hk : 20 < k) : spec_l5Double.f k x = some (diasL (colsL x)) := by
  unfold spec_l5Double.f
  rw [specCols x hx k hk, specDias _ (by rw [colsL_length]; exact hx) _ (by omega)]
/-- The sums of two lists, one by one. -/
def sumL (x f : List Int) : List Int := List.zipWith (fun n m => wL (wrap64 (n + m))) x f
theorem sumL_length (x f : List Int) (h : x.length = f.length) : (sumL x f).length = x.length := by simp [sumL]; omega
theorem implSums : ∀ (x f : List Int), x.length = f.length → impl_Block.sums x f = some (sumL x f)
  | [], f, h => rfl
  | n :: x, [], h => by simp at h
  | n :: x, m :: f, h => by
    rw [impl_Block.sums, implWordL, Option.bind_some, implSums x f (by simpa using h)]
    rfl
theorem specSums : ∀ (x f px pf : List Int) (k : Nat), px.length = pf.length → x.length = f.length → px.length + x.length = 16 → x.length + 100 < k →
    spec_Block.l1 k (pf ++ f) (px ++ x) (px.length : Int) = some (wordBytesL false (px ++ sumL x f))
  | [], f, px, pf, k, hp, hx, hs, hk => by
    obtain ⟨k, rfl⟩ : ∃ m, k = m + 1 := ⟨k - 1, by omega⟩
    simp only [spec_Block.l1]
    simp only [List.length_nil] at hs
    rw [if_neg (by omega), specWordBytes (px ++ []) false (by simp; omega) k (by simp; omega), Option.bind_some]
    simp [sumL]
  | n :: x, [], px, pf, k, hp, hx, hs, hk => by simp at hx
  | n :: x, m :: f, px, pf, k, hp, hx, hs, hk => by
    obtain ⟨k, rfl⟩ : ∃ m, k = m + 1 := ⟨k - 1, by omega⟩
    simp only [List.length_cons] at hx hs hk
    simp only [spec_Block.l1]
    have ih := specSums x f (px ++ [wL (wrap64 (n + m))]) (pf ++ [m]) k (by simp [hp]) (by omega) (by simp; omega) (by omega)
    rw [if_pos (by omega), if_pos (pre_nonneg px), if_pos (lt_mid px n x), if_pos (lt_mid2 px pf m f hp), rd_mid, rd_mid2 px pf m f hp, specWordL, Option.bind_some, set_mid, wrap_step px (wL (wrap64 (n + m))) (by omega), snoc_app px _ x, snoc_app pf m f, ih]
    simp [sumL]
theorem specIter (f : List Int) (hf : f.length = 16) : ∀ (n : Nat) (x : List Int) (i : Int) (k : Nat), x.length = 16 → 0 ≤ i → i + n = 10 → n + 200 < k → spec_Block.l0 k f x i = some (wordBytesL false (sumL (iterL n x) f))
  | 0, x, i, k, hx, hi, hn, hk => by
    obtain ⟨k, rfl⟩ : ∃ m, k = m + 1 := ⟨k - 1, by omega⟩
    simp only [spec_Block.l0]
    rw [if_neg (by omega)]
    exact specSums x f [] [] k rfl (by omega) (by simpa using hx) (by omega)
  | n + 1, x, i, k, hx, hi, hn, hk => by
    obtain ⟨k, rfl⟩ : ∃ m, k = m + 1 := ⟨k - 1, by omega⟩
    simp only [spec_Block.l0]
    rw [if_pos (by omega), specDouble x hx k (by omega), Option.bind_some, wrap_eq (i + 1) (by omega) (by omega), specIter f hf n _ (i + 1) k (by rw [diasL_length, colsL_length]; exact hx) (by omega) (by omega) (by omega)]
    rfl
/-- What the rounds begin with. -/
def firstL (a : List Int) (n : Int) (b : List Int) : List Int := [1634760805, 857760878, 2036477234, 1797285236] ++ wordsL false a ++ [n] ++ wordsL false b
theorem firstL_length (a : List Int) (n : Int) (b : List Int) (ha : (a.length : Int) = 32) (hb : (b.length : Int) = 12) : (firstL a n b).length = 16 := by
  simp only [firstL, List.length_append, wordsL_length, List.length_cons, List.length_nil]; omega
def blockL (a : List Int) (n : Int) (b : List Int) : List Int := if impl_Block.ok a n b = true then wordBytesL false (sumL (iterL 10 (firstL a n b)) (firstL a n b)) else []
theorem block_ok {a : List Int} {n : Int} {b : List Int} (h : impl_Block.ok a n b = true) : (a.length : Int) = 32 ∧ (b.length : Int) = 12 ∧ 0 ≤ n ∧ n ≤ 4294967295 := of_decide_eq_true h
theorem blockL_length (a : List Int) (n : Int) (b : List Int) : (blockL a n b).length = if impl_Block.ok a n b = true then 64 else 0 := by
  unfold blockL
  split
  · rename_i h
    obtain ⟨ha, hb, _⟩ := block_ok h
    rw [wordBytesL_length, sumL_length _ _ (by rw [iterL_length]), iterL_length, firstL_length a n b ha hb]
  · rfl
theorem blockL_le (a : List Int) (n : Int) (b : List Int) : (blockL a n b).length ≤ 64 := by
  rw [blockL_length]; split <;> omega
theorem implBlock (a : List Int) (n : Int) (b : List Int) (k : Nat) (hk : 2001 < k) : impl_Block.f k a n b = some (blockL a n b) := by
  have hl := blockL_length a n b
  unfold impl_Block.f blockL at *
  by_cases h : impl_Block.ok a n b = true
  · obtain ⟨ha, hb, _⟩ := block_ok h
    have hf := firstL_length a n b ha hb
    rw [if_pos h] at hl ⊢
    rw [if_pos h] at hl ⊢
    rw [implWords a false (by omega) k (by omega), Option.bind_some, implWords b false (by omega) k (by omega), Option.bind_some]
    have hc : slices_Concat_int_int.f [[1634760805, 857760878, 2036477234, 1797285236], wordsL false a, [n], wordsL false b] = some (firstL a n b) := by
      have hfl : ([[1634760805, 857760878, 2036477234, 1797285236], wordsL false a, [n], wordsL false b] : List (List Int)).flatten = firstL a n b := by simp [firstL]
      unfold slices_Concat_int_int.f
      rw [hfl, if_pos ⟨by omega, by simp⟩]
    rw [hc, Option.bind_some, implDbls 10 _ hf k hk, Option.bind_some, if_pos (by rw [iterL_length]; omega), implSums _ _ (by rw [iterL_length]), Option.bind_some, implWordBytes _ false (by rw [sumL_length _ _ (by rw [iterL_length]), iterL_length]; omega) k (by rw [sumL_length _ _ (by rw [iterL_length]), iterL_length]; omega), Option.bind_some, if_pos (by omega)]
  · rw [if_neg h, if_neg h]
theorem specBlock (a : List Int) (n : Int) (b : List Int) (k : Nat) (hk : 400 < k) : spec_Block.f k a n b = some (blockL a n b) := by
  unfold spec_Block.f blockL
  have jt : ∀ k, 0 < k → spec_Block.j0 k a n b true = some [] := fun k hk => by
    obtain ⟨k, rfl⟩ : ∃ m, k = m + 1 := ⟨k - 1, by omega⟩
    rfl
  by_cases h : impl_Block.ok a n b = true
  · obtain ⟨ha, hb, h0, h1⟩ := block_ok h
    have hf := firstL_length a n b ha hb
    have wa := wordsL_length false a
    have wbl := wordsL_length false b
    obtain ⟨k, rfl⟩ : ∃ m, k = m + 1 := ⟨k - 1, by omega⟩
    rw [if_pos h, if_pos ha, if_pos hb, specIn, Option.bind_some, decide_eq_true (show 0 ≤ n ∧ n ≤ 4294967295 from ⟨h0, h1⟩)]
    simp only [spec_Block.j0, Bool.not_true, Option.bind_some]
    rw [if_neg (by decide), specWords a false (by omega) k (by omega), Option.bind_some, if_pos (by simp only [List.length_cons, List.length_nil]; omega), if_pos (by simp only [List.length_append, List.length_cons, List.length_nil]; omega), specWords b false (by omega) k (by omega), Option.bind_some,
      if_pos (by simp only [List.length_append, List.length_cons, List.length_nil]; omega), if_pos (by simp only [List.length_append, List.length_cons, List.length_nil]; omega), List.nil_append]
    exact specIter (firstL a n b) hf 10 (firstL a n b) 0 k hf (by omega) (by omega) (by omega)
  · rw [if_neg h]
    by_cases ha : (a.length : Int) = 32
    · rw [if_pos ha]
      by_cases hb : (b.length : Int) = 12
      · rw [if_pos hb, specIn, Option.bind_some, decide_eq_false (show ¬ (0 ≤ n ∧ n ≤ 4294967295) from fun hn => h (decide_eq_true ⟨ha, hb, hn⟩))]
        exact jt k (by omega)
      · rw [if_neg hb]; exact jt k (by omega)
    · rw [if_neg ha]; exact jt k (by omega)
end Go.Proofs.Ytdineaebljpfaaa.B
