import Derived.Test.Ytienlgcjohpphaake40
/- 'from lo to hi', by the program and by the reference; for every three numbers. -/
namespace Go.Proofs.Ytienlgcjohpphaa.B
open Go.RowKit Go.Proofs.Ytienlgcjohpphaa.P Go.Proofs.YtienlgcjohpphaaW.PrintWords Go.Proofs.YtienlgcjohpphaaW.PrintLast Go.Proofs.YtienlgcjohpphaaW.PrintMore
theorem specIn (a b c : Int) : spec_l1In.f a b c = some (decide (b ≤ a ∧ a ≤ c)) := by
  unfold spec_l1In.f
  by_cases h : a ≥ b
  · rw [if_pos h]; simp [show b ≤ a from h]
  · rw [if_neg h]; simp [show ¬ b ≤ a from h]
theorem implIn (a b c : Int) : impl_in.f a b c = some (decide (b ≤ a ∧ a ≤ c)) := specIn a b c
end Go.Proofs.Ytienlgcjohpphaa.B
/- Extract, Expand and Derive, by the program and by the reference: one list each. -/
namespace Go.Proofs.Ytienlgcjohpphaa.B
open Go.RowKit Go.Proofs.Ytienlgcjohpphaa.P Go.Proofs.YtienlgcjohpphaaW.PrintWords Go.Proofs.YtienlgcjohpphaaW.PrintLast Go.Proofs.YtienlgcjohpphaaW.PrintMore
def extractL (salt b : List Int) : List Int := if (salt.length : Int) = 0 then macL (List.replicate 32 0) b else macL salt b
theorem extractL_bytes (salt b : List Int) : ∀ x ∈ extractL salt b, 0 ≤ x ∧ x < 256 := by
  unfold extractL; split <;> exact macL_bytes _ _
theorem extractL_le (salt b : List Int) : (extractL salt b).length ≤ 32 := by
  unfold extractL; split <;> exact macL_le _ _
theorem zeros_bytes (n : Nat) : ∀ x ∈ List.replicate n (0 : Int), 0 ≤ x ∧ x < 256 := by
  intro x hx; rw [List.eq_of_mem_replicate hx]; omega
theorem specExtract (salt b : List Int) (hs : ∀ x ∈ salt, 0 ≤ x ∧ x < 256) (hb : ∀ x ∈ b, 0 ≤ x ∧ x < 256) (k : Nat) (hk : 2500 < k) : spec_Extract.f k salt b = some (extractL salt b) := by
  unfold spec_Extract.f extractL
  split
  · rw [if_pos (by omega), specMac _ _ (zeros_bytes 32) hb k hk]; rfl
  · rw [specMac _ _ hs hb k hk]; rfl
theorem implExtract (salt b : List Int) (k : Nat) (hk : 2500 < k) : impl_Extract.f k salt b = some (extractL salt b) := by
  unfold impl_Extract.f extractL
  split
  · rw [if_pos (by omega), implMac _ _ k hk]; rfl
  · rw [implMac _ _ k hk]; rfl
/-- So many codes, one behind the other, each made of the one ahead. -/
def stepL (key info last : List Int) (n : Int) : List Int := macL key (last ++ info ++ [n % 256])
def expR (key info : List Int) (many : Int) : Nat → List Int → List Int → Int → List Int
  | 0, out, _, _ => out
  | m + 1, out, last, n => if (out.length : Int) < many then expR key info many m (out ++ stepL key info last n) (stepL key info last n) (n + 1) else out
theorem stepL_le (key info last : List Int) (n : Int) : (stepL key info last n).length ≤ 32 := macL_le _ _
theorem stepL_length (key info last : List Int) (n : Int) (hk : key.length ≤ 400) (hi : info.length ≤ 400) (hl : last.length ≤ 32) : (stepL key info last n).length = 32 :=
  macL_length _ _ (by omega) (by simp; omega)
theorem stepL_bytes (key info last : List Int) (n : Int) : ∀ x ∈ stepL key info last n, 0 ≤ x ∧ x < 256 := macL_bytes _ _
theorem text_bytes {last info : List Int} (n : Int) (hl : ∀ x ∈ last, 0 ≤ x ∧ x < 256) (hi : ∀ x ∈ info, 0 ≤ x ∧ x < 256) : ∀ x ∈ last ++ info ++ [n % 256], 0 ≤ x ∧ x < 256 :=
  app_bytes (app_bytes hl hi) (fun x hx => by rw [List.mem_singleton.1 hx]; omega)
theorem expR_ge (key info : List Int) (many : Int) (hk : key.length ≤ 400) (hi : info.length ≤ 400) : ∀ (m : Nat) (out last : List Int) (n : Int), last.length ≤ 32 → many ≤ out.length + 32 * (m : Int) → many ≤ ((expR key info many m out last n).length : Int)
  | 0, out, last, n, _, h => by simpa [expR] using h
  | m + 1, out, last, n, hl, h => by
    unfold expR
    split
    · have h1 := stepL_length key info last n hk hi hl
      exact expR_ge key info many hk hi m _ _ _ (by omega) (by rw [List.length_append]; push_cast at h ⊢; omega)
    · omega
theorem expR_le (key info : List Int) (many : Int) : ∀ (m : Nat) (out last : List Int) (n : Int), (expR key info many m out last n).length ≤ out.length + 32 * m
  | 0, out, last, n => by simp [expR]
  | m + 1, out, last, n => by
    unfold expR
    split
    · have h1 := stepL_le key info last n
      have h2 := expR_le key info many m (out ++ stepL key info last n) (stepL key info last n) (n + 1)
      rw [List.length_append] at h2
      omega
    · omega
theorem expR_bytes (key info : List Int) (many : Int) : ∀ (m : Nat) (out last : List Int) (n : Int), (∀ x ∈ out, 0 ≤ x ∧ x < 256) → ∀ x ∈ expR key info many m out last n, 0 ≤ x ∧ x < 256
  | 0, out, last, n, h => by simpa [expR] using h
  | m + 1, out, last, n, h => by
    unfold expR
    split
    · exact expR_bytes key info many m _ _ _ (app_bytes h (stepL_bytes _ _ _ _))
    · exact h
theorem specExpand_l0 (key info : List Int) (many : Int) (hm0 : 1 ≤ many) (hm : many ≤ 8160) (hk : key.length ≤ 400) (hi : info.length ≤ 400) (hkb : ∀ x ∈ key, 0 ≤ x ∧ x < 256) (hib : ∀ x ∈ info, 0 ≤ x ∧ x < 256) :
    ∀ (m : Nat) (out last : List Int) (n : Int) (k : Nat), last.length ≤ 32 → (∀ x ∈ last, 0 ≤ x ∧ x < 256) → many ≤ out.length + 32 * (m : Int) → out.length + 32 * m ≤ 100000 → 0 ≤ n → n + m ≤ 1000 → m + 2600 < k →
      spec_Expand.l0 k key info many out last n = some ((expR key info many m out last n).take many.toNat)
  | 0, out, last, n, k, hl, hlb, h, hb, hn, hn2, hkk => by
    obtain ⟨k, rfl⟩ : ∃ m, k = m + 1 := ⟨k - 1, by omega⟩
    simp only [spec_Expand.l0]
    rw [if_neg (by omega)]
    simp only [Option.bind_some, List.nil_append, List.length_nil]
    rw [if_pos (by omega), if_pos (by omega), if_pos (by rw [List.length_take]; omega)]
    rfl
  | m + 1, out, last, n, k, hl, hlb, h, hb, hn, hn2, hkk => by
    obtain ⟨k, rfl⟩ : ∃ m, k = m + 1 := ⟨k - 1, by omega⟩
    simp only [spec_Expand.l0]
    unfold expR
    by_cases hc : (out.length : Int) < many
    · have h1 := stepL_length key info last n hk hi hl
      rw [if_pos hc, if_pos hc]
      simp only [Option.bind_some, List.nil_append, List.length_nil]
      rw [if_pos (by omega), if_pos (by omega), if_pos (by rw [List.length_append]; omega), specMac _ _ hkb (text_bytes n hlb hib) k (by omega), Option.bind_some]
      have ih := specExpand_l0 key info many hm0 hm hk hi hkb hib m (out ++ stepL key info last n) (stepL key info last n) (n + 1) k (by omega) (stepL_bytes _ _ _ _) (by rw [List.length_append]; push_cast at h ⊢; omega) (by rw [List.length_append]; omega) (by omega) (by push_cast at hn2; omega) (by omega)
      rw [wrap_eq _ (by omega) (by omega), if_pos (by show out.length + (stepL key info last n).length < _; omega)]
      exact ih
    · rw [if_neg hc, if_neg hc]
      simp only [Option.bind_some, List.nil_append, List.length_nil]
      rw [if_pos (by omega), if_pos (by omega), if_pos (by rw [List.length_take]; omega)]
theorem implExpand_l0 (key info : List Int) (many : Int) (hm0 : 1 ≤ many) (hm : many ≤ 8160) (hk : key.length ≤ 400) (hi : info.length ≤ 400) :
    ∀ (m : Nat) (out last : List Int) (n : Int) (k : Nat), last.length ≤ 32 → many ≤ out.length + 32 * (m : Int) → out.length + 32 * m ≤ 100000 → 0 ≤ n → n + m ≤ 1000 → m + 2600 < k →
      impl_Expand.l0 k key info many out last n = some ((expR key info many m out last n).take many.toNat)
  | 0, out, last, n, k, hl, h, hb, hn, hn2, hkk => by
    obtain ⟨k, rfl⟩ : ∃ m, k = m + 1 := ⟨k - 1, by omega⟩
    simp only [impl_Expand.l0]
    rw [if_neg (by omega), if_pos (by omega), if_pos (by omega)]
    rfl
  | m + 1, out, last, n, k, hl, h, hb, hn, hn2, hkk => by
    obtain ⟨k, rfl⟩ : ∃ m, k = m + 1 := ⟨k - 1, by omega⟩
    simp only [impl_Expand.l0]
    unfold expR
    by_cases hc : (out.length : Int) < many
    · have h1 := stepL_length key info last n hk hi hl
      rw [if_pos hc, if_pos hc, joined3 _ _ _ (by simp; omega), Option.bind_some, implMac _ _ k (by omega), Option.bind_some]
      have ih := implExpand_l0 key info many hm0 hm hk hi m (out ++ stepL key info last n) (stepL key info last n) (n + 1) k (by omega) (by rw [List.length_append]; push_cast at h ⊢; omega) (by rw [List.length_append]; omega) (by omega) (by push_cast at hn2; omega) (by omega)
      rw [wrap_eq _ (by omega) (by omega), if_pos (by show out.length + (stepL key info last n).length < _; omega)]
      exact ih
    · rw [if_neg hc, if_neg hc, if_pos (by omega), if_pos (by omega)]
def expandL (key info : List Int) (many : Int) : List Int := if 1 ≤ many ∧ many ≤ 8160 ∧ info.length ≤ 400 ∧ key.length ≤ 400 then (expR key info many 255 [] [] 1).take many.toNat else []
theorem expandL_le (key info : List Int) (many : Int) : (expandL key info many).length ≤ 8160 := by
  unfold expandL; split
  · rw [List.length_take]; omega
  · simp
theorem expandL_length (key info : List Int) (many : Int) (h : 1 ≤ many ∧ many ≤ 8160 ∧ info.length ≤ 400 ∧ key.length ≤ 400) : ((expandL key info many).length : Int) = many := by
  have h1 := expR_ge key info many h.2.2.2 h.2.2.1 255 [] [] 1 (by simp) (by simp; omega)
  unfold expandL
  rw [if_pos h, List.length_take]
  omega
theorem expandL_bytes (key info : List Int) (many : Int) : ∀ x ∈ expandL key info many, 0 ≤ x ∧ x < 256 := by
  unfold expandL; split
  · intro x hx
    exact expR_bytes key info many 255 [] [] 1 (by simp) x (List.mem_of_mem_take hx)
  · simp
theorem specExpand (key info : List Int) (many : Int) (hkb : ∀ x ∈ key, 0 ≤ x ∧ x < 256) (hib : ∀ x ∈ info, 0 ≤ x ∧ x < 256) (k : Nat) (hkk : 2900 < k) : spec_Expand.f k key info many = some (expandL key info many) := by
  obtain ⟨k, rfl⟩ : ∃ m, k = m + 1 := ⟨k - 1, by omega⟩
  unfold spec_Expand.f expandL
  rw [Option.bind_some, specIn, Option.bind_some]
  by_cases h1 : 1 ≤ many ∧ many ≤ 8160
  · rw [if_pos (decide_eq_true h1)]
    by_cases h2 : (info.length : Int) > 400
    · rw [if_pos h2, if_neg (by omega)]; rfl
    · rw [if_neg h2]
      by_cases h3 : (key.length : Int) > 400
      · rw [decide_eq_true h3, if_neg (by omega)]; rfl
      · rw [decide_eq_false h3, if_pos (by omega)]
        simp only [spec_Expand.j0]
        rw [if_neg (by decide)]
        exact specExpand_l0 key info many (by omega) (by omega) (by omega) (by omega) hkb hib 255 [] [] 1 k (by simp) (by simp) (by simp; omega) (by simp) (by omega) (by omega) (by omega)
  · rw [if_neg (by simpa using h1), if_neg (by omega)]; rfl
theorem implExpand (key info : List Int) (many : Int) (k : Nat) (hkk : 2900 < k) : impl_Expand.f k key info many = some (expandL key info many) := by
  obtain ⟨k, rfl⟩ : ∃ m, k = m + 1 := ⟨k - 1, by omega⟩
  unfold impl_Expand.f expandL
  rw [implIn, Option.bind_some]
  by_cases h1 : 1 ≤ many ∧ many ≤ 8160
  · rw [if_pos (decide_eq_true h1)]
    by_cases h2 : (info.length : Int) > 400
    · rw [if_pos h2, if_neg (by omega)]; rfl
    · rw [if_neg h2]
      by_cases h3 : (key.length : Int) > 400
      · rw [decide_eq_true h3, if_neg (by omega)]; rfl
      · rw [decide_eq_false h3, if_pos (by omega)]
        simp only [impl_Expand.j0]
        rw [if_neg (by decide)]
        exact implExpand_l0 key info many (by omega) (by omega) (by omega) (by omega) 255 [] [] 1 k (by simp) (by simp; omega) (by simp) (by omega) (by omega) (by omega)
  · rw [if_neg (by simpa using h1), if_neg (by omega)]; rfl
def deriveL (salt b info : List Int) (many : Int) : List Int := expandL (extractL salt b) info many
theorem specDerive (salt b info : List Int) (many : Int) (hs : ∀ x ∈ salt, 0 ≤ x ∧ x < 256) (hb : ∀ x ∈ b, 0 ≤ x ∧ x < 256) (hi : ∀ x ∈ info, 0 ≤ x ∧ x < 256) (k : Nat) (hkk : 2900 < k) : spec_Derive.f k salt b info many = some (deriveL salt b info many) := by
  unfold spec_Derive.f deriveL
  rw [specExtract _ _ hs hb k (by omega), Option.bind_some, specExpand _ _ _ (extractL_bytes _ _) hi k hkk]; rfl
theorem implDerive (salt b info : List Int) (many : Int) (k : Nat) (hkk : 2900 < k) : impl_Derive.f k salt b info many = some (deriveL salt b info many) := by
  unfold impl_Derive.f deriveL
  rw [implExtract _ _ k (by omega), Option.bind_some, implExpand _ _ _ k hkk]; rfl
end Go.Proofs.Ytienlgcjohpphaa.B
/- KeysOf: the two keys, by the reference and by the program. -/
namespace Go.Proofs.Ytienlgcjohpphaa.B
open Go.RowKit Go.Proofs.Ytienlgcjohpphaa.P Go.Proofs.YtienlgcjohpphaaW.PrintWords Go.Proofs.YtienlgcjohpphaaW.PrintLast Go.Proofs.YtienlgcjohpphaaW.PrintMore
def keysL (a b c : List Int) : List Int := deriveL (b ++ c) a [112, 108, 117, 109, 101] 44
theorem keysL_length (a b c : List Int) : (keysL a b c).length = 44 := by
  have h := expandL_length (extractL (b ++ c) a) [112, 108, 117, 109, 101] 44 ⟨by omega, by omega, by decide, by have := extractL_le (b ++ c) a; omega⟩
  show (expandL (extractL (b ++ c) a) [112, 108, 117, 109, 101] 44).length = 44
  omega
theorem keys_bytes {a b : List Int} (ha : ∀ x ∈ a, 0 ≤ x ∧ x < 256) (hb : ∀ x ∈ b, 0 ≤ x ∧ x < 256) : ∀ x ∈ a ++ b, 0 ≤ x ∧ x < 256 := by
  intro x hx
  rcases List.mem_append.1 hx with h | h
  · exact ha x h
  · exact hb x h
theorem specKeys (a b c : List Int) (ha : ∀ x ∈ a, 0 ≤ x ∧ x < 256) (hb : ∀ x ∈ b, 0 ≤ x ∧ x < 256) (hc : ∀ x ∈ c, 0 ≤ x ∧ x < 256) (hl : b.length + c.length ≤ 10000000) (k : Nat) (hk : 2900 < k) : spec_KeysOf.f k a b c = some ((keysL a b c).take 32, (keysL a b c).drop 32) := by
  unfold spec_KeysOf.f
  rw [if_pos hl, specDerive (b ++ c) a _ 44 (keys_bytes hb hc) ha (by decide) k hk, Option.bind_some]
  exact if_pos (keysL_length a b c)
theorem joined1 (a : List Int) (h : a.length ≤ 140737488355328) : impl_joined.f [a] = some a := by
  rw [joined _ (by simp; omega) (by simp)]; simp
theorem implKeys (a b c : List Int) (hl : b.length + c.length ≤ 10000000) (k : Nat) (hk : 2900 < k) : impl_KeysOf.f k a b c = some ((keysL a b c).take 32, (keysL a b c).drop 32) := by
  unfold impl_KeysOf.f
  rw [joined2 b c (by omega), Option.bind_some, implDerive (b ++ c) a _ 44 k hk, Option.bind_some]
  show (if (keysL a b c).length = 44 then (impl_joined.f [(keysL a b c).take 32]).bind fun x => (impl_joined.f [(keysL a b c).drop 32]).bind fun y => some (x, y) else none) = _
  have h := keysL_length a b c
  rw [if_pos h, joined1 _ (by rw [List.length_take]; omega), Option.bind_some, joined1 _ (by rw [List.length_drop]; omega), Option.bind_some]
end Go.Proofs.Ytienlgcjohpphaa.B
