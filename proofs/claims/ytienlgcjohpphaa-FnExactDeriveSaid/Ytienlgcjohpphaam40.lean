import Derived.Test.Ytienlgcjohpphaam39
import Derived.Test.Ytienlgcjohpphaam19
import Derived.Test.Ytienlgcjohpphaam35
/- Mac, by the program and by the reference: one list; for every key and every list of bytes. -/
namespace Go.Proofs.Ytienlgcjohpphaa.B
open Go.RowKit Go.Proofs.Ytienlgcjohpphaa.P Go.Proofs.YtienlgcjohpphaaW.PrintWords Go.Proofs.YtienlgcjohpphaaW.PrintLast Go.Proofs.YtienlgcjohpphaaW.PrintMore
/-- Every byte xored with one. -/
def xorB (x : Int) (l : List Int) : List Int := l.map (fun v => Go.bits .xor .u8 v x)
theorem xorB_length (x : Int) (l : List Int) : (xorB x l).length = l.length := by simp [xorB]
theorem xor_by (v x : Int) : 0 ≤ Go.bits .xor .u8 v x ∧ Go.bits .xor .u8 v x < 256 := by
  show 0 ≤ IntKind.u8.wrap _ ∧ IntKind.u8.wrap _ < 256
  rw [IntKind.wrap_u8]
  omega
theorem xorB_bytes (x : Int) (l : List Int) : ∀ y ∈ xorB x l, 0 ≤ y ∧ y < 256 := by
  intro y hy
  obtain ⟨v, _, rfl⟩ := List.mem_map.1 hy
  exact xor_by v x
theorem xorL_rep (x : Int) : ∀ l : List Int, xorL l (List.replicate l.length x) = xorB x l
  | [] => rfl
  | a :: l => by
    have ih := xorL_rep x l
    unfold xorL xorB at *
    rw [List.length_cons, List.replicate_succ, List.zipWith_cons_cons, List.map_cons, ih]
/-- The key as it is used: hashed where it is long, filled up to 64 bytes. -/
def keyL (key : List Int) : List Int := if key.length > 64 then hashL key else key
def padK (key : List Int) : List Int := keyL key ++ List.replicate (64 - (keyL key).length) 0
theorem keyL_le (key : List Int) : (keyL key).length ≤ 64 := by
  unfold keyL; split
  · have := hashL_le key; omega
  · omega
theorem padK_length (key : List Int) : (padK key).length = 64 := by
  have := keyL_le key
  unfold padK; rw [List.length_append, List.length_replicate]; omega
def macL (key b : List Int) : List Int := if (key.length : Int) > 3936 ∨ (b.length : Int) > 3936 then [] else hashL (xorB 92 (padK key) ++ hashL (xorB 54 (padK key) ++ b))
theorem macL_le (key b : List Int) : (macL key b).length ≤ 32 := by
  unfold macL; split
  · simp
  · exact hashL_le _
theorem macL_length (key b : List Int) (hk : key.length ≤ 3936) (hb : b.length ≤ 3936) : (macL key b).length = 32 := by
  unfold macL
  rw [if_neg (by omega)]
  refine hashL_length _ ?_
  have := hashL_le (xorB 54 (padK key) ++ b)
  rw [List.length_append, xorB_length, padK_length]
  omega
theorem macL_bytes (key b : List Int) : ∀ x ∈ macL key b, 0 ≤ x ∧ x < 256 := by
  unfold macL; split
  · simp
  · exact hashL_bytes _
theorem app_bytes {a b : List Int} (ha : ∀ x ∈ a, 0 ≤ x ∧ x < 256) (hb : ∀ x ∈ b, 0 ≤ x ∧ x < 256) : ∀ x ∈ a ++ b, 0 ≤ x ∧ x < 256 := by
  intro x hx
  rcases List.mem_append.1 hx with h | h
  · exact ha x h
  · exact hb x h
theorem xorB_snoc (x a : Int) (pre : List Int) : xorB x (pre ++ [a]) = xorB x pre ++ [Go.bits .xor .u8 a x] := by simp [xorB]
theorem specMac_l1 (x1 : List Int) (hx : ∀ x ∈ x1, 0 ≤ x ∧ x < 256) (hl : x1.length ≤ 3936) : ∀ (rest pre : List Int) (k : Nat), pre.length + rest.length = 64 → rest.length + 2100 < k →
    spec_Mac.l1 k x1 (pre ++ rest) (xorB 54 pre) (xorB 92 pre) (pre.length : Int) = some (hashL (xorB 92 (pre ++ rest) ++ hashL (xorB 54 (pre ++ rest) ++ x1)))
  | [], pre, k, hp, hk => by
    obtain ⟨k, rfl⟩ : ∃ m, k = m + 1 := ⟨k - 1, by omega⟩
    simp only [List.length_nil] at hp hk
    rw [List.append_nil]
    have h1 := hashL_le (xorB 54 pre ++ x1)
    simp only [spec_Mac.l1]
    rw [if_neg (by omega), if_pos (by rw [xorB_length]; omega), specHash _ (app_bytes (xorB_bytes _ _) hx) k (by omega), Option.bind_some, if_pos (by rw [xorB_length]; omega), specHash _ (app_bytes (xorB_bytes _ _) (hashL_bytes _)) k (by omega), Option.bind_some]
  | a :: rest, pre, k, hp, hk => by
    obtain ⟨k, rfl⟩ : ∃ m, k = m + 1 := ⟨k - 1, by omega⟩
    simp only [List.length_cons] at hp hk
    have ih := specMac_l1 x1 hx hl rest (pre ++ [a]) k (by simp; omega) (by omega)
    simp only [spec_Mac.l1]
    rw [if_pos (by omega), if_pos (pre_nonneg pre), if_pos (lt_mid pre a rest), if_pos (by rw [xorB_length]; omega), if_pos (by rw [xorB_length]; omega), rd_mid, wrap_step pre a (by omega), ← xorB_snoc, ← xorB_snoc, snoc_app pre a rest]
    exact ih
theorem specMac_l0 (x1 : List Int) (hx : ∀ x ∈ x1, 0 ≤ x ∧ x < 256) (hl : x1.length ≤ 3936) : ∀ (d : Nat) (y : List Int) (k : Nat), 64 - y.length = d → y.length ≤ 64 → d + 2300 < k →
    spec_Mac.l0 k x1 y = some (hashL (xorB 92 (y ++ List.replicate d 0) ++ hashL (xorB 54 (y ++ List.replicate d 0) ++ x1)))
  | 0, y, k, hd, hy, hk => by
    obtain ⟨k, rfl⟩ : ∃ m, k = m + 1 := ⟨k - 1, by omega⟩
    have h := specMac_l1 x1 hx hl y [] k (by simp; omega) (by omega)
    simp only [spec_Mac.l0]
    rw [if_neg (by omega), List.replicate_zero, List.append_nil]
    exact h
  | d + 1, y, k, hd, hy, hk => by
    obtain ⟨k, rfl⟩ : ∃ m, k = m + 1 := ⟨k - 1, by omega⟩
    have ih := specMac_l0 x1 hx hl d (y ++ [0]) k (by simp; omega) (by simp; omega) (by omega)
    simp only [spec_Mac.l0]
    rw [if_pos (by omega), if_pos (by omega), ih, List.replicate_succ]
    simp
theorem specMac (key b : List Int) (hw : ∀ x ∈ key, 0 ≤ x ∧ x < 256) (hb : ∀ x ∈ b, 0 ≤ x ∧ x < 256) (k : Nat) (hk : 2500 < k) : spec_Mac.f k key b = some (macL key b) := by
  obtain ⟨k, rfl⟩ : ∃ m, k = m + 2 := ⟨k - 2, by omega⟩
  unfold spec_Mac.f macL
  by_cases h1 : (key.length : Int) > 3936
  · rw [if_pos h1, if_pos (.inl h1)]; rfl
  · rw [if_neg h1]
    by_cases h2 : (b.length : Int) > 3936
    · rw [if_pos (.inr h2), decide_eq_true h2]; rfl
    · rw [if_neg (by omega), decide_eq_false h2]
      simp only [spec_Mac.j0]
      rw [if_neg (by decide)]
      simp only [Option.bind_some, List.nil_append, List.length_nil]
      rw [if_pos (by omega)]
      by_cases h3 : (key.length : Int) > 64
      · rw [if_pos h3, specHash key hw (k + 1) (by omega), Option.bind_some]
        have h4 := hashL_le key
        have h := specMac_l0 b hb (by omega) (64 - (hashL key).length) (hashL key) k rfl (by omega) (by omega)
        simp only [spec_Mac.j1]
        rw [h]
        unfold padK keyL
        rw [if_pos (by omega)]
      · rw [if_neg h3]
        have h := specMac_l0 b hb (by omega) (64 - key.length) key k rfl (by omega) (by omega)
        simp only [spec_Mac.j1]
        rw [h]
        unfold padK keyL
        rw [if_neg (by omega)]
theorem implXorAll (l : List Int) (x : Int) (hl : l.length = 64) (k : Nat) (hk : 100 < k) : impl_xorAll.f k l x = some (xorB x l) := by
  unfold impl_xorAll.f bytes_Repeat.f
  rw [if_pos ⟨rfl, by omega, by omega⟩, Option.bind_some, List.headD_cons, Int.toNat_natCast, implXor l _ (by omega) k (by omega), xorL_rep, Option.bind_some]
theorem implMac_t (y b : List Int) (hy : y.length ≤ 64) (hb : b.length ≤ 3936) (k : Nat) (hk : 2500 < k) : impl_Mac.t k y b = some (hashL (xorB 92 (y ++ List.replicate (64 - y.length) 0) ++ hashL (xorB 54 (y ++ List.replicate (64 - y.length) 0) ++ b))) := by
  unfold impl_Mac.t
  obtain ⟨z, hz⟩ : ∃ z, z = y ++ List.replicate (64 - y.length) 0 := ⟨_, rfl⟩
  have hzl : z.length = 64 := by rw [hz, List.length_append, List.length_replicate]; omega
  have h1 := hashL_le (xorB 54 z ++ b)
  rw [if_pos hy, joined2 _ _ (by rw [List.length_replicate]; omega), Option.bind_some, ← hz, implXorAll z 92 hzl k (by omega), Option.bind_some, implXorAll z 54 hzl k (by omega), Option.bind_some,
    joined2 _ _ (by rw [xorB_length]; omega), Option.bind_some, implHash _ k (by omega), Option.bind_some, joined2 _ _ (by rw [xorB_length]; omega), Option.bind_some, implHash _ k (by omega)]
theorem implMac (key b : List Int) (k : Nat) (hk : 2500 < k) : impl_Mac.f k key b = some (macL key b) := by
  unfold impl_Mac.f macL
  by_cases h2 : (b.length : Int) > 3936
  · rw [if_pos h2, if_pos (.inr h2)]
  · rw [if_neg h2]
    by_cases h1 : (key.length : Int) > 3936
    · rw [if_pos h1, if_pos (.inl h1)]
    · rw [if_neg h1]
      rw [if_neg (show ¬ ((key.length : Int) > 3936 ∨ (b.length : Int) > 3936) from by omega)]
      unfold padK keyL
      by_cases h3 : (key.length : Int) > 64
      · have h4 := hashL_le key
        rw [if_pos h3, implHash key k (by omega), Option.bind_some, implMac_t _ b (by omega) (by omega) k hk, if_pos (by omega)]
      · rw [if_neg h3, implMac_t _ b (by omega) (by omega) k hk, if_neg (by omega)]
end Go.Proofs.Ytienlgcjohpphaa.B
