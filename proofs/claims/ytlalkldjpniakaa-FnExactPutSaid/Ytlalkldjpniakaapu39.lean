import Derived.Test.Ytlalkldjpniakaapu38
import Derived.Test.Ytlalkldjpniakaapu15
import Derived.Test.Ytlalkldjpniakaapu18
import Derived.Test.Ytlalkldjpniakaapu25
import Derived.Test.Ytlalkldjpniakaapu34
/- What the laws' own helpers over items compute: sizes, copies, comparisons. -/
namespace Go.Proofs.Ytlalkldjpniakaa.B
open Go.RowKit Go.Proofs.Ytlalkldjpniakaa.P Go.Proofs.YtlalkldjpniakaaW.PrintWords Go.Proofs.YtlalkldjpniakaaW.PrintLast Go.Proofs.YtlalkldjpniakaaW.PrintMore
theorem szByteS (l : List Int) (a : Int) (hl : l.length ≤ maxLen) (h0 : 0 ≤ a) (h1 : a ≤ 1048576) : laws_szByteS.f l a = some (if (l.length : Int) > a then -1 else a - l.length) := by
  unfold laws_szByteS.f
  unfold maxLen at hl
  rw [wrap_eq _ (by omega) (by omega)]
  by_cases h : (l.length : Int) > a
  · rw [if_pos (by omega), if_pos h]
  · rw [if_neg (by omega), if_neg h]
/-- The size of an item: what is left, or less than nothing. -/
theorem szItem (s : ByteArray) (n m : Int) (l : List Int) (a : Int) (hs : s.size ≤ maxLen) (hl : l.length ≤ maxLen) (h0 : 0 ≤ a) (h1 : a ≤ 1048576) :
    laws_szItem.f s n m l a = some (-1) ∨ (laws_szItem.f s n m l a = some (a - s.size - l.length) ∧ (s.size : Int) + l.length ≤ a) := by
  unfold laws_szItem.f
  have hs' := hs
  unfold maxLen at hs'
  rw [wrap_eq _ (by omega) (by omega)]
  by_cases h : a - (s.size : Int) < 0
  · rw [if_pos h]; exact .inl rfl
  · rw [if_neg h, szByteS l _ hl (by omega) (by omega), Option.bind_some]
    by_cases h2 : (l.length : Int) > a - (s.size : Int)
    · rw [if_pos h2, if_pos (by omega)]; exact .inl rfl
    · rw [if_neg h2, if_neg (by omega)]; exact .inr ⟨rfl, by omega⟩
def okIt (x : S31) : Prop := x.f0.size ≤ maxLen ∧ x.f3.length ≤ maxLen
def fits (x : S31) : Prop := x.f0.size ≤ 1048576 ∧ x.f3.length ≤ 1048576
/-- The item as it is built anew. -/
def it (x : S31) : S34 := ⟨x.f0, x.f1, x.f2, x.f3⟩
theorem rdT31_mid (pre : List S31) (x : S31) (rest : List S31) : rd_T31 (pre ++ x :: rest) (pre.length : Int) = x := by
  unfold rd_T31; simp [List.getD_eq_getElem?_getD]
theorem rdT34_mid (pre : List S34) (x : S34) (rest : List S34) : rd_T34 (pre ++ x :: rest) (pre.length : Int) = x := by
  unfold rd_T34; simp [List.getD_eq_getElem?_getD]
theorem set_midT (pre : List S34) (a b : S34) (rest : List S34) : (pre ++ b :: rest).set ((pre.length : Int).toNat) a = pre ++ a :: rest := by simp
theorem szItemS_l0 : ∀ (rest pre : List S31) (a : Int) (k : Nat), (∀ y ∈ rest, okIt y) → 0 ≤ a → a ≤ 1048576 → pre.length + rest.length ≤ 4611686018427387904 → rest.length < k →
    ∃ r, laws_szItemS.l0 k (pre ++ rest) a (pre.length : Int) = some r ∧ (¬ r < 0 → ∀ y ∈ rest, fits y)
  | [], pre, a, k, hg, h0, h1, hb, hk => by
    obtain ⟨k, rfl⟩ : ∃ m, k = m + 1 := ⟨k - 1, by omega⟩
    refine ⟨a, ?_, by simp⟩
    simp only [laws_szItemS.l0]; rw [if_neg (nlt_end pre)]
  | x :: rest, pre, a, k, hg, h0, h1, hb, hk => by
    obtain ⟨k, rfl⟩ : ∃ m, k = m + 1 := ⟨k - 1, by simp at hk; omega⟩
    simp only [List.length_cons] at hb hk
    have hx := hg x List.mem_cons_self
    simp only [laws_szItemS.l0]
    rw [if_pos (lt_mid pre x rest), if_pos (pre_nonneg pre), rdT31_mid]
    rcases szItem x.f0 x.f1 x.f2 x.f3 a hx.1 hx.2 h0 h1 with e | ⟨e, hle⟩
    · rw [e, Option.bind_some, if_pos (by omega)]
      exact ⟨-1, rfl, fun h => absurd (by omega) h⟩
    · rw [e, Option.bind_some, if_neg (by omega), wrap_step pre x (by omega), snoc_app pre x rest]
      obtain ⟨r, hr, hf⟩ := szItemS_l0 rest (pre ++ [x]) (a - x.f0.size - x.f3.length) k (fun y hy => hg y (List.mem_cons_of_mem _ hy)) (by omega) (by omega) (by simp; omega) (by omega)
      refine ⟨r, hr, fun h y hy => ?_⟩
      rcases List.mem_cons.1 hy with rfl | hy
      · unfold fits; omega
      · exact hf h y hy
theorem szItemS (l : List S31) (a : Int) (hl : l.length ≤ maxLen) (hg : ∀ y ∈ l, okIt y) (h0 : 0 ≤ a) (h1 : a ≤ 1048576) (k : Nat) (hk : l.length < k) :
    ∃ r, laws_szItemS.f k l a = some r ∧ (¬ r < 0 → l.length ≤ 1048576 ∧ ∀ y ∈ l, fits y) := by
  unfold laws_szItemS.f
  have hl' := hl
  unfold maxLen at hl'
  rw [wrap_eq _ (by omega) (by omega)]
  by_cases h : a - (l.length : Int) < 0
  · rw [if_pos h]; exact ⟨-1, rfl, fun h => absurd (by omega) h⟩
  · rw [if_neg h]
    obtain ⟨r, hr, hf⟩ := szItemS_l0 l [] (a - l.length) k hg (by omega) (by omega) (by simp; omega) hk
    exact ⟨r, hr, fun h => ⟨by omega, hf h⟩⟩
theorem toItem (s : ByteArray) (n m : Int) (l : List Int) (hl : l.length ≤ 1048576) (k : Nat) (hk : 1048576 < k) : laws_toItem.f k s n m l = some (s, n, m, l) := by
  unfold laws_toItem.f
  rw [toByteS l (by omega) k (by omega)]; rfl
theorem toItemS_l0 : ∀ (rest : List S31) (rest' : List S34) (pre : List S31) (k : Nat), (∀ y ∈ rest, fits y) → rest'.length = rest.length → pre.length + rest.length ≤ 1099511627776 → rest.length + 1048576 < k →
    laws_toItemS.l0 k (pre ++ rest) (pre.map it ++ rest') (pre.length : Int) = some ((pre ++ rest).map it)
  | [], rest', pre, k, hf, hl, hb, hk => by
    obtain ⟨k, rfl⟩ : ∃ m, k = m + 1 := ⟨k - 1, by omega⟩
    obtain rfl : rest' = [] := List.eq_nil_of_length_eq_zero (by simpa using hl)
    simp only [laws_toItemS.l0]; rw [if_neg (nlt_end pre)]; simp
  | x :: rest, rest', pre, k, hf, hl, hb, hk => by
    obtain ⟨k, rfl⟩ : ∃ m, k = m + 1 := ⟨k - 1, by simp at hk; omega⟩
    cases rest' with
    | nil => simp at hl
    | cons b rest' =>
      simp only [List.length_cons] at hl hb hk
      have hx := hf x List.mem_cons_self
      have ih := toItemS_l0 rest rest' (pre ++ [x]) k (fun y hy => hf y (List.mem_cons_of_mem _ hy)) (by omega) (by simp; omega) (by omega)
      have hp : pre.length = (pre.map it).length := by simp
      simp only [laws_toItemS.l0]
      rw [if_pos (lt_mid pre x rest), if_pos (pre_nonneg pre), rdT31_mid, toItem _ _ _ _ hx.2 k (by omega), Option.bind_some, if_pos (by rw [hp]; exact lt_mid _ b rest'), wrap_step pre x (by omega)]
      rw [show (pre.map it ++ b :: rest').set ((pre.length : Int).toNat) (⟨x.f0, x.f1, x.f2, x.f3⟩ : S34) = (pre ++ [x]).map it ++ rest' from by rw [hp, set_midT, List.map_append, List.append_assoc]; rfl, snoc_app pre x rest]
      exact ih
theorem toItemS (l : List S31) (hl : l.length ≤ 1048576) (hf : ∀ y ∈ l, fits y) (k : Nat) (hk : 2097152 < k) : laws_toItemS.f k l = some (l.map it) := by
  unfold laws_toItemS.f
  rw [if_pos (by omega), if_pos (by omega)]
  have h := toItemS_l0 l (List.replicate l.length z34) [] k hf (by simp) (by simp; omega) (by omega)
  rw [Int.toNat_natCast]
  exact h
theorem eqItem_same (s : ByteArray) (n m : Int) (l : List Int) (hl : l.length ≤ 1048576) (k : Nat) (hk : 1048576 < k) : laws_eqItem.f k s n m l s n m l = some true := by
  unfold laws_eqItem.f
  rw [if_pos rfl, if_pos rfl, if_pos rfl, eqByteS_same l (by omega) k (by omega)]; rfl
theorem eqItemS_l0 : ∀ (rest pre : List S34) (k : Nat), (∀ y ∈ rest, y.f3.length ≤ 1048576) → pre.length + rest.length ≤ 1099511627776 → rest.length + 1048576 < k → laws_eqItemS.l0 k (pre ++ rest) (pre ++ rest) (pre.length : Int) = some true
  | [], pre, k, hf, hb, hk => by
    obtain ⟨k, rfl⟩ : ∃ m, k = m + 1 := ⟨k - 1, by omega⟩
    simp only [laws_eqItemS.l0]; rw [if_neg (nlt_end pre)]
  | x :: rest, pre, k, hf, hb, hk => by
    obtain ⟨k, rfl⟩ : ∃ m, k = m + 1 := ⟨k - 1, by simp at hk; omega⟩
    simp only [List.length_cons] at hb hk
    have ih := eqItemS_l0 rest (pre ++ [x]) k (fun y hy => hf y (List.mem_cons_of_mem _ hy)) (by simp; omega) (by omega)
    simp only [laws_eqItemS.l0]
    rw [if_pos (lt_mid pre x rest), if_pos (pre_nonneg pre), if_pos (lt_mid pre x rest), rdT34_mid, eqItem_same _ _ _ _ (hf x List.mem_cons_self) k (by omega), Option.bind_some, if_pos rfl, wrap_step pre x (by omega), snoc_app pre x rest]
    exact ih
theorem eqItemS_same (l : List S34) (hl : l.length ≤ 1048576) (hf : ∀ y ∈ l, y.f3.length ≤ 1048576) (k : Nat) (hk : 2097152 < k) : laws_eqItemS.f k l l = some true := by
  unfold laws_eqItemS.f
  rw [if_pos rfl]
  exact eqItemS_l0 l [] k hf (by simp; omega) (by omega)
end Go.Proofs.Ytlalkldjpniakaa.B
/- Of, by the program and by the reference: how many items have a route; for lists of at most 2^40 items. -/
namespace Go.Proofs.Ytlalkldjpniakaa.B
open Go.RowKit Go.Proofs.Ytlalkldjpniakaa.P Go.Proofs.YtlalkldjpniakaaW.PrintWords Go.Proofs.YtlalkldjpniakaaW.PrintLast Go.Proofs.YtlalkldjpniakaaW.PrintMore
def ofL (a : ByteArray) : List S34 → Int
  | [] => 0
  | x :: l => (if x.f0.toList = a.toList then 1 else 0) + ofL a l
theorem ofL_bounds (a : ByteArray) : ∀ l : List S34, 0 ≤ ofL a l ∧ ofL a l ≤ l.length
  | [] => by simp [ofL]
  | x :: l => by
    have := ofL_bounds a l
    simp only [ofL, List.length_cons]
    split <;> omega
theorem specOf_l0 (a : ByteArray) : ∀ (rest pre : List S34) (n : Int) (k : Nat), 0 ≤ n → n + rest.length ≤ 1099511627776 → pre.length + rest.length ≤ 1099511627776 → rest.length < k →
    spec_Of.l0 k (pre ++ rest) a n (pre.length : Int) = some (n + ofL a rest)
  | [], pre, n, k, h0, hn, hb, hk => by
    obtain ⟨k, rfl⟩ : ∃ m, k = m + 1 := ⟨k - 1, by omega⟩
    simp only [spec_Of.l0]; rw [if_neg (nlt_end pre)]; simp [ofL]
  | x :: rest, pre, n, k, h0, hn, hb, hk => by
    obtain ⟨k, rfl⟩ : ∃ m, k = m + 1 := ⟨k - 1, by simp at hk; omega⟩
    simp only [List.length_cons] at hb hk hn
    simp only [spec_Of.l0]
    rw [if_pos (lt_mid pre x rest), if_pos (pre_nonneg pre), rdT34_mid, wrap_step pre x (by omega), snoc_app pre x rest]
    unfold spec_l1Bit.f
    by_cases e : x.f0.toList = a.toList
    · have ih := specOf_l0 a rest (pre ++ [x]) (n + 1) k (by omega) (by omega) (by simp; omega) (by omega)
      rw [if_pos (by simpa using e), Option.bind_some, wrap_eq _ (by omega) (by omega), ih]
      simp only [ofL]; rw [if_pos e]; congr 1; omega
    · have ih := specOf_l0 a rest (pre ++ [x]) n k (by omega) (by omega) (by simp; omega) (by omega)
      rw [if_neg (by simpa using e), Option.bind_some, wrap_eq _ (by omega) (by omega), Int.add_zero, ih]
      simp only [ofL]; rw [if_neg e]; congr 1; omega
theorem specOf (l : List S34) (a : ByteArray) (hl : l.length ≤ 1099511627776) (k : Nat) (hk : l.length < k) : spec_Of.f k l a = some (ofL a l) := by
  have h := specOf_l0 a l [] 0 k (by omega) (by omega) (by simp; omega) hk
  simpa [spec_Of.f] using h
theorem implOf_l0 (a : ByteArray) : ∀ (rest pre : List S34) (n m : Int) (k : Nat), m = (((pre ++ rest).length : Nat) : Int) → 0 ≤ n → n + rest.length ≤ 1099511627776 → pre.length + rest.length ≤ 1099511627776 → rest.length < k →
    impl_Of.l0 k a n (pre ++ rest) m (pre.length : Int) = some (n + ofL a rest)
  | [], pre, n, m, k, hm, h0, hn, hb, hk => by
    obtain ⟨k, rfl⟩ : ∃ m, k = m + 1 := ⟨k - 1, by omega⟩
    simp only [impl_Of.l0]; rw [hm, if_neg (nlt_end pre)]; simp [ofL]
  | x :: rest, pre, n, m, k, hm, h0, hn, hb, hk => by
    obtain ⟨k, rfl⟩ : ∃ m, k = m + 1 := ⟨k - 1, by simp at hk; omega⟩
    simp only [List.length_cons] at hb hk hn
    simp only [impl_Of.l0]
    rw [if_pos (by rw [hm]; exact lt_mid pre x rest), if_pos (pre_nonneg pre), if_pos (lt_mid pre x rest), rdT34_mid, wrap_step pre x (by omega), snoc_app pre x rest]
    by_cases e : x.f0.toList = a.toList
    · have ih := implOf_l0 a rest (pre ++ [x]) (n + 1) m k (by rw [hm]; simp) (by omega) (by omega) (by simp; omega) (by omega)
      rw [if_pos e, wrap_eq _ (by omega) (by omega), ih]
      simp only [ofL]; rw [if_pos e]; congr 1; omega
    · have ih := implOf_l0 a rest (pre ++ [x]) n m k (by rw [hm]; simp) (by omega) (by omega) (by simp; omega) (by omega)
      rw [if_neg e, ih]
      simp only [ofL]; rw [if_neg e]; congr 1; omega
theorem implOf (l : List S34) (a : ByteArray) (hl : l.length ≤ 1099511627776) (k : Nat) (hk : l.length < k) : impl_Of.f k l a = some (ofL a l) := by
  have h := implOf_l0 a l [] 0 _ k rfl (by omega) (by omega) (by simp; omega) hk
  simpa [impl_Of.f] using h
end Go.Proofs.Ytlalkldjpniakaa.B
/- Unhex, by the program and by the reference; for texts of at most 2^40 bytes. -/
namespace Go.Proofs.Ytlalkldjpniakaa.B
open Go.RowKit Go.Proofs.Ytlalkldjpniakaa.P Go.Proofs.YtlalkldjpniakaaW.PrintWords Go.Proofs.YtlalkldjpniakaaW.PrintLast Go.Proofs.YtlalkldjpniakaaW.PrintMore
def sgn (c : Int) : Int := if 48 ≤ c ∧ c ≤ 57 then c - 48 else if 97 ≤ c ∧ c ≤ 102 then c - 87 else -1
theorem sgn_range (c : Int) : -1 ≤ sgn c ∧ sgn c < 16 := by
  unfold sgn
  split
  · omega
  · split <;> omega
theorem bt_rng (s : ByteArray) (i : Int) : 0 ≤ bt s i ∧ bt s i < 256 := by
  unfold bt; split
  · have := (s[i.toNat]'(by assumption)).toNat_lt; omega
  · omega
theorem specSign (c : Int) (h0 : 0 ≤ c) (h1 : c < 256) (k : Nat) : spec_l1Sign.f (k + 1) c = some (sgn c) := by
  have e0 : wrap64 c = c := wrap_eq _ (by omega) (by omega)
  unfold spec_l1Sign.f sgn
  simp only [spec_l1Sign.j0, e0, decide_eq_true_eq]
  repeat' split
  all_goals first | rfl | contradiction | (exfalso; omega) | (rw [wrap_eq _ (by omega) (by omega)])
theorem implSign256 : ∀ n : Fin 256, Lib.indexByte [48, 49, 50, 51, 52, 53, 54, 55, 56, 57, 97, 98, 99, 100, 101, 102] n.val.toUInt8 = sgn (n.val : Int) := by
  decide +kernel
theorem implSign (c : Int) (h0 : 0 ≤ c) (h1 : c < 256) : strings_IndexByte.f (⟨#[48, 49, 50, 51, 52, 53, 54, 55, 56, 57, 97, 98, 99, 100, 101, 102]⟩ : ByteArray) c = some (sgn c) := by
  have h := implSign256 ⟨c.toNat, by omega⟩
  simp only [strings_IndexByte.f, stringslite_IndexByte.f, Option.bind_some]
  rw [show ((c.toNat : Nat) : Int) = c from by omega] at h
  exact congrArg some h
theorem two16 : ∀ a b : Fin 16, (wrap64 ((wrap64 (16 * (a.val : Int))) + (b.val : Int))) % 256 = (Go.bits .or .i64 (wrap64 ((a.val : Int) * 16)) (b.val : Int)) % 256 := by
  decide +kernel
theorem two (a b : Int) (ha : 0 ≤ a ∧ a < 16) (hb : 0 ≤ b ∧ b < 16) : (Go.bits .or .i64 (wrap64 (a * 16)) b) % 256 = (wrap64 ((wrap64 (16 * a)) + b)) % 256 := by
  have h := two16 ⟨a.toNat, by omega⟩ ⟨b.toNat, by omega⟩
  simp only [] at h
  rw [show ((a.toNat : Nat) : Int) = a from by omega, show ((b.toNat : Nat) : Int) = b from by omega] at h
  exact h.symm
theorem unhex_l0 (s : ByteArray) (hs : s.size ≤ 1099511627776) : ∀ (n i : Nat) (acc : List Int), s.size - i ≤ n → i ≤ s.size → i % 2 = 0 → acc.length + (s.size - i) ≤ 4398046511104 →
    ∃ r : List Int × Bool, r.1.length ≤ acc.length + (s.size - i) ∧ (s.size % 2 = 1 → r = ([], false)) ∧ (∀ k, n + 2 < k → spec_Unhex.l0 k s acc (i : Int) = some r) ∧ (∀ k, n + 2 < k → s.size % 2 = 0 → impl_Unhex.l0 k s acc (i : Int) = some r) ∧ (r.2 = true → 2 * r.1.length = 2 * acc.length + (s.size - i))
  | 0, i, acc, hn, hi, h2, hc => by
    have he : i = s.size := by omega
    subst he
    refine ⟨(acc, true), by simp, fun h => by omega, fun k hk => ?_, fun k hk _ => ?_, fun _ => by simp⟩
    · obtain ⟨k, rfl⟩ : ∃ m, k = m + 1 := ⟨k - 1, by omega⟩
      simp only [spec_Unhex.l0]; rw [wrap_eq _ (by omega) (by omega), if_neg (by omega), if_pos (by omega)]
    · obtain ⟨k, rfl⟩ : ∃ m, k = m + 1 := ⟨k - 1, by omega⟩
      simp only [impl_Unhex.l0]; rw [if_neg (by omega)]
  | n + 1, i, acc, hn, hi, h2, hc => by
    by_cases hd : i + 1 < s.size
    · have e1 : wrap64 ((i : Int) + 1) = i + 1 := wrap_eq _ (by omega) (by omega)
      have e2 : wrap64 ((i : Int) + 2) = ((i + 2 : Nat) : Int) := by rw [wrap_eq _ (by omega) (by omega)]; rfl
      obtain ⟨a0, a1⟩ := bt_rng s i
      obtain ⟨b0, b1⟩ := bt_rng s ((i : Int) + 1)
      obtain ⟨sa0, sa1⟩ := sgn_range (bt s i)
      obtain ⟨sb0, sb1⟩ := sgn_range (bt s ((i : Int) + 1))
      by_cases bad : sgn (bt s i) < 0 ∨ sgn (bt s ((i : Int) + 1)) < 0
      · refine ⟨([], false), by simp, fun _ => rfl, fun k hk => ?_, fun k hk _ => ?_, fun h => by cases h⟩
        · obtain ⟨k, rfl⟩ : ∃ m, k = m + 2 := ⟨k - 2, by omega⟩
          simp only [spec_Unhex.l0, e1, specSign _ a0 a1, specSign _ b0 b1, Option.bind_some]
          rw [if_pos (by omega), if_pos (by omega), if_pos (by omega), if_pos (by omega)]
          by_cases hx : sgn (bt s i) < 0
          · rw [if_pos hx]
          · rw [if_neg hx, if_pos (by omega)]
        · obtain ⟨k, rfl⟩ : ∃ m, k = m + 1 := ⟨k - 1, by omega⟩
          simp only [impl_Unhex.l0, e1, implSign _ a0 a1, implSign _ b0 b1, Option.bind_some]
          rw [if_pos (by omega), if_pos (by omega), if_pos (by omega), if_pos (by omega)]
          by_cases hx : sgn (bt s i) < 0
          · rw [if_pos hx]
          · rw [if_neg hx, if_pos (by omega)]
      · obtain ⟨r, hr0, hr1, hr2, hr3, hr4⟩ := unhex_l0 s hs n (i + 2) (acc ++ [(wrap64 ((wrap64 (16 * sgn (bt s i))) + sgn (bt s ((i : Int) + 1)))) % 256]) (by omega) (by omega) (by omega) (by simp; omega)
        refine ⟨r, by simp at hr0; omega, hr1, fun k hk => ?_, fun k hk h => ?_, fun h => by have h4 := hr4 h; rw [List.length_append, List.length_singleton] at h4; omega⟩
        · obtain ⟨k, rfl⟩ : ∃ m, k = m + 2 := ⟨k - 2, by omega⟩
          simp only [spec_Unhex.l0.eq_2, e1, e2, specSign _ a0 a1, specSign _ b0 b1, Option.bind_some]
          rw [if_pos (by omega), if_pos (by omega), if_pos (by omega), if_pos (by omega), if_neg (by omega), if_neg (by omega), if_pos (by omega)]
          exact hr2 (k + 1) (by omega)
        · obtain ⟨k, rfl⟩ : ∃ m, k = m + 1 := ⟨k - 1, by omega⟩
          simp only [impl_Unhex.l0, e1, e2, implSign _ a0 a1, implSign _ b0 b1, Option.bind_some]
          rw [if_pos (by omega), if_pos (by omega), if_pos (by omega), if_pos (by omega), if_neg (by omega), if_neg (by omega), if_pos (by omega), two _ _ (by omega) (by omega)]
          exact hr3 k (by omega) h
    · by_cases ho : i = s.size
      · subst ho
        refine ⟨(acc, true), by simp, fun h => by omega, fun k hk => ?_, fun k hk _ => ?_, fun _ => by simp⟩
        · obtain ⟨k, rfl⟩ : ∃ m, k = m + 1 := ⟨k - 1, by omega⟩
          simp only [spec_Unhex.l0]; rw [wrap_eq _ (by omega) (by omega), if_neg (by omega), if_pos (by omega)]
        · obtain ⟨k, rfl⟩ : ∃ m, k = m + 1 := ⟨k - 1, by omega⟩
          simp only [impl_Unhex.l0]; rw [if_neg (by omega)]
      · refine ⟨([], false), by simp, fun _ => rfl, fun k hk => ?_, fun k hk h => by omega, fun h => by cases h⟩
        obtain ⟨k, rfl⟩ : ∃ m, k = m + 1 := ⟨k - 1, by omega⟩
        simp only [spec_Unhex.l0]; rw [wrap_eq _ (by omega) (by omega), if_neg (by omega), if_neg (by omega)]
theorem unhex (s : ByteArray) (hs : s.size ≤ 1099511627776) : ∃ r : List Int × Bool, r.1.length ≤ s.size ∧ (r.2 = true → 2 * r.1.length = s.size) ∧ ∀ k, s.size + 3 < k → spec_Unhex.f k s = some r ∧ impl_Unhex.f k s = some r := by
  obtain ⟨r, h0, h1, h2, h3, h4⟩ := unhex_l0 s hs s.size 0 [] (by omega) (by omega) rfl (by simp; omega)
  refine ⟨r, by simpa using h0, fun h => by simpa using h4 h, fun k hk => ⟨h2 k (by omega), ?_⟩⟩
  unfold impl_Unhex.f
  by_cases he : s.size % 2 = 0
  · rw [if_pos (by omega)]; exact h3 k (by omega) he
  · rw [if_neg (by omega), h1 (by omega)]
end Go.Proofs.Ytlalkldjpniakaa.B
/- 'from lo to hi', by the program and by the reference; for every three numbers. -/
namespace Go.Proofs.Ytlalkldjpniakaa.B
open Go.RowKit Go.Proofs.Ytlalkldjpniakaa.P Go.Proofs.YtlalkldjpniakaaW.PrintWords Go.Proofs.YtlalkldjpniakaaW.PrintLast Go.Proofs.YtlalkldjpniakaaW.PrintMore
theorem specIn (a b c : Int) : spec_l1In.f a b c = some (decide (b ≤ a ∧ a ≤ c)) := by
  unfold spec_l1In.f
  by_cases h : a ≥ b
  · rw [if_pos h]; simp [show b ≤ a from h]
  · rw [if_neg h]; simp [show ¬ b ≤ a from h]
theorem implIn (a b c : Int) : impl_in.f a b c = some (decide (b ≤ a ∧ a ≤ c)) := specIn a b c
end Go.Proofs.Ytlalkldjpniakaa.B
