import Derived.Test.YtlkgffeanjigjaaMgFnSizes1
import Derived.Test.YtlkgffeanjigjaaMgFnSizes14
import Derived.Test.YtlkgffeanjigjaaMgFnSizes16
import Derived.Test.YtlkgffeanjigjaaMgFnSizes22
import Derived.Test.YtlkgffeanjigjaaMgFnSizes15
import Derived.Test.YtlkgffeanjigjaaMgFnSizes17
import Derived.Test.YtlkgffeanjigjaaMgFnSizes2
import Derived.Test.YtlkgffeanjigjaaMgFnSizes5
-- Written by a program of this session (wip/drive.py) over the kit's print.
namespace Go.Proofs.Ytlkgffeanjigjaa.P
open Go.RowKit Go.Proofs.YtlkgffeanjigjaaW.PrintWords Go.Proofs.YtlkgffeanjigjaaW.PrintLast Go.Proofs.YtlkgffeanjigjaaW.PrintMore
attribute [local go_sem] max2_int min2_int max_two min_two max_three min_three max_four min_four   -- for this text's walks alone
set_option linter.unusedVariables false
set_option linter.unusedSimpArgs false

/-! ### spec_l1Once: function 89 -/
def spec_l1Once.f (s0_0 : List Int) (s0_1 : Int) (s0_2 : Int) (a1 : Int) : Option (Bool × Int × Int) := (spec_l1Below.f s0_0 s0_1 s0_2 a1).bind fun bt893 => (some ((bt893.1 == 0), bt893.2.1, bt893.2.2))
set_option maxHeartbeats 8000000 in
set_option maxRecDepth 100000 in
theorem spec_l1Once.calls (g : Nat) (s0_0 : List Int) (s0_1 : Int) (s0_2 : Int) (a1 : Int) (r1 : Bool) (r2 : Int) (r3 : Int) (w0 w : World) (hI : IsS83 w0 w g s0_0 s0_1 s0_2) (hB : Below w0.heap.size w0 w) (h : spec_l1Once.f s0_0 s0_1 s0_2 a1 = some (r1, r2, r3)) :
    Calls Try.prog 89 #[.pointer (some ⟨g, 0, none⟩), .int .i64 a1] w fun e w' => e = .returned (.bool r1) ∧ IsS83 w0 w' g s0_0 r2 r3 ∧ Below w0.heap.size w0 w' ∧ KeepBut w w' g none := by
  have HI0 := Aside0.mk hI
  have HK := Aside0.mk (KeepBut.refl w g none)
  have HL := Aside0.mk hB.size
  clear hI
  have HW0 := Aside0.mk hB.size
  have HB := Aside0.mk hB
  clear hB
  have H : ((spec_l1Below.f s0_0 s0_1 s0_2 a1).bind fun bt893 => (some ((bt893.1 == 0), bt893.2.1, bt893.2.2))) = some (r1, r2, r3) := h
  clear h
  replace H := Option.bind_eq_some_iff.mp H
  obtain ⟨⟨t893, t894, t895⟩, A30, H⟩ := H
  replace H : (some ((t893 == 0), t894, t895)) = some (r1, r2, r3) := H
  have A3 := Aside0.mk A30
  clear A30
  simp only [Option.some.injEq, Prod.mk.injEq] at H
  obtain ⟨rfl, rfl, rfl⟩ := H
  go_enter Try.func89, Try.ntmps89
  go_wp2_with (first | ((with_reducible refine gate_callee (f := 90) rfl ?_); refine goesL_ (some 7) rfl rfl Try.func90 (by kernel_rfl) rfl #[.pointer (some ⟨g, 0, none⟩), .int .i64 a1] rfl (by (try simp only [List.map_toArray, List.map_cons, List.map_nil]); first | done | rfl | (simp only [List.length_drop, List.length_take]; rfl) | (simp only [List.length_drop, List.length_take]; rw [Nat.min_eq_left (Int.toNat_le.mpr (of_eq_true (by assumption)))])) ?_; (with_reducible refine (spec_l1Below.calls g s0_0 s0_1 s0_2 a1 t893 t894 t895 w0 _ ?side1 ?side2 A3.out).mono ?_); (case side1 => repeat (first | (with_reducible first | exact HI0.out | apply IsS83.alloc | apply IsS83.drewN | apply IsS83.drew | apply IsS83.set_1 | apply IsS83.set_2) | exact HI0.out)); (case side2 => repeat (first | (with_reducible first | exact HB.out | apply below_alloc | apply pw_below_drewN | apply below_drew1 | refine below_set ?_ (IsS83.ge HI0.out)) | exact HB.out)); rintro e w4 ⟨rfl, hi, hb, hk⟩; refine ⟨_, rfl, ?_⟩; have n0_ := Aside0.mk (KeepBut.trans (by repeat (first | (with_reducible first | exact HK.out | apply KeepBut.set_ | apply keep_drewN | apply keep_drew | apply keep_alloc) | exact HK.out)) hk (.inl rfl)); have n1_ := Aside0.mk (hb); have n2_ := Aside0.mk (hi); clear HK; clear HB; clear HI0; have HK := n0_; have HB := n1_; have HI0 := n2_; clear n0_ n1_ n2_; (try clear hb); (try clear hb2); (try clear hk); (try clear hi)))
  go_ret
  exact ⟨by first | rfl | (simp [errW_none, errW_some] <;> rfl) | (simp [*, errW_none, errW_some] <;> rfl), by repeat (first | (with_reducible first | exact HI0.out | apply IsS83.alloc | apply IsS83.drewN | apply IsS83.drew | apply IsS83.set_1 | apply IsS83.set_2) | exact HI0.out), by repeat (first | (with_reducible first | exact HB.out | apply below_alloc | apply pw_below_drewN | apply below_drew1 | refine below_set ?_ (IsS83.ge HI0.out)) | exact HB.out), by repeat (first | (with_reducible first | exact HK.out | apply KeepBut.set_ | apply keep_drewN | apply keep_drew | apply keep_alloc) | exact HK.out)⟩

end Go.Proofs.Ytlkgffeanjigjaa.P
/- What the reference draws out of a list of bytes: there is always an answer, and how large it is; for lists of at most 2^40 bytes. -/
namespace Go.Proofs.Ytlkgffeanjigjaa.B
open Go.RowKit Go.Proofs.Ytlkgffeanjigjaa.P Go.Proofs.YtlkgffeanjigjaaW.PrintWords Go.Proofs.YtlkgffeanjigjaaW.PrintLast Go.Proofs.YtlkgffeanjigjaaW.PrintMore
theorem byteD (d : List Int) (p s : Int) (hd : d.length ≤ 1099511627776) (hp : 0 ≤ p) : ∃ v p' s', spec_l1Byte.f d p s = some (v, p', s') ∧ 0 ≤ v ∧ v < 256 ∧ 0 ≤ p' := by
  unfold spec_l1Byte.f
  simp only [i64_and255]
  by_cases h : p < (d.length : Int)
  · rw [if_pos h, if_pos hp, wrap_eq (p + 1) (by omega) (by omega)]
    exact ⟨_, _, _, rfl, by omega, by omega, by omega⟩
  · rw [if_neg h]
    exact ⟨_, _, _, rfl, by omega, by omega, hp⟩
theorem belowD (d : List Int) (p s a : Int) (hd : d.length ≤ 1099511627776) (hp : 0 ≤ p) : ∃ v p' s', spec_l1Below.f d p s a = some (v, p', s') ∧ 0 ≤ v ∧ (0 < a → v < a) ∧ 0 ≤ p' := by
  unfold spec_l1Below.f
  by_cases h : a ≤ 0
  · rw [if_pos h]; exact ⟨_, _, _, rfl, by omega, by omega, hp⟩
  · rw [if_neg h]
    by_cases h2 : a ≤ 256
    · obtain ⟨v, p', s', e, h0, h1, hp'⟩ := byteD d p s hd hp
      rw [if_pos h2, e, Option.bind_some, if_neg (by omega)]
      exact ⟨_, _, _, rfl, Int.tmod_nonneg _ h0, fun ha => Int.tmod_lt_of_pos _ ha, hp'⟩
    · rw [if_neg h2]
      obtain ⟨v1, p1, s1, e1, a1, b1, hp1⟩ := byteD d p s hd hp
      obtain ⟨v2, p2, s2, e2, a2, b2, hp2⟩ := byteD d p1 s1 hd hp1
      obtain ⟨v3, p3, s3, e3, a3, b3, hp3⟩ := byteD d p2 s2 hd hp2
      obtain ⟨v4, p4, s4, e4, a4, b4, hp4⟩ := byteD d p3 s3 hd hp3
      rw [e1, Option.bind_some, e2, Option.bind_some, e3, Option.bind_some, e4, Option.bind_some, if_neg (by omega)]
      simp only []
      rw [wrap_eq (v1 * 16777216) (by omega) (by omega), wrap_eq (v2 * 65536) (by omega) (by omega), wrap_eq (v3 * 256) (by omega) (by omega), wrap_eq (v1 * 16777216 + v2 * 65536) (by omega) (by omega), wrap_eq (v1 * 16777216 + v2 * 65536 + v3 * 256) (by omega) (by omega), wrap_eq (v1 * 16777216 + v2 * 65536 + v3 * 256 + v4) (by omega) (by omega)]
      exact ⟨_, _, _, rfl, Int.tmod_nonneg _ (by omega), fun ha => Int.tmod_lt_of_pos _ ha, hp4⟩
theorem newD_l0 : ∀ (n : Nat) (l : List Int) (s : Int) (i : Nat) (k : Nat), l.length - i = n → l.length ≤ 1099511627776 → n < k → ∃ s', spec_l1New.l0 k l s (i : Int) = some (l, 0, s')
  | 0, l, s, i, k, hn, hl, hk => by
    obtain ⟨k, rfl⟩ : ∃ m, k = m + 1 := ⟨k - 1, by omega⟩
    simp only [spec_l1New.l0]; rw [if_neg (by omega)]; exact ⟨_, rfl⟩
  | n + 1, l, s, i, k, hn, hl, hk => by
    obtain ⟨k, rfl⟩ : ∃ m, k = m + 1 := ⟨k - 1, by omega⟩
    simp only [spec_l1New.l0]; rw [if_pos (by omega)]
    by_cases h : (i : Int) < 4000
    · rw [if_pos h, if_pos (by omega), wrap_eq ((i : Int) + 1) (by omega) (by omega)]
      exact newD_l0 n l _ (i + 1) k (by omega) hl (by omega)
    · rw [if_neg h]; exact ⟨_, rfl⟩
theorem newD (l : List Int) (k : Nat) (hl : l.length ≤ 1099511627776) (hk : l.length < k) : ∃ s', spec_l1New.f k l = some (l, 0, s') :=
  newD_l0 _ l _ 0 k rfl hl (by omega)
theorem pickD (d : List Int) (p s : Int) (l : List Int) (hl : 0 < l.length) (hd : d.length ≤ 1099511627776) (hp : 0 ≤ p) : ∃ v p' s', spec_l1PickInt.f d p s l = some (v, p', s') ∧ v ∈ l ∧ 0 ≤ p' := by
  obtain ⟨i, p', s', e, h0, h1, hp'⟩ := belowD d p s (l.length : Int) hd hp
  have h1 := h1 (by omega)
  unfold spec_l1PickInt.f
  rw [e, Option.bind_some, if_pos h0, if_pos h1]
  refine ⟨_, _, _, rfl, ?_, hp'⟩
  unfold rd
  rw [List.getD_eq_getElem?_getD, List.getElem?_eq_getElem (show i.toNat < l.length by omega)]
  exact List.getElem_mem _
def drawNums : List Int := [0, 1, 305419896, 4294967295, 4294967296, -1, 9223372036854775807]
theorem numD (d : List Int) (p s : Int) (hd : d.length ≤ 1099511627776) (hp : 0 ≤ p) : ∃ v p' s', spec_l2DrawNum.f d p s = some (v, p', s') ∧ v ∈ drawNums ∧ 0 ≤ p' := by
  obtain ⟨v, p', s', e, h, hp'⟩ := pickD d p s drawNums (by decide) hd hp
  unfold spec_l2DrawNum.f
  rw [show ([0, 1, 305419896, 4294967295, 4294967296, (-1), 9223372036854775807] : List Int) = drawNums from rfl, e]
  exact ⟨v, p', s', rfl, h, hp'⟩
theorem bytesD_l0 (d : List Int) (hd : d.length ≤ 1099511627776) : ∀ (n : Nat) (acc : List Int) (m i p s : Int) (k : Nat), 0 ≤ i → (m - i).toNat = n → m ≤ 1000000 → acc.length ≤ 10000000 → (∀ x ∈ acc, 0 ≤ x ∧ x < 256) → n < 1000001 → acc.length + n ≤ 10000000 → 0 ≤ p → n < k →
    ∃ r p' s', spec_l1DrawBytes.l0 k acc m i d p s = some (r, p', s') ∧ (∀ x ∈ r, 0 ≤ x ∧ x < 256) ∧ r.length = acc.length + n ∧ 0 ≤ p'
  | 0, acc, m, i, p, s, k, hi, hn, hm, ha, hw, hc, hx, hp, hk => by
    obtain ⟨k, rfl⟩ : ∃ m, k = m + 1 := ⟨k - 1, by omega⟩
    simp only [spec_l1DrawBytes.l0]; rw [if_neg (by omega)]; exact ⟨_, _, _, rfl, hw, rfl, hp⟩
  | n + 1, acc, m, i, p, s, k, hi, hn, hm, ha, hw, hc, hx, hp, hk => by
    obtain ⟨k, rfl⟩ : ∃ m, k = m + 1 := ⟨k - 1, by omega⟩
    obtain ⟨v, p', s', e, h0, h1, hp'⟩ := belowD d p s 256 hd hp
    simp only [spec_l1DrawBytes.l0]; rw [if_pos (by omega), e, Option.bind_some, if_pos (by omega), wrap_eq (i + 1) (by omega) (by omega)]
    obtain ⟨r, p2, s2, h, hr, hl, hp2⟩ := bytesD_l0 d hd n (acc ++ [v % 256]) m (i + 1) p' s' k (by omega) (by omega) hm (by simp; omega) (by intro x hx; rcases List.mem_append.1 hx with h | h; exact hw x h; simp at h; omega) (by omega) (by simp; omega) hp' (by omega)
    exact ⟨r, p2, s2, h, hr, by rw [hl]; simp; omega, hp2⟩
theorem bytesD (d : List Int) (p s a : Int) (hd : d.length ≤ 1099511627776) (hp : 0 ≤ p) (ha : 0 ≤ a) (hb : a ≤ 100000) (k : Nat) (hk : 100001 < k) : ∃ r p' s', spec_l1DrawBytes.f k d p s a = some (r, p', s') ∧ (∀ x ∈ r, 0 ≤ x ∧ x < 256) ∧ (r.length : Int) ≤ a ∧ 0 ≤ p' := by
  obtain ⟨v, p', s', e, h0, h1, hp'⟩ := belowD d p s (a + 1) hd hp
  have h1 := h1 (by omega)
  unfold spec_l1DrawBytes.f
  rw [wrap_eq (a + 1) (by omega) (by omega), e, Option.bind_some]
  obtain ⟨r, p2, s2, h, hr, hl, hp2⟩ := bytesD_l0 d hd v.toNat [] v 0 p' s' k (by omega) (by omega) (by omega) (by simp) (by simp) (by omega) (by simp; omega) hp' (by omega)
  exact ⟨r, p2, s2, h, hr, by rw [hl]; simp; omega, hp2⟩
theorem onceD (d : List Int) (p s a : Int) (hd : d.length ≤ 1099511627776) (hp : 0 ≤ p) : ∃ v p' s', spec_l1Once.f d p s a = some (v, p', s') ∧ 0 ≤ p' := by
  obtain ⟨v, p', s', e, _, _, hp'⟩ := belowD d p s a hd hp
  unfold spec_l1Once.f
  rw [e]
  exact ⟨_, _, _, rfl, hp'⟩
end Go.Proofs.Ytlkgffeanjigjaa.B
/- Little, by the program and by the reference: the low bytes of a number, the lowest first; for every number and every count. -/
namespace Go.Proofs.Ytlkgffeanjigjaa.B
open Go.RowKit Go.Proofs.Ytlkgffeanjigjaa.P Go.Proofs.YtlkgffeanjigjaaW.PrintWords Go.Proofs.YtlkgffeanjigjaaW.PrintLast Go.Proofs.YtlkgffeanjigjaaW.PrintMore
/-- So many low bytes, the lowest first. -/
def lowL : Nat → Int → List Int
  | 0, _ => []
  | m + 1, n => n % 256 :: lowL m (n / 256)
/-- What Little answers. -/
def leL (n many : Int) : List Int := if 0 ≤ n ∧ 1 ≤ many ∧ many ≤ 8 then lowL many.toNat n else []
theorem lowL_length : ∀ (m : Nat) (n : Int), (lowL m n).length = m
  | 0, _ => rfl
  | m + 1, n => by simp [lowL, lowL_length m]
theorem leL_length (n many : Int) : (leL n many).length ≤ 8 := by
  unfold leL; split
  · rw [lowL_length]; omega
  · simp
theorem specLittle_l0 : ∀ (m : Nat) (n i many : Int) (acc : List Int) (k : Nat), 0 ≤ i → many ≤ 8 → many - i = m → acc.length ≤ 100 - m → m ≤ 8 → m < k →
    spec_Little.l0 k n many acc i = some (acc ++ lowL m n)
  | 0, n, i, many, acc, k, h0, h8, hd, hc, hm, hk => by
    obtain ⟨k, rfl⟩ : ∃ m, k = m + 1 := ⟨k - 1, by omega⟩
    simp only [spec_Little.l0]; rw [if_neg (by omega)]; simp [lowL]
  | m + 1, n, i, many, acc, k, h0, h8, hd, hc, hm, hk => by
    obtain ⟨k, rfl⟩ : ∃ m, k = m + 1 := ⟨k - 1, by omega⟩
    have ih := specLittle_l0 m (n / 256) (i + 1) many (acc ++ [n % 256]) k (by omega) h8 (by omega) (by simp; omega) (by omega) (by omega)
    simp only [spec_Little.l0]
    rw [if_pos (by omega), if_pos (by omega), wrap_eq (i + 1) (by omega) (by omega), i64_and255, show n % 256 % 256 = n % 256 by omega, ih]
    simp [lowL]
theorem specLittle (n many : Int) (k : Nat) (hk : 20 < k) : spec_Little.f k n many = some (leL n many) := by
  obtain ⟨k, rfl⟩ : ∃ m, k = m + 1 := ⟨k - 1, by omega⟩
  unfold spec_Little.f leL spec_l1In.f
  simp only [Option.bind_some]
  by_cases h : n < 0
  · rw [if_pos h, if_neg (by omega)]; simp [spec_Little.j0]
  · rw [if_neg h]
    by_cases h1 : many ≥ 1
    · rw [if_pos h1]
      simp only [Option.bind_some]
      by_cases h2 : many ≤ 8
      · rw [if_pos ⟨by omega, by omega, h2⟩]
        simp only [spec_Little.j0, h2, decide_true, Bool.not_true, Bool.false_eq_true, if_false]
        have := specLittle_l0 many.toNat n 0 many [] k (by omega) h2 (by omega) (by simp) (by omega) (by omega)
        simpa using this
      · rw [if_neg (by omega)]; simp [spec_Little.j0, h2]
    · rw [if_neg h1, if_neg (by omega)]; simp [spec_Little.j0]
theorem implLittle_l0 : ∀ (m : Nat) (n i many : Int) (acc : List Int) (k : Nat), 0 ≤ i → many ≤ 8 → many - i = m → acc.length ≤ 100 - m → m ≤ 8 → m < k →
    impl_Little.l0 k n acc many i = some (acc ++ lowL m n)
  | 0, n, i, many, acc, k, h0, h8, hd, hc, hm, hk => by
    obtain ⟨k, rfl⟩ : ∃ m, k = m + 1 := ⟨k - 1, by omega⟩
    simp only [impl_Little.l0]; rw [if_neg (by omega)]; simp [lowL]
  | m + 1, n, i, many, acc, k, h0, h8, hd, hc, hm, hk => by
    obtain ⟨k, rfl⟩ : ∃ m, k = m + 1 := ⟨k - 1, by omega⟩
    have ih := implLittle_l0 m (n / 256) (i + 1) many (acc ++ [n % 256]) k (by omega) h8 (by omega) (by simp; omega) (by omega) (by omega)
    simp only [impl_Little.l0]
    rw [if_pos (by omega), if_pos (by omega), wrap_eq (i + 1) (by omega) (by omega), ih]
    simp [lowL]
theorem implLittle (n many : Int) (k : Nat) (hk : 20 < k) : impl_Little.f k n many = some (leL n many) := by
  obtain ⟨k, rfl⟩ : ∃ m, k = m + 1 := ⟨k - 1, by omega⟩
  unfold impl_Little.f leL impl_in.f
  by_cases h : n < 0
  · rw [if_pos h, if_neg (by omega)]; simp [impl_Little.j0]
  · rw [if_neg h]
    by_cases h1 : many ≥ 1
    · rw [if_pos h1]
      simp only [Option.bind_some]
      by_cases h2 : many ≤ 8
      · rw [if_pos ⟨by omega, by omega, h2⟩]
        simp only [impl_Little.j0, h2, decide_true, Bool.not_true, Bool.false_eq_true, if_false]
        have := implLittle_l0 many.toNat n 0 many [] k (by omega) h2 (by omega) (by simp) (by omega) (by omega)
        simpa using this
      · rw [if_neg (by omega)]; simp [impl_Little.j0, h2]
    · rw [if_neg h1, if_neg (by omega)]; simp [impl_Little.j0]
end Go.Proofs.Ytlkgffeanjigjaa.B
