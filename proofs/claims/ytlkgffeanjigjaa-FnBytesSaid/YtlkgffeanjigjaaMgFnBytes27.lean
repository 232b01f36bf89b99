import Derived.Test.YtlkgffeanjigjaaMgFnBytes25
import Derived.Test.YtlkgffeanjigjaaMgFnBytes23
import Derived.Test.YtlkgffeanjigjaaMgFnBytes20
import Derived.Test.YtlkgffeanjigjaaMgFnBytes26
import Derived.Test.YtlkgffeanjigjaaMgFnBytes8
import Derived.Test.YtlkgffeanjigjaaMgFnBytes4
import Derived.Test.YtlkgffeanjigjaaMgFnBytes6
/- Xor, by the program and by the reference: the two lists byte by byte, as far as the shorter one goes; for lists of at most 2^40 bytes. -/
namespace Go.Proofs.Ytlkgffeanjigjaa.B
open Go.RowKit Go.Proofs.Ytlkgffeanjigjaa.P Go.Proofs.YtlkgffeanjigjaaW.PrintWords Go.Proofs.YtlkgffeanjigjaaW.PrintLast Go.Proofs.YtlkgffeanjigjaaW.PrintMore
/-- Byte by byte, one or the other, not both. -/
def xorL (a b : List Int) : List Int := List.zipWith (Go.bits .xor .u8) a b
theorem specXor_l0 : ∀ (a b pa pb acc : List Int) (k : Nat), pa.length = pb.length → pa.length + a.length ≤ 1099511627776 → acc.length + a.length ≤ 2199023255552 → a.length < k →
    spec_Xor.l0 k (pa ++ a) (pb ++ b) acc (pa.length : Int) = some (acc ++ xorL a b)
  | [], b, pa, pb, acc, k, he, hb, hc, hk => by
    obtain ⟨k, rfl⟩ : ∃ m, k = m + 1 := ⟨k - 1, by omega⟩
    simp only [spec_Xor.l0]; rw [if_neg (nlt_end pa)]; simp [xorL]
  | x :: a, [], pa, pb, acc, k, he, hb, hc, hk => by
    obtain ⟨k, rfl⟩ : ∃ m, k = m + 1 := ⟨k - 1, by omega⟩
    simp only [spec_Xor.l0]; rw [if_pos (lt_mid pa x a), if_neg (nlt_end2 pa pb he)]; simp [xorL]
  | x :: a, y :: b, pa, pb, acc, k, he, hb, hc, hk => by
    obtain ⟨k, rfl⟩ : ∃ m, k = m + 1 := ⟨k - 1, by omega⟩
    simp only [List.length_cons] at hb hc hk
    have ih := specXor_l0 a b (pa ++ [x]) (pb ++ [y]) (acc ++ [Go.bits .xor .u8 x y]) k (by simp [he]) (by simp; omega) (by simp; omega) (by omega)
    simp only [spec_Xor.l0]
    rw [if_pos (lt_mid pa x a), if_pos (lt_mid2 pa pb y b he), if_pos (pre_nonneg pa), if_pos (by omega), rd_mid, rd_mid2 pa pb y b he, wrap_step pa x (by omega), snoc_app pa x a, snoc_app pb y b, ih]
    simp [xorL]
theorem specXor (a b : List Int) (hn : a.length ≤ 1099511627776) (k : Nat) (hk : a.length < k) : spec_Xor.f k a b = some (xorL a b) := by
  have h := specXor_l0 a b [] [] [] k rfl (by simpa using hn) (by simp; omega) hk
  simpa [spec_Xor.f] using h
theorem implXor_l0 : ∀ (a b pa pb acc : List Int) (m : Int) (k : Nat), pa.length = pb.length → m = mn (((pa ++ a).length : Nat) : Int) (((pb ++ b).length : Nat) : Int) → pa.length + a.length ≤ 1099511627776 → acc.length + a.length ≤ 2199023255552 → a.length < k →
    impl_Xor.l0 k (pa ++ a) (pb ++ b) acc m (pa.length : Int) = some (acc ++ xorL a b)
  | [], b, pa, pb, acc, m, k, he, hm, hb, hc, hk => by
    obtain ⟨k, rfl⟩ : ∃ m, k = m + 1 := ⟨k - 1, by omega⟩
    simp only [impl_Xor.l0]; rw [if_neg (by rw [hm]; unfold mn; simp; split <;> omega)]; simp [xorL]
  | x :: a, [], pa, pb, acc, m, k, he, hm, hb, hc, hk => by
    obtain ⟨k, rfl⟩ : ∃ m, k = m + 1 := ⟨k - 1, by omega⟩
    simp only [impl_Xor.l0]; rw [if_neg (by rw [hm]; unfold mn; simp; split <;> omega)]; simp [xorL]
  | x :: a, y :: b, pa, pb, acc, m, k, he, hm, hb, hc, hk => by
    obtain ⟨k, rfl⟩ : ∃ m, k = m + 1 := ⟨k - 1, by omega⟩
    simp only [List.length_cons] at hb hc hk
    have ih := implXor_l0 a b (pa ++ [x]) (pb ++ [y]) (acc ++ [Go.bits .xor .u8 x y]) m k (by simp [he]) (by rw [hm]; simp) (by simp; omega) (by simp; omega) (by omega)
    simp only [impl_Xor.l0]
    rw [if_pos (by rw [hm]; unfold mn; simp; split <;> omega), if_pos (pre_nonneg pa), if_pos (lt_mid pa x a), if_pos (lt_mid2 pa pb y b he), if_pos (by omega), rd_mid, rd_mid2 pa pb y b he, wrap_step pa x (by omega), snoc_app pa x a, snoc_app pb y b, ih]
    simp [xorL]
theorem implXor (a b : List Int) (hn : a.length ≤ 1099511627776) (k : Nat) (hk : a.length < k) : impl_Xor.f k a b = some (xorL a b) := by
  have h := implXor_l0 a b [] [] [] _ k rfl rfl (by simpa using hn) (by simp; omega) hk
  simpa [impl_Xor.f] using h
theorem xorL_length (a b : List Int) : (xorL a b).length ≤ a.length := by
  simp [xorL]; omega
end Go.Proofs.Ytlkgffeanjigjaa.B
/- Hex there and back; Xor back. -/
namespace Go.Proofs.Ytlkgffeanjigjaa.B
open Go.RowKit Go.Proofs.Ytlkgffeanjigjaa.P Go.Proofs.YtlkgffeanjigjaaW.PrintWords Go.Proofs.YtlkgffeanjigjaaW.PrintLast Go.Proofs.YtlkgffeanjigjaaW.PrintMore
def numsL (s : ByteArray) : List Int := s.data.toList.map fun b => (b.toNat : Int)
theorem numsL_length (s : ByteArray) : (numsL s).length = s.size := by
  unfold numsL; rw [List.length_map, Array.length_toList]; rfl
theorem numsL_bytes (s : ByteArray) : ∀ x ∈ numsL s, 0 ≤ x ∧ x < 256 := by
  intro x hx
  obtain ⟨b, _, rfl⟩ := List.mem_map.1 hx
  have := b.toNat_lt
  omega
theorem str_nums (s : ByteArray) : strOfNums (numsL s) = s := by
  cases s with
  | mk d => simp [strOfNums, numsL, List.map_map, Function.comp_def]
theorem nums_str (l : List Int) (h : ∀ x ∈ l, 0 ≤ x ∧ x < 256) : numsL (strOfNums l) = l := by
  unfold numsL strOfNums
  simp only [List.map_map]
  conv => rhs; rw [← List.map_id l]
  apply List.map_congr_left
  intro x hx
  have := h x hx
  simp only [Function.comp, id_eq, UInt8.toNat_ofNat']
  omega
theorem bt_nums (s : ByteArray) (i : Nat) (a : Int) (r : List Int) (h : (numsL s).drop i = a :: r) : bt s (i : Int) = a := by
  have h0 : (numsL s)[i]? = some a := by
    have := congrArg (fun l => l[0]?) h
    simpa using this
  obtain ⟨hi, hv⟩ := List.getElem?_eq_some_iff.1 h0
  have hs : i < s.size := by rw [← numsL_length]; exact hi
  unfold bt
  rw [dif_pos (by simpa using hs)]
  rw [← hv]
  simp [numsL]
  rfl
def unhexP : List Int → Option (List Int)
  | a :: b :: r => if sgn a < 0 ∨ sgn b < 0 then none else (unhexP r).map ((16 * sgn a + sgn b) :: ·)
  | [] => some []
  | [_] => none
def unhexA (acc : List Int) (l : List Int) : List Int × Bool := match unhexP l with | some r => (acc ++ r, true) | none => ([], false)
theorem unhexP_l0 (s : ByteArray) (hs : s.size ≤ 1099511627776) : ∀ (rest : List Int) (i : Nat) (acc : List Int) (k : Nat), (numsL s).drop i = rest → i ≤ s.size → i % 2 = 0 → acc.length + s.size ≤ 4398046511104 + i → rest.length + 2 < k →
    spec_Unhex.l0 k s acc (i : Int) = some (unhexA acc rest)
  | [], i, acc, k, hr, hi, h2, hc, hk => by
    have hl : s.size - i = 0 := by have := congrArg List.length hr; rw [List.length_drop, numsL_length] at this; simpa using this
    obtain ⟨k, rfl⟩ : ∃ m, k = m + 1 := ⟨k - 1, by omega⟩
    simp only [spec_Unhex.l0]; rw [wrap_eq _ (by omega) (by omega), if_neg (by omega), if_pos (by omega)]; simp [unhexA, unhexP]
  | [a], i, acc, k, hr, hi, h2, hc, hk => by
    have hl : s.size - i = 1 := by have := congrArg List.length hr; rw [List.length_drop, numsL_length] at this; simpa using this
    obtain ⟨k, rfl⟩ : ∃ m, k = m + 1 := ⟨k - 1, by omega⟩
    simp only [spec_Unhex.l0]; rw [wrap_eq _ (by omega) (by omega), if_neg (by omega), if_neg (by omega)]; rfl
  | a :: b :: r, i, acc, k, hr, hi, h2, hc, hk => by
    have hl : s.size - i = r.length + 2 := by have := congrArg List.length hr; rw [List.length_drop, numsL_length] at this; simpa using this
    simp only [List.length_cons] at hk
    obtain ⟨k, rfl⟩ : ∃ m, k = m + 2 := ⟨k - 2, by omega⟩
    have hr1 : (numsL s).drop (i + 1) = b :: r := by rw [← List.drop_drop, hr]; rfl
    have hr2 : (numsL s).drop (i + 2) = r := by rw [← List.drop_drop, hr]; rfl
    have ea : bt s (i : Int) = a := bt_nums s i a _ hr
    have eb : bt s ((i : Int) + 1) = b := bt_nums s (i + 1) b _ hr1
    have e1 : wrap64 ((i : Int) + 1) = i + 1 := wrap_eq _ (by omega) (by omega)
    have e2 : wrap64 ((i : Int) + 2) = ((i + 2 : Nat) : Int) := by rw [wrap_eq _ (by omega) (by omega)]; rfl
    obtain ⟨a0, a1⟩ := bt_rng s i
    obtain ⟨b0, b1⟩ := bt_rng s ((i : Int) + 1)
    rw [ea] at a0 a1
    rw [eb] at b0 b1
    obtain ⟨sa0, sa1⟩ := sgn_range a
    obtain ⟨sb0, sb1⟩ := sgn_range b
    rw [show k + 2 = (k + 1) + 1 from rfl, spec_Unhex.l0]
    simp only [e1, e2, ea, eb, specSign _ a0 a1, specSign _ b0 b1, Option.bind_some]
    rw [if_pos (by omega), if_pos (by omega), if_pos (by omega), if_pos (by omega)]
    by_cases bad : sgn a < 0 ∨ sgn b < 0
    · have hu : unhexA acc (a :: b :: r) = ([], false) := by unfold unhexA; rw [unhexP, if_pos bad]
      rw [hu]
      by_cases hx : sgn a < 0
      · rw [if_pos hx]
      · rw [if_neg hx, if_pos (by omega)]
    · have ih := unhexP_l0 s hs r (i + 2) (acc ++ [16 * sgn a + sgn b]) (k + 1) hr2 (by omega) (by omega) (by simp; omega) (by omega)
      have hv : wrap64 (wrap64 (16 * sgn a) + sgn b) % 256 = 16 * sgn a + sgn b := by rw [wrap_eq (16 * sgn a) (by omega) (by omega), wrap_eq _ (by omega) (by omega)]; omega
      rw [if_neg (by omega), if_neg (by omega), if_pos (by omega), hv, ih]
      unfold unhexA
      rw [unhexP, if_neg bad]
      cases unhexP r <;> simp
theorem unhexSpec (s : ByteArray) (hs : s.size ≤ 1099511627776) (k : Nat) (hk : s.size + 3 < k) : spec_Unhex.f k s = some (unhexA [] (numsL s)) ∧ impl_Unhex.f k s = some (unhexA [] (numsL s)) := by
  have h := unhexP_l0 s hs (numsL s) 0 [] k rfl (by omega) rfl (by simp; omega) (by rw [numsL_length]; omega)
  obtain ⟨r, _, hr⟩ := unhex s hs
  have h1 := (hr k hk).1
  have h2 := (hr k hk).2
  have : some r = some (unhexA [] (numsL s)) := h1.symm.trans h
  rw [h2, this]
  exact ⟨h, rfl⟩
theorem sgn_sign : ∀ d : Fin 16, sgn (bt signs (d.val : Int)) = (d.val : Int) := by decide +kernel
theorem sign_sgn : ∀ c : Fin 256, 0 ≤ sgn (c.val : Int) → bt signs (sgn (c.val : Int)) = (c.val : Int) := by decide +kernel
theorem sgnSign (d : Int) (h0 : 0 ≤ d) (h1 : d < 16) : sgn (bt signs d) = d := by
  have h := sgn_sign ⟨d.toNat, by omega⟩
  simp only [] at h
  rwa [show ((d.toNat : Nat) : Int) = d from by omega] at h
theorem signSgn (c : Int) (h0 : 0 ≤ c) (h1 : c < 256) (h : 0 ≤ sgn c) : bt signs (sgn c) = c := by
  have h' := sign_sgn ⟨c.toNat, by omega⟩
  simp only [] at h'
  rw [show ((c.toNat : Nat) : Int) = c from by omega] at h'
  exact h' h
theorem unhexHex : ∀ l : List Int, (∀ x ∈ l, 0 ≤ x ∧ x < 256) → unhexP (hexL l) = some l
  | [], _ => rfl
  | x :: l, h => by
    have hx := h x (by simp)
    rw [hexL, unhexP, sgnSign _ (by omega) (by omega), sgnSign _ (by omega) (by omega), if_neg (by omega), unhexHex l (fun y hy => h y (by simp [hy]))]
    simp; omega
theorem hexUnhex : ∀ (l r : List Int), unhexP l = some r → (∀ x ∈ l, 0 ≤ x ∧ x < 256) → hexL r = l
  | [], r, h, _ => by
    simp [unhexP] at h
    rw [h]; rfl
  | [a], r, h, _ => by simp [unhexP] at h
  | a :: b :: l, r, h, hw => by
    rw [unhexP] at h
    by_cases bad : sgn a < 0 ∨ sgn b < 0
    · rw [if_pos bad] at h; cases h
    · rw [if_neg bad] at h
      obtain ⟨t, ht, rfl⟩ := Option.map_eq_some_iff.1 h
      have ha := hw a (by simp)
      have hb := hw b (by simp)
      have sa := sgn_range a
      have sb := sgn_range b
      have ih := hexUnhex l t ht (fun x hx => hw x (by simp [hx]))
      rw [hexL, ih, show (16 * sgn a + sgn b) / 16 = sgn a from by omega, show (16 * sgn a + sgn b) % 16 = sgn b from by omega, signSgn a ha.1 ha.2 (by omega), signSgn b hb.1 hb.2 (by omega)]
theorem unhexP_bytes : ∀ (l r : List Int), unhexP l = some r → ∀ x ∈ r, 0 ≤ x ∧ x < 256
  | [], r, h, x, hx => by
    simp [unhexP] at h
    rw [h] at hx; cases hx
  | [a], r, h, x, hx => by simp [unhexP] at h
  | a :: b :: l, r, h, x, hx => by
    rw [unhexP] at h
    by_cases bad : sgn a < 0 ∨ sgn b < 0
    · rw [if_pos bad] at h; cases h
    · rw [if_neg bad] at h
      obtain ⟨t, ht, rfl⟩ := Option.map_eq_some_iff.1 h
      have sa := sgn_range a
      have sb := sgn_range b
      rcases List.mem_cons.1 hx with e | e
      · omega
      · exact unhexP_bytes l t ht x e
theorem hexL_bytes : ∀ l : List Int, ∀ x ∈ hexL l, 0 ≤ x ∧ x < 256
  | [], x, h => by simp [hexL] at h
  | y :: l, x, h => by
    rw [hexL] at h
    rcases List.mem_cons.1 h with h | h
    · rw [h]; exact bt_rng _ _
    · rcases List.mem_cons.1 h with h | h
      · rw [h]; exact bt_rng _ _
      · exact hexL_bytes l x h
theorem xor8 (x y : Int) (hx : 0 ≤ x ∧ x < 256) : Go.bits .xor .u8 (Go.bits .xor .u8 x y) y = x := by
  have h1 : BitVec.ofInt 8 (Go.bits .xor .u8 x y) = BitVec.ofInt 8 x ^^^ BitVec.ofInt 8 y := by
    show BitVec.ofInt 8 (IntKind.u8.wrap ((BitVec.ofInt 8 x ^^^ BitVec.ofInt 8 y).toNat : Int)) = _
    apply BitVec.eq_of_toNat_eq
    rw [BitVec.toNat_ofInt, IntKind.wrap_u8]
    have := (BitVec.ofInt 8 x ^^^ BitVec.ofInt 8 y).isLt
    omega
  show IntKind.u8.wrap ((BitVec.ofInt 8 (Go.bits .xor .u8 x y) ^^^ BitVec.ofInt 8 y).toNat : Int) = x
  rw [h1, BitVec.xor_assoc, BitVec.xor_self, BitVec.xor_zero, BitVec.toNat_ofInt, IntKind.wrap_u8]
  omega
theorem xorBack : ∀ a b : List Int, (∀ x ∈ a, 0 ≤ x ∧ x < 256) → xorL (xorL a b) b = a.take (xorL a b).length
  | [], b, _ => by simp [xorL]
  | x :: a, [], _ => by simp [xorL]
  | x :: a, y :: b, h => by
    have ih := xorBack a b (fun z hz => h z (by simp [hz]))
    unfold xorL at ih ⊢
    simp only [List.zipWith_cons_cons, List.length_cons, List.take_succ_cons]
    rw [xor8 x y (h x (by simp)), ih]
end Go.Proofs.Ytlkgffeanjigjaa.B
/- Same, by the program and by the reference: whether two lists of bytes are one. -/
namespace Go.Proofs.Ytlkgffeanjigjaa.B
open Go.RowKit Go.Proofs.Ytlkgffeanjigjaa.P Go.Proofs.YtlkgffeanjigjaaW.PrintWords Go.Proofs.YtlkgffeanjigjaaW.PrintLast Go.Proofs.YtlkgffeanjigjaaW.PrintMore
def sameL (a b : List Int) : Bool := (strOfNums a).toList == (strOfNums b).toList
theorem specSame (a b : List Int) : spec_Same.f a b = some (sameL a b) := rfl
theorem implSame (a b : List Int) : impl_Same.f a b = some (sameL a b) := rfl
theorem sameL_same (a : List Int) : sameL a a = true := by unfold sameL; simp
end Go.Proofs.Ytlkgffeanjigjaa.B
/- Little, by the program and by the reference: the low bytes of a number, the lowest first; for every number and every count. -/
namespace Go.Proofs.Ytlkgffeanjigjaa.B
open Go.RowKit Go.Proofs.Ytlkgffeanjigjaa.P Go.Proofs.YtlkgffeanjigjaaW.PrintWords Go.Proofs.YtlkgffeanjigjaaW.PrintLast Go.Proofs.YtlkgffeanjigjaaW.PrintMore
/-- So many low bytes, the lowest first. -/
def lowL : Nat → Int → List Int
  | 0, _ => []
  | m + 1, n => n % 256 :: lowL m (n / 256)
/-- What Little answers. -/
def leL (n many : Int) : List Int := if 0 ≤ n ∧ 1 ≤ many ∧ many ≤ 8 then lowL many.toNat n else []
theorem lowL_length : ∀ (m : Nat) (n : Int), (lowL m n).length = m
  | 0, _ => rfl
  | m + 1, n => by simp [lowL, lowL_length m]
theorem leL_length (n many : Int) : (leL n many).length ≤ 8 := by
  unfold leL; split
  · rw [lowL_length]; omega
  · simp
theorem specLittle_l0 : ∀ (m : Nat) (n i many : Int) (acc : List Int) (k : Nat), 0 ≤ i → many ≤ 8 → many - i = m → acc.length ≤ 100 - m → m ≤ 8 → m < k →
    spec_Little.l0 k n many acc i = some (acc ++ lowL m n)
  | 0, n, i, many, acc, k, h0, h8, hd, hc, hm, hk => by
    obtain ⟨k, rfl⟩ : ∃ m, k = m + 1 := ⟨k - 1, by omega⟩
    simp only [spec_Little.l0]; rw [if_neg (by omega)]; simp [lowL]
  | m + 1, n, i, many, acc, k, h0, h8, hd, hc, hm, hk => by
    obtain ⟨k, rfl⟩ : ∃ m, k = m + 1 := ⟨k - 1, by omega⟩
    have ih := specLittle_l0 m (n / 256) (i + 1) many (acc ++ [n % 256]) k (by omega) h8 (by omega) (by simp; omega) (by omega) (by omega)
    simp only [spec_Little.l0]
    rw [if_pos (by omega), if_pos (by omega), wrap_eq (i + 1) (by omega) (by omega), i64_and255, show n % 256 % 256 = n % 256 by omega, ih]
    simp [lowL]
theorem specLittle (n many : Int) (k : Nat) (hk : 20 < k) : spec_Little.f k n many = some (leL n many) := by
  obtain ⟨k, rfl⟩ : ∃ m, k = m + 1 := ⟨k - 1, by omega⟩
  unfold spec_Little.f leL spec_l1In.f
  simp only [Option.bind_some]
  by_cases h : n < 0
  · rw [if_pos h, if_neg (by omega)]; simp [spec_Little.j0]
  · rw [if_neg h]
    by_cases h1 : many ≥ 1
    · rw [if_pos h1]
      simp only [Option.bind_some]
      by_cases h2 : many ≤ 8
      · rw [if_pos ⟨by omega, by omega, h2⟩]
        simp only [spec_Little.j0, h2, decide_true, Bool.not_true, Bool.false_eq_true, if_false]
        have := specLittle_l0 many.toNat n 0 many [] k (by omega) h2 (by omega) (by simp) (by omega) (by omega)
        simpa using this
      · rw [if_neg (by omega)]; simp [spec_Little.j0, h2]
    · rw [if_neg h1, if_neg (by omega)]; simp [spec_Little.j0]
theorem implLittle_l0 : ∀ (m : Nat) (n i many : Int) (acc : List Int) (k : Nat), 0 ≤ i → many ≤ 8 → many - i = m → acc.length ≤ 100 - m → m ≤ 8 → m < k →
    impl_Little.l0 k n acc many i = some (acc ++ lowL m n)
  | 0, n, i, many, acc, k, h0, h8, hd, hc, hm, hk => by
    obtain ⟨k, rfl⟩ : ∃ m, k = m + 1 := ⟨k - 1, by omega⟩
    simp only [impl_Little.l0]; rw [if_neg (by omega)]; simp [lowL]
  | m + 1, n, i, many, acc, k, h0, h8, hd, hc, hm, hk => by
    obtain ⟨k, rfl⟩ : ∃ m, k = m + 1 := ⟨k - 1, by omega⟩
    have ih := implLittle_l0 m (n / 256) (i + 1) many (acc ++ [n % 256]) k (by omega) h8 (by omega) (by simp; omega) (by omega) (by omega)
    simp only [impl_Little.l0]
    rw [if_pos (by omega), if_pos (by omega), wrap_eq (i + 1) (by omega) (by omega), ih]
    simp [lowL]
theorem implLittle (n many : Int) (k : Nat) (hk : 20 < k) : impl_Little.f k n many = some (leL n many) := by
  obtain ⟨k, rfl⟩ : ∃ m, k = m + 1 := ⟨k - 1, by omega⟩
  unfold impl_Little.f leL impl_in.f
  by_cases h : n < 0
  · rw [if_pos h, if_neg (by omega)]; simp [impl_Little.j0]
  · rw [if_neg h]
    by_cases h1 : many ≥ 1
    · rw [if_pos h1]
      simp only [Option.bind_some]
      by_cases h2 : many ≤ 8
      · rw [if_pos ⟨by omega, by omega, h2⟩]
        simp only [impl_Little.j0, h2, decide_true, Bool.not_true, Bool.false_eq_true, if_false]
        have := implLittle_l0 many.toNat n 0 many [] k (by omega) h2 (by omega) (by simp) (by omega) (by omega)
        simpa using this
      · rw [if_neg (by omega)]; simp [impl_Little.j0, h2]
    · rw [if_neg h1, if_neg (by omega)]; simp [impl_Little.j0]
end Go.Proofs.Ytlkgffeanjigjaa.B
