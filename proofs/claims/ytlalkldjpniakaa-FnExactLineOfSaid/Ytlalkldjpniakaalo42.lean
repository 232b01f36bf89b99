import Derived.Test.Ytlalkldjpniakaalo41
import Derived.Test.Ytlalkldjpniakaalo21
import Derived.Test.Ytlalkldjpniakaalo35
import Derived.Test.Ytlalkldjpniakaalo23
import Derived.Test.Ytlalkldjpniakaalo37
import Derived.Test.Ytlalkldjpniakaalo24
import Derived.Test.Ytlalkldjpniakaalo36
/- Great, by the program and by the reference: Little, the other way round; for every number and every count. -/
namespace Go.Proofs.Ytlalkldjpniakaa.B
open Go.RowKit Go.Proofs.Ytlalkldjpniakaa.P Go.Proofs.YtlalkldjpniakaaW.PrintWords Go.Proofs.YtlalkldjpniakaaW.PrintLast Go.Proofs.YtlalkldjpniakaaW.PrintMore
theorem specGreat_l0 : ∀ (n : Nat) (xs acc : List Int) (k : Nat), n ≤ xs.length → xs.length ≤ 100 → acc.length + n ≤ 200 → n < k →
    spec_Great.l0 k xs acc ((n : Int) - 1) = some (acc ++ (xs.take n).reverse)
  | 0, xs, acc, k, hn, hx, hc, hk => by
    obtain ⟨k, rfl⟩ : ∃ m, k = m + 1 := ⟨k - 1, by omega⟩
    simp only [spec_Great.l0]; rw [if_neg (by omega)]; simp
  | n + 1, xs, acc, k, hn, hx, hc, hk => by
    obtain ⟨k, rfl⟩ : ∃ m, k = m + 1 := ⟨k - 1, by omega⟩
    have ih := specGreat_l0 n xs (acc ++ [xs.getD n 0]) k (by omega) hx (by simp; omega) (by omega)
    have e1 : ((n + 1 : Nat) : Int) - 1 = (n : Int) := by omega
    have e2 : rd xs (n : Int) = xs.getD n 0 := by simp [rd]
    simp only [spec_Great.l0]
    rw [e1, if_pos (by omega), if_pos (by omega), if_pos (by omega), if_pos (by omega), e2, wrap_eq ((n : Int) - 1) (by omega) (by omega), ih]
    have h3 : xs.take (n + 1) = xs.take n ++ [xs.getD n 0] := by
      rw [List.take_succ_eq_append_getElem (by omega)]
      simp [List.getD_eq_getElem?_getD, List.getElem?_eq_getElem (show n < xs.length by omega)]
    rw [h3]; simp
theorem specGreat (n many : Int) (k : Nat) (hk : 40 < k) : spec_Great.f k n many = some (leL n many).reverse := by
  have hl := leL_length n many
  unfold spec_Great.f
  rw [specLittle n many k (by omega)]
  simp only [Option.bind_some]
  rw [wrap_eq _ (by omega) (by omega), specGreat_l0 _ _ [] k (Nat.le_refl _) (by omega) (by simp; omega) (by omega)]
  simp
theorem turned_l0 : ∀ (rest pre junk b : List Int) (n : Int) (k : Nat), b = pre ++ rest → n = (b.length : Int) → junk.length = rest.length → b.length ≤ 1099511627776 → rest.length < k →
    impl_turned.l0 k b (junk ++ pre.reverse) b n (pre.length : Int) = some b.reverse
  | [], pre, junk, b, n, k, hb, hn, hj, hc, hk => by
    obtain ⟨k, rfl⟩ : ∃ m, k = m + 1 := ⟨k - 1, by omega⟩
    obtain rfl : junk = [] := List.eq_nil_of_length_eq_zero hj
    subst hb
    simp only [impl_turned.l0]; rw [if_neg (by rw [hn]; exact nlt_end pre)]; simp
  | a :: rest, pre, junk, b, n, k, hb, hn, hj, hc, hk => by
    obtain ⟨k, rfl⟩ : ∃ m, k = m + 1 := ⟨k - 1, by omega⟩
    simp only [List.length_cons] at hk hj
    have hne : junk ≠ [] := by intro h; rw [h] at hj; simp at hj
    obtain ⟨junk1, z, rfl⟩ : ∃ j z, junk = j ++ [z] := ⟨junk.dropLast, junk.getLast hne, (List.dropLast_concat_getLast hne).symm⟩
    have hj1 : junk1.length = rest.length := by simp at hj; omega
    have hbl : b.length = pre.length + rest.length + 1 := by rw [hb]; simp; omega
    have ih := turned_l0 rest (pre ++ [a]) junk1 b n k (by rw [hb]; simp) hn hj1 hc (by omega)
    simp only [impl_turned.l0]
    have e1 : wrap64 ((b.length : Int) - 1) = (b.length : Int) - 1 := wrap_eq _ (by omega) (by omega)
    have e2 : wrap64 ((b.length : Int) - 1 - (pre.length : Int)) = (junk1.length : Int) := by rw [wrap_eq _ (by omega) (by omega)]; omega
    have e3 : rd b (pre.length : Int) = a := by rw [hb]; exact rd_mid pre a rest
    have e4 : (junk1 ++ [z] ++ pre.reverse).set ((junk1.length : Int).toNat) a = junk1 ++ (pre ++ [a]).reverse := by simp
    rw [e1, e2, e3, e4, if_pos (by omega), if_pos (by omega), if_pos (by omega), if_pos (by omega), if_pos (by simp; omega), wrap_step pre a (by omega)]
    exact ih
theorem turned (b : List Int) (hc : b.length ≤ 1099511627776) (k : Nat) (hk : b.length < k) : impl_turned.f k b = some b.reverse := by
  unfold impl_turned.f
  rw [if_pos (by omega), if_pos (by simp; omega)]
  have h := turned_l0 b [] (List.replicate b.length 0) b _ k rfl rfl (by simp) hc hk
  simpa using h
theorem implGreat (n many : Int) (k : Nat) (hk : 40 < k) : impl_Great.f k n many = some (leL n many).reverse := by
  have hl := leL_length n many
  unfold impl_Great.f
  rw [implLittle n many k (by omega)]
  simp only [Option.bind_some]
  rw [turned _ (by omega) k (by omega)]
  simp
end Go.Proofs.Ytlalkldjpniakaa.B
/- The parts, one behind the other; for at most 2^47 parts and bytes. -/
namespace Go.Proofs.Ytlalkldjpniakaa.B
open Go.RowKit Go.Proofs.Ytlalkldjpniakaa.P Go.Proofs.YtlalkldjpniakaaW.PrintWords Go.Proofs.YtlalkldjpniakaaW.PrintLast Go.Proofs.YtlalkldjpniakaaW.PrintMore
theorem joined (ls : List (List Int)) (h1 : ls.flatten.length ≤ 140737488355328) (h2 : ls.length ≤ 140737488355328) : impl_joined.f ls = some ls.flatten := by
  unfold impl_joined.f bytes_Join.f
  rw [if_pos ⟨rfl, h1, h2⟩]; rfl
theorem joined2 (a b : List Int) (h : a.length + b.length ≤ 140737488355328) : impl_joined.f [a, b] = some (a ++ b) := by
  rw [joined _ (by simp; omega) (by simp)]; simp
theorem joined3 (a b c : List Int) (h : a.length + b.length + c.length ≤ 140737488355328) : impl_joined.f [a, b, c] = some (a ++ b ++ c) := by
  rw [joined _ (by simp; omega) (by simp)]; simp
theorem joined4 (a b c d : List Int) (h : a.length + b.length + c.length + d.length ≤ 140737488355328) : impl_joined.f [a, b, c, d] = some (a ++ b ++ c ++ d) := by
  rw [joined _ (by simp; omega) (by simp)]; simp
end Go.Proofs.Ytlalkldjpniakaa.B
/- LineBytes, by the program and by the reference: one list; for lines whose lists are of at most 2^20 bytes. -/
namespace Go.Proofs.Ytlalkldjpniakaa.B
open Go.RowKit Go.Proofs.Ytlalkldjpniakaa.P Go.Proofs.YtlalkldjpniakaaW.PrintWords Go.Proofs.YtlalkldjpniakaaW.PrintLast Go.Proofs.YtlalkldjpniakaaW.PrintMore
/-- A line's bytes, its route's bytes given. -/
def lineB (q : Int) (x : List Int) (n m : Int) (l : List Int) : List Int := [q % 256] ++ x ++ [n % 256] ++ (leL m 4).reverse ++ (leL (l.length : Int) 2).reverse ++ l
def lineL (q : Int) (x : List Int) (n m : Int) (l : List Int) : List Int := lineB q x n m l ++ (leL ((lineB q x n m l).length : Int) 2).reverse
theorem lineL_length (q : Int) (x : List Int) (n m : Int) (l : List Int) : (lineL q x n m l).length ≤ x.length + l.length + 26 := by
  have h1 := leL_length m 4
  have h2 := leL_length (l.length : Int) 2
  have h3 := leL_length ((lineB q x n m l).length : Int) 2
  unfold lineL
  rw [List.length_append, List.length_reverse]
  unfold lineB at *
  simp only [List.length_append, List.length_reverse, List.length_singleton] at *
  omega
theorem specTail (q : Int) (x : List Int) (n m : Int) (l : List Int) (hx : x.length ≤ 1048576) (hl : l.length ≤ 1048576) (k : Nat) (hk : 40 < k) :
    ((some (([(q) % 256] : List Int) : List Int)).bind fun y497 => (if y497.length + x.length < 140737488355328 then ((some (y497 ++ x : List Int)).bind fun y500 => (if y500.length < 140737488355328 then ((some (y500 ++ [(n) % 256] : List Int)).bind fun y503 => ((spec_Great.f k m 4).bind fun t506 => (if y503.length + t506.length < 140737488355328 then ((some (y503 ++ t506 : List Int)).bind fun y509 => ((spec_Great.f k (l.length : Int) 2).bind fun t512 => (if y509.length + t512.length < 140737488355328 then ((some (y509 ++ t512 : List Int)).bind fun y515 => (if y515.length + l.length < 140737488355328 then ((some (y515 ++ l : List Int)).bind fun y518 => ((spec_Great.f k (y518.length : Int) 2).bind fun t521 => (if y518.length + t521.length < 140737488355328 then (some (y518 ++ t521)) else (none)))) else (none))) else (none)))) else (none)))) else (none))) else (none))) = some (lineL q x n m l) := by
  have h1 := leL_length m 4
  have h2 := leL_length (l.length : Int) 2
  have h3 := leL_length ((lineB q x n m l).length : Int) 2
  simp only [Option.bind_some]
  rw [if_pos (by simp; omega), if_pos (by simp; omega), specGreat _ _ k hk, Option.bind_some, if_pos (by simp; omega), specGreat _ _ k hk, Option.bind_some, if_pos (by simp; omega), if_pos (by simp; omega), specGreat _ _ k hk, Option.bind_some, if_pos (by rw [List.length_reverse]; simp; unfold lineB at h3; simp at h3; omega)]
  rfl
theorem implTail (q : Int) (s : ByteArray) (x : List Int) (n m : Int) (l : List Int) (hx : x.length ≤ 1048576) (hl : l.length ≤ 1048576) (k : Nat) (hk : 40 < k) : impl_LineBytes.j0 (k + 1) x q s n m l = some (lineL q x n m l) := by
  have h1 := leL_length m 4
  have h2 := leL_length (l.length : Int) 2
  have h3 := leL_length ((lineB q x n m l).length : Int) 2
  have e : ([[q % 256], x, [n % 256], (leL m 4).reverse, (leL (l.length : Int) 2).reverse, l] : List (List Int)).flatten = lineB q x n m l := by simp [lineB]
  have hlen : (lineB q x n m l).length ≤ x.length + l.length + 18 := by
    unfold lineB
    simp only [List.length_append, List.length_reverse, List.length_singleton]
    omega
  simp only [impl_LineBytes.j0]
  rw [implGreat _ _ k hk, Option.bind_some, implGreat _ _ k hk, Option.bind_some, joined _ (by rw [e]; omega) (by simp), e, Option.bind_some, implGreat _ _ k hk, Option.bind_some, if_pos (by rw [List.length_reverse]; omega)]
  rfl
theorem lineBytes (q : Int) (s : ByteArray) (n m : Int) (l : List Int) (hs : s.size ≤ 1048576) (hl : l.length ≤ 1048576) : ∃ r : List Int, r.length ≤ s.size + l.length + 100 ∧ ∀ k, s.size + 50 < k → spec_LineBytes.f k q s n m l = some r ∧ impl_LineBytes.f k q s n m l = some r := by
  obtain ⟨b, hb⟩ := lineOk q s n m l (by omega) (by omega)
  obtain ⟨x, hx1, hx2, hx3⟩ := unhex s (by omega)
  by_cases c : b = true
  · by_cases c3 : q = 3
    · have h := lineL_length q (List.replicate 8 0) n m l
      rw [List.length_replicate] at h
      refine ⟨lineL q (List.replicate 8 0) n m l, by omega, fun k hk => ⟨?_, ?_⟩⟩
      · unfold spec_LineBytes.f
        rw [(hb k (by omega)).1, Option.bind_some, if_pos c, (hx3 k (by omega)).1, Option.bind_some, if_pos c3, if_pos (by omega), Option.bind_some]
        exact specTail q _ n m l (by rw [List.length_replicate]; omega) hl k (by omega)
      · obtain ⟨k, rfl⟩ : ∃ m, k = m + 1 := ⟨k - 1, by omega⟩
        unfold impl_LineBytes.f
        rw [(hb (k + 1) (by omega)).2, Option.bind_some, if_pos c, if_pos (by omega), if_pos c3]
        exact implTail q s _ n m l (by rw [List.length_replicate]; omega) hl k (by omega)
    · have h := lineL_length q x.1 n m l
      refine ⟨lineL q x.1 n m l, by omega, fun k hk => ⟨?_, ?_⟩⟩
      · unfold spec_LineBytes.f
        rw [(hb k (by omega)).1, Option.bind_some, if_pos c, (hx3 k (by omega)).1, Option.bind_some, if_neg c3]
        exact specTail q _ n m l (by omega) hl k (by omega)
      · obtain ⟨k, rfl⟩ : ∃ m, k = m + 1 := ⟨k - 1, by omega⟩
        unfold impl_LineBytes.f
        rw [(hb (k + 1) (by omega)).2, Option.bind_some, if_pos c, if_pos (by omega), if_neg c3, (hx3 (k + 1) (by omega)).2, Option.bind_some]
        exact implTail q s _ n m l (by omega) hl k (by omega)
  · refine ⟨[], by simp, fun k hk => ⟨?_, ?_⟩⟩
    · unfold spec_LineBytes.f; rw [(hb k (by omega)).1, Option.bind_some, if_neg c]
    · unfold impl_LineBytes.f; rw [(hb k (by omega)).2, Option.bind_some, if_neg c]
end Go.Proofs.Ytlalkldjpniakaa.B
/- Hex, by the program and by the reference: two signs a byte; for lists of at most 2^40 bytes. -/
namespace Go.Proofs.Ytlalkldjpniakaa.B
open Go.RowKit Go.Proofs.Ytlalkldjpniakaa.P Go.Proofs.YtlalkldjpniakaaW.PrintWords Go.Proofs.YtlalkldjpniakaaW.PrintLast Go.Proofs.YtlalkldjpniakaaW.PrintMore
def signs : ByteArray := ⟨#[48, 49, 50, 51, 52, 53, 54, 55, 56, 57, 97, 98, 99, 100, 101, 102]⟩
/-- Two signs a byte. -/
def hexL : List Int → List Int
  | [] => []
  | x :: l => bt signs (x / 16) :: bt signs (x % 16) :: hexL l
theorem hexL_length : ∀ l : List Int, (hexL l).length = 2 * l.length
  | [] => rfl
  | x :: l => by simp [hexL, hexL_length l]; omega
theorem specHex_l0 : ∀ (rest pre acc : List Int) (k : Nat), (∀ x ∈ rest, 0 ≤ x ∧ x < 256) → pre.length + rest.length ≤ 1099511627776 → acc.length + 2 * rest.length ≤ 4398046511104 → rest.length < k →
    spec_Hex.l0 k (pre ++ rest) signs acc (pre.length : Int) = some (strOfNums (acc ++ hexL rest))
  | [], pre, acc, k, hw, hb, hc, hk => by
    obtain ⟨k, rfl⟩ : ∃ m, k = m + 1 := ⟨k - 1, by omega⟩
    simp only [spec_Hex.l0]; rw [if_neg (nlt_end pre)]; simp [hexL]
  | x :: rest, pre, acc, k, hw, hb, hc, hk => by
    obtain ⟨k, rfl⟩ : ∃ m, k = m + 1 := ⟨k - 1, by omega⟩
    simp only [List.length_cons] at hb hc hk
    have hx := hw x (by simp)
    have hs : (signs.size : Int) = 16 := rfl
    have ih := specHex_l0 rest (pre ++ [x]) (acc ++ [bt signs (x / 16), bt signs (x % 16)]) k (fun y hy => hw y (by simp [hy])) (by simp; omega) (by simp; omega) (by omega)
    simp only [spec_Hex.l0, Option.bind_some]
    rw [if_pos (lt_mid pre x rest), if_pos (pre_nonneg pre), rd_mid, u8_and15 _ hx.1 hx.2, hs, if_pos (by omega), if_pos (by omega), if_pos (by omega), if_pos (by omega), if_pos (by simp; omega), wrap_step pre x (by omega), snoc_app pre x rest, ih]
    simp [hexL]
theorem specHex (l : List Int) (hw : ∀ x ∈ l, 0 ≤ x ∧ x < 256) (hn : l.length ≤ 1099511627776) (k : Nat) (hk : l.length < k) : spec_Hex.f k l = some (strOfNums (hexL l)) := by
  have h := specHex_l0 l [] [] k hw (by simpa using hn) (by simp; omega) hk
  simpa [spec_Hex.f, signs] using h
theorem implHex_l0 : ∀ (rest pre acc : List Int) (n : Int) (k : Nat), n = (((pre ++ rest).length : Nat) : Int) → (∀ x ∈ rest, 0 ≤ x ∧ x < 256) → pre.length + rest.length ≤ 1099511627776 → acc.length + 2 * rest.length ≤ 4398046511104 → rest.length < k →
    impl_Hex.l0 k acc (pre ++ rest) n (pre.length : Int) = some (strOfNums (acc ++ hexL rest))
  | [], pre, acc, n, k, he, hw, hb, hc, hk => by
    obtain ⟨k, rfl⟩ : ∃ m, k = m + 1 := ⟨k - 1, by omega⟩
    simp only [impl_Hex.l0]; rw [if_neg (by rw [he]; exact nlt_end pre)]; simp [hexL]
  | x :: rest, pre, acc, n, k, he, hw, hb, hc, hk => by
    obtain ⟨k, rfl⟩ : ∃ m, k = m + 1 := ⟨k - 1, by omega⟩
    simp only [List.length_cons] at hb hc hk
    have hx := hw x (by simp)
    have ih := implHex_l0 rest (pre ++ [x]) (acc ++ [bt signs (x / 16), bt signs (x % 16)]) n k (by rw [he]; simp) (fun y hy => hw y (by simp [hy])) (by simp; omega) (by simp; omega) (by omega)
    simp only [impl_Hex.l0, Option.bind_some]
    rw [if_pos (by rw [he]; exact lt_mid pre x rest), if_pos (pre_nonneg pre), if_pos (lt_mid pre x rest), rd_mid, u8_and15 _ hx.1 hx.2, if_pos (by omega), if_pos (by omega), if_pos (by omega), if_pos (by omega), if_pos (by simp; omega), wrap_step pre x (by omega), snoc_app pre x rest]
    refine Eq.trans ?_ (ih.trans ?_)
    · rfl
    · simp [hexL]
theorem implHex (l : List Int) (hw : ∀ x ∈ l, 0 ≤ x ∧ x < 256) (hn : l.length ≤ 1099511627776) (k : Nat) (hk : l.length < k) : impl_Hex.f k l = some (strOfNums (hexL l)) := by
  have h := implHex_l0 l [] [] _ k rfl hw (by simpa using hn) (by simp; omega) hk
  simpa [impl_Hex.f] using h
end Go.Proofs.Ytlalkldjpniakaa.B
/- Same, by the program and by the reference: whether two lists of bytes are one. -/
namespace Go.Proofs.Ytlalkldjpniakaa.B
open Go.RowKit Go.Proofs.Ytlalkldjpniakaa.P Go.Proofs.YtlalkldjpniakaaW.PrintWords Go.Proofs.YtlalkldjpniakaaW.PrintLast Go.Proofs.YtlalkldjpniakaaW.PrintMore
def sameL (a b : List Int) : Bool := (strOfNums a).toList == (strOfNums b).toList
theorem specSame (a b : List Int) : spec_Same.f a b = some (sameL a b) := rfl
theorem implSame (a b : List Int) : impl_Same.f a b = some (sameL a b) := rfl
theorem sameL_same (a : List Int) : sameL a a = true := by unfold sameL; simp
end Go.Proofs.Ytlalkldjpniakaa.B
