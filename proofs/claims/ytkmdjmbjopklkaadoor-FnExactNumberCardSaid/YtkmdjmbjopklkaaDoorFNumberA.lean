/- Number: the reference and the program agree at every text. -/
import Derived.Test.YtkmdjmbjopklkaaDoorFDigits
import Derived.Test.YtkmdjmbjopklkaaDoorNumAll
import Derived.Test.YtkmdjmbjopklkaaDoorPx18
import Derived.Lib.AtoiAllCases
import Derived.Laws.Strings
namespace Go.Proofs.YtkmdjmbjopklkaaDoor.B
open Go.RowKit Go.Proofs.YtkmdjmbjopklkaaDoor.P Go.Proofs.YtkmdjmbjopklkaaDoorW.PrintWords Go.Proofs.YtkmdjmbjopklkaaDoorW.PrintLast Go.Proofs.YtkmdjmbjopklkaaDoorW.PrintMore
/-- What a run of digits spells behind 'acc'. -/
def dval (acc : Nat) : List UInt8 → Option Nat
  | [] => some acc
  | c :: r => if 48 ≤ c.toNat ∧ c.toNat ≤ 57 then dval (acc * 10 + (c.toNat - 48)) r else none
theorem dval_app : ∀ (a b : List UInt8) (acc : Nat), dval acc (a ++ b) = (dval acc a).bind fun x => dval x b
  | [], b, acc => rfl
  | c :: r, b, acc => by
    simp only [List.cons_append, dval]
    by_cases h : 48 ≤ c.toNat ∧ c.toNat ≤ 57
    · rw [if_pos h, if_pos h]; exact dval_app r b _
    · rw [if_neg h, if_neg h]; rfl
theorem digit_nat (d : Nat) (h : d < 10) : (UInt8.ofNat (48 + d)).toNat = 48 + d := by
  rw [UInt8.toNat_ofNat']; omega
theorem dval_one (acc d : Nat) (h : d < 10) : dval acc [UInt8.ofNat (48 + d)] = some (acc * 10 + d) := by
  simp only [dval]
  rw [digit_nat d h, if_pos (by omega)]
  congr 1; omega
theorem dval_dec (u : Nat) : dval 0 (Lib.decDigits u) = some u := by
  induction u using Nat.strongRecOn with
  | ind u ih =>
    rw [Lib.decDigits]
    by_cases c : u < 10
    · rw [dif_pos c, dval_one 0 u c]; congr 1; omega
    · rw [dif_neg c, dval_app, ih (u / 10) (by omega), Option.bind_some, dval_one _ _ (by omega)]
      congr 1; omega
theorem dec_len (m : Nat) : ∀ u, u < 10 ^ (m + 1) → 1 ≤ (Lib.decDigits u).length ∧ (Lib.decDigits u).length ≤ m + 1 := by
  induction m with
  | zero =>
    intro u hu
    rw [Lib.decDigits, dif_pos (by simpa using hu)]
    exact ⟨Nat.le_refl 1, Nat.le_refl 1⟩
  | succ m ih =>
    intro u hu
    rw [Lib.decDigits]
    by_cases c : u < 10
    · rw [dif_pos c]; exact ⟨Nat.le_refl 1, by show 1 ≤ m + 1 + 1; omega⟩
    · rw [dif_neg c, List.length_append]
      have h := ih (u / 10) (by rw [Nat.div_lt_iff_lt_mul (by omega)]; rw [Nat.pow_succ] at hu; exact hu)
      show 1 ≤ (Lib.decDigits (u / 10)).length + 1 ∧ (Lib.decDigits (u / 10)).length + 1 ≤ m + 1 + 1
      omega
theorem dval_lt : ∀ (l : List UInt8) (acc v : Nat), dval acc l = some v → v < (acc + 1) * 10 ^ l.length
  | [], acc, v, h => by
    simp only [dval] at h
    injection h with h
    simp; omega
  | c :: r, acc, v, h => by
    simp only [dval] at h
    by_cases hc : 48 ≤ c.toNat ∧ c.toNat ≤ 57
    · rw [if_pos hc] at h
      have h1 := dval_lt r _ v h
      have h2 : acc * 10 + (c.toNat - 48) + 1 ≤ (acc + 1) * 10 := by omega
      have h3 := Nat.mul_le_mul_right (10 ^ r.length) h2
      rw [List.length_cons, Nat.pow_succ]
      rw [Nat.mul_assoc, Nat.mul_comm 10] at h3
      omega
    · rw [if_neg hc] at h; cases h
theorem dval_ge : ∀ (l : List UInt8) (acc v : Nat), dval acc l = some v → acc ≤ v
  | [], acc, v, h => by
    simp only [dval] at h
    injection h with h
    omega
  | c :: r, acc, v, h => by
    simp only [dval] at h
    by_cases hc : 48 ≤ c.toNat ∧ c.toNat ≤ 57
    · rw [if_pos hc] at h
      have h1 := dval_ge r _ v h
      omega
    · rw [if_neg hc] at h; cases h
theorem dval_parse : ∀ (l : List UInt8) (acc v : Nat), dval acc l = some v → v ≤ 9999999 → Lib.parseUint10 acc l = .ok v
  | [], acc, v, h, hv => by
    simp only [dval] at h
    injection h with h
    simp only [Lib.parseUint10, h]
  | c :: r, acc, v, h, hv => by
    simp only [dval] at h
    by_cases hc : 48 ≤ c.toNat ∧ c.toNat ≤ 57
    · rw [if_pos hc] at h
      have h1 := dval_ge r _ v h
      simp only [Lib.parseUint10]
      rw [if_pos hc, if_neg (by omega), if_neg (by omega)]
      exact dval_parse r _ v h hv
    · rw [if_neg hc] at h; cases h
theorem dval_atoi (l : List UInt8) (v : Nat) (hl : l ≠ []) (h : dval 0 l = some v) (hv : v ≤ 9999999) : Lib.atoiAll l = .ok (v : Int) := by
  cases l with
  | nil => exact absurd rfl hl
  | cons c r =>
    have hp := dval_parse (c :: r) 0 v h hv
    have hc : 48 ≤ c.toNat ∧ c.toNat ≤ 57 := by
      simp only [dval] at h
      by_cases hc : 48 ≤ c.toNat ∧ c.toNat ≤ 57
      · exact hc
      · rw [if_neg hc] at h; cases h
    rw [Lib.atoiAll_plain c r (by omega) (by omega)]
    unfold Lib.parseMag
    rw [if_neg hl, hp]
    simp only [Lib.signless]
    rw [if_neg (by omega)]
/-- What the reference answers of a text of one to six bytes. -/
def numS (s : ByteArray) : Int × Bool :=
  match dval 0 s.data.toList with
  | some v => if (⟨(Lib.itoa (v : Int)).toArray⟩ : ByteArray).toList = s.toList then ((v : Int), true) else (0, false)
  | none => (0, false)
theorem bt_drop (s : ByteArray) (i : Nat) (c : UInt8) (r : List UInt8) (h : s.data.toList.drop i = c :: r) : bt s (i : Int) = (c.toNat : Int) := by
  have hi : i < s.data.toList.length := by
    have := congrArg List.length h
    simp at this
    simp
    omega
  have hs : i < s.size := by rw [Array.length_toList] at hi; exact hi
  have hg : s.data.toList[i] = c := by
    have h1 := List.drop_eq_getElem_cons hi
    rw [h] at h1
    exact (List.cons.inj h1).1.symm
  unfold bt
  rw [dif_pos (by simpa using hs)]
  have : (s[(i : Int).toNat]'(by simpa using hs)) = c := by
    rw [← hg]
    simp [ByteArray.getElem_eq_getElem_data]
  rw [this]
theorem num_l0 (s : ByteArray) (hs : s.size ≤ 6) : ∀ (l : List UInt8) (i acc : Nat), s.data.toList.drop i = l → i + l.length = s.size → acc < 10 ^ i →
    Ev (fun k => spec_Number.l0 k s (acc : Int) (i : Int)) (match dval acc l with | some v => if (⟨(Lib.itoa (v : Int)).toArray⟩ : ByteArray).toList = s.toList then ((v : Int), true) else ((0 : Int), false) | none => ((0 : Int), false))
  | [], i, acc, hd, hi, ha => by
    have hlt : acc < 10 ^ 6 := Nat.lt_of_lt_of_le ha (Nat.pow_le_pow_right (by omega) (by simp at hi; omega))
    refine evUp ?_
    simp only [spec_Number.l0, dval]
    refine evNeg (by simp at hi; omega) (evBind (specDigits (acc : Int) (by omega) (by omega)) ?_)
    by_cases c : (⟨(Lib.itoa (acc : Int)).toArray⟩ : ByteArray).toList = s.toList
    · simp only [if_pos c]; exact evConst _
    · simp only [if_neg c]; exact evConst _
  | c :: r, i, acc, hd, hi, ha => by
    have hi2 : i + (r.length + 1) = s.size := hi
    have hlt : acc < 10 ^ 6 := Nat.lt_of_lt_of_le ha (Nat.pow_le_pow_right (by omega) (by omega))
    refine evUp ?_
    simp only [spec_Number.l0, dval]
    rw [bt_drop s i c r hd]
    refine evPos (by omega) (evPos (by omega) ?_)
    have hc := c.toNat_lt
    by_cases c1 : (c.toNat : Int) < 48
    · rw [if_neg (by omega)]
      exact evPos c1 (evConst _)
    · refine evNeg c1 ?_
      by_cases c2 : (c.toNat : Int) > 57
      · rw [if_neg (by omega)]
        exact evPos c2 (evConst _)
      · refine evNeg c2 ?_
        rw [if_pos (by omega)]
        have hr : s.data.toList.drop (i + 1) = r := by
          rw [show i + 1 = i + 1 from rfl, ← List.drop_drop, hd]; rfl
        have hpow : acc * 10 + (c.toNat - 48) < 10 ^ (i + 1) := by rw [Nat.pow_succ]; omega
        have ih := num_l0 s hs r (i + 1) (acc * 10 + (c.toNat - 48)) hr (by omega) hpow
        rw [wrap_eq (10 * (acc : Int)) (by omega) (by omega), wrap_eq (c.toNat : Int) (by omega) (by omega), wrap_eq (10 * (acc : Int) + (c.toNat : Int)) (by omega) (by omega), wrap_eq _ (by omega) (by omega), wrap_eq ((i : Int) + 1) (by omega) (by omega)]
        rw [show 10 * (acc : Int) + (c.toNat : Int) - 48 = ((acc * 10 + (c.toNat - 48) : Nat) : Int) from by omega, show (i : Int) + 1 = ((i + 1 : Nat) : Int) from by omega]
        exact ih
theorem itoa_nat (n : Int) (h : 0 ≤ n) : Lib.itoa n = Lib.decDigits n.toNat := by
  unfold Lib.itoa
  rw [if_neg (by omega)]
theorem specNumber (s : ByteArray) : Ev (fun k => spec_Number.f k s) (numA s) := by
  have hsz : s.data.toList.length = s.size := Array.length_toList
  have hno : (∀ n : Int, 0 ≤ n → n ≤ 999999 → s ≠ ⟨(Lib.itoa n).toArray⟩) → numA s = (0, false) := by
    intro h
    unfold numA
    cases Lib.atoiAll s.data.toList
    rotate_left
    · rfl
    · rfl
    · rename_i n
      show (if 0 ≤ n ∧ n ≤ 999999 then (if s = ⟨(Lib.itoa n).toArray⟩ then (n, true) else (0, false)) else ((0 : Int), false)) = (0, false)
      by_cases c : 0 ≤ n ∧ n ≤ 999999
      · rw [if_pos c, if_neg (h n c.1 c.2)]
      · rw [if_neg c]
  have hyes : ∀ n : Int, 0 ≤ n → n ≤ 999999 → s = ⟨(Lib.itoa n).toArray⟩ → (numA s = (n, true) ∧ 1 ≤ s.size ∧ s.size ≤ 6 ∧ dval 0 s.data.toList = some n.toNat) := by
    intro n h0 h1 he
    have hl : s.data.toList = Lib.decDigits n.toNat := by rw [he, itoa_nat n h0]
    have hd : dval 0 s.data.toList = some n.toNat := by rw [hl]; exact dval_dec _
    have hlen := dec_len 5 n.toNat (by omega)
    rw [← hl, hsz] at hlen
    refine ⟨?_, hlen.1, hlen.2, hd⟩
    have ha := dval_atoi s.data.toList n.toNat (by intro e; rw [e] at hsz; simp at hsz; omega) hd (by omega)
    unfold numA
    rw [ha, show ((n.toNat : Nat) : Int) = n from by omega]
    show (if 0 ≤ n ∧ n ≤ 999999 then (if s = ⟨(Lib.itoa n).toArray⟩ then (n, true) else (0, false)) else ((0 : Int), false)) = (n, true)
    rw [if_pos ⟨h0, h1⟩, if_pos he]
  have body : s.size ≤ 6 → Ev (fun k => spec_Number.j0 k s false) (numA s) := by
    intro h6
    have h := num_l0 s h6 s.data.toList 0 0 rfl (by omega) (by decide)
    have e : (match dval 0 s.data.toList with | some v => if (⟨(Lib.itoa (v : Int)).toArray⟩ : ByteArray).toList = s.toList then ((v : Int), true) else ((0 : Int), false) | none => ((0 : Int), false)) = numA s ∨ s.size < 1 := by
      by_cases h1 : s.size < 1
      · exact .inr h1
      refine .inl ?_
      cases hd : dval 0 s.data.toList with
      | none =>
        refine (hno ?_).symm
        intro n h0 h1 he
        have := (hyes n h0 h1 he).2.2.2
        rw [hd] at this; cases this
      | some v =>
        have hv := dval_lt _ _ _ hd
        rw [hsz] at hv
        have hp : 10 ^ s.size ≤ 10 ^ 6 := Nat.pow_le_pow_right (by omega) h6
        have hv2 : v ≤ 999999 := by simp at hv; omega
        show (if (⟨(Lib.itoa (v : Int)).toArray⟩ : ByteArray).toList = s.toList then ((v : Int), true) else ((0 : Int), false)) = numA s
        by_cases c : (⟨(Lib.itoa (v : Int)).toArray⟩ : ByteArray).toList = s.toList
        · rw [if_pos c]
          exact (hyes v (by omega) (by omega) (na_toList c).symm).1.symm
        · rw [if_neg c]
          refine (hno ?_).symm
          intro n h0 h1 he
          have h3 := (hyes n h0 h1 he).2.2.2
          rw [hd] at h3
          injection h3 with h3
          apply c
          rw [show (v : Int) = n from by omega, ← he]
    refine evUp ?_
    simp only [spec_Number.j0]
    refine evNeg Bool.false_ne_true ?_
    rcases e with e | e
    · rw [← e]; exact h
    · have hnil : s.data.toList = [] := List.eq_nil_of_length_eq_zero (by omega)
      have e2 : numA s = (0, false) := by
        refine hno ?_
        intro n h0 h1 he
        have := (hyes n h0 h1 he).2.1
        omega
      rw [e2]
      rw [hnil] at h
      have e3 : (match dval 0 ([] : List UInt8) with | some v => if (⟨(Lib.itoa (v : Int)).toArray⟩ : ByteArray).toList = s.toList then ((v : Int), true) else ((0 : Int), false) | none => ((0 : Int), false)) = ((0 : Int), false) := by
        show (if (⟨(Lib.itoa ((0 : Nat) : Int)).toArray⟩ : ByteArray).toList = s.toList then (((0 : Nat) : Int), true) else ((0 : Int), false)) = (0, false)
        refine if_neg ?_
        intro c
        have := (hyes 0 (by omega) (by omega) (na_toList c).symm).2.1
        omega
      rw [e3] at h
      exact h
  have fals : (s.size < 1 ∨ 6 < s.size) → Ev (fun k => spec_Number.j0 k s true) (numA s) := by
    intro h
    have e2 : numA s = (0, false) := by
      refine hno ?_
      intro n h0 h1 he
      have := hyes n h0 h1 he
      omega
    rw [e2]
    refine evUp ?_
    simp only [spec_Number.j0]
    exact evPos trivial (evConst _)
  unfold spec_Number.f
  by_cases c1 : (s.size : Int) < 1
  · exact evPos c1 (fals (by omega))
  · refine evNeg c1 ?_
    by_cases c2 : (s.size : Int) > 6
    · rw [decide_eq_true c2]; exact fals (by omega)
    · rw [decide_eq_false c2]; exact body (by omega)
end Go.Proofs.YtkmdjmbjopklkaaDoor.B
