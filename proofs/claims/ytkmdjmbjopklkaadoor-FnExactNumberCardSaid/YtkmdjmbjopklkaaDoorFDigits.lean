/- Digits, by the reference: the decimal numeral, for every int. -/
import Derived.Test.YtkmdjmbjopklkaaDoorBase
import Derived.Test.YtkmdjmbjopklkaaDoorEv
import Derived.Test.YtkmdjmbjopklkaaDoorPx1
import Derived.Lib.ItoaMem
namespace Go.Proofs.YtkmdjmbjopklkaaDoor.B
open Go.RowKit Go.Proofs.YtkmdjmbjopklkaaDoor.P Go.Proofs.YtkmdjmbjopklkaaDoorW.PrintWords Go.Proofs.YtkmdjmbjopklkaaDoorW.PrintLast Go.Proofs.YtkmdjmbjopklkaaDoorW.PrintMore
/-- The digits of a number, none of nought. -/
def dd (u : Nat) : List UInt8 := if u = 0 then [] else Lib.decDigits u
theorem dd_step (u : Nat) (h : u ≠ 0) : dd u = dd (u / 10) ++ [UInt8.ofNat (48 + u % 10)] := by
  unfold dd
  rw [if_neg h, Lib.decDigits]
  by_cases c : u < 10
  · rw [dif_pos c, if_pos (by omega), List.nil_append, Nat.mod_eq_of_lt c]
  · rw [dif_neg c, if_neg (by omega)]
def signed (neg : Bool) (l : List UInt8) : List UInt8 := if neg = true then 45 :: l else l
theorem str_one (d : Nat) (hd : d < 10) (l : List UInt8) : strOfNums [(48 + (d : Int)) % 256] ++ (⟨l.toArray⟩ : ByteArray) = ⟨(UInt8.ofNat (48 + d) :: l).toArray⟩ := by
  have e : (48 + (d : Int)) % 256 = ((48 + d : Nat) : Int) := by omega
  rw [e]
  apply ByteArray.ext
  rw [ByteArray.data_append]
  apply Array.toList_inj.1
  simp [strOfNums]
  rw [show (48 + (d : Int)).toNat = 48 + d from by omega, UInt8.ofNat_add]
  rfl
theorem digit_neg (n : Int) (u : Nat) (hu : n.natAbs = u) (h : Int.tmod n 10 < 0) : wrap64 (48 + wrap64 (-(Int.tmod n 10))) = 48 + ((u % 10 : Nat) : Int) := by
  have e := Int.natAbs_tmod n 10
  have e2 : (10 : Int).natAbs = 10 := rfl
  rw [hu, e2] at e
  have h2 : Int.tmod n 10 = -((u % 10 : Nat) : Int) := by omega
  rw [h2, Int.neg_neg, wrap_eq ((u % 10 : Nat) : Int) (by omega) (by omega), wrap_eq _ (by omega) (by omega)]
theorem digit_pos (n : Int) (u : Nat) (hu : n.natAbs = u) (h : ¬ Int.tmod n 10 < 0) : wrap64 (48 + Int.tmod n 10) = 48 + ((u % 10 : Nat) : Int) := by
  have e := Int.natAbs_tmod n 10
  have e2 : (10 : Int).natAbs = 10 := rfl
  rw [hu, e2] at e
  have h2 : Int.tmod n 10 = ((u % 10 : Nat) : Int) := by omega
  rw [h2, wrap_eq _ (by omega) (by omega)]
theorem digits_l0 (neg : Bool) : ∀ (m : Nat) (n : Int) (l : List UInt8), n.natAbs < 10 ^ m → n.natAbs ≤ 9223372036854775808 → l.length + m ≤ 1000 → Ev (fun k => spec_Digits.l0 k n neg ⟨l.toArray⟩) ⟨(signed neg (dd n.natAbs ++ l)).toArray⟩
  | m, n, l, hm, hn, hl => by
    refine evUp ?_
    simp only [spec_Digits.l0]
    have hs : ∀ x : List UInt8, (⟨x.toArray⟩ : ByteArray).size = x.length := fun x => by simp [ByteArray.size]
    by_cases c0 : n = 0
    · refine evPos c0 ?_
      have e : dd n.natAbs = [] := by rw [c0]; rfl
      rw [e, List.nil_append]
      cases neg
      · exact evNeg Bool.false_ne_true (evConst _)
      · refine evPos rfl (evPos (by rw [hs]; omega) ?_)
        have e2 : (⟨#[45]⟩ : ByteArray) ++ ⟨l.toArray⟩ = ⟨(signed true l).toArray⟩ := by
          apply ByteArray.ext
          rw [ByteArray.data_append]
          apply Array.toList_inj.1
          simp [signed]
        rw [e2]
        exact evConst _
    · refine evNeg c0 ?_
      match m, hm with
      | 0, hm => exact absurd hm (by simp; omega)
      | m + 1, hm =>
      have hd : (Int.tdiv n 10).natAbs = n.natAbs / 10 := by rw [Int.natAbs_tdiv]; rfl
      have hw : wrap64 (Int.tdiv n 10) = Int.tdiv n 10 := wrap_eq _ (by omega) (by omega)
      have h10 : n.natAbs / 10 < 10 ^ m := by rw [Nat.div_lt_iff_lt_mul (by omega)]; rw [Nat.pow_succ] at hm; exact hm
      have hlt : n.natAbs % 10 < 10 := Nat.mod_lt _ (by omega)
      have ih := digits_l0 neg m (Int.tdiv n 10) (UInt8.ofNat (48 + n.natAbs % 10) :: l) (by rw [hd]; exact h10) (by omega) (by simp; omega)
      rw [hd] at ih
      rw [dd_step n.natAbs (by omega), List.append_assoc, List.singleton_append, hw]
      have sz : (strOfNums [(48 + ((n.natAbs % 10 : Nat) : Int)) % 256]).size = 1 := rfl
      by_cases c1 : Int.tmod n 10 < 0
      · refine evPos c1 (evBind (a := [(48 + ((n.natAbs % 10 : Nat) : Int)) % 256]) ?_ ?_)
        · rw [digit_neg n _ rfl c1]; exact evConst _
        · rw [str_one _ hlt]
          exact evPos (by rw [sz, hs]; omega) ih
      · refine evNeg c1 (evBind (a := [(48 + ((n.natAbs % 10 : Nat) : Int)) % 256]) ?_ ?_)
        · rw [digit_pos n _ rfl c1]; exact evConst _
        · rw [str_one _ hlt]
          exact evPos (by rw [sz, hs]; omega) ih
theorem specDigits (n : Int) (h0 : -9223372036854775808 ≤ n) (h1 : n ≤ 9223372036854775807) : Ev (fun k => spec_Digits.f k n) ⟨(Lib.itoa n).toArray⟩ := by
  unfold spec_Digits.f
  by_cases c : n = 0
  · refine evPos c ?_
    have e : (⟨(Lib.itoa n).toArray⟩ : ByteArray) = ⟨#[48]⟩ := by
      rw [c]
      unfold Lib.itoa
      rw [if_neg (by omega), Lib.decDigits, dif_pos (by decide)]
      rfl
    rw [e]
    exact evConst _
  · refine evNeg c ?_
    have h := digits_l0 (decide (n < 0)) 20 n [] (by omega) (by omega) (by simp)
    have e : Lib.itoa n = signed (decide (n < 0)) (dd n.natAbs ++ []) := by
      unfold Lib.itoa signed dd
      rw [if_neg (show ¬ n.natAbs = 0 by omega), List.append_nil]
      by_cases c2 : n < 0
      · rw [if_pos c2, if_pos (decide_eq_true c2)]
      · rw [if_neg c2, if_neg (by simp [c2])]
        rw [show n.toNat = n.natAbs from by omega]
    rw [e]
    exact h
end Go.Proofs.YtkmdjmbjopklkaaDoor.B
