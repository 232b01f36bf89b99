import Derived.Test.Ytdineaebljpfaaaq11
import Derived.Test.Ytdineaebljpfaaaq6
import Derived.Laws.BitsAllLaws
namespace Go.Proofs.Ytdineaebljpfaaa.P
open Go.RowKit Go.Proofs.YtdineaebljpfaaaW.PrintWords Go.Proofs.YtdineaebljpfaaaW.PrintLast Go.Proofs.YtdineaebljpfaaaW.PrintMore
attribute [local go_sem] max2_int min2_int max_two min_two zcg zch max_four min_four   -- for this text's walks alone
set_option linter.unusedVariables false
set_option linter.unusedSimpArgs false

def laws_heldIntS.l0 : Nat → List Int → Int → Int → Option (Int)
 | 0, _, _, _ => none
 | k + 1, x0, x1, x5 => if x5 < (x0.length : Int) then (if 0 ≤ x5 then (if (rd x0 x5) = x1 then (laws_heldIntS.l0 k x0 (wrap64 (x1 + 1)) (wrap64 (x5 + 1))) else (some (-1))) else (none)) else (some x1)
def laws_heldIntS.f (k : Nat) (l0 : List Int) (a1 : Int) : Option (Int) := laws_heldIntS.l0 k l0 a1 0
theorem laws_heldIntS.mono_l : ∀ k, (∀ y0 y1 y2, LeO (laws_heldIntS.l0 k y0 y1 y2) (laws_heldIntS.l0 (k + 1) y0 y1 y2))
 | 0 => fun _ _ _ r h => by simp [laws_heldIntS.l0] at h
 | k + 1 => by
  have ih0 := laws_heldIntS.mono_l k
  ·intro y0 y1 y2
   unfold laws_heldIntS.l0
   repeat' first
   | (with_reducible exact ih0 _ _ _)
   | (with_reducible exact zcl _)
   | (with_reducible exact zcm _)
   | (with_reducible refine LeO.ite ?_ ?_)
   | (with_reducible refine zcn ?_ (fun _ => ?_))
   | exact ih0 _ _ _
theorem laws_heldIntS.mono : ∀ a0 a1 k, LeO (laws_heldIntS.f k a0 a1) (laws_heldIntS.f (k + 1) a0 a1) := by
 intro a0 a1 k
 have ih0 := laws_heldIntS.mono_l k
 unfold laws_heldIntS.f
 repeat' first
   | (with_reducible exact ih0 _ _ _)
   | (with_reducible exact zcl _)
   | (with_reducible exact zcm _)
   | (with_reducible refine LeO.ite ?_ ?_)
   | (with_reducible refine zcn ?_ (fun _ => ?_))
   | exact ih0 _ _ _
set_option maxHeartbeats 8000000 in
set_option maxRecDepth 100000 in
theorem laws_heldIntS.calls (k : Nat) (A0 : Option Addr) (c0 : Nat) (l0 : List Int) (a1 : Int) (r : Int) (w : World) (hr0 : Kd.C (Kd.int .i64) w A0 l0.length l0) (hc0 : l0.length ≤ c0) (h : laws_heldIntS.f k l0 a1 = some r) :
  Calls Try.prog 22 #[.slice A0 l0.length c0, .int .i64 a1] w fun e w' => e = .returned (.int .i64 r) ∧ Drawn0 w w' := by
 have HR0 := Aside0.mk hr0
 have HC0 := Aside0.mk hc0
 clear hr0 hc0
 have H : (laws_heldIntS.l0 k l0 a1 0) = some r := h
 clear h
 have H' := Aside0.mk H
 clear H
 go_enter Try.func22, Try.ntmps22
 go_wp2
 go_loopg [1, 5] k (fun kq v1 v5 w' => ∃ (x1_1 : Int) (x5_1 : Int), v1 = .int .i64 x1_1 ∧ v5 = .int .i64 x5_1 ∧ Aside0 (laws_heldIntS.l0 kq l0 x1_1 x5_1 = some r) ∧ Aside0 (kq ≤ k) ∧ Drawn0 w w')
 case atStart => exact ⟨(a1), (0), (by first | rfl | (simp; done) | (simp [*]; done)), (by first | rfl | (simp; done) | (simp [*]; done)), H', ⟨zbn _⟩, by repeat (first | exact Drawn0.refl _ | apply Drawn0.step)⟩
 case round =>
  clear H'
  try clear c2
  try clear p2
  obtain ⟨x1_1, x5_1, rfl, rfl, HA, HK1, ⟨m1, rfl⟩⟩ := hrel
  cases gk with
  | zero => exact absurd HA.out (by simp [laws_heldIntS.l0])
  | succ k1 =>
   have H := HA.out
   clear HA
   simp only [laws_heldIntS.l0] at H
   by_cases c3 : x5_1 < (l0.length : Int)
   ·rw [if_pos c3] at H
    have c3b0 : decide (x5_1 < (l0.length : Int)) = true := zar c3
    clear c3
    by_cases c4 : 0 ≤ x5_1
    ·rw [if_pos c4] at H
     have c4b0 : decide (0 ≤ x5_1) = true := zar c4
     clear c4
     by_cases c5 : (rd l0 x5_1) = x1_1
     ·rw [if_pos c5] at H
      have c5b0 : ((rd l0 x5_1) == x1_1) = true := zcp.mpr c5
      have c5b1 : ((rd l0 x5_1) != x1_1) = false := zbi.mpr c5
      clear c5
      have H' := Aside0.mk H
      clear H
      have p303 : 0 ≤ (x5_1 : Int) := zad (by first | (with_reducible assumption) | assumption)
      have q303 : x5_1 < (l0.length : Int) := zad (by first | (with_reducible assumption) | assumption)
      obtain ⟨ad303, e303, hx303_0⟩ := zbp HR0.out x5_1 p303 q303
      cases e303
      replace p303 := zas p303
      replace q303 := zas q303
      go_wp2
      go_roundg k1
      case measure => have := HK1.out; omega
      case rel => exact ⟨(wrap64 (x1_1 + 1)), (wrap64 (x5_1 + 1)), (by first | rfl | (simp; done) | (simp [*]; done)), (by first | rfl | (simp; done) | (simp [*]; done)), H', ⟨by have := HK1.out; omega⟩, by repeat (first | exact Drawn0.refl _ | apply Drawn0.step)⟩
     ·rw [if_neg c5] at H
      have c5b0 : ((rd l0 x5_1) == x1_1) = false := zbj.mpr c5
      have c5b1 : ((rd l0 x5_1) != x1_1) = true := zcq.mpr c5
      obtain rfl := Option.some.inj H
      have p303 : 0 ≤ (x5_1 : Int) := zad (by first | (with_reducible assumption) | assumption)
      have q303 : x5_1 < (l0.length : Int) := zad (by first | (with_reducible assumption) | assumption)
      obtain ⟨ad303, e303, hx303_0⟩ := zbp HR0.out x5_1 p303 q303
      cases e303
      replace p303 := zas p303
      replace q303 := zas q303
      go_wp2
      go_ret
      exact ⟨by first | rfl | (simp; done) | (simp [*]; done), by repeat (first | exact Drawn0.refl _ | apply Drawn0.step)⟩
    ·rw [if_neg c4] at H
     exact absurd H (by simp)
   ·rw [if_neg c3] at H
    have c3b0 : decide (x5_1 < (l0.length : Int)) = false := zby c3
    clear c3
    obtain rfl := Option.some.inj H
    go_wp2
    go_ret
    exact ⟨by first | rfl | (simp; done) | (simp [*]; done), by repeat (first | exact Drawn0.refl _ | apply Drawn0.step)⟩
end Go.Proofs.Ytdineaebljpfaaa.P
/- Plain lemmas on lists and on numbers that do not wrap, used by all pure statements of this seat; no condition but those each lemma names. -/
namespace Go.Proofs.Ytdineaebljpfaaa.B
open Go.RowKit Go.Proofs.YtdineaebljpfaaaW.PrintWords Go.Proofs.YtdineaebljpfaaaW.PrintLast Go.Proofs.YtdineaebljpfaaaW.PrintMore

theorem wrap_eq (x : Int) (h0 : -9223372036854775808 ≤ x) (h1 : x ≤ 9223372036854775807) : wrap64 x = x := by
  unfold wrap64; omega
theorem rd_mid (pre : List Int) (a : Int) (rest : List Int) : rd (pre ++ a :: rest) (pre.length : Int) = a := by
  unfold rd; simp [List.getD_eq_getElem?_getD]
theorem set_mid (pre : List Int) (a b : Int) (rest : List Int) : (pre ++ b :: rest).set ((pre.length : Int).toNat) a = pre ++ a :: rest := by
  simp
theorem lt_mid {α : Type} (pre : List α) (a : α) (rest : List α) : (pre.length : Int) < (((pre ++ a :: rest).length : Nat) : Int) := by
  simp; omega
theorem nlt_end {α : Type} (pre : List α) : ¬ ((pre.length : Int) < (((pre ++ []).length : Nat) : Int)) := by
  simp
theorem wrap_step {α : Type} (pre : List α) (a : α) (h : pre.length ≤ 4611686018427387904) : wrap64 ((pre.length : Int) + 1) = (((pre ++ [a]).length : Nat) : Int) := by
  rw [wrap_eq _ (by omega) (by omega)]; simp
theorem snoc_app {α : Type} (pre : List α) (a : α) (rest : List α) : pre ++ a :: rest = (pre ++ [a]) ++ rest := by simp
theorem pre_nonneg {α : Type} (pre : List α) : 0 ≤ (pre.length : Int) := by omega

theorem rd_mid2 (pa pb : List Int) (a : Int) (rest : List Int) (h : pa.length = pb.length) : rd (pb ++ a :: rest) (pa.length : Int) = a := by
  rw [h]; exact rd_mid pb a rest
theorem lt_mid2 {α : Type} (pa pb : List α) (a : α) (rest : List α) (h : pa.length = pb.length) : (pa.length : Int) < (((pb ++ a :: rest).length : Nat) : Int) := by
  rw [h]; exact lt_mid pb a rest
theorem nlt_end2 {α : Type} (pa pb : List α) (h : pa.length = pb.length) : ¬ ((pa.length : Int) < (((pb ++ []).length : Nat) : Int)) := by
  rw [h]; exact nlt_end pb
/-- n numbers m, m + 1, .. as bytes. -/
def marks : Nat → Int → List Int
  | 0, _ => []
  | n + 1, m => m % 256 :: marks n (m + 1)
theorem marks_length : ∀ (n : Nat) (m : Int), (marks n m).length = n
  | 0, _ => rfl
  | n + 1, m => by simp [marks, marks_length n]
theorem marks_snoc : ∀ (n : Nat) (m : Int), marks n m ++ [(m + n) % 256] = marks (n + 1) m
  | 0, m => by simp [marks]
  | n + 1, m => by
    have h := marks_snoc n (m + 1)
    rw [show m + 1 + (n : Int) = m + ((n + 1 : Nat) : Int) from by omega] at h
    rw [marks, marks, List.cons_append, h]
/-- n numbers m, m + 1, .. -/
def counts : Nat → Int → List Int
  | 0, _ => []
  | n + 1, m => m :: counts n (m + 1)
theorem counts_length : ∀ (n : Nat) (m : Int), (counts n m).length = n
  | 0, _ => rfl
  | n + 1, m => by simp [counts, counts_length n]
theorem counts_snoc : ∀ (n : Nat) (m : Int), counts n m ++ [m + n] = counts (n + 1) m
  | 0, m => by simp [counts]
  | n + 1, m => by
    have h := counts_snoc n (m + 1)
    rw [show m + 1 + (n : Int) = m + ((n + 1 : Nat) : Int) from by omega] at h
    rw [counts, counts, List.cons_append, h]
end Go.Proofs.Ytdineaebljpfaaa.B
/- What the laws' own helpers over numbers compute: comparisons, marks; for lists of at most 2^40 numbers. -/
namespace Go.Proofs.Ytdineaebljpfaaa.B
open Go.RowKit Go.Proofs.YtdineaebljpfaaaW.PrintWords Go.Proofs.YtdineaebljpfaaaW.PrintLast Go.Proofs.YtdineaebljpfaaaW.PrintMore Go.Proofs.Ytdineaebljpfaaa.P

theorem eqIntS_l0 : ∀ (a b pre : List Int) (k : Nat), a.length = b.length → pre.length + a.length ≤ 1099511627776 → a.length < k →
    laws_eqIntS.l0 k (pre ++ a) (pre ++ b) (pre.length : Int) = some (decide (a = b))
  | [], b, pre, k, hl, hb, hk => by
    obtain ⟨k, rfl⟩ : ∃ m, k = m + 1 := ⟨k - 1, by omega⟩
    obtain rfl : b = [] := List.eq_nil_of_length_eq_zero (by simpa using hl.symm)
    simp only [laws_eqIntS.l0]; rw [if_neg (nlt_end pre)]; simp
  | x :: a, b, pre, k, hl, hb, hk => by
    obtain ⟨k, rfl⟩ : ∃ m, k = m + 1 := ⟨k - 1, by simp at hk; omega⟩
    cases b with
    | nil => simp at hl
    | cons y b =>
      simp only [List.length_cons] at hl hb hk
      simp only [laws_eqIntS.l0]
      rw [if_pos (lt_mid pre x a), if_pos (pre_nonneg pre), if_pos (lt_mid pre y b), rd_mid, rd_mid]
      by_cases e : x = y
      · subst e
        rw [if_pos rfl, wrap_step pre x (by omega), snoc_app pre x a, snoc_app pre x b, eqIntS_l0 a b (pre ++ [x]) k (by omega) (by simp; omega) (by omega)]
        simp
      · rw [if_neg e]; simp [e]
theorem eqIntS (a b : List Int) (hn : a.length ≤ 1099511627776) (k : Nat) (hk : a.length < k) : laws_eqIntS.f k a b = some (decide (a = b)) := by
  unfold laws_eqIntS.f
  by_cases e : a.length = b.length
  · rw [if_pos (by omega)]
    have h := eqIntS_l0 a b [] k e (by simpa using hn) hk
    simpa using h
  · rw [if_neg (by omega)]
    have : a ≠ b := fun h => e (by rw [h])
    simp [this]
theorem eqIntS_same (a : List Int) (hn : a.length ≤ 1099511627776) (k : Nat) (hk : a.length < k) : laws_eqIntS.f k a a = some true := by
  rw [eqIntS a a hn k hk]; simp
theorem markIntS_l0 : ∀ (rest pre : List Int) (m : Int) (k : Nat), 0 ≤ m → m + rest.length ≤ 4611686018427387904 → pre.length + rest.length ≤ 1099511627776 → rest.length < k →
    laws_markIntS.l0 k (pre ++ rest) m (pre.length : Int) = some (m + rest.length, pre ++ counts rest.length m)
  | [], pre, m, k, h0, hm, hb, hk => by
    obtain ⟨k, rfl⟩ : ∃ m, k = m + 1 := ⟨k - 1, by omega⟩
    simp only [laws_markIntS.l0]; rw [if_neg (nlt_end pre)]; simp [counts]
  | a :: rest, pre, m, k, h0, hm, hb, hk => by
    obtain ⟨k, rfl⟩ : ∃ m, k = m + 1 := ⟨k - 1, by simp at hk; omega⟩
    simp only [List.length_cons] at hm hb hk
    have ih := markIntS_l0 rest (pre ++ [m]) (m + 1) k (by omega) (by omega) (by simp; omega) (by omega)
    simp only [laws_markIntS.l0]
    rw [if_pos (lt_mid pre a rest), if_pos (pre_nonneg pre), set_mid, wrap_step pre m (by omega), wrap_eq (m + 1) (by omega) (by omega), snoc_app pre m rest, ih]
    simp only [List.length_cons, counts, List.append_assoc, List.singleton_append]
    congr 2
    omega
theorem markIntS (l : List Int) (m : Int) (h0 : 0 ≤ m) (hm : m ≤ 1152921504606846976) (hn : l.length ≤ 1099511627776) (k : Nat) (hk : l.length < k) :
    laws_markIntS.f k l m = some (m + l.length, counts l.length m) := by
  unfold laws_markIntS.f
  have h := markIntS_l0 l [] m k h0 (by omega) (by simpa using hn) hk
  simpa using h
theorem heldIntS_l0 : ∀ (n : Nat) (pre : List Int) (m : Int) (k : Nat), 0 ≤ m → m + n ≤ 4611686018427387904 → pre.length + n ≤ 1099511627776 → n < k →
    laws_heldIntS.l0 k (pre ++ counts n m) m (pre.length : Int) = some (m + n)
  | 0, pre, m, k, h0, hm, hb, hk => by
    obtain ⟨k, rfl⟩ : ∃ m, k = m + 1 := ⟨k - 1, by omega⟩
    rw [show counts 0 m = [] from rfl]; simp only [laws_heldIntS.l0]; rw [if_neg (nlt_end pre)]; simp
  | n + 1, pre, m, k, h0, hm, hb, hk => by
    obtain ⟨k, rfl⟩ : ∃ m, k = m + 1 := ⟨k - 1, by omega⟩
    have ih := heldIntS_l0 n (pre ++ [m]) (m + 1) k (by omega) (by omega) (by simp; omega) (by omega)
    rw [show counts (n + 1) m = m :: counts n (m + 1) from rfl]
    simp only [laws_heldIntS.l0]
    rw [if_pos (lt_mid pre _ _), if_pos (pre_nonneg pre), rd_mid, if_pos rfl, wrap_step pre m (by omega), wrap_eq (m + 1) (by omega) (by omega), snoc_app pre m (counts n (m + 1)), ih]
    congr 1
    omega
theorem heldIntS (n : Nat) (m : Int) (h0 : 0 ≤ m) (hm : m ≤ 1152921504606846976) (hn : n ≤ 1099511627776) (k : Nat) (hk : n < k) :
    laws_heldIntS.f k (counts n m) m = some (m + n) := by
  unfold laws_heldIntS.f
  have h := heldIntS_l0 n [] m k h0 (by omega) (by simpa using hn) hk
  simpa using h
theorem toIntS_l0 : ∀ (rest rest' pre : List Int) (k : Nat), rest'.length = rest.length → pre.length + rest.length ≤ 1099511627776 → rest.length < k →
    laws_toIntS.l0 k (pre ++ rest) (pre ++ rest') (pre.length : Int) = some (pre ++ rest)
  | [], rest', pre, k, hl, hb, hk => by
    obtain ⟨k, rfl⟩ : ∃ m, k = m + 1 := ⟨k - 1, by omega⟩
    obtain rfl : rest' = [] := List.eq_nil_of_length_eq_zero (by simpa using hl)
    simp only [laws_toIntS.l0]; rw [if_neg (nlt_end pre)]
  | a :: rest, rest', pre, k, hl, hb, hk => by
    obtain ⟨k, rfl⟩ : ∃ m, k = m + 1 := ⟨k - 1, by simp at hk; omega⟩
    cases rest' with
    | nil => simp at hl
    | cons b rest' =>
      simp only [List.length_cons] at hl hb hk
      have ih := toIntS_l0 rest rest' (pre ++ [a]) k (by omega) (by simp; omega) (by omega)
      simp only [laws_toIntS.l0]
      rw [if_pos (lt_mid pre a rest), if_pos (pre_nonneg pre), if_pos (lt_mid pre b rest'), rd_mid, set_mid, wrap_step pre a (by omega), snoc_app pre a rest, snoc_app pre a rest']
      exact ih
theorem toIntS (l : List Int) (hn : l.length ≤ 1099511627776) (k : Nat) (hk : l.length < k) : laws_toIntS.f k l = some l := by
  unfold laws_toIntS.f
  rw [if_pos (by omega), if_pos (by simp; omega)]
  have h := toIntS_l0 l (List.replicate l.length 0) [] k (by simp) (by simpa using hn) hk
  simpa using h
end Go.Proofs.Ytdineaebljpfaaa.B
/- What masks and shifts of whole numbers are, as remainders; each for the numbers that it names. -/
namespace Go.Proofs.Ytdineaebljpfaaa.B
open Go.RowKit Go.Proofs.YtdineaebljpfaaaW.PrintWords Go.Proofs.YtdineaebljpfaaaW.PrintLast Go.Proofs.YtdineaebljpfaaaW.PrintMore

theorem i64_and_nat (x : Int) (m : Nat) (hm : m < 9223372036854775808) : Go.bits .and .i64 x (m : Int) = (((x % 18446744073709551616).toNat &&& m : Nat) : Int) := by
  have h1 : (BitVec.ofInt 64 x).toNat = (x % 18446744073709551616).toNat := by
    rw [BitVec.toNat_ofInt]; rfl
  have h2 : (BitVec.ofInt 64 (m : Int)).toNat = m := ofInt_u64 m (by omega)
  have hx : (x % 18446744073709551616).toNat &&& m ≤ m := Nat.and_le_right
  show IntKind.i64.wrap ((BitVec.ofInt 64 x &&& BitVec.ofInt 64 (m : Int)).toNat : Int) = _
  rw [BitVec.toNat_and, h1, h2, IntKind.wrap_i64]
  omega
theorem i64_and31 (x : Int) : Go.bits .and .i64 x 31 = x % 32 := by
  rw [show (31 : Int) = ((31 : Nat) : Int) from rfl, i64_and_nat x 31 (by omega), show (31 : Nat) = 2 ^ 5 - 1 from rfl, Nat.and_two_pow_sub_one_eq_mod]
  omega
theorem i64_and255 (x : Int) : Go.bits .and .i64 x 255 = x % 256 := by
  rw [show (255 : Int) = ((255 : Nat) : Int) from rfl, i64_and_nat x 255 (by omega), show (255 : Nat) = 2 ^ 8 - 1 from rfl, Nat.and_two_pow_sub_one_eq_mod]
  omega
theorem i64_and32 (x : Int) : Go.bits .and .i64 x 4294967295 = x % 4294967296 := by
  rw [show (4294967295 : Int) = ((4294967295 : Nat) : Int) from rfl, i64_and_nat x 4294967295 (by omega), show (4294967295 : Nat) = 2 ^ 32 - 1 from rfl, Nat.and_two_pow_sub_one_eq_mod]
  omega
theorem wf8 {l : List Int} (h : ∀ x ∈ l, (Lit.int .u8 x).wf = true) : ∀ x ∈ l, 0 ≤ x ∧ x < 256 := by
  intro x hx
  have := h x hx
  have m1 : IntKind.u8.min = 0 := by decide
  have m2 : IntKind.u8.max = 255 := by decide
  simp only [Lit.wf, m1, m2, Bool.and_eq_true, decide_eq_true_eq] at this
  omega
theorem wf64 {x : Int} (h : (Lit.int .i64 x).wf = true) : -9223372036854775808 ≤ x ∧ x ≤ 9223372036854775807 := by
  have m1 : IntKind.i64.min = -9223372036854775808 := by decide
  have m2 : IntKind.i64.max = 9223372036854775807 := by decide
  simp only [Lit.wf, m1, m2, Bool.and_eq_true, decide_eq_true_eq] at h
  omega
end Go.Proofs.Ytdineaebljpfaaa.B
/- 'from lo to hi', by the program and by the reference; for every three numbers. -/
namespace Go.Proofs.Ytdineaebljpfaaa.B
open Go.RowKit Go.Proofs.Ytdineaebljpfaaa.P Go.Proofs.YtdineaebljpfaaaW.PrintWords Go.Proofs.YtdineaebljpfaaaW.PrintLast Go.Proofs.YtdineaebljpfaaaW.PrintMore
theorem specIn (a b c : Int) : spec_l1In.f a b c = some (decide (b ≤ a ∧ a ≤ c)) := by
  unfold spec_l1In.f
  by_cases h : a ≥ b
  · rw [if_pos h]; simp [show b ≤ a from h]
  · rw [if_neg h]; simp [show ¬ b ≤ a from h]
theorem implIn (a b c : Int) : impl_in.f a b c = some (decide (b ≤ a ∧ a ≤ c)) := specIn a b c
end Go.Proofs.Ytdineaebljpfaaa.B
