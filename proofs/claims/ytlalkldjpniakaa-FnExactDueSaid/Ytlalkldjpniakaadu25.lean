import Derived.Test.Ytlalkldjpniakaadu24
import Derived.Test.Ytlalkldjpniakaadu10
import Derived.Test.Ytlalkldjpniakaadu13
/- What the laws' own helpers over items compute: sizes, copies, comparisons. -/
namespace Go.Proofs.Ytlalkldjpniakaa.B
open Go.RowKit Go.Proofs.Ytlalkldjpniakaa.P Go.Proofs.YtlalkldjpniakaaW.PrintWords Go.Proofs.YtlalkldjpniakaaW.PrintLast Go.Proofs.YtlalkldjpniakaaW.PrintMore
theorem szByteS (l : List Int) (a : Int) (hl : l.length ≤ maxLen) (h0 : 0 ≤ a) (h1 : a ≤ 1048576) : laws_szByteS.f l a = some (if (l.length : Int) > a then -1 else a - l.length) := by
  unfold laws_szByteS.f
  unfold maxLen at hl
  rw [wrap_eq _ (by omega) (by omega)]
  by_cases h : (l.length : Int) > a
  · rw [if_pos (by omega), if_pos h]
  · rw [if_neg (by omega), if_neg h]
/-- The size of an item: what is left, or less than nothing. -/
theorem szItem (s : ByteArray) (n m : Int) (l : List Int) (a : Int) (hs : s.size ≤ maxLen) (hl : l.length ≤ maxLen) (h0 : 0 ≤ a) (h1 : a ≤ 1048576) :
    laws_szItem.f s n m l a = some (-1) ∨ (laws_szItem.f s n m l a = some (a - s.size - l.length) ∧ (s.size : Int) + l.length ≤ a) := by
  unfold laws_szItem.f
  have hs' := hs
  unfold maxLen at hs'
  rw [wrap_eq _ (by omega) (by omega)]
  by_cases h : a - (s.size : Int) < 0
  · rw [if_pos h]; exact .inl rfl
  · rw [if_neg h, szByteS l _ hl (by omega) (by omega), Option.bind_some]
    by_cases h2 : (l.length : Int) > a - (s.size : Int)
    · rw [if_pos h2, if_pos (by omega)]; exact .inl rfl
    · rw [if_neg h2, if_neg (by omega)]; exact .inr ⟨rfl, by omega⟩
def okIt (x : S31) : Prop := x.f0.size ≤ maxLen ∧ x.f3.length ≤ maxLen
def fits (x : S31) : Prop := x.f0.size ≤ 1048576 ∧ x.f3.length ≤ 1048576
/-- The item as it is built anew. -/
def it (x : S31) : S34 := ⟨x.f0, x.f1, x.f2, x.f3⟩
theorem rdT31_mid (pre : List S31) (x : S31) (rest : List S31) : rd_T31 (pre ++ x :: rest) (pre.length : Int) = x := by
  unfold rd_T31; simp [List.getD_eq_getElem?_getD]
theorem rdT34_mid (pre : List S34) (x : S34) (rest : List S34) : rd_T34 (pre ++ x :: rest) (pre.length : Int) = x := by
  unfold rd_T34; simp [List.getD_eq_getElem?_getD]
theorem set_midT (pre : List S34) (a b : S34) (rest : List S34) : (pre ++ b :: rest).set ((pre.length : Int).toNat) a = pre ++ a :: rest := by simp
theorem szItemS_l0 : ∀ (rest pre : List S31) (a : Int) (k : Nat), (∀ y ∈ rest, okIt y) → 0 ≤ a → a ≤ 1048576 → pre.length + rest.length ≤ 4611686018427387904 → rest.length < k →
    ∃ r, laws_szItemS.l0 k (pre ++ rest) a (pre.length : Int) = some r ∧ (¬ r < 0 → ∀ y ∈ rest, fits y)
  | [], pre, a, k, hg, h0, h1, hb, hk => by
    obtain ⟨k, rfl⟩ : ∃ m, k = m + 1 := ⟨k - 1, by omega⟩
    refine ⟨a, ?_, by simp⟩
    simp only [laws_szItemS.l0]; rw [if_neg (nlt_end pre)]
  | x :: rest, pre, a, k, hg, h0, h1, hb, hk => by
    obtain ⟨k, rfl⟩ : ∃ m, k = m + 1 := ⟨k - 1, by simp at hk; omega⟩
    simp only [List.length_cons] at hb hk
    have hx := hg x List.mem_cons_self
    simp only [laws_szItemS.l0]
    rw [if_pos (lt_mid pre x rest), if_pos (pre_nonneg pre), rdT31_mid]
    rcases szItem x.f0 x.f1 x.f2 x.f3 a hx.1 hx.2 h0 h1 with e | ⟨e, hle⟩
    · rw [e, Option.bind_some, if_pos (by omega)]
      exact ⟨-1, rfl, fun h => absurd (by omega) h⟩
    · rw [e, Option.bind_some, if_neg (by omega), wrap_step pre x (by omega), snoc_app pre x rest]
      obtain ⟨r, hr, hf⟩ := szItemS_l0 rest (pre ++ [x]) (a - x.f0.size - x.f3.length) k (fun y hy => hg y (List.mem_cons_of_mem _ hy)) (by omega) (by omega) (by simp; omega) (by omega)
      refine ⟨r, hr, fun h y hy => ?_⟩
      rcases List.mem_cons.1 hy with rfl | hy
      · unfold fits; omega
      · exact hf h y hy
theorem szItemS (l : List S31) (a : Int) (hl : l.length ≤ maxLen) (hg : ∀ y ∈ l, okIt y) (h0 : 0 ≤ a) (h1 : a ≤ 1048576) (k : Nat) (hk : l.length < k) :
    ∃ r, laws_szItemS.f k l a = some r ∧ (¬ r < 0 → l.length ≤ 1048576 ∧ ∀ y ∈ l, fits y) := by
  unfold laws_szItemS.f
  have hl' := hl
  unfold maxLen at hl'
  rw [wrap_eq _ (by omega) (by omega)]
  by_cases h : a - (l.length : Int) < 0
  · rw [if_pos h]; exact ⟨-1, rfl, fun h => absurd (by omega) h⟩
  · rw [if_neg h]
    obtain ⟨r, hr, hf⟩ := szItemS_l0 l [] (a - l.length) k hg (by omega) (by omega) (by simp; omega) hk
    exact ⟨r, hr, fun h => ⟨by omega, hf h⟩⟩
theorem toItem (s : ByteArray) (n m : Int) (l : List Int) (hl : l.length ≤ 1048576) (k : Nat) (hk : 1048576 < k) : laws_toItem.f k s n m l = some (s, n, m, l) := by
  unfold laws_toItem.f
  rw [toByteS l (by omega) k (by omega)]; rfl
theorem toItemS_l0 : ∀ (rest : List S31) (rest' : List S34) (pre : List S31) (k : Nat), (∀ y ∈ rest, fits y) → rest'.length = rest.length → pre.length + rest.length ≤ 1099511627776 → rest.length + 1048576 < k →
    laws_toItemS.l0 k (pre ++ rest) (pre.map it ++ rest') (pre.length : Int) = some ((pre ++ rest).map it)
  | [], rest', pre, k, hf, hl, hb, hk => by
    obtain ⟨k, rfl⟩ : ∃ m, k = m + 1 := ⟨k - 1, by omega⟩
    obtain rfl : rest' = [] := List.eq_nil_of_length_eq_zero (by simpa using hl)
    simp only [laws_toItemS.l0]; rw [if_neg (nlt_end pre)]; simp
  | x :: rest, rest', pre, k, hf, hl, hb, hk => by
    obtain ⟨k, rfl⟩ : ∃ m, k = m + 1 := ⟨k - 1, by simp at hk; omega⟩
    cases rest' with
    | nil => simp at hl
    | cons b rest' =>
      simp only [List.length_cons] at hl hb hk
      have hx := hf x List.mem_cons_self
      have ih := toItemS_l0 rest rest' (pre ++ [x]) k (fun y hy => hf y (List.mem_cons_of_mem _ hy)) (by omega) (by simp; omega) (by omega)
      have hp : pre.length = (pre.map it).length := by simp
      simp only [laws_toItemS.l0]
      rw [if_pos (lt_mid pre x rest), if_pos (pre_nonneg pre), rdT31_mid, toItem _ _ _ _ hx.2 k (by omega), Option.bind_some, if_pos (by rw [hp]; exact lt_mid _ b rest'), wrap_step pre x (by omega)]
      rw [show (pre.map it ++ b :: rest').set ((pre.length : Int).toNat) (⟨x.f0, x.f1, x.f2, x.f3⟩ : S34) = (pre ++ [x]).map it ++ rest' from by rw [hp, set_midT, List.map_append, List.append_assoc]; rfl, snoc_app pre x rest]
      exact ih
theorem toItemS (l : List S31) (hl : l.length ≤ 1048576) (hf : ∀ y ∈ l, fits y) (k : Nat) (hk : 2097152 < k) : laws_toItemS.f k l = some (l.map it) := by
  unfold laws_toItemS.f
  rw [if_pos (by omega), if_pos (by omega)]
  have h := toItemS_l0 l (List.replicate l.length z34) [] k hf (by simp) (by simp; omega) (by omega)
  rw [Int.toNat_natCast]
  exact h
theorem eqItem_same (s : ByteArray) (n m : Int) (l : List Int) (hl : l.length ≤ 1048576) (k : Nat) (hk : 1048576 < k) : laws_eqItem.f k s n m l s n m l = some true := by
  unfold laws_eqItem.f
  rw [if_pos rfl, if_pos rfl, if_pos rfl, eqByteS_same l (by omega) k (by omega)]; rfl
theorem eqItemS_l0 : ∀ (rest pre : List S34) (k : Nat), (∀ y ∈ rest, y.f3.length ≤ 1048576) → pre.length + rest.length ≤ 1099511627776 → rest.length + 1048576 < k → laws_eqItemS.l0 k (pre ++ rest) (pre ++ rest) (pre.length : Int) = some true
  | [], pre, k, hf, hb, hk => by
    obtain ⟨k, rfl⟩ : ∃ m, k = m + 1 := ⟨k - 1, by omega⟩
    simp only [laws_eqItemS.l0]; rw [if_neg (nlt_end pre)]
  | x :: rest, pre, k, hf, hb, hk => by
    obtain ⟨k, rfl⟩ : ∃ m, k = m + 1 := ⟨k - 1, by simp at hk; omega⟩
    simp only [List.length_cons] at hb hk
    have ih := eqItemS_l0 rest (pre ++ [x]) k (fun y hy => hf y (List.mem_cons_of_mem _ hy)) (by simp; omega) (by omega)
    simp only [laws_eqItemS.l0]
    rw [if_pos (lt_mid pre x rest), if_pos (pre_nonneg pre), if_pos (lt_mid pre x rest), rdT34_mid, eqItem_same _ _ _ _ (hf x List.mem_cons_self) k (by omega), Option.bind_some, if_pos rfl, wrap_step pre x (by omega), snoc_app pre x rest]
    exact ih
theorem eqItemS_same (l : List S34) (hl : l.length ≤ 1048576) (hf : ∀ y ∈ l, y.f3.length ≤ 1048576) (k : Nat) (hk : 2097152 < k) : laws_eqItemS.f k l l = some true := by
  unfold laws_eqItemS.f
  rw [if_pos rfl]
  exact eqItemS_l0 l [] k hf (by simp; omega) (by omega)
end Go.Proofs.Ytlalkldjpniakaa.B
namespace Go.Proofs.Ytlalkldjpniakaa.P
open Go.RowKit Go.Proofs.YtlalkldjpniakaaW.PrintWords Go.Proofs.YtlalkldjpniakaaW.PrintLast Go.Proofs.YtlalkldjpniakaaW.PrintMore
attribute [local go_sem] zdd zde zdv zdw zcs zct zdf zdg   -- for this text's walks alone
set_option linter.unusedVariables false
set_option linter.unusedSimpArgs false

def spec_l1Bit.f (a0 : Bool) : Option (Int) := if a0 = true then (some 1) else (some 0)
set_option maxHeartbeats 8000000 in
set_option maxRecDepth 100000 in
theorem spec_l1Bit.calls (a0 : Bool) (r : Int) (w : World) (h : spec_l1Bit.f a0 = some r) :
  Calls Try.prog 86 #[.bool a0] w fun e w' => e = .returned (.int .i64 r) ∧ Drawn0 w w' := by
 have H : (if a0 = true then (some 1) else (some 0)) = some r := h
 clear h
 by_cases c2 : a0 = true
 ·subst c2
  have H1 : (some 1) = some r := by rw [if_pos rfl] at H; exact H
  clear H
  have H := H1
  clear H1
  obtain rfl := Option.some.inj H
  go_enter Try.func86, Try.ntmps86
  go_wp2
  go_ret
  exact ⟨by first | rfl | (simp; done) | (simp [*]; done), by repeat (first | exact Drawn0.refl _ | apply Drawn0.step)⟩
 ·replace c2 := zdi.mpr c2
  subst c2
  have H1 : (some 0) = some r := by rw [if_neg (show ¬ (false = true) by decide)] at H; exact H
  clear H
  have H := H1
  clear H1
  obtain rfl := Option.some.inj H
  go_enter Try.func86, Try.ntmps86
  go_wp2
  go_ret
  exact ⟨by first | rfl | (simp; done) | (simp [*]; done), by repeat (first | exact Drawn0.refl _ | apply Drawn0.step)⟩
def spec_Of.l0 : Nat → List (S34) → ByteArray → Int → Int → Option (Int)
 | 0, _, _, _, _ => none
 | k + 1, x0, x1, x5, x6 => if x6 < (x0.length : Int) then (if 0 ≤ x6 then ((spec_l1Bit.f (((rd_T34 x0 x6).f0).toList == x1.toList)).bind fun t106 => (spec_Of.l0 k x0 x1 (wrap64 (x5 + t106)) (wrap64 (x6 + 1)))) else (none)) else (some x5)
def spec_Of.f (k : Nat) (l0 : List (S34)) (a1 : ByteArray) : Option (Int) := spec_Of.l0 k l0 a1 0 0
theorem spec_Of.mono_l : ∀ k, (∀ y0 y1 y2 y3, LeO (spec_Of.l0 k y0 y1 y2 y3) (spec_Of.l0 (k + 1) y0 y1 y2 y3))
 | 0 => fun _ _ _ _ r h => by simp [spec_Of.l0] at h
 | k + 1 => by
  have ih0 := spec_Of.mono_l k
  ·intro y0 y1 y2 y3
   unfold spec_Of.l0
   repeat' first
   | (with_reducible exact ih0 _ _ _ _)
   | (with_reducible exact zcl _)
   | (with_reducible exact zcw _)
   | (with_reducible refine zdb ?_ ?_)
   | (with_reducible refine zcm ?_ (fun _ => ?_))
   | exact ih0 _ _ _ _
theorem spec_Of.mono : ∀ a0 a1 k, LeO (spec_Of.f k a0 a1) (spec_Of.f (k + 1) a0 a1) := by
 intro a0 a1 k
 have ih0 := spec_Of.mono_l k
 unfold spec_Of.f
 repeat' first
   | (with_reducible exact ih0 _ _ _ _)
   | (with_reducible exact zcl _)
   | (with_reducible exact zcw _)
   | (with_reducible refine zdb ?_ ?_)
   | (with_reducible refine zcm ?_ (fun _ => ?_))
   | exact ih0 _ _ _ _
set_option maxHeartbeats 8000000 in
set_option maxRecDepth 100000 in
theorem spec_Of.calls (k : Nat) (A0 : Option Addr) (c0 : Nat) (l0 : List (S34)) (a1 : ByteArray) (r : Int) (w : World) (hr0 : Kd.C k34 w A0 l0.length l0) (hc0 : l0.length ≤ c0) (h : spec_Of.f k l0 a1 = some r) :
  Calls Try.prog 19 #[.slice A0 l0.length c0, .string a1] w fun e w' => e = .returned (.int .i64 r) ∧ Drawn0 w w' := by
 have HR0 := Aside0.mk hr0
 have HC0 := Aside0.mk hc0
 clear hr0 hc0
 have H : (spec_Of.l0 k l0 a1 0 0) = some r := h
 clear h
 have H' := Aside0.mk H
 clear H
 go_enter Try.func19, Try.ntmps19
 go_wp2
 go_loopg [5, 6] k (fun kq v5 v6 w' => ∃ (x5_1 : Int) (x6_1 : Int), v5 = .int .i64 x5_1 ∧ v6 = .int .i64 x6_1 ∧ Aside0 (spec_Of.l0 kq l0 a1 x5_1 x6_1 = some r) ∧ Aside0 (kq ≤ k) ∧ Drawn0 w w')
 case atStart => exact ⟨(0), (0), (by first | rfl | (simp; done) | (simp [*]; done)), (by first | rfl | (simp; done) | (simp [*]; done)), H', ⟨zbh _⟩, by repeat (first | exact Drawn0.refl _ | apply Drawn0.step)⟩
 case round =>
  clear H'
  try clear c1
  try clear p2
  obtain ⟨x5_1, x6_1, rfl, rfl, HA, HK1, ⟨m1, rfl⟩⟩ := hrel
  cases gk with
  | zero => exact absurd HA.out (by simp [spec_Of.l0])
  | succ k1 =>
   have H := HA.out
   clear HA
   simp only [spec_Of.l0] at H
   by_cases c3 : x6_1 < (l0.length : Int)
   ·rw [if_pos c3] at H
    have c3b0 : decide (x6_1 < (l0.length : Int)) = true := zas c3
    clear c3
    by_cases c4 : 0 ≤ x6_1
    ·rw [if_pos c4] at H
     have c4b0 : decide (0 ≤ x6_1) = true := zas c4
     clear c4
     replace H := zak.mp H
     obtain ⟨t106, A50, H⟩ := H
     try dsimp only at H
     have A5 := Aside0.mk A50
     clear A50
     have H' := Aside0.mk H
     clear H
     have p105 : 0 ≤ (x6_1 : Int) := zad (by first | (with_reducible assumption) | assumption)
     have q105 : x6_1 < (l0.length : Int) := zad (by first | (with_reducible assumption) | assumption)
     obtain ⟨ad105, A105_3, c105_3, e105, hx105_0, hx105_1, hx105_2, hx105_3, hl105_3, hi105_3⟩ := at_T34 HR0.out x6_1 p105 q105
     cases e105
     have HR105_3 := Aside0.mk hi105_3
     have HC105_3 := Aside0.mk hl105_3
     clear hi105_3 hl105_3
     replace p105 := zau p105
     replace q105 := zau q105
     go_wp2_with (first | ((with_reducible refine zbt (f := 86) rfl ?_); refine goesL_ (some 21) rfl rfl Try.func86 (by kernel_rfl) rfl #[.bool (((rd_T34 l0 x6_1).f0).toList == a1.toList)] rfl (by (try simp only [zaz, zbd, zbg]); first | done | rfl) ?_; (with_reducible refine (spec_l1Bit.calls (((rd_T34 l0 x6_1).f0).toList == a1.toList) t106 _ A5.out).mono ?_); rintro e w' ⟨rfl, ⟨nd, rfl⟩⟩; refine ⟨_, rfl, ?_⟩))
     go_roundg k1
     case measure => have := HK1.out; omega
     case rel => exact ⟨(wrap64 (x5_1 + t106)), (wrap64 (x6_1 + 1)), (by first | rfl | (simp; done) | (simp [*]; done)), (by first | rfl | (simp; done) | (simp [*]; done)), H', ⟨by have := HK1.out; omega⟩, by repeat (first | exact Drawn0.refl _ | apply Drawn0.step)⟩
    ·rw [if_neg c4] at H
     exact absurd H (by simp)
   ·rw [if_neg c3] at H
    have c3b0 : decide (x6_1 < (l0.length : Int)) = false := zbf c3
    clear c3
    obtain rfl := Option.some.inj H
    go_wp2
    go_ret
    exact ⟨by first | rfl | (simp; done) | (simp [*]; done), by repeat (first | exact Drawn0.refl _ | apply Drawn0.step)⟩
end Go.Proofs.Ytlalkldjpniakaa.P
