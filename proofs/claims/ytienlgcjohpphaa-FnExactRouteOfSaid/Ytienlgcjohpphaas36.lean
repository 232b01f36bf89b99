import Derived.Test.Ytienlgcjohpphaas34
import Derived.Test.Ytienlgcjohpphaas35
import Derived.Laws.BitsAllLaws
namespace Go.Proofs.Ytienlgcjohpphaa.P
open Go.RowKit Go.Proofs.YtienlgcjohpphaaW.PrintWords Go.Proofs.YtienlgcjohpphaaW.PrintLast Go.Proofs.YtienlgcjohpphaaW.PrintMore
attribute [local go_sem] zcx zcy zdl zdm zcm zcn zcz zda   -- for this text's walks alone
set_option linter.unusedVariables false
set_option linter.unusedSimpArgs false

def impl_Derive.f (k : Nat) (l0 : List Int) (l1 : List Int) (l2 : List Int) (a3 : Int) : Option (List Int) := (impl_Extract.f k l0 l1).bind fun t1061 => ((impl_Expand.f k t1061 l2 a3).bind fun t1064 => (some t1064))
theorem impl_Derive.mono : ∀ a0 a1 a2 a3 k, LeO (impl_Derive.f k a0 a1 a2 a3) (impl_Derive.f (k + 1) a0 a1 a2 a3) := by
 intro a0 a1 a2 a3 k
 unfold impl_Derive.f
 repeat' first
   | (with_reducible exact impl_Expand.mono _ _ _ _)
   | (with_reducible exact impl_Extract.mono _ _ _)
   | (with_reducible exact zck _)
   | (with_reducible exact zbs _)
   | (with_reducible refine zby ?_ ?_)
   | (with_reducible refine zbq ?_ (fun _ => ?_))
   | exact impl_Expand.mono _ _ _ _
   | exact impl_Extract.mono _ _ _
   | exact zbs _
   | refine zby ?_ ?_
   | refine zbq ?_ (fun _ => ?_)
set_option maxHeartbeats 8000000 in
set_option maxRecDepth 100000 in
theorem impl_Derive.calls (k : Nat) (A0 : Option Addr) (c0 : Nat) (l0 : List Int) (A1 : Option Addr) (c1 : Nat) (l1 : List Int) (A2 : Option Addr) (c2 : Nat) (l2 : List Int) (a3 : Int) (r : List Int) (w : World) (hr0 : Kd.C (Kd.int .u8) w A0 l0.length l0) (hc0 : l0.length ≤ c0) (hr1 : Kd.C (Kd.int .u8) w A1 l1.length l1) (hc1 : l1.length ≤ c1) (hr2 : Kd.C (Kd.int .u8) w A2 l2.length l2) (hc2 : l2.length ≤ c2) (h : impl_Derive.f k l0 l1 l2 a3 = some r) :
  Calls Try.prog 46 #[.slice A0 l0.length c0, .slice A1 l1.length c1, .slice A2 l2.length c2, .int .i64 a3] w fun e w' => ∃ v0_ : Value, e = .returned (v0_) ∧ Kd.R (Kd.int .u8) 5 w' w.heap.size (fun _ => True) v0_ r ∧ Below w.heap.size w w' := by
 have HR0 := Aside0.mk hr0
 have HC0 := Aside0.mk hc0
 clear hr0 hc0
 have HR1 := Aside0.mk hr1
 have HC1 := Aside0.mk hc1
 clear hr1 hc1
 have HR2 := Aside0.mk hr2
 have HC2 := Aside0.mk hc2
 clear hr2 hc2
 have HB := Aside0.mk (zbu w.heap.size w)
 have H : ((impl_Extract.f k l0 l1).bind fun t1061 => ((impl_Expand.f k t1061 l2 a3).bind fun t1064 => (some t1064))) = some r := h
 clear h
 replace H := zal.mp H
 obtain ⟨t1061, A50, H⟩ := H
 replace H : ((impl_Expand.f k t1061 l2 a3).bind fun t1064 => (some t1064)) = some r := H
 have A5 := Aside0.mk A50
 clear A50
 replace H := zal.mp H
 obtain ⟨t1064, A60, H⟩ := H
 replace H : (some t1064) = some r := H
 have A6 := Aside0.mk A60
 clear A60
 obtain rfl := Option.some.inj H
 go_enter Try.func46, Try.ntmps46
 go_wp2_with (first | ((with_reducible refine zax (f := 40) rfl ?_); refine goesL_ (some 11) rfl rfl Try.func40 (by kernel_rfl) rfl #[.slice A0 l0.length c0, .slice A1 l1.length c1] rfl (by (try simp only [zan, zar, zav]); first | done | rfl | (simp only [zah, zag]; rfl) | (simp only [zah, zag]; rw [zat (zay.mpr (zbg (by assumption)))])) ?_; (with_reducible refine (impl_Extract.calls k _ _ l0 _ _ l1 t1061 _ ?side1 ?side2 ?side3 ?side4 A5.out).mono ?_); (case side1 => repeat (first | exact HR0.out | (with_reducible refine zbe ?_ _) | (with_reducible refine zbf ?_ _) | (with_reducible refine zbl ?_))); (case side2 => exact HC0.out); (case side3 => repeat (first | exact HR1.out | (with_reducible refine zbe ?_ _) | (with_reducible refine zbf ?_ _) | (with_reducible refine zbl ?_))); (case side4 => exact HC1.out); rintro e w7 ⟨v1062, rfl, ho0, hb⟩; refine ⟨_, rfl, ?_⟩; have n0_ := Aside0.mk (zbm ho0 (zba (by repeat (first | (with_reducible first | exact HB.out | apply zaf | apply zab | apply zae) | exact HB.out)))); have n1_ := Aside0.mk (zbb (by repeat (first | (with_reducible first | exact HB.out | apply zaf | apply zab | apply zae) | exact HB.out)) hb); clear HB; have HO1063 := n0_; have HB := n1_; clear n0_ n1_; (try clear hb); (try clear hb2); (try clear hk); (try clear hi); (try clear ho0); obtain ⟨Ao8, co8, eo8⟩ := zbr HO1063.out; subst eo8) | ((with_reducible refine zax (f := 44) rfl ?_); refine goesL_ (some 14) rfl rfl Try.func44 (by kernel_rfl) rfl #[.slice Ao8 t1061.length co8, .slice A2 l2.length c2, .int .i64 a3] rfl (by (try simp only [zan, zar, zav]); first | done | rfl | (simp only [zah, zag]; rfl) | (simp only [zah, zag]; rw [zat (zay.mpr (zbg (by assumption)))])) ?_; (with_reducible refine (impl_Expand.calls k _ _ t1061 (fun k_ => k_ < w.heap.size) _ _ l2 a3 t1064 _ ?side1 ?side2 ?side3 A6.out).mono ?_); (case side1 => repeat (first | exact (zas HO1063.out).2.2 | (with_reducible refine zbe ?_ _) | (with_reducible refine zbf ?_ _) | (with_reducible refine zbl ?_))); (case side2 => exact (zas HO1063.out).2.1); (case side3 => exact zeo HC2.out (Kd.F_below (Kd.C_F (Kd.heap_int .u8) HR2.out) (by repeat (first | (with_reducible first | exact HB.out | apply zaf | apply zab | apply zae) | exact HB.out)))); rintro e w9 ⟨v1065, rfl, ho0, hb⟩; refine ⟨_, rfl, ?_⟩; have n0_ := Aside0.mk (zbj (by (with_reducible repeat (first | apply zai | apply zaj | apply zak)); exact HO1063.out) (zbt ho0) hb); have n1_ := Aside0.mk (zbm (zbv (zbx (ok' := fun k_ => True) ho0 (fun _ hk_ => zcc)) (zcb (by (with_reducible repeat (first | apply zai | apply zaj | apply zak)); exact HO1063.out))) (zba (by repeat (first | (with_reducible first | exact HB.out | apply zaf | apply zab | apply zae) | exact HB.out)))); have n2_ := Aside0.mk (zbb (by repeat (first | (with_reducible first | exact HB.out | apply zaf | apply zab | apply zae) | exact HB.out)) hb); clear HO1063; clear HB; have HO1063 := n0_; have HO1066 := n1_; have HB := n2_; clear n0_ n1_ n2_; (try clear hb); (try clear hb2); (try clear hk); (try clear hi); (try clear ho0)))
 go_ret
 exact ⟨_, by first | rfl | (simp [zbn, zbo] <;> rfl) | (simp [*, zbn, zbo] <;> rfl), by (with_reducible repeat (first | apply zai | apply zaj | apply zak)); exact zbx HO1066.out (fun _ hk => zcc), by repeat (first | (with_reducible first | exact HB.out | apply zaf | apply zab | apply zae) | exact HB.out)⟩
def impl_SecretOf.f (k : Nat) (l0 : List Int) (a1 : Int) : Option (List Int) := (impl_keyOf.f l0 a1).bind fun t1128 => (if t1128 = true then ((impl_named.f k (⟨#[101, 112, 111, 99, 104]⟩ : ByteArray) a1).bind fun t1129 => ((impl_Derive.f k ([] : List Int) l0 t1129 32).bind fun t1132 => (some t1132))) else (some ([] : List Int)))
theorem impl_SecretOf.mono : ∀ a0 a1 k, LeO (impl_SecretOf.f k a0 a1) (impl_SecretOf.f (k + 1) a0 a1) := by
 intro a0 a1 k
 unfold impl_SecretOf.f
 repeat' first
   | (with_reducible exact impl_Derive.mono _ _ _ _ _)
   | (with_reducible exact impl_named.mono _ _ _)
   | (with_reducible exact zck _)
   | (with_reducible exact zbs _)
   | (with_reducible refine zby ?_ ?_)
   | (with_reducible refine zbq ?_ (fun _ => ?_))
   | exact impl_Derive.mono _ _ _ _ _
   | exact impl_named.mono _ _ _
   | exact zbs _
   | refine zby ?_ ?_
   | refine zbq ?_ (fun _ => ?_)
set_option maxHeartbeats 8000000 in
set_option maxRecDepth 100000 in
theorem impl_SecretOf.calls (k : Nat) (A0 : Option Addr) (c0 : Nat) (l0 : List Int) (a1 : Int) (r : List Int) (w : World) (hr0 : Kd.C (Kd.int .u8) w A0 l0.length l0) (hc0 : l0.length ≤ c0) (h : impl_SecretOf.f k l0 a1 = some r) :
  Calls Try.prog 48 #[.slice A0 l0.length c0, .int .i64 a1] w fun e w' => ∃ v0_ : Value, e = .returned (v0_) ∧ Kd.R (Kd.int .u8) 5 w' w.heap.size (fun _ => True) v0_ r ∧ Below w.heap.size w w' := by
 have HR0 := Aside0.mk hr0
 have HC0 := Aside0.mk hc0
 clear hr0 hc0
 have HB := Aside0.mk (zbu w.heap.size w)
 have H : ((impl_keyOf.f l0 a1).bind fun t1128 => (if t1128 = true then ((impl_named.f k (⟨#[101, 112, 111, 99, 104]⟩ : ByteArray) a1).bind fun t1129 => ((impl_Derive.f k ([] : List Int) l0 t1129 32).bind fun t1132 => (some t1132))) else (some ([] : List Int)))) = some r := h
 clear h
 replace H := zal.mp H
 obtain ⟨t1128, A30, H⟩ := H
 replace H : (if t1128 = true then ((impl_named.f k (⟨#[101, 112, 111, 99, 104]⟩ : ByteArray) a1).bind fun t1129 => ((impl_Derive.f k ([] : List Int) l0 t1129 32).bind fun t1132 => (some t1132))) else (some ([] : List Int))) = some r := H
 have A3 := Aside0.mk A30
 clear A30
 by_cases c4 : t1128 = true
 ·subst c4
  have H1 : ((impl_named.f k (⟨#[101, 112, 111, 99, 104]⟩ : ByteArray) a1).bind fun t1129 => ((impl_Derive.f k ([] : List Int) l0 t1129 32).bind fun t1132 => (some t1132))) = some r := by rw [if_pos rfl] at H; exact H
  clear H
  have H := H1
  clear H1
  replace H := zal.mp H
  obtain ⟨t1129, A50, H⟩ := H
  replace H : ((impl_Derive.f k ([] : List Int) l0 t1129 32).bind fun t1132 => (some t1132)) = some r := H
  have A5 := Aside0.mk A50
  clear A50
  replace H := zal.mp H
  obtain ⟨t1132, A60, H⟩ := H
  replace H : (some t1132) = some r := H
  have A6 := Aside0.mk A60
  clear A60
  obtain rfl := Option.some.inj H
  go_enter Try.func48, Try.ntmps48
  go_wp2_with (first | ((with_reducible refine zax (f := 91) rfl ?_); refine goesL_ (some 7) rfl rfl Try.func91 (by kernel_rfl) rfl #[.slice A0 l0.length c0, .int .i64 a1] rfl (by (try simp only [zan, zar, zav]); first | done | rfl | (simp only [zah, zag]; rfl) | (simp only [zah, zag]; rw [zat (zay.mpr (zbg (by assumption)))])) ?_; (with_reducible refine (impl_keyOf.calls _ _ l0 a1 true _ ?side1 ?side2 A3.out).mono ?_); (case side1 => repeat (first | exact HR0.out | (with_reducible refine zbe ?_ _) | (with_reducible refine zbf ?_ _) | (with_reducible refine zbl ?_))); (case side2 => exact HC0.out); rintro e w' ⟨rfl, ⟨nd, rfl⟩⟩; refine ⟨_, rfl, ?_⟩) | ((with_reducible refine zax (f := 93) rfl ?_); refine goesL_ (some 11) rfl rfl Try.func93 (by kernel_rfl) rfl #[.string (⟨#[101, 112, 111, 99, 104]⟩ : ByteArray), .int .i64 a1] rfl (by (try simp only [zan, zar, zav]); first | done | rfl | (simp only [zah, zag]; rfl) | (simp only [zah, zag]; rw [zat (zay.mpr (zbg (by assumption)))])) ?_; (with_reducible refine (impl_named.calls k (⟨#[101, 112, 111, 99, 104]⟩ : ByteArray) a1 t1129 _ A5.out).mono ?_); rintro e w7 ⟨v1130, rfl, ho0, hb⟩; refine ⟨_, rfl, ?_⟩; have n0_ := Aside0.mk (zbm ho0 (zba (by repeat (first | (with_reducible first | exact HB.out | apply zaf | apply zab | apply zae) | exact HB.out)))); have n1_ := Aside0.mk (zbb (by repeat (first | (with_reducible first | exact HB.out | apply zaf | apply zab | apply zae) | exact HB.out)) hb); clear HB; have HO1131 := n0_; have HB := n1_; clear n0_ n1_; (try clear hb); (try clear hb2); (try clear hk); (try clear hi); (try clear ho0); obtain ⟨Ao8, co8, eo8⟩ := zbr HO1131.out; subst eo8) | ((with_reducible refine zax (f := 46) rfl ?_); refine goesL_ (some 12) rfl rfl Try.func46 (by kernel_rfl) rfl #[.slice none 0 0, .slice A0 l0.length c0, .slice Ao8 t1129.length co8, .int .i64 32] rfl (by (try simp only [zan, zar, zav]); first | done | rfl | (simp only [zah, zag]; rfl) | (simp only [zah, zag]; rw [zat (zay.mpr (zbg (by assumption)))])) ?_; (refine (impl_Derive.calls k _ _ ([] : List Int) _ _ l0 _ _ t1129 32 t1132 _ ?side1 ?side2 ?side3 ?side4 ?side5 ?side6 A6.out).mono ?_); (case side1 => exact Kd.C_nil _ _); (case side2 => exact zbh _); (case side3 => repeat (first | exact (zdo HR0.out HB.out) | (with_reducible refine zbe ?_ _) | (with_reducible refine zbf ?_ _) | (with_reducible refine zbl ?_))); (case side4 => exact HC0.out); (case side5 => repeat (first | exact (zas HO1131.out).2.2 | (with_reducible refine zbe ?_ _) | (with_reducible refine zbf ?_ _) | (with_reducible refine zbl ?_))); (case side6 => exact (zas HO1131.out).2.1); rintro e w9 ⟨v1133, rfl, ho0, hb⟩; refine ⟨_, rfl, ?_⟩; have n0_ := Aside0.mk (zbj (by (with_reducible repeat (first | apply zai | apply zaj | apply zak)); exact HO1131.out) (zbt ho0) hb); have n1_ := Aside0.mk (zbm (zbv ho0 (zcb (by (with_reducible repeat (first | apply zai | apply zaj | apply zak)); exact HO1131.out))) (zba (by repeat (first | (with_reducible first | exact HB.out | apply zaf | apply zab | apply zae) | exact HB.out)))); have n2_ := Aside0.mk (zbb (by repeat (first | (with_reducible first | exact HB.out | apply zaf | apply zab | apply zae) | exact HB.out)) hb); clear HO1131; clear HB; have HO1131 := n0_; have HO1134 := n1_; have HB := n2_; clear n0_ n1_ n2_; (try clear hb); (try clear hb2); (try clear hk); (try clear hi); (try clear ho0)))
  go_ret
  exact ⟨_, by first | rfl | (simp [zbn, zbo] <;> rfl) | (simp [*, zbn, zbo] <;> rfl), by (with_reducible repeat (first | apply zai | apply zaj | apply zak)); exact zbx HO1134.out (fun _ hk => zcc), by repeat (first | (with_reducible first | exact HB.out | apply zaf | apply zab | apply zae) | exact HB.out)⟩
 ·replace c4 := zcu.mpr c4
  subst c4
  have H1 : (some ([] : List Int)) = some r := by rw [if_neg (show ¬ (false = true) by decide)] at H; exact H
  clear H
  have H := H1
  clear H1
  obtain rfl := Option.some.inj H
  go_enter Try.func48, Try.ntmps48
  go_wp2_with (first | ((with_reducible refine zax (f := 91) rfl ?_); refine goesL_ (some 7) rfl rfl Try.func91 (by kernel_rfl) rfl #[.slice A0 l0.length c0, .int .i64 a1] rfl (by (try simp only [zan, zar, zav]); first | done | rfl | (simp only [zah, zag]; rfl) | (simp only [zah, zag]; rw [zat (zay.mpr (zbg (by assumption)))])) ?_; (with_reducible refine (impl_keyOf.calls _ _ l0 a1 false _ ?side1 ?side2 A3.out).mono ?_); (case side1 => repeat (first | exact HR0.out | (with_reducible refine zbe ?_ _) | (with_reducible refine zbf ?_ _) | (with_reducible refine zbl ?_))); (case side2 => exact HC0.out); rintro e w' ⟨rfl, ⟨nd, rfl⟩⟩; refine ⟨_, rfl, ?_⟩))
  go_ret
  exact ⟨_, by first | rfl | (simp [zbn, zbo] <;> rfl) | (simp [*, zbn, zbo] <;> rfl), by first | exact Kd.R_nil _ _ _ _ _ | exact Kd.N_nil _ _ _ _ _ | exact Kd.V_nil _ _ _ _ _ | exact Kd.Q_nil _ _ _ _ _ | exact Kd.S_nil _ _ _ _ _, by repeat (first | (with_reducible first | exact HB.out | apply zaf | apply zab | apply zae) | exact HB.out)⟩
end Go.Proofs.Ytienlgcjohpphaa.P
/- Plain lemmas on lists and on numbers that do not wrap, used by all pure statements of this seat; no condition but those each lemma names. -/
namespace Go.Proofs.Ytienlgcjohpphaa.B
open Go.RowKit Go.Proofs.YtienlgcjohpphaaW.PrintWords Go.Proofs.YtienlgcjohpphaaW.PrintLast Go.Proofs.YtienlgcjohpphaaW.PrintMore

theorem wrap_eq (x : Int) (h0 : -9223372036854775808 ≤ x) (h1 : x ≤ 9223372036854775807) : wrap64 x = x := by
  unfold wrap64; omega
theorem rd_mid (pre : List Int) (a : Int) (rest : List Int) : rd (pre ++ a :: rest) (pre.length : Int) = a := by
  unfold rd; simp [List.getD_eq_getElem?_getD]
theorem set_mid (pre : List Int) (a b : Int) (rest : List Int) : (pre ++ b :: rest).set ((pre.length : Int).toNat) a = pre ++ a :: rest := by
  simp
theorem lt_mid {α : Type} (pre : List α) (a : α) (rest : List α) : (pre.length : Int) < (((pre ++ a :: rest).length : Nat) : Int) := by
  simp; omega
theorem nlt_end {α : Type} (pre : List α) : ¬ ((pre.length : Int) < (((pre ++ []).length : Nat) : Int)) := by
  simp
theorem wrap_step {α : Type} (pre : List α) (a : α) (h : pre.length ≤ 4611686018427387904) : wrap64 ((pre.length : Int) + 1) = (((pre ++ [a]).length : Nat) : Int) := by
  rw [wrap_eq _ (by omega) (by omega)]; simp
theorem snoc_app {α : Type} (pre : List α) (a : α) (rest : List α) : pre ++ a :: rest = (pre ++ [a]) ++ rest := by simp
theorem pre_nonneg {α : Type} (pre : List α) : 0 ≤ (pre.length : Int) := by omega

theorem rd_mid2 (pa pb : List Int) (a : Int) (rest : List Int) (h : pa.length = pb.length) : rd (pb ++ a :: rest) (pa.length : Int) = a := by
  rw [h]; exact rd_mid pb a rest
theorem lt_mid2 {α : Type} (pa pb : List α) (a : α) (rest : List α) (h : pa.length = pb.length) : (pa.length : Int) < (((pb ++ a :: rest).length : Nat) : Int) := by
  rw [h]; exact lt_mid pb a rest
theorem nlt_end2 {α : Type} (pa pb : List α) (h : pa.length = pb.length) : ¬ ((pa.length : Int) < (((pb ++ []).length : Nat) : Int)) := by
  rw [h]; exact nlt_end pb
/-- n numbers m, m + 1, .. as bytes. -/
def marks : Nat → Int → List Int
  | 0, _ => []
  | n + 1, m => m % 256 :: marks n (m + 1)
theorem marks_length : ∀ (n : Nat) (m : Int), (marks n m).length = n
  | 0, _ => rfl
  | n + 1, m => by simp [marks, marks_length n]
theorem marks_snoc : ∀ (n : Nat) (m : Int), marks n m ++ [(m + n) % 256] = marks (n + 1) m
  | 0, m => by simp [marks]
  | n + 1, m => by
    have h := marks_snoc n (m + 1)
    rw [show m + 1 + (n : Int) = m + ((n + 1 : Nat) : Int) from by omega] at h
    rw [marks, marks, List.cons_append, h]
/-- n numbers m, m + 1, .. -/
def counts : Nat → Int → List Int
  | 0, _ => []
  | n + 1, m => m :: counts n (m + 1)
theorem counts_length : ∀ (n : Nat) (m : Int), (counts n m).length = n
  | 0, _ => rfl
  | n + 1, m => by simp [counts, counts_length n]
theorem counts_snoc : ∀ (n : Nat) (m : Int), counts n m ++ [m + n] = counts (n + 1) m
  | 0, m => by simp [counts]
  | n + 1, m => by
    have h := counts_snoc n (m + 1)
    rw [show m + 1 + (n : Int) = m + ((n + 1 : Nat) : Int) from by omega] at h
    rw [counts, counts, List.cons_append, h]
end Go.Proofs.Ytienlgcjohpphaa.B
/- What masks and shifts of whole numbers are, as remainders; each for the numbers that it names. -/
namespace Go.Proofs.Ytienlgcjohpphaa.B
open Go.RowKit Go.Proofs.YtienlgcjohpphaaW.PrintWords Go.Proofs.YtienlgcjohpphaaW.PrintLast Go.Proofs.YtienlgcjohpphaaW.PrintMore

theorem i64_and_nat (x : Int) (m : Nat) (hm : m < 9223372036854775808) : Go.bits .and .i64 x (m : Int) = (((x % 18446744073709551616).toNat &&& m : Nat) : Int) := by
  have h1 : (BitVec.ofInt 64 x).toNat = (x % 18446744073709551616).toNat := by
    rw [BitVec.toNat_ofInt]; rfl
  have h2 : (BitVec.ofInt 64 (m : Int)).toNat = m := ofInt_u64 m (by omega)
  have hx : (x % 18446744073709551616).toNat &&& m ≤ m := Nat.and_le_right
  show IntKind.i64.wrap ((BitVec.ofInt 64 x &&& BitVec.ofInt 64 (m : Int)).toNat : Int) = _
  rw [BitVec.toNat_and, h1, h2, IntKind.wrap_i64]
  omega
theorem i64_and31 (x : Int) : Go.bits .and .i64 x 31 = x % 32 := by
  rw [show (31 : Int) = ((31 : Nat) : Int) from rfl, i64_and_nat x 31 (by omega), show (31 : Nat) = 2 ^ 5 - 1 from rfl, Nat.and_two_pow_sub_one_eq_mod]
  omega
theorem i64_and255 (x : Int) : Go.bits .and .i64 x 255 = x % 256 := by
  rw [show (255 : Int) = ((255 : Nat) : Int) from rfl, i64_and_nat x 255 (by omega), show (255 : Nat) = 2 ^ 8 - 1 from rfl, Nat.and_two_pow_sub_one_eq_mod]
  omega
theorem i64_and32 (x : Int) : Go.bits .and .i64 x 4294967295 = x % 4294967296 := by
  rw [show (4294967295 : Int) = ((4294967295 : Nat) : Int) from rfl, i64_and_nat x 4294967295 (by omega), show (4294967295 : Nat) = 2 ^ 32 - 1 from rfl, Nat.and_two_pow_sub_one_eq_mod]
  omega
theorem wf8 {l : List Int} (h : ∀ x ∈ l, (Lit.int .u8 x).wf = true) : ∀ x ∈ l, 0 ≤ x ∧ x < 256 := by
  intro x hx
  have := h x hx
  have m1 : IntKind.u8.min = 0 := by decide
  have m2 : IntKind.u8.max = 255 := by decide
  simp only [Lit.wf, m1, m2, Bool.and_eq_true, decide_eq_true_eq] at this
  omega
theorem wf64 {x : Int} (h : (Lit.int .i64 x).wf = true) : -9223372036854775808 ≤ x ∧ x ≤ 9223372036854775807 := by
  have m1 : IntKind.i64.min = -9223372036854775808 := by decide
  have m2 : IntKind.i64.max = 9223372036854775807 := by decide
  simp only [Lit.wf, m1, m2, Bool.and_eq_true, decide_eq_true_eq] at h
  omega
end Go.Proofs.Ytienlgcjohpphaa.B
