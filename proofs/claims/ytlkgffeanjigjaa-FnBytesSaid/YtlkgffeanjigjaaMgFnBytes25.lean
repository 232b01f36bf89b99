import Derived.Test.YtlkgffeanjigjaaWMore
import Derived.Laws.BitsLemmas
import Derived.Laws.BitsAllLaws
import Derived.Test.YtlkgffeanjigjaaMgFnBytes0
import Derived.Test.YtlkgffeanjigjaaMgFnBytes9
import Derived.Test.YtlkgffeanjigjaaMgFnBytes21
/- Plain lemmas on lists and on numbers that do not wrap, used by all pure statements of this seat; no condition but those each lemma names. -/
namespace Go.Proofs.Ytlkgffeanjigjaa.B
open Go.RowKit Go.Proofs.YtlkgffeanjigjaaW.PrintWords Go.Proofs.YtlkgffeanjigjaaW.PrintLast Go.Proofs.YtlkgffeanjigjaaW.PrintMore

theorem wrap_eq (x : Int) (h0 : -9223372036854775808 ≤ x) (h1 : x ≤ 9223372036854775807) : wrap64 x = x := by
  unfold wrap64; omega
theorem rd_mid (pre : List Int) (a : Int) (rest : List Int) : rd (pre ++ a :: rest) (pre.length : Int) = a := by
  unfold rd; simp [List.getD_eq_getElem?_getD]
theorem set_mid (pre : List Int) (a b : Int) (rest : List Int) : (pre ++ b :: rest).set ((pre.length : Int).toNat) a = pre ++ a :: rest := by
  simp
theorem lt_mid {α : Type} (pre : List α) (a : α) (rest : List α) : (pre.length : Int) < (((pre ++ a :: rest).length : Nat) : Int) := by
  simp; omega
theorem nlt_end {α : Type} (pre : List α) : ¬ ((pre.length : Int) < (((pre ++ []).length : Nat) : Int)) := by
  simp
theorem wrap_step {α : Type} (pre : List α) (a : α) (h : pre.length ≤ 4611686018427387904) : wrap64 ((pre.length : Int) + 1) = (((pre ++ [a]).length : Nat) : Int) := by
  rw [wrap_eq _ (by omega) (by omega)]; simp
theorem snoc_app {α : Type} (pre : List α) (a : α) (rest : List α) : pre ++ a :: rest = (pre ++ [a]) ++ rest := by simp
theorem pre_nonneg {α : Type} (pre : List α) : 0 ≤ (pre.length : Int) := by omega

theorem rd_mid2 (pa pb : List Int) (a : Int) (rest : List Int) (h : pa.length = pb.length) : rd (pb ++ a :: rest) (pa.length : Int) = a := by
  rw [h]; exact rd_mid pb a rest
theorem lt_mid2 {α : Type} (pa pb : List α) (a : α) (rest : List α) (h : pa.length = pb.length) : (pa.length : Int) < (((pb ++ a :: rest).length : Nat) : Int) := by
  rw [h]; exact lt_mid pb a rest
theorem nlt_end2 {α : Type} (pa pb : List α) (h : pa.length = pb.length) : ¬ ((pa.length : Int) < (((pb ++ []).length : Nat) : Int)) := by
  rw [h]; exact nlt_end pb
/-- n numbers m, m + 1, .. as bytes. -/
def marks : Nat → Int → List Int
  | 0, _ => []
  | n + 1, m => m % 256 :: marks n (m + 1)
theorem marks_length : ∀ (n : Nat) (m : Int), (marks n m).length = n
  | 0, _ => rfl
  | n + 1, m => by simp [marks, marks_length n]
theorem marks_snoc : ∀ (n : Nat) (m : Int), marks n m ++ [(m + n) % 256] = marks (n + 1) m
  | 0, m => by simp [marks]
  | n + 1, m => by
    have h := marks_snoc n (m + 1)
    rw [show m + 1 + (n : Int) = m + ((n + 1 : Nat) : Int) from by omega] at h
    rw [marks, marks, List.cons_append, h]
/-- n numbers m, m + 1, .. -/
def counts : Nat → Int → List Int
  | 0, _ => []
  | n + 1, m => m :: counts n (m + 1)
theorem counts_length : ∀ (n : Nat) (m : Int), (counts n m).length = n
  | 0, _ => rfl
  | n + 1, m => by simp [counts, counts_length n]
theorem counts_snoc : ∀ (n : Nat) (m : Int), counts n m ++ [m + n] = counts (n + 1) m
  | 0, m => by simp [counts]
  | n + 1, m => by
    have h := counts_snoc n (m + 1)
    rw [show m + 1 + (n : Int) = m + ((n + 1 : Nat) : Int) from by omega] at h
    rw [counts, counts, List.cons_append, h]
end Go.Proofs.Ytlkgffeanjigjaa.B
/- What masks and shifts of whole numbers are, as remainders; each for the numbers that it names. -/
namespace Go.Proofs.Ytlkgffeanjigjaa.B
open Go.RowKit Go.Proofs.YtlkgffeanjigjaaW.PrintWords Go.Proofs.YtlkgffeanjigjaaW.PrintLast Go.Proofs.YtlkgffeanjigjaaW.PrintMore

theorem i64_and_nat (x : Int) (m : Nat) (hm : m < 9223372036854775808) : Go.bits .and .i64 x (m : Int) = (((x % 18446744073709551616).toNat &&& m : Nat) : Int) := by
  have h1 : (BitVec.ofInt 64 x).toNat = (x % 18446744073709551616).toNat := by
    rw [BitVec.toNat_ofInt]; rfl
  have h2 : (BitVec.ofInt 64 (m : Int)).toNat = m := ofInt_u64 m (by omega)
  have hx : (x % 18446744073709551616).toNat &&& m ≤ m := Nat.and_le_right
  show IntKind.i64.wrap ((BitVec.ofInt 64 x &&& BitVec.ofInt 64 (m : Int)).toNat : Int) = _
  rw [BitVec.toNat_and, h1, h2, IntKind.wrap_i64]
  omega
theorem i64_and31 (x : Int) : Go.bits .and .i64 x 31 = x % 32 := by
  rw [show (31 : Int) = ((31 : Nat) : Int) from rfl, i64_and_nat x 31 (by omega), show (31 : Nat) = 2 ^ 5 - 1 from rfl, Nat.and_two_pow_sub_one_eq_mod]
  omega
theorem i64_and255 (x : Int) : Go.bits .and .i64 x 255 = x % 256 := by
  rw [show (255 : Int) = ((255 : Nat) : Int) from rfl, i64_and_nat x 255 (by omega), show (255 : Nat) = 2 ^ 8 - 1 from rfl, Nat.and_two_pow_sub_one_eq_mod]
  omega
theorem i64_and32 (x : Int) : Go.bits .and .i64 x 4294967295 = x % 4294967296 := by
  rw [show (4294967295 : Int) = ((4294967295 : Nat) : Int) from rfl, i64_and_nat x 4294967295 (by omega), show (4294967295 : Nat) = 2 ^ 32 - 1 from rfl, Nat.and_two_pow_sub_one_eq_mod]
  omega
theorem wf8 {l : List Int} (h : ∀ x ∈ l, (Lit.int .u8 x).wf = true) : ∀ x ∈ l, 0 ≤ x ∧ x < 256 := by
  intro x hx
  have := h x hx
  have m1 : IntKind.u8.min = 0 := by decide
  have m2 : IntKind.u8.max = 255 := by decide
  simp only [Lit.wf, m1, m2, Bool.and_eq_true, decide_eq_true_eq] at this
  omega
theorem wf64 {x : Int} (h : (Lit.int .i64 x).wf = true) : -9223372036854775808 ≤ x ∧ x ≤ 9223372036854775807 := by
  have m1 : IntKind.i64.min = -9223372036854775808 := by decide
  have m2 : IntKind.i64.max = 9223372036854775807 := by decide
  simp only [Lit.wf, m1, m2, Bool.and_eq_true, decide_eq_true_eq] at h
  omega
end Go.Proofs.Ytlkgffeanjigjaa.B
-- Written by a program of this session (wip/drive.py) over the kit's print.
namespace Go.Proofs.Ytlkgffeanjigjaa.P
open Go.RowKit Go.Proofs.YtlkgffeanjigjaaW.PrintWords Go.Proofs.YtlkgffeanjigjaaW.PrintLast Go.Proofs.YtlkgffeanjigjaaW.PrintMore
attribute [local go_sem] max2_int min2_int max_two min_two max_three min_three max_four min_four   -- for this text's walks alone
set_option linter.unusedVariables false
set_option linter.unusedSimpArgs false

/-! ### spec_l2DrawNum: function 85 -/
def spec_l2DrawNum.f (s0_0 : List Int) (s0_1 : Int) (s0_2 : Int) : Option (Int × Int × Int) := (spec_l1PickInt.f s0_0 s0_1 s0_2 (([0, 1, 305419896, 4294967295, 4294967296, (-1), 9223372036854775807] : List Int))).bind fun bt855 => (some (bt855.1, bt855.2.1, bt855.2.2))
set_option maxHeartbeats 8000000 in
set_option maxRecDepth 100000 in
theorem spec_l2DrawNum.calls (g : Nat) (s0_0 : List Int) (s0_1 : Int) (s0_2 : Int) (r1 : Int) (r2 : Int) (r3 : Int) (w0 w : World) (hI : IsS83 w0 w g s0_0 s0_1 s0_2) (hB : Below w0.heap.size w0 w) (h : spec_l2DrawNum.f s0_0 s0_1 s0_2 = some (r1, r2, r3)) :
  Calls Try.prog 85 #[.pointer (some ⟨g, 0, none⟩)] w fun e w' => e = .returned (.int .i64 r1) ∧ IsS83 w0 w' g s0_0 r2 r3 ∧ Below w0.heap.size w0 w' ∧ KeepBut w w' g none := by
 have HI0 := Aside0.mk hI
 have HK := Aside0.mk (KeepBut.refl w g none)
 have HL := Aside0.mk hB.size
 clear hI
 have HW0 := Aside0.mk hB.size
 have HB := Aside0.mk hB
 clear hB
 have H : ((spec_l1PickInt.f s0_0 s0_1 s0_2 (([0, 1, 305419896, 4294967295, 4294967296, (-1), 9223372036854775807] : List Int))).bind fun bt855 => (some (bt855.1, bt855.2.1, bt855.2.2))) = some (r1, r2, r3) := h
 clear h
 obtain ⟨y852, hy852⟩ : ∃ y_ : List Int, y_ = (([0, 1, 305419896, 4294967295, 4294967296, (-1), 9223372036854775807] : List Int)) := ⟨_, rfl⟩
 replace H : ((spec_l1PickInt.f s0_0 s0_1 s0_2 y852).bind fun bt855 => (some (bt855.1, bt855.2.1, bt855.2.2))) = some (r1, r2, r3) := by first | (rw [hy852]; with_reducible exact H) | (have H2_ := (Option.bind_some _ _).symm.trans H; rw [hy852]; with_reducible exact H2_) | (have H2_ := (Option.bind_some _ _).symm.trans H; with_reducible exact H2_) | with_reducible exact H | (rw [hy852]; exact H) | exact H
 have Ny852 := Aside0.mk hy852
 clear hy852
 replace H := Option.bind_eq_some_iff.mp H
 obtain ⟨⟨t855, t856, t857⟩, A20, H⟩ := H
 replace H : (some (t855, t856, t857)) = some (r1, r2, r3) := H
 have A2 := Aside0.mk A20
 clear A20
 simp only [Option.some.injEq, Prod.mk.injEq] at H
 obtain ⟨rfl, rfl, rfl⟩ := H
 go_enter Try.func85, Try.ntmps85
 go_wp2_with (first | ((with_reducible refine gate_dst (N := 4) rfl ?_); refine Kd.R_lit (Kd.int .i64) _ 3 ?hg (N := 4) ?hd (xs := ([0, 1, 305419896, 4294967295, 4294967296, (-1), 9223372036854775807] : List Int)) (inner := [.int .i64 0, .int .i64 1, .int .i64 305419896, .int .i64 4294967295, .int .i64 4294967296, .int .i64 (-1), .int .i64 9223372036854775807]) (ok := fun _ => True) (okp := fun _ => True) ?hr ?hp (fun _ hk => hk) trivial (Below.refl _ _) (Nat.le_refl _) (by simp) ?_; (case hd => rfl); (case hg => rfl); (case hr => first | (go_simp; done) | (go_simp; rfl)); (case hp => exact (Reps.one (show Kd.M (Kd.int .i64) _ _ _ 0 [.int .i64 0] from rfl) (Reps.one (show Kd.M (Kd.int .i64) _ _ _ 1 [.int .i64 1] from rfl) (Reps.one (show Kd.M (Kd.int .i64) _ _ _ 305419896 [.int .i64 305419896] from rfl) (Reps.one (show Kd.M (Kd.int .i64) _ _ _ 4294967295 [.int .i64 4294967295] from rfl) (Reps.one (show Kd.M (Kd.int .i64) _ _ _ 4294967296 [.int .i64 4294967296] from rfl) (Reps.one (show Kd.M (Kd.int .i64) _ _ _ (-1) [.int .i64 (-1)] from rfl) (Reps.one (show Kd.M (Kd.int .i64) _ _ _ 9223372036854775807 [.int .i64 9223372036854775807] from rfl) (Reps.none _ _))))))))); intro v853 w3 ho4 hb hg_ hnew_; clear hg_ hnew_; (first | rw [← Ny852.out] at ho4 | (simp only [Int.reduceToNat] at ho4; rw [← Ny852.out] at ho4)); have n0_ := Aside0.mk (Kd.R_lower ho4 (keep_size (w := w) (g := g) (row := none) (by repeat (first | (with_reducible first | exact HK.out | apply KeepBut.set_ | apply keep_drewN | apply keep_drew | apply keep_alloc) | exact HK.out)))); have n1_ := Aside0.mk (IsS83.below (by repeat (first | (with_reducible first | exact HI0.out | apply IsS83.alloc | apply IsS83.drewN | apply IsS83.drew | apply IsS83.set_1 | apply IsS83.set_2) | exact HI0.out)) hb); have n2_ := Aside0.mk (KeepBut.trans (by repeat (first | (with_reducible first | exact HK.out | apply KeepBut.set_ | apply keep_drewN | apply keep_drew | apply keep_alloc) | exact HK.out)) (KeepBut.of_below hb g none) (.inl rfl)); have n3_ := Aside0.mk (below_step (by repeat (first | (with_reducible first | exact HB.out | apply below_alloc | apply pw_below_drewN | apply below_drew1 | refine below_set ?_ (IsS83.ge HI0.out)) | exact HB.out)) hb); clear HI0; clear HK; clear HB; have HO854 := n0_; have HI0 := n1_; have HK := n2_; have HB := n3_; clear n0_ n1_ n2_ n3_; clear hb ho4; obtain ⟨Ao5, co5, eo5⟩ := Kd.R_slice HO854.out; subst eo5) | ((with_reducible refine gate_callee (f := 87) rfl ?_); refine goesL_ (some 5) rfl rfl Try.func87 (by kernel_rfl) rfl #[.pointer (some ⟨g, 0, none⟩), .slice Ao5 y852.length co5] rfl (by (try simp only [List.map_toArray, List.map_cons, List.map_nil]); first | done | rfl | (simp only [List.length_drop, List.length_take]; rfl) | (simp only [List.length_drop, List.length_take]; rw [Nat.min_eq_left (Int.toNat_le.mpr (of_eq_true (by assumption)))])) ?_; (with_reducible refine (spec_l1PickInt.calls g s0_0 s0_1 s0_2 _ _ y852 t855 t856 t857 w0 _ ?side1 ?side2 ?side3 ?side4 ?side5 A2.out).mono ?_); (case side1 => repeat (first | (with_reducible first | exact HI0.out | apply IsS83.alloc | apply IsS83.drewN | apply IsS83.drew | apply IsS83.set_1 | apply IsS83.set_2) | exact HI0.out)); (case side2 => repeat (first | (with_reducible first | exact HB.out | apply below_alloc | apply pw_below_drewN | apply below_drew1 | refine below_set ?_ (IsS83.ge HI0.out)) | exact HB.out)); (case side3 => repeat (first | exact (Kd.R_reads' HO854.out).2.2 | (with_reducible refine Kd.C_alloc ?_ _) | (with_reducible refine Kd.C_drewN ?_ _) | (with_reducible refine Kd.C_drew ?_))); (case side4 => exact (Kd.R_reads' HO854.out).2.1); (case side5 => exact far_slice (IsS83.own_ne HI0.out HO854.out (by decide))); rintro e w6 ⟨rfl, hi, hb, hk⟩; refine ⟨_, rfl, ?_⟩; have n0_ := Aside0.mk (Kd.R_mono (Kd.R_keep (IsS83.apart (show IsS83 w0 _ g s0_0 s0_1 s0_2 from by repeat (first | (with_reducible first | exact HI0.out | apply IsS83.alloc | apply IsS83.drewN | apply IsS83.drew | apply IsS83.set_1 | apply IsS83.set_2) | exact HI0.out)) (by (with_reducible repeat (first | apply Kd.R_alloc | apply Kd.R_drewN | apply Kd.R_drew)); exact HO854.out) (by decide)) hk (fun _ h => h.2)) (fun _ h => h.1)); have n1_ := Aside0.mk (KeepBut.trans (by repeat (first | (with_reducible first | exact HK.out | apply KeepBut.set_ | apply keep_drewN | apply keep_drew | apply keep_alloc) | exact HK.out)) hk (.inl rfl)); have n2_ := Aside0.mk (hb); have n3_ := Aside0.mk (hi); clear HO854; clear HK; clear HB; clear HI0; have HO854 := n0_; have HK := n1_; have HB := n2_; have HI0 := n3_; clear n0_ n1_ n2_ n3_; (try clear hb); (try clear hb2); (try clear hk); (try clear hi)))
 go_ret
 exact ⟨by first | rfl | (simp [errW_none, errW_some] <;> rfl) | (simp [*, errW_none, errW_some] <;> rfl), by repeat (first | (with_reducible first | exact HI0.out | apply IsS83.alloc | apply IsS83.drewN | apply IsS83.drew | apply IsS83.set_1 | apply IsS83.set_2) | exact HI0.out), by repeat (first | (with_reducible first | exact HB.out | apply below_alloc | apply pw_below_drewN | apply below_drew1 | refine below_set ?_ (IsS83.ge HI0.out)) | exact HB.out), by repeat (first | (with_reducible first | exact HK.out | apply KeepBut.set_ | apply keep_drewN | apply keep_drew | apply keep_alloc) | exact HK.out)⟩

end Go.Proofs.Ytlkgffeanjigjaa.P
