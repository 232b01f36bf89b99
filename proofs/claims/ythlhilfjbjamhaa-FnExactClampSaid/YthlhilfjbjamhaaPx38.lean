-- Written by a program of this session (wip/drive.py) over the kit's print.
import Derived.Test.YthlhilfjbjamhaaPx0
import Derived.Test.YthlhilfjbjamhaaPx37
namespace Go.Proofs.Ythlhilfjbjamhaa.P
open Go.RowKit Go.Proofs.YthlhilfjbjamhaaW.PrintWords Go.Proofs.YthlhilfjbjamhaaW.PrintLast Go.Proofs.YthlhilfjbjamhaaW.PrintMore
attribute [local go_sem] max2_int min2_int max_two min_two max_three min_three max_four min_four   -- for this text's walks alone
set_option linter.unusedVariables false
set_option linter.unusedSimpArgs false

/-! ### impl_Clamp: function 39 -/
def impl_Clamp.f (l0 : List Int) : Option (List Int) := if (l0.length : Int) = 32 then ((slices_Clone_byte_byte.f l0).bind fun t309 => (if 0 < (t309.length : Int) then ((some (t309.set (0 : Int).toNat (Go.bits .and .u8 (rd t309 0) 248) : List Int)).bind fun y313 => (if 31 < (t309.length : Int) then (some (y313.set (31 : Int).toNat (Go.bits .or .u8 (Go.bits .and .u8 (rd y313 31) 127) 64))) else (none))) else (none))) else (some ([] : List Int))
set_option maxHeartbeats 8000000 in
set_option maxRecDepth 100000 in
theorem impl_Clamp.calls (A0 : Option Addr) (c0 : Nat) (l0 : List Int) (r : List Int) (w : World) (hr0 : Kd.C (Kd.int .u8) w A0 l0.length l0) (hc0 : l0.length ≤ c0) (h : impl_Clamp.f l0 = some r) :
    Calls Try.prog 39 #[.slice A0 l0.length c0] w fun e w' => ∃ v0_ : Value, e = .returned (v0_) ∧ Kd.R (Kd.int .u8) 5 w' w.heap.size (fun _ => True) v0_ r ∧ Below w.heap.size w w' := by
  have HR0 := Aside0.mk hr0
  have HC0 := Aside0.mk hc0
  clear hr0 hc0
  have HB := Aside0.mk (Below.refl w.heap.size w)
  have H : (if (l0.length : Int) = 32 then ((slices_Clone_byte_byte.f l0).bind fun t309 => (if 0 < (t309.length : Int) then ((some (t309.set (0 : Int).toNat (Go.bits .and .u8 (rd t309 0) 248) : List Int)).bind fun y313 => (if 31 < (t309.length : Int) then (some (y313.set (31 : Int).toNat (Go.bits .or .u8 (Go.bits .and .u8 (rd y313 31) 127) 64))) else (none))) else (none))) else (some ([] : List Int))) = some r := h
  clear h
  by_cases c2 : (l0.length : Int) = 32
  · rw [if_pos c2] at H
    have c2b0 : ((l0.length : Int) == 32) = true := beq_iff_eq.mpr c2
    have c2b1 : ((l0.length : Int) != 32) = false := bne_eq_false_iff_eq.mpr c2
    clear c2
    replace H := Option.bind_eq_some_iff.mp H
    obtain ⟨t309, A30, H⟩ := H
    replace H : (if 0 < (t309.length : Int) then ((some (t309.set (0 : Int).toNat (Go.bits .and .u8 (rd t309 0) 248) : List Int)).bind fun y313 => (if 31 < (t309.length : Int) then (some (y313.set (31 : Int).toNat (Go.bits .or .u8 (Go.bits .and .u8 (rd y313 31) 127) 64))) else (none))) else (none)) = some r := H
    have A3 := Aside0.mk A30
    clear A30
    by_cases c4 : 0 < (t309.length : Int)
    · rw [if_pos c4] at H
      have c4b0 : decide (0 < (t309.length : Int)) = true := decide_eq_true c4
      have c4b1 : decide (0 < t309.length) = true := decide_eq_true (by omega)
      clear c4
      obtain ⟨y313, hy313⟩ : ∃ y_ : List Int, y_ = (t309.set (0 : Int).toNat (Go.bits .and .u8 (rd t309 0) 248)) := ⟨_, rfl⟩
      replace H : (if 31 < (t309.length : Int) then (some (y313.set (31 : Int).toNat (Go.bits .or .u8 (Go.bits .and .u8 (rd y313 31) 127) 64))) else (none)) = some r := by first | (rw [hy313]; with_reducible exact H) | (have H2_ := (Option.bind_some _ _).symm.trans H; rw [hy313]; with_reducible exact H2_) | (have H2_ := (Option.bind_some _ _).symm.trans H; with_reducible exact H2_) | with_reducible exact H | (rw [hy313]; exact H) | exact H
      have Ny313 := Aside0.mk hy313
      clear hy313
      by_cases c6 : 31 < (t309.length : Int)
      · rw [if_pos c6] at H
        have c6b0 : decide (31 < (t309.length : Int)) = true := decide_eq_true c6
        have c6b1 : decide (31 < t309.length) = true := decide_eq_true (by omega)
        clear c6
        obtain ⟨y315, hy315⟩ : ∃ y_ : List Int, y_ = (y313.set (31 : Int).toNat (Go.bits .or .u8 (Go.bits .and .u8 (rd y313 31) 127) 64)) := ⟨_, rfl⟩
        replace H : (some y315) = some r := by first | (rw [hy315]; with_reducible exact H) | (have H2_ := (Option.bind_some _ _).symm.trans H; rw [hy315]; with_reducible exact H2_) | (have H2_ := (Option.bind_some _ _).symm.trans H; with_reducible exact H2_) | with_reducible exact H | (rw [hy315]; exact H) | exact H
        have Ny315 := Aside0.mk hy315
        clear hy315
        obtain rfl := Option.some.inj H
        go_enter Try.func39, Try.ntmps39
        go_wp2_with (first | ((with_reducible refine gate_callee (f := 50) rfl ?_); refine goesL_ (some 8) rfl rfl Try.func50 (by kernel_rfl) rfl #[.slice A0 l0.length c0] rfl (by (try simp only [List.map_toArray, List.map_cons, List.map_nil]); first | done | rfl | (simp only [List.length_drop, List.length_take]; rfl)) ?_; (with_reducible refine (slices_Clone_byte_byte.calls _ _ l0 t309 _ ?side1 ?side2 A3.out).mono ?_); (case side1 => repeat (first | exact HR0.out | (with_reducible refine Kd.C_alloc ?_ _) | (with_reducible refine Kd.C_drewN ?_ _) | (with_reducible refine Kd.C_drew ?_))); (case side2 => exact HC0.out); rintro e w8 ⟨v310, rfl, ho0, hb⟩; refine ⟨_, rfl, ?_⟩; have n0_ := Aside0.mk (Kd.R_lower ho0 (below_size (by repeat (first | (with_reducible first | exact HB.out | apply below_alloc | apply pw_below_drewN | apply below_drew1) | exact HB.out)))); have n1_ := Aside0.mk (below_step (by repeat (first | (with_reducible first | exact HB.out | apply below_alloc | apply pw_below_drewN | apply below_drew1) | exact HB.out)) hb); clear HB; have HO311 := n0_; have HB := n1_; clear n0_ n1_; (try clear hb); (try clear hb2); (try clear hk); (try clear hi); (try clear ho0); obtain ⟨Ao9, co9, eo9⟩ := Kd.R_slice HO311.out; subst eo9; have p312 : 0 ≤ (0 : Int) := (by omega); have q312 : 0 < (t309.length : Int) := of_decide_eq_true (by first | (with_reducible assumption) | assumption); obtain ⟨ad312, e312, hx312_0⟩ := Kd.at_int (Kd.R_reads' HO311.out).2.2 0 p312 q312; cases e312; have qi312 : (0 < t309.length) = True := eq_true (by omega); (try rw [show ((0 : Int)).toNat = 0 from rfl] at hx312_0); (try rw [Addr.add_zero'] at hx312_0); replace p312 := eq_true p312; replace q312 := eq_true q312; have p5 : 0 ≤ (0 : Int) := (by omega); have q5 : (0 : Int) < ((t309.length : Int) : Int) := of_decide_eq_true (by first | (with_reducible assumption) | assumption); have qi5 : (0 < t309.length) = True := eq_true (by omega); obtain ⟨go5, co5, eo5, gb5, gl5, cl5, HG5⟩ := Kd.R_form HO311.out (by omega); (first | cases eo5 | (injection eo5 with ea_ en_ ec_; (first | subst ea_ | (injection ea_ with ea_; subst ea_)); subst ec_; clear en_)); have GB5 := Aside0.mk gb5; have GG5 := Aside0.mk HG5; clear gb5 gl5 HG5; (first | simp only [add_plain] at hx312_0 | skip); obtain ⟨hx5_0, hf5_0⟩ := Kd.R_celln 0 HO311.out (0 : Int) p5 q5; (try rw [show ((0 : Int)).toNat = 0 from rfl] at hx5_0); (try simp only [Nat.reduceMul, Nat.zero_mul, Nat.zero_add, Nat.reduceAdd] at hx5_0); (try rw [show ((0 : Int)).toNat = 0 from rfl] at hf5_0); (try simp only [Nat.reduceMul, Nat.zero_mul, Nat.zero_add, Nat.reduceAdd] at hf5_0); replace p5 := eq_true p5; replace q5 := eq_true q5; obtain ⟨hy10_, hz10_⟩ := Kd.R_celln 0 HO311.out (0 : Int) (by omega) (of_decide_eq_true (by first | (with_reducible assumption) | assumption)); (try simp only [Int.reduceToNat, Int.toNat_zero, Int.toNat_ofNat, Nat.reduceMul, Nat.zero_mul, Nat.zero_add] at hy10_ hz10_); (try rw [show ((0 : Int)).toNat = 0 from rfl] at hy10_); (try rw [show ((0 : Int)).toNat = 0 from rfl] at hz10_); have HP10 := Kd.R_putg HO311.out (0 : Int) (Go.bits .and .u8 (rd t309 0) 248)) | ((with_reducible refine gate_store (t := 5) (p := 13) rfl ?_); refine store_event (t := 5) (p := 13) (v := ?vo_w11) (w1 := (w8.setCell ⟨go5, (0 : Int).toNat, none⟩ (.int .u8 (Go.bits .and .u8 (rd t309 0) 248)))) ?hg ?ho ?hn ?hr ?_; (case ho => rfl); (case hg => rfl); (case hn => rfl); (case hr => first | (go_simp; done) | (go_simp; rfl)); intro w11 hw; have hg : w8.grownBy w11 (some go5) := (by rw [hw]; exact HP10.2); have hp_ : Kd.R (Kd.int .u8) 5 w11 w.heap.size (fun _ => True) (.slice (some ⟨go5, 0, none⟩) t309.length co9) y313 := (by rw [hw, Ny313.out]; exact HP10.1); clear HP10; have n0_ := Aside0.mk (hp_); have n1_ := Aside0.mk ((by rw [hw]; exact below_set (HB.out) GB5.out : Below w.heap.size w w11)); clear HO311; clear HB; have HO311 := n0_; have HB := n1_; clear n0_ n1_; clear hg hw hp_; have p314 : 0 ≤ (31 : Int) := (by omega); have q314 : 31 < (y313.length : Int) := (by have h_ : (31 : Int) < ((t309.length : Int) : Int) := of_decide_eq_true (by first | (with_reducible assumption) | assumption); first | (have e_ := (Kd.R_reads' HO311.out).1; omega) | simpa only [Ny313.out, List.length_set] using h_); have ql314 : ((31 : Int) < ((t309.length : Int) : Int)) = True := eq_true (of_decide_eq_true (by first | (with_reducible assumption) | assumption)); (try have qn314 : (31 < t309.length) = True := eq_true (by have h_ : (31 : Int) < ((t309.length : Int) : Int) := of_decide_eq_true (by first | (with_reducible assumption) | assumption); omega)); obtain ⟨ad314, e314, hx314_0⟩ := Kd.at_int (Kd.R_reads' HO311.out).2.2 31 p314 q314; obtain rfl : (⟨go5, 0, none⟩ : Addr) = ad314 := (by injection e314); (first | simp only [add_plain] at hx314_0 | simp only [add_at] at hx314_0 | simp only [Addr.add, Nat.zero_add] at hx314_0 | skip); have qi314 : (31 < y313.length) = True := eq_true (by omega); (try rw [show ((31 : Int)).toNat = 31 from rfl] at hx314_0); replace p314 := eq_true p314; replace q314 := eq_true q314; have p7 : 0 ≤ (31 : Int) := (by omega); have q7 : (31 : Int) < ((t309.length : Int) : Int) := of_decide_eq_true (by first | (with_reducible assumption) | assumption); have qi7 : (31 < t309.length) = True := eq_true (by omega); obtain ⟨hx7_0, hf7_0⟩ := Kd.R_celln 0 HO311.out (31 : Int) p7 q7; (try rw [show ((31 : Int)).toNat = 31 from rfl] at hx7_0); (try simp only [Nat.reduceMul, Nat.zero_mul, Nat.zero_add, Nat.reduceAdd] at hx7_0); (try rw [show ((31 : Int)).toNat = 31 from rfl] at hf7_0); (try simp only [Nat.reduceMul, Nat.zero_mul, Nat.zero_add, Nat.reduceAdd] at hf7_0); replace p7 := eq_true p7; replace q7 := eq_true q7; obtain ⟨hy12_, hz12_⟩ := Kd.R_celln 0 HO311.out (31 : Int) (by omega) (of_decide_eq_true (by first | (with_reducible assumption) | assumption)); (try simp only [Int.reduceToNat, Int.toNat_zero, Int.toNat_ofNat, Nat.reduceMul, Nat.zero_mul, Nat.zero_add] at hy12_ hz12_); (try rw [show ((31 : Int)).toNat = 31 from rfl] at hy12_); (try rw [show ((31 : Int)).toNat = 31 from rfl] at hz12_); have HP12 := Kd.R_putg HO311.out (31 : Int) (Go.bits .or .u8 (Go.bits .and .u8 (rd y313 31) 127) 64)) | ((with_reducible refine gate_store (t := 5) (p := 20) rfl ?_); refine store_event (t := 5) (p := 20) (v := ?vo_w13) (w1 := (w11.setCell ⟨go5, (31 : Int).toNat, none⟩ (.int .u8 (Go.bits .or .u8 (Go.bits .and .u8 (rd y313 31) 127) 64)))) ?hg ?ho ?hn ?hr ?_; (case ho => rfl); (case hg => rfl); (case hn => rfl); (case hr => first | (go_simp; done) | (go_simp; rfl)); intro w13 hw; have hg : w11.grownBy w13 (some go5) := (by rw [hw]; exact HP12.2); have hp_ : Kd.R (Kd.int .u8) 5 w13 w.heap.size (fun _ => True) (.slice (some ⟨go5, 0, none⟩) t309.length co9) y315 := (by rw [hw, Ny315.out]; exact HP12.1); clear HP12; have n0_ := Aside0.mk (hp_); have n1_ := Aside0.mk ((by rw [hw]; exact below_set (HB.out) GB5.out : Below w.heap.size w w13)); clear HO311; clear HB; have HO311 := n0_; have HB := n1_; clear n0_ n1_; clear hg hw hp_))
        go_ret
        exact ⟨_, by first | rfl | (simp [errW_none, errW_some] <;> rfl) | (simp [*, errW_none, errW_some] <;> rfl), by (with_reducible repeat (first | apply Kd.R_alloc | apply Kd.R_drewN | apply Kd.R_drew)); exact HO311.out, by repeat (first | (with_reducible first | exact HB.out | apply below_alloc | apply pw_below_drewN | apply below_drew1) | exact HB.out)⟩
      · rw [if_neg c6] at H
        exact absurd H (by simp)
    · rw [if_neg c4] at H
      exact absurd H (by simp)
  · rw [if_neg c2] at H
    have c2b0 : ((l0.length : Int) == 32) = false := beq_eq_false_iff_ne.mpr c2
    have c2b1 : ((l0.length : Int) != 32) = true := bne_iff_ne.mpr c2
    obtain rfl := Option.some.inj H
    go_enter Try.func39, Try.ntmps39
    go_wp2
    go_ret
    exact ⟨_, by first | rfl | (simp [errW_none, errW_some] <;> rfl) | (simp [*, errW_none, errW_some] <;> rfl), by first | exact Kd.R_nil _ _ _ _ _ | exact Kd.N_nil _ _ _ _ _ | exact Kd.V_nil _ _ _ _ _ | exact Kd.Q_nil _ _ _ _ _ | exact Kd.S_nil _ _ _ _ _, by repeat (first | (with_reducible first | exact HB.out | apply below_alloc | apply pw_below_drewN | apply below_drew1) | exact HB.out)⟩

end Go.Proofs.Ythlhilfjbjamhaa.P
