import Derived.Test.Ytlalkldjpniakaab6
/- Short names for theorems that the texts name often; they state what the long ones state. -/
namespace Go.Proofs.Ytlalkldjpniakaa.P
open Go.RowKit Go.Proofs.YtlalkldjpniakaaW.PrintWords Go.Proofs.YtlalkldjpniakaaW.PrintLast Go.Proofs.YtlalkldjpniakaaW.PrintMore
theorem bind_ofs {α β : Type} {a : α} {f : α → Option β} {r : Option β} (H : (some a).bind f = r) : f a = r := H
theorem Kd.R_ofs {α : Type} {d : Kd α} {e : Nat} {W w1 : World} {base : Nat} {ok : Nat → Prop} {v : Value} {xs : List α} (h : Kd.R d e W base ok v xs) (_ : Below W.heap.size W w1) : Kd.R d e W base ok v xs := h
theorem below_ofs {B : Nat} {w W w1 : World} (h : Below B w W) (_ : Below W.heap.size W w1) : Below B w W := h
theorem zaa : type_of% @pw_below_drewN := @pw_below_drewN
theorem zab : type_of% @blk_frozen := @blk_frozen
theorem zac : type_of% @below_drew1 := @below_drew1
theorem zad : type_of% @below_alloc := @below_alloc
theorem zae : type_of% @blk_cell := @blk_cell
theorem zaf : type_of% @below_set := @below_set
theorem zag : type_of% @Kd.R_alloc := @Kd.R_alloc
theorem zah : type_of% @Kd.R_drewN := @Kd.R_drewN
theorem zai : type_of% @Kd.R_drew := @Kd.R_drew
theorem zaj : type_of% @below_size := @below_size
theorem zak : type_of% @blk_drewN := @blk_drewN
theorem zal : type_of% @blk_alloc := @blk_alloc
theorem zam : type_of% @List.map_toArray := @List.map_toArray
theorem zan : type_of% @blk_drew := @blk_drew
theorem zao : type_of% @below_step := @below_step
theorem zap : type_of% @Option.bind_eq_some_iff := @Option.bind_eq_some_iff
theorem zaq : type_of% @List.map_cons := @List.map_cons
theorem zas : type_of% @errW_none := @errW_none
theorem zat : type_of% @errW_some := @errW_some
theorem zau : type_of% @of_decide_eq_true := @of_decide_eq_true
theorem zav : type_of% @List.map_nil := @List.map_nil
theorem zaw : type_of% @World.drewN_drewN := @World.drewN_drewN
theorem zax : type_of% @Kd.R_mono := @Kd.R_mono
theorem zay : type_of% @List.setIfInBounds_toArray := @List.setIfInBounds_toArray
theorem zaz : type_of% @Kd.R_elder' := @Kd.R_elder'
theorem zba : type_of% @gate_callee := @gate_callee
theorem zbb : type_of% @Kd.R_reads' := @Kd.R_reads'
theorem zbc : type_of% @Kd.R_base := @Kd.R_base
theorem zbd : type_of% @and_imp := @and_imp
theorem zbg : type_of% @blk_below := @blk_below
theorem zbk : type_of% @List.set_cons_zero := @List.set_cons_zero
theorem zbl : type_of% @List.set_cons_succ := @List.set_cons_succ
theorem zbm : type_of% @Kd.C_alloc := @Kd.C_alloc
theorem zbn : type_of% @Kd.C_drewN := @Kd.C_drewN
theorem zbo : type_of% @decide_eq_true := @decide_eq_true
theorem zbp : type_of% @List.length_drop := @List.length_drop
theorem zbq : type_of% @List.length_take := @List.length_take
theorem zbr : type_of% @Kd.R_new' := @Kd.R_new'
theorem zbs : type_of% @Kd.R_lower := @Kd.R_lower
theorem zbt : type_of% @Kd.R_lt := @Kd.R_lt
theorem zbu : type_of% @gate_dst := @gate_dst
theorem zbv : type_of% @Kd.C_drew := @Kd.C_drew
theorem zbw : type_of% @beq_eq_false_iff_ne := @beq_eq_false_iff_ne
theorem zbx : type_of% @bne_eq_false_iff_eq := @bne_eq_false_iff_eq
theorem zby : type_of% @box_event := @box_event
theorem zbz : type_of% @Nat.le_refl := @Nat.le_refl
theorem zca : type_of% @Below.refl := @Below.refl
theorem zcd : type_of% @decide_eq_false := @decide_eq_false
theorem zce : type_of% @Nat.add_assoc := @Nat.add_assoc
theorem zcf : type_of% @Kd.R_slice := @Kd.R_slice
theorem zch : type_of% @Bool.eq_false_iff := @Bool.eq_false_iff
theorem zci : type_of% @Kd.R_far := @Kd.R_far
theorem zcl : type_of% @eq_true := @eq_true
theorem zco : type_of% @Kd.C_below := @Kd.C_below
theorem zcp : type_of% @Kd.R_types := @Kd.R_types
theorem zcq : type_of% @Kd.R_after := @Kd.R_after
theorem zcs : type_of% @max_three := @max_three
theorem zct : type_of% @min_three := @min_three
theorem zcu : type_of% @Nat.min_eq_left := @Nat.min_eq_left
theorem zcv : type_of% @Kd.V_mono := @Kd.V_mono
theorem zcw : type_of% @And.intro := @And.intro
theorem zcz : type_of% @gate_builtin := @gate_builtin
theorem zda : type_of% @Kd.fresh' := @Kd.fresh'
theorem zdb : type_of% @beq_iff_eq := @beq_iff_eq
theorem zdc : type_of% @bne_iff_ne := @bne_iff_ne
theorem zdd : type_of% @LeO.refl := @LeO.refl
theorem zde : type_of% @LeO.none := @LeO.none
theorem zdf : type_of% @LeO.bind := @LeO.bind
theorem zdg : type_of% @cell_far := @cell_far
theorem zdh : type_of% @Nat.ne_of_lt := @Nat.ne_of_lt
theorem zdi : type_of% @Nat.ne_of_gt := @Nat.ne_of_gt
theorem zdj : type_of% @Option.some.injEq := @Option.some.injEq
theorem zdk : type_of% @gate_guard := @gate_guard
theorem zdn : type_of% @max2_int := @max2_int
theorem zdo : type_of% @min2_int := @min2_int
theorem zdp : type_of% @max_four := @max_four
theorem zdq : type_of% @min_four := @min_four
theorem zds : type_of% @congrArg := @congrArg
theorem zdt : type_of% @Eq.trans := @Eq.trans
theorem zdu : type_of% @Kd.R_append_rows := @Kd.R_append_rows
theorem zdw : type_of% @LeO.ite := @LeO.ite
theorem zdx : type_of% @Reps.none := @Reps.none
theorem zdy : type_of% @Int.toNat_le := @Int.toNat_le
theorem zdz : type_of% @blk_put := @blk_put
theorem zeb : type_of% @Kd.R_below := @Kd.R_below
theorem zec : type_of% @Kd.V_alloc := @Kd.V_alloc
theorem zed : type_of% @Kd.V_drewN := @Kd.V_drewN
theorem zeh : type_of% @max_two := @max_two
theorem zei : type_of% @min_two := @min_two
theorem zem : type_of% @Prod.mk.injEq := @Prod.mk.injEq
theorem zen : type_of% @Kd.V_drew := @Kd.V_drew
theorem zep : type_of% @of_eq_true := @of_eq_true
theorem zeq : type_of% @blk_far := @blk_far
theorem zer : type_of% @Kd.R_ne := @Kd.R_ne
theorem zew : type_of% @Kd.R_keptB := @Kd.R_keptB
theorem zex : type_of% @Kd.R_lit := @Kd.R_lit
theorem zfa : type_of% @steps_cons := @steps_cons
theorem zfb : type_of% @putSel_upk := @putSel_upk
theorem zfc : type_of% @Nat.lt_of_lt_of_le := @Nat.lt_of_lt_of_le
theorem zfd : type_of% @Kd.R_tight := @Kd.R_tight
end Go.Proofs.Ytlalkldjpniakaa.P
namespace Go.Proofs.Ytlalkldjpniakaa.P
open Go.RowKit Go.Proofs.YtlalkldjpniakaaW.PrintWords Go.Proofs.YtlalkldjpniakaaW.PrintLast Go.Proofs.YtlalkldjpniakaaW.PrintMore
attribute [local go_sem] zdn zdo zeh zei zcs zct zdp zdq   -- for this text's walks alone
set_option linter.unusedVariables false
set_option linter.unusedSimpArgs false

def laws_eqByteS.l0 : Nat → List Int → List Int → Int → Option (Bool)
 | 0, _, _, _ => none
 | k + 1, x0, x1, x5 => if x5 < (x0.length : Int) then (if 0 ≤ x5 then (if x5 < (x1.length : Int) then (if (rd x0 x5) = (rd x1 x5) then (laws_eqByteS.l0 k x0 x1 (wrap64 (x5 + 1))) else (some false)) else (none)) else (none)) else (some true)
def laws_eqByteS.f (k : Nat) (l0 : List Int) (l1 : List Int) : Option (Bool) := if (l0.length : Int) = (l1.length : Int) then (laws_eqByteS.l0 k l0 l1 0) else (some false)
theorem laws_eqByteS.mono_l : ∀ k, (∀ y0 y1 y2, LeO (laws_eqByteS.l0 k y0 y1 y2) (laws_eqByteS.l0 (k + 1) y0 y1 y2))
 | 0 => fun _ _ _ r h => by simp [laws_eqByteS.l0] at h
 | k + 1 => by
  have ih0 := laws_eqByteS.mono_l k
  ·intro y0 y1 y2
   unfold laws_eqByteS.l0
   repeat' first
   | (with_reducible exact ih0 _ _ _)
   | (with_reducible exact zdd _)
   | (with_reducible exact zde _)
   | (with_reducible refine zdw ?_ ?_)
   | (with_reducible refine zdf ?_ (fun _ => ?_))
   | exact ih0 _ _ _
theorem laws_eqByteS.mono : ∀ a0 a1 k, LeO (laws_eqByteS.f k a0 a1) (laws_eqByteS.f (k + 1) a0 a1) := by
 intro a0 a1 k
 have ih0 := laws_eqByteS.mono_l k
 unfold laws_eqByteS.f
 repeat' first
   | (with_reducible exact ih0 _ _ _)
   | (with_reducible exact zdd _)
   | (with_reducible exact zde _)
   | (with_reducible refine zdw ?_ ?_)
   | (with_reducible refine zdf ?_ (fun _ => ?_))
   | exact ih0 _ _ _
set_option maxHeartbeats 8000000 in
set_option maxRecDepth 100000 in
theorem laws_eqByteS.calls (k : Nat) (A0 : Option Addr) (c0 : Nat) (l0 : List Int) (A1 : Option Addr) (c1 : Nat) (l1 : List Int) (r : Bool) (w : World) (hr0 : Kd.C (Kd.int .u8) w A0 l0.length l0) (hc0 : l0.length ≤ c0) (hr1 : Kd.C (Kd.int .u8) w A1 l1.length l1) (hc1 : l1.length ≤ c1) (h : laws_eqByteS.f k l0 l1 = some r) :
  Calls Try.prog 50 #[.slice A0 l0.length c0, .slice A1 l1.length c1] w fun e w' => e = .returned (.bool r) ∧ Drawn0 w w' := by
 have HR0 := Aside0.mk hr0
 have HC0 := Aside0.mk hc0
 clear hr0 hc0
 have HR1 := Aside0.mk hr1
 have HC1 := Aside0.mk hc1
 clear hr1 hc1
 have H : (if (l0.length : Int) = (l1.length : Int) then (laws_eqByteS.l0 k l0 l1 0) else (some false)) = some r := h
 clear h
 by_cases c3 : (l0.length : Int) = (l1.length : Int)
 ·rw [if_pos c3] at H
  have c3b0 : ((l0.length : Int) == (l1.length : Int)) = true := zdb.mpr c3
  have c3b1 : ((l0.length : Int) != (l1.length : Int)) = false := zbx.mpr c3
  have c3b2 : (l0.length == l1.length) = true := by first | simpa using c3 | (simp at c3 ⊢; omega)
  clear c3
  have H' := Aside0.mk H
  clear H
  go_enter Try.func50, Try.ntmps50
  go_wp2
  repeat (go_quiet (fail); try go_wp2)
  go_loopg [5] k (fun kq v5 w' => ∃ (x5_1 : Int), v5 = .int .i64 x5_1 ∧ Aside0 (laws_eqByteS.l0 kq l0 l1 x5_1 = some r) ∧ Aside0 (kq ≤ k) ∧ Drawn0 w w')
  case atStart => exact ⟨(0), (by first | rfl | (simp; done) | (simp [*]; done)), H', ⟨zbz _⟩, by repeat (first | exact Drawn0.refl _ | apply Drawn0.step)⟩
  case round =>
   clear H'
   try clear c1
   try clear p2
   try clear c3
   try clear c3b0
   try clear c3b1
   try clear c3b2
   obtain ⟨x5_1, rfl, HA, HK1, ⟨m1, rfl⟩⟩ := hrel
   cases gk with
   | zero => exact absurd HA.out (by simp [laws_eqByteS.l0])
   | succ k1 =>
    have H := HA.out
    clear HA
    simp only [laws_eqByteS.l0] at H
    by_cases c4 : x5_1 < (l0.length : Int)
    ·rw [if_pos c4] at H
     have c4b0 : decide (x5_1 < (l0.length : Int)) = true := zbo c4
     clear c4
     by_cases c5 : 0 ≤ x5_1
     ·rw [if_pos c5] at H
      have c5b0 : decide (0 ≤ x5_1) = true := zbo c5
      clear c5
      by_cases c6 : x5_1 < (l1.length : Int)
      ·rw [if_pos c6] at H
       have c6b0 : decide (x5_1 < (l1.length : Int)) = true := zbo c6
       clear c6
       by_cases c7 : (rd l0 x5_1) = (rd l1 x5_1)
       ·rw [if_pos c7] at H
        have c7b0 : ((rd l0 x5_1) == (rd l1 x5_1)) = true := zdb.mpr c7
        have c7b1 : ((rd l0 x5_1) != (rd l1 x5_1)) = false := zbx.mpr c7
        clear c7
        have H' := Aside0.mk H
        clear H
        have p131 : 0 ≤ (x5_1 : Int) := zau (by first | (with_reducible assumption) | assumption)
        have q131 : x5_1 < (l0.length : Int) := zau (by first | (with_reducible assumption) | assumption)
        obtain ⟨ad131, e131, hx131_0⟩ := Kd.at_int HR0.out x5_1 p131 q131
        cases e131
        replace p131 := zcl p131
        replace q131 := zcl q131
        have p132 : 0 ≤ (x5_1 : Int) := zau (by first | (with_reducible assumption) | assumption)
        have q132 : x5_1 < (l1.length : Int) := zau (by first | (with_reducible assumption) | assumption)
        obtain ⟨ad132, e132, hx132_0⟩ := Kd.at_int HR1.out x5_1 p132 q132
        cases e132
        replace p132 := zcl p132
        replace q132 := zcl q132
        go_wp2
        repeat (go_quiet (fail); try go_wp2)
        go_roundg k1
        case measure => have := HK1.out; omega
        case rel => exact ⟨(wrap64 (x5_1 + 1)), (by first | rfl | (simp; done) | (simp [*]; done)), H', ⟨by have := HK1.out; omega⟩, by repeat (first | exact Drawn0.refl _ | apply Drawn0.step)⟩
       ·rw [if_neg c7] at H
        have c7b0 : ((rd l0 x5_1) == (rd l1 x5_1)) = false := zbw.mpr c7
        have c7b1 : ((rd l0 x5_1) != (rd l1 x5_1)) = true := zdc.mpr c7
        obtain rfl := Option.some.inj H
        have p131 : 0 ≤ (x5_1 : Int) := zau (by first | (with_reducible assumption) | assumption)
        have q131 : x5_1 < (l0.length : Int) := zau (by first | (with_reducible assumption) | assumption)
        obtain ⟨ad131, e131, hx131_0⟩ := Kd.at_int HR0.out x5_1 p131 q131
        cases e131
        replace p131 := zcl p131
        replace q131 := zcl q131
        have p132 : 0 ≤ (x5_1 : Int) := zau (by first | (with_reducible assumption) | assumption)
        have q132 : x5_1 < (l1.length : Int) := zau (by first | (with_reducible assumption) | assumption)
        obtain ⟨ad132, e132, hx132_0⟩ := Kd.at_int HR1.out x5_1 p132 q132
        cases e132
        replace p132 := zcl p132
        replace q132 := zcl q132
        go_wp2
        repeat (go_quiet (fail); try go_wp2)
        go_ret
        exact ⟨by first | rfl | (simp; done) | (simp [*]; done), by repeat (first | exact Drawn0.refl _ | apply Drawn0.step)⟩
      ·rw [if_neg c6] at H
       exact absurd H (by simp)
     ·rw [if_neg c5] at H
      exact absurd H (by simp)
    ·rw [if_neg c4] at H
     have c4b0 : decide (x5_1 < (l0.length : Int)) = false := zcd c4
     clear c4
     obtain rfl := Option.some.inj H
     go_wp2
     repeat (go_quiet (fail); try go_wp2)
     go_ret
     exact ⟨by first | rfl | (simp; done) | (simp [*]; done), by repeat (first | exact Drawn0.refl _ | apply Drawn0.step)⟩
 ·rw [if_neg c3] at H
  have c3b0 : ((l0.length : Int) == (l1.length : Int)) = false := zbw.mpr c3
  have c3b1 : ((l0.length : Int) != (l1.length : Int)) = true := zdc.mpr c3
  have c3b2 : (l0.length == l1.length) = false := by first | simpa using c3 | (simp at c3 ⊢; omega)
  obtain rfl := Option.some.inj H
  go_enter Try.func50, Try.ntmps50
  go_wp2
  repeat (go_quiet (fail); try go_wp2)
  go_ret
  exact ⟨by first | rfl | (simp; done) | (simp [*]; done), by repeat (first | exact Drawn0.refl _ | apply Drawn0.step)⟩
end Go.Proofs.Ytlalkldjpniakaa.P
