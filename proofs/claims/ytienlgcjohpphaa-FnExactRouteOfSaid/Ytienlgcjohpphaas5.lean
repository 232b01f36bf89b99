import Derived.Test.YtienlgcjohpphaaProg
import Derived.Lib.Bytealg
import Derived.Lib.SliceRun
import Derived.Lib.SlBuf
import Derived.Lib.MakeNoZero
import Derived.Test.Ytienlgcjohpphaas4
namespace Go.Proofs.Ytienlgcjohpphaa.P
open Go.RowKit Go.Proofs.YtienlgcjohpphaaW.PrintWords Go.Proofs.YtienlgcjohpphaaW.PrintLast Go.Proofs.YtienlgcjohpphaaW.PrintMore
attribute [local go_sem] max2_int min2_int max_two min_two max_three min_three max_four min_four   -- for this text's walks alone
set_option linter.unusedVariables false
set_option linter.unusedSimpArgs false



def errW : Option Int → Value
 | none => .nilIface
 | some c => .iface 0 (.int .i64 c)
theorem errW_none : errW none = .nilIface := rfl
theorem errW_some (c : Int) : errW (some c) = .iface 0 (.int .i64 c) := rfl

theorem info3 : (Try.prog.info? 3).map (fun i => (i.zero, i.size, i.bytes)) = some (some (.int .i64 0), 1, 8) := by kernel_rfl
theorem info5 : (Try.prog.info? 5).map (fun i => (i.zero, i.size, i.bytes)) = some (some (.int .u8 0), 1, 1) := by kernel_rfl
theorem info23 : (Try.prog.info? 23).map (fun i => (i.zero, i.size, i.bytes)) = some (some (.slice none 0 0), 1, 24) := by kernel_rfl
-- the values' own types
def rd_L2 (xs : List (List Int)) (i : Int) : (List Int) := xs.getD i.toNat ([] : List Int)
theorem at_L2 {w : World} {A : Option Addr} {n : Nat} {xs : List (List Int)} (h : Kd.C (Kd.slice 3 (Kd.int .i64)) w A n xs) (i : Int) (h0 : 0 ≤ i) (h1 : i < n) : ∃ ad A0 c0, A = some ad ∧ w.cell? (ad.add i.toNat) = some (.slice A0 (rd_L2 xs i).length c0) ∧ (rd_L2 xs i).length ≤ c0 ∧ (Kd.int .i64).C w A0 (rd_L2 xs i).length (rd_L2 xs i) := by
 obtain ⟨ad, c, e, _, hK, hc0⟩ := Kd.C_get h ([] : List Int) i h0 h1
 have hc : ∀ j u, c[j]? = some u → w.cell? (ad.add (i.toNat * 1 + j)) = some u := hc0
 obtain ⟨A0, c0, rfl, l0, g0⟩ := hK
 exact ⟨ad, A0, c0, e, by have hq := hc 0 _ rfl; rwa [Nat.mul_one, Nat.add_zero] at hq, l0, g0⟩

def rd_L3 (xs : List (List Int)) (i : Int) : (List Int) := xs.getD i.toNat ([] : List Int)
theorem at_L3 {w : World} {A : Option Addr} {n : Nat} {xs : List (List Int)} (h : Kd.C (Kd.slice 5 (Kd.int .u8)) w A n xs) (i : Int) (h0 : 0 ≤ i) (h1 : i < n) : ∃ ad A0 c0, A = some ad ∧ w.cell? (ad.add i.toNat) = some (.slice A0 (rd_L3 xs i).length c0) ∧ (rd_L3 xs i).length ≤ c0 ∧ (Kd.int .u8).C w A0 (rd_L3 xs i).length (rd_L3 xs i) := by
 obtain ⟨ad, c, e, _, hK, hc0⟩ := Kd.C_get h ([] : List Int) i h0 h1
 have hc : ∀ j u, c[j]? = some u → w.cell? (ad.add (i.toNat * 1 + j)) = some u := hc0
 obtain ⟨A0, c0, rfl, l0, g0⟩ := hK
 exact ⟨ad, A0, c0, e, by have hq := hc 0 _ rfl; rwa [Nat.mul_one, Nat.add_zero] at hq, l0, g0⟩

def rd_L4 (xs : List (List (List Int))) (i : Int) : (List (List Int)) := xs.getD i.toNat ([] : List (List Int))
theorem at_L4 {w : World} {A : Option Addr} {n : Nat} {xs : List (List (List Int))} (h : Kd.C (Kd.slice 23 (Kd.slice 5 (Kd.int .u8))) w A n xs) (i : Int) (h0 : 0 ≤ i) (h1 : i < n) : ∃ ad A0 c0, A = some ad ∧ w.cell? (ad.add i.toNat) = some (.slice A0 (rd_L4 xs i).length c0) ∧ (rd_L4 xs i).length ≤ c0 ∧ (Kd.slice 5 (Kd.int .u8)).C w A0 (rd_L4 xs i).length (rd_L4 xs i) := by
 obtain ⟨ad, c, e, _, hK, hc0⟩ := Kd.C_get h ([] : List (List Int)) i h0 h1
 have hc : ∀ j u, c[j]? = some u → w.cell? (ad.add (i.toNat * 1 + j)) = some u := hc0
 obtain ⟨A0, c0, rfl, l0, g0⟩ := hK
 exact ⟨ad, A0, c0, e, by have hq := hc 0 _ rfl; rwa [Nat.mul_one, Nat.add_zero] at hq, l0, g0⟩
end Go.Proofs.Ytienlgcjohpphaa.P
/- Short names for theorems that the texts name often; they state what the long ones state. -/
namespace Go.Proofs.Ytienlgcjohpphaa.P
open Go.RowKit Go.Proofs.YtienlgcjohpphaaW.PrintWords Go.Proofs.YtienlgcjohpphaaW.PrintLast Go.Proofs.YtienlgcjohpphaaW.PrintMore
theorem zaa : type_of% @List.setIfInBounds_toArray := @List.setIfInBounds_toArray
theorem zab : type_of% @pw_below_drewN := @pw_below_drewN
theorem zac : type_of% @List.set_cons_zero := @List.set_cons_zero
theorem zad : type_of% @List.set_cons_succ := @List.set_cons_succ
theorem zae : type_of% @below_drew1 := @below_drew1
theorem zaf : type_of% @below_alloc := @below_alloc
theorem zag : type_of% @List.length_take := @List.length_take
theorem zah : type_of% @List.length_drop := @List.length_drop
theorem zai : type_of% @Kd.R_alloc := @Kd.R_alloc
theorem zaj : type_of% @Kd.R_drewN := @Kd.R_drewN
theorem zak : type_of% @Kd.R_drew := @Kd.R_drew
theorem zal : type_of% @Option.bind_eq_some_iff := @Option.bind_eq_some_iff
theorem zan : type_of% @List.map_toArray := @List.map_toArray
theorem zao : type_of% @Option.bind_some := @Option.bind_some
theorem zap : type_of% @decide_eq_true := @decide_eq_true
theorem zaq : type_of% @of_decide_eq_true := @of_decide_eq_true
theorem zar : type_of% @List.map_cons := @List.map_cons
theorem zas : type_of% @Kd.R_reads' := @Kd.R_reads'
theorem zat : type_of% @Nat.min_eq_left := @Nat.min_eq_left
theorem zav : type_of% @List.map_nil := @List.map_nil
theorem zax : type_of% @gate_callee := @gate_callee
theorem zay : type_of% @Int.toNat_le := @Int.toNat_le
theorem zba : type_of% @below_size := @below_size
theorem zbb : type_of% @below_step := @below_step
theorem zbe : type_of% @Kd.C_alloc := @Kd.C_alloc
theorem zbf : type_of% @Kd.C_drewN := @Kd.C_drewN
theorem zbg : type_of% @of_eq_true := @of_eq_true
theorem zbh : type_of% @Nat.le_refl := @Nat.le_refl
theorem zbi : type_of% @Reps.one := @Reps.one
theorem zbj : type_of% @Kd.R_elder' := @Kd.R_elder'
theorem zbk : type_of% @eq_true := @eq_true
theorem zbl : type_of% @Kd.C_drew := @Kd.C_drew
theorem zbm : type_of% @Kd.R_lower := @Kd.R_lower
theorem zbn : type_of% @errW_none := @errW_none
theorem zbo : type_of% @errW_some := @errW_some
theorem zbq : type_of% @LeO.bind := @LeO.bind
theorem zbr : type_of% @Kd.R_slice := @Kd.R_slice
theorem zbs : type_of% @LeO.none := @LeO.none
theorem zbt : type_of% @Kd.R_base := @Kd.R_base
theorem zbu : type_of% @Below.refl := @Below.refl
theorem zbv : type_of% @Kd.R_new' := @Kd.R_new'
theorem zbw : type_of% @decide_eq_false := @decide_eq_false
theorem zbx : type_of% @Kd.R_mono := @Kd.R_mono
theorem zby : type_of% @LeO.ite := @LeO.ite
theorem zcb : type_of% @Kd.R_lt := @Kd.R_lt
theorem zcc : type_of% @trivial := @trivial
theorem zce : type_of% @Kd.V_alloc := @Kd.V_alloc
theorem zcf : type_of% @Kd.V_drewN := @Kd.V_drewN
theorem zcg : type_of% @Kd.at_int := @Kd.at_int
theorem zcj : type_of% @Kd.V_drew := @Kd.V_drew
theorem zck : type_of% @LeO.refl := @LeO.refl
theorem zcl : type_of% @Kd.V_reads' := @Kd.V_reads'
theorem zcm : type_of% @max_three := @max_three
theorem zcn : type_of% @min_three := @min_three
theorem zcq : type_of% @World.drewN_drewN := @World.drewN_drewN
theorem zcu : type_of% @Bool.eq_false_iff := @Bool.eq_false_iff
theorem zcv : type_of% @Reps.none := @Reps.none
theorem zcx : type_of% @max2_int := @max2_int
theorem zcy : type_of% @min2_int := @min2_int
theorem zcz : type_of% @max_four := @max_four
theorem zda : type_of% @min_four := @min_four
theorem zdc : type_of% @gate_dst := @gate_dst
theorem zde : type_of% @take_ofW := @take_ofW
theorem zdf : type_of% @gate_builtin := @gate_builtin
theorem zdg : type_of% @beq_eq_false_iff_ne := @beq_eq_false_iff_ne
theorem zdh : type_of% @Kd.R_after := @Kd.R_after
theorem zdl : type_of% @max_two := @max_two
theorem zdm : type_of% @min_two := @min_two
theorem zdo : type_of% @Kd.C_below := @Kd.C_below
theorem zdp : type_of% @gate_guard := @gate_guard
theorem zdq : type_of% @Kd.FK_slice_mk := @Kd.FK_slice_mk
theorem zdr : type_of% @bne_eq_false_iff_eq := @bne_eq_false_iff_eq
theorem zds : type_of% @Kd.R_append_rows := @Kd.R_append_rows
theorem zdt : type_of% @Kd.fresh' := @Kd.fresh'
theorem zdv : type_of% @Kd.V_below := @Kd.V_below
theorem zdx : type_of% @Kd.R_lit := @Kd.R_lit
theorem zdz : type_of% @Kd.F_mono := @Kd.F_mono
theorem zea : type_of% @List.length_replicate := @List.length_replicate
theorem zee : type_of% @Kd.N_reads' := @Kd.N_reads'
theorem zeg : type_of% @Kd.R_below := @Kd.R_below
theorem zeh : type_of% @Nat.add_assoc := @Nat.add_assoc
theorem zej : type_of% @List.length_map := @List.length_map
theorem zek : type_of% @List.length_append := @List.length_append
theorem zeo : type_of% @Kd.V_mk := @Kd.V_mk
theorem zes : type_of% @Kd.R_append := @Kd.R_append
theorem zet : type_of% @and_imp := @and_imp
theorem zev : type_of% @with_tabW := @with_tabW
theorem zex : type_of% @Option.map_eq_some_iff := @Option.map_eq_some_iff
theorem zey : type_of% @beq_iff_eq := @beq_iff_eq
theorem zez : type_of% @bne_iff_ne := @bne_iff_ne
end Go.Proofs.Ytienlgcjohpphaa.P
namespace Go.Proofs.Ytienlgcjohpphaa.P
open Go.RowKit Go.Proofs.YtienlgcjohpphaaW.PrintWords Go.Proofs.YtienlgcjohpphaaW.PrintLast Go.Proofs.YtienlgcjohpphaaW.PrintMore
attribute [local go_sem] zcx zcy zdl zdm zcm zcn zcz zda   -- for this text's walks alone
set_option linter.unusedVariables false
set_option linter.unusedSimpArgs false

def laws_toByteS.l0 : Nat → List Int → List Int → Int → Option (List Int)
 | 0, _, _, _ => none
 | k + 1, x0, x3, x4 => if x4 < (x0.length : Int) then (if 0 ≤ x4 then (if x4 < (x3.length : Int) then (laws_toByteS.l0 k x0 (x3.set (x4 : Int).toNat (rd x0 x4)) (wrap64 (x4 + 1))) else (none)) else (none)) else (some x3)
def laws_toByteS.f (k : Nat) (l0 : List Int) : Option (List Int) := if 0 ≤ (l0.length : Int) then (if ((l0.length : Int) : Int).toNat ≤ 281474976710656 then (laws_toByteS.l0 k l0 (List.replicate ((l0.length : Int) : Int).toNat 0) 0) else (none)) else (none)
theorem laws_toByteS.mono_l : ∀ k, (∀ y0 y1 y2, LeO (laws_toByteS.l0 k y0 y1 y2) (laws_toByteS.l0 (k + 1) y0 y1 y2))
 | 0 => fun _ _ _ r h => by simp [laws_toByteS.l0] at h
 | k + 1 => by
  have ih0 := laws_toByteS.mono_l k
  ·intro y0 y1 y2
   unfold laws_toByteS.l0
   repeat' first
   | (with_reducible exact ih0 _ _ _)
   | (with_reducible exact zck _)
   | (with_reducible exact zbs _)
   | (with_reducible refine zby ?_ ?_)
   | (with_reducible refine zbq ?_ (fun _ => ?_))
   | exact ih0 _ _ _
   | exact zbs _
   | refine zby ?_ ?_
   | refine zbq ?_ (fun _ => ?_)
theorem laws_toByteS.mono : ∀ a0 k, LeO (laws_toByteS.f k a0) (laws_toByteS.f (k + 1) a0) := by
 intro a0 k
 have ih0 := laws_toByteS.mono_l k
 unfold laws_toByteS.f
 repeat' first
   | (with_reducible exact ih0 _ _ _)
   | (with_reducible exact zck _)
   | (with_reducible exact zbs _)
   | (with_reducible refine zby ?_ ?_)
   | (with_reducible refine zbq ?_ (fun _ => ?_))
   | exact ih0 _ _ _
   | exact zbs _
   | refine zby ?_ ?_
   | refine zbq ?_ (fun _ => ?_)
set_option maxHeartbeats 8000000 in
set_option maxRecDepth 100000 in
theorem laws_toByteS.calls (k : Nat) (A0 : Option Addr) (c0 : Nat) (l0 : List Int) (r : List Int) (w : World) (hr0 : Kd.C (Kd.int .u8) w A0 l0.length l0) (hc0 : l0.length ≤ c0) (h : laws_toByteS.f k l0 = some r) :
  Calls Try.prog 17 #[.slice A0 l0.length c0] w fun e w' => ∃ v0_ : Value, e = .returned (v0_) ∧ Kd.R (Kd.int .u8) 5 w' w.heap.size (fun _ => True) v0_ r ∧ Below w.heap.size w w' := by
 have HR0 := Aside0.mk hr0
 have HC0 := Aside0.mk hc0
 clear hr0 hc0
 have HB := Aside0.mk (zbu w.heap.size w)
 have H : (if 0 ≤ (l0.length : Int) then (if ((l0.length : Int) : Int).toNat ≤ 281474976710656 then (laws_toByteS.l0 k l0 (List.replicate ((l0.length : Int) : Int).toNat 0) 0) else (none)) else (none)) = some r := h
 clear h
 by_cases c2 : 0 ≤ (l0.length : Int)
 ·rw [if_pos c2] at H
  have c2b0 := zbk c2
  have c2b1 : decide (0 ≤ (l0.length : Int)) = true := zap c2
  clear c2
  by_cases c3 : ((l0.length : Int) : Int).toNat ≤ 281474976710656
  ·rw [if_pos c3] at H
   have c3b0 := zbk c3
   have c3b1 : decide (((l0.length : Int) : Int).toNat ≤ 281474976710656) = true := zap c3
   clear c3
   obtain ⟨y191, hy191⟩ : ∃ y_ : List Int, y_ = (List.replicate ((l0.length : Int) : Int).toNat 0) := ⟨_, rfl⟩
   replace H : (laws_toByteS.l0 k l0 y191 0) = some r := by first | (rw [hy191]; with_reducible exact H) | (have H2_ := (zao _ _).symm.trans H; rw [hy191]; with_reducible exact H2_) | (have H2_ := (zao _ _).symm.trans H; with_reducible exact H2_) | with_reducible exact H | (rw [hy191]; exact H) | exact H
   have Ny191 := Aside0.mk hy191
   clear hy191
   have H' := Aside0.mk H
   clear H
   go_enter Try.func17, Try.ntmps17
   go_wp2_with (first | ((with_reducible refine zdc (N := 7) rfl ?_); refine Kd.R_make (Kd.int .u8) _ 5 rfl (N := 7) rfl 23 _ _ rfl (l0.length : Int) rfl rfl Try.underlying23 (.int .u8 0) 1 info5 rfl (by decide) (by omega) 0 (ok := fun _ => True) (okp := fun _ => True) rfl (fun _ hk => hk) zcc (zaq (by first | (with_reducible assumption) | assumption)) (Nat.le_trans (Nat.mul_le_mul_right _ (zaq (by first | (with_reducible assumption) | assumption) : (l0.length : Int).toNat ≤ 281474976710656)) (by omega)) (zbu _ _) (zbh _) ?_; intro v192 w4 ho5 hb hg_ hnew_; clear hg_ hnew_; (first | rw [← Ny191.out] at ho5 | (simp only [Int.reduceToNat] at ho5; rw [← Ny191.out] at ho5)); have n0_ := Aside0.mk (zbm ho5 (zba (by repeat (first | (with_reducible first | exact HB.out | apply zaf | apply zab | apply zae) | exact HB.out)))); have n1_ := Aside0.mk (zbb (by repeat (first | (with_reducible first | exact HB.out | apply zaf | apply zab | apply zae) | exact HB.out)) hb); clear HB; have HO193 := n0_; have HB := n1_; clear n0_ n1_; clear hb ho5))
   go_loopg [4] k (fun kq v4 w' => ∃ (x3_1 : List Int) (x4_1 : Int), v4 = .int .i64 x4_1 ∧ Aside0 (laws_toByteS.l0 kq l0 x3_1 x4_1 = some r) ∧ Aside0 (kq ≤ k) ∧ Aside0 (Kd.R (Kd.int .u8) 5 w' w.heap.size (fun _ => True) v192 x3_1) ∧ Aside0 (Below w.heap.size w w'))
   case atStart => exact ⟨(y191), (0), (by first | rfl | (simp; done) | (simp [*]; done)), H', ⟨zbh _⟩, ⟨by (with_reducible repeat (first | apply zai | apply zaj | apply zak)); exact HO193.out⟩, ⟨by repeat (first | (with_reducible first | exact HB.out | apply zaf | apply zab | apply zae) | exact HB.out)⟩⟩
   case round =>
    clear H'
    try clear c1
    try clear c2
    try clear c2b0
    try clear c2b1
    try clear p2
    try clear c3
    try clear c3b0
    try clear c3b1
    obtain ⟨x3_1, x4_1, rfl, HA, HK1, HO_3, HB⟩ := hrel
    cases gk with
    | zero => exact absurd HA.out (by simp [laws_toByteS.l0])
    | succ k1 =>
     have H := HA.out
     clear HA
     simp only [laws_toByteS.l0] at H
     by_cases c6 : x4_1 < (l0.length : Int)
     ·rw [if_pos c6] at H
      have c6b0 : decide (x4_1 < (l0.length : Int)) = true := zap c6
      clear c6
      by_cases c7 : 0 ≤ x4_1
      ·rw [if_pos c7] at H
       have c7b0 : decide (0 ≤ x4_1) = true := zap c7
       clear c7
       by_cases c8 : x4_1 < (x3_1.length : Int)
       ·rw [if_pos c8] at H
        have c8b0 : decide (x4_1 < (x3_1.length : Int)) = true := zap c8
        clear c8
        obtain ⟨y195, hy195⟩ : ∃ y_ : List Int, y_ = (x3_1.set (x4_1 : Int).toNat (rd l0 x4_1)) := ⟨_, rfl⟩
        replace H : (laws_toByteS.l0 k1 l0 y195 (wrap64 (x4_1 + 1))) = some r := by first | (rw [hy195]; with_reducible exact H) | (have H2_ := (zao _ _).symm.trans H; rw [hy195]; with_reducible exact H2_) | (have H2_ := (zao _ _).symm.trans H; with_reducible exact H2_) | with_reducible exact H | (rw [hy195]; exact H) | exact H
        have Ny195 := Aside0.mk hy195
        clear hy195
        have H' := Aside0.mk H
        clear H
        have p194 : 0 ≤ (x4_1 : Int) := zaq (by first | (with_reducible assumption) | assumption)
        have q194 : x4_1 < (l0.length : Int) := zaq (by first | (with_reducible assumption) | assumption)
        obtain ⟨ad194, e194, hx194_0⟩ := zcg HR0.out x4_1 p194 q194
        cases e194
        replace hx194_0 := (HB.out.cell (World.block_lt_of_cell? w _ hx194_0)).trans hx194_0
        replace p194 := zbk p194
        replace q194 := zbk q194
        have p9 : 0 ≤ (x4_1 : Int) := zaq (by first | (with_reducible assumption) | assumption)
        have q9 : (x4_1 : Int) < ((x3_1.length : Int) : Int) := zaq (by first | (with_reducible assumption) | assumption)
        obtain ⟨go9, co9, eo9, gb9, gl9, cl9, HG9⟩ := Kd.R_form HO_3.out (by omega)
        (first | cases eo9 | (injection eo9 with ea_ en_ ec_; (first | subst ea_ | (injection ea_ with ea_; subst ea_)); subst ec_; clear en_))
        have GB9 := Aside0.mk gb9
        have GG9 := Aside0.mk HG9
        clear gb9 gl9 HG9
        obtain ⟨hx9_0, hf9_0⟩ := Kd.R_celln 0 HO_3.out (x4_1 : Int) p9 q9
        replace p9 := zbk p9
        replace q9 := zbk q9
        have HP10 := Kd.R_putg HO_3.out (x4_1 : Int) (rd l0 x4_1)
        go_wp2_with (first | ((with_reducible refine gate_store (t := 5) (p := 20) rfl ?_); refine store_event (t := 5) (p := 20) (v := ?vo_w11) (w1 := (wr.setCell ⟨go9, (x4_1 : Int).toNat, none⟩ (.int .u8 (rd l0 x4_1)))) ?hg ?ho ?hn ?hr ?_; (case ho => rfl); (case hg => rfl); (case hn => rfl); (case hr => first | (go_simp; done) | (go_simp; rfl)); intro w11 hw; have hg : wr.grownBy w11 (some go9) := (by rw [hw]; exact HP10.2); have hp_ : Kd.R (Kd.int .u8) 5 w11 w.heap.size (fun _ => True) (.slice (some ⟨go9, 0, none⟩) x3_1.length co9) y195 := (by rw [hw, Ny195.out]; exact HP10.1); clear HP10; have n0_ := Aside0.mk (hp_); have n1_ := Aside0.mk ((by rw [hw]; exact below_set (HB.out) GB9.out : Below w.heap.size w w11)); clear HO_3; clear HB; have HO_3 := n0_; have HB := n1_; clear n0_ n1_; clear hg hw hp_))
        go_roundg k1
        case measure => have := HK1.out; omega
        case rel => exact ⟨(y195), (wrap64 (x4_1 + 1)), (by first | rfl | (simp; done) | (simp [*]; done)), H', ⟨by have := HK1.out; omega⟩, ⟨by (with_reducible repeat (first | apply zai | apply zaj | apply zak)); exact HO_3.out⟩, ⟨by repeat (first | (with_reducible first | exact HB.out | apply zaf | apply zab | apply zae) | exact HB.out)⟩⟩
       ·rw [if_neg c8] at H
        exact absurd H (by simp)
      ·rw [if_neg c7] at H
       exact absurd H (by simp)
     ·rw [if_neg c6] at H
      have c6b0 : decide (x4_1 < (l0.length : Int)) = false := zbw c6
      clear c6
      obtain rfl := Option.some.inj H
      go_wp2
      go_ret
      exact ⟨_, by first | rfl | (simp [zbn, zbo] <;> rfl) | (simp [*, zbn, zbo] <;> rfl), by (with_reducible repeat (first | apply zai | apply zaj | apply zak)); exact HO_3.out, by repeat (first | (with_reducible first | exact HB.out | apply zaf | apply zab | apply zae) | exact HB.out)⟩
  ·rw [if_neg c3] at H
   exact absurd H (by simp)
 ·rw [if_neg c2] at H
  exact absurd H (by simp)
end Go.Proofs.Ytienlgcjohpphaa.P
