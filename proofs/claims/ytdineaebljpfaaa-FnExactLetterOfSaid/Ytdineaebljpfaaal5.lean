import Derived.Test.YtdineaebljpfaaaProg
import Derived.Lib.Bytealg
import Derived.Lib.SliceRun
import Derived.Lib.SlBuf
import Derived.Lib.MakeNoZero
import Derived.Test.Ytdineaebljpfaaal4
namespace Go.Proofs.Ytdineaebljpfaaa.P
open Go.RowKit Go.Proofs.YtdineaebljpfaaaW.PrintWords Go.Proofs.YtdineaebljpfaaaW.PrintLast Go.Proofs.YtdineaebljpfaaaW.PrintMore
attribute [local go_sem] max2_int min2_int max_two min_two max_three min_three max_four min_four   -- for this text's walks alone
set_option linter.unusedVariables false
set_option linter.unusedSimpArgs false



def errW : Option Int → Value
 | none => .nilIface
 | some c => .iface 0 (.int .i64 c)
theorem errW_none : errW none = .nilIface := rfl
theorem errW_some (c : Int) : errW (some c) = .iface 0 (.int .i64 c) := rfl

theorem info3 : (Try.prog.info? 3).map (fun i => (i.zero, i.size, i.bytes)) = some (some (.int .i64 0), 1, 8) := by kernel_rfl
theorem info5 : (Try.prog.info? 5).map (fun i => (i.zero, i.size, i.bytes)) = some (some (.int .u8 0), 1, 1) := by kernel_rfl
theorem info22 : (Try.prog.info? 22).map (fun i => (i.zero, i.size, i.bytes)) = some (some (.slice none 0 0), 1, 24) := by kernel_rfl
-- the values' own types
def rd_L1 (xs : List (List Int)) (i : Int) : (List Int) := xs.getD i.toNat ([] : List Int)
theorem at_L1 {w : World} {A : Option Addr} {n : Nat} {xs : List (List Int)} (h : Kd.C (Kd.slice 5 (Kd.int .u8)) w A n xs) (i : Int) (h0 : 0 ≤ i) (h1 : i < n) : ∃ ad A0 c0, A = some ad ∧ w.cell? (ad.add i.toNat) = some (.slice A0 (rd_L1 xs i).length c0) ∧ (rd_L1 xs i).length ≤ c0 ∧ (Kd.int .u8).C w A0 (rd_L1 xs i).length (rd_L1 xs i) := by
 obtain ⟨ad, c, e, _, hK, hc0⟩ := Kd.C_get h ([] : List Int) i h0 h1
 have hc : ∀ j u, c[j]? = some u → w.cell? (ad.add (i.toNat * 1 + j)) = some u := hc0
 obtain ⟨A0, c0, rfl, l0, g0⟩ := hK
 exact ⟨ad, A0, c0, e, by have hq := hc 0 _ rfl; rwa [Nat.mul_one, Nat.add_zero] at hq, l0, g0⟩

def rd_L2 (xs : List (List (List Int))) (i : Int) : (List (List Int)) := xs.getD i.toNat ([] : List (List Int))
theorem at_L2 {w : World} {A : Option Addr} {n : Nat} {xs : List (List (List Int))} (h : Kd.C (Kd.slice 22 (Kd.slice 5 (Kd.int .u8))) w A n xs) (i : Int) (h0 : 0 ≤ i) (h1 : i < n) : ∃ ad A0 c0, A = some ad ∧ w.cell? (ad.add i.toNat) = some (.slice A0 (rd_L2 xs i).length c0) ∧ (rd_L2 xs i).length ≤ c0 ∧ (Kd.slice 5 (Kd.int .u8)).C w A0 (rd_L2 xs i).length (rd_L2 xs i) := by
 obtain ⟨ad, c, e, _, hK, hc0⟩ := Kd.C_get h ([] : List (List Int)) i h0 h1
 have hc : ∀ j u, c[j]? = some u → w.cell? (ad.add (i.toNat * 1 + j)) = some u := hc0
 obtain ⟨A0, c0, rfl, l0, g0⟩ := hK
 exact ⟨ad, A0, c0, e, by have hq := hc 0 _ rfl; rwa [Nat.mul_one, Nat.add_zero] at hq, l0, g0⟩

def rd_L4 (xs : List (List Int)) (i : Int) : (List Int) := xs.getD i.toNat ([] : List Int)
theorem at_L4 {w : World} {A : Option Addr} {n : Nat} {xs : List (List Int)} (h : Kd.C (Kd.slice 3 (Kd.int .i64)) w A n xs) (i : Int) (h0 : 0 ≤ i) (h1 : i < n) : ∃ ad A0 c0, A = some ad ∧ w.cell? (ad.add i.toNat) = some (.slice A0 (rd_L4 xs i).length c0) ∧ (rd_L4 xs i).length ≤ c0 ∧ (Kd.int .i64).C w A0 (rd_L4 xs i).length (rd_L4 xs i) := by
 obtain ⟨ad, c, e, _, hK, hc0⟩ := Kd.C_get h ([] : List Int) i h0 h1
 have hc : ∀ j u, c[j]? = some u → w.cell? (ad.add (i.toNat * 1 + j)) = some u := hc0
 obtain ⟨A0, c0, rfl, l0, g0⟩ := hK
 exact ⟨ad, A0, c0, e, by have hq := hc 0 _ rfl; rwa [Nat.mul_one, Nat.add_zero] at hq, l0, g0⟩
end Go.Proofs.Ytdineaebljpfaaa.P
/- Short names for theorems that the texts name often; they state what the long ones state. -/
namespace Go.Proofs.Ytdineaebljpfaaa.P
open Go.RowKit Go.Proofs.YtdineaebljpfaaaW.PrintWords Go.Proofs.YtdineaebljpfaaaW.PrintLast Go.Proofs.YtdineaebljpfaaaW.PrintMore
theorem bind_ofs {α β : Type} {a : α} {f : α → Option β} {r : Option β} (H : (some a).bind f = r) : f a = r := H
theorem Kd.R_ofs {α : Type} {d : Kd α} {e : Nat} {W w1 : World} {base : Nat} {ok : Nat → Prop} {v : Value} {xs : List α} (h : Kd.R d e W base ok v xs) (_ : Below W.heap.size W w1) : Kd.R d e W base ok v xs := h
theorem below_ofs {B : Nat} {w W w1 : World} (h : Below B w W) (_ : Below W.heap.size W w1) : Below B w W := h
theorem zaa : type_of% @List.setIfInBounds_toArray := @List.setIfInBounds_toArray
theorem zab : type_of% @pw_below_drewN := @pw_below_drewN
theorem zac : type_of% @List.set_cons_zero := @List.set_cons_zero
theorem zad : type_of% @List.set_cons_succ := @List.set_cons_succ
theorem zaf : type_of% @below_drew1 := @below_drew1
theorem zag : type_of% @below_set := @below_set
theorem zah : type_of% @below_alloc := @below_alloc
theorem zai : type_of% @blk_drewN := @blk_drewN
theorem zaj : type_of% @blk_alloc := @blk_alloc
theorem zak : type_of% @Kd.V_alloc := @Kd.V_alloc
theorem zal : type_of% @Kd.V_drewN := @Kd.V_drewN
theorem zam : type_of% @Kd.R_alloc := @Kd.R_alloc
theorem zan : type_of% @Kd.R_drewN := @Kd.R_drewN
theorem zao : type_of% @blk_drew := @blk_drew
theorem zap : type_of% @Kd.V_drew := @Kd.V_drew
theorem zaq : type_of% @Kd.R_drew := @Kd.R_drew
theorem zar : type_of% @Kd.V_mono := @Kd.V_mono
theorem zat : type_of% @below_size := @below_size
theorem zau : type_of% @blk_frozen := @blk_frozen
theorem zav : type_of% @Kd.N_alloc := @Kd.N_alloc
theorem zaw : type_of% @Kd.N_drewN := @Kd.N_drewN
theorem zax : type_of% @Kd.R_far := @Kd.R_far
theorem zaz : type_of% @Kd.R_mono := @Kd.R_mono
theorem zba : type_of% @Kd.R_reads' := @Kd.R_reads'
theorem zbb : type_of% @Kd.N_drew := @Kd.N_drew
theorem zbc : type_of% @blk_cell := @blk_cell
theorem zbd : type_of% @Kd.V_elder' := @Kd.V_elder'
theorem zbe : type_of% @Kd.R_below := @Kd.R_below
theorem zbf : type_of% @blk_below := @blk_below
theorem zbg : type_of% @List.map_toArray := @List.map_toArray
theorem zbh : type_of% @below_step := @below_step
theorem zbj : type_of% @of_decide_eq_true := @of_decide_eq_true
theorem zbl : type_of% @Kd.R_base := @Kd.R_base
theorem zbm : type_of% @Option.bind_eq_some_iff := @Option.bind_eq_some_iff
theorem zbn : type_of% @List.length_drop := @List.length_drop
theorem zbo : type_of% @decide_eq_true := @decide_eq_true
theorem zbp : type_of% @Nat.le_of_eq := @Nat.le_of_eq
theorem zbq : type_of% @Nat.le_refl := @Nat.le_refl
theorem zbr : type_of% @List.length_take := @List.length_take
theorem zbs : type_of% @List.map_cons := @List.map_cons
theorem zbt : type_of% @List.map_nil := @List.map_nil
theorem zbu : type_of% @Kd.C_alloc := @Kd.C_alloc
theorem zbv : type_of% @Kd.C_drewN := @Kd.C_drewN
theorem zbw : type_of% @Kd.R_types := @Kd.R_types
theorem zby : type_of% @Kd.N_base := @Kd.N_base
theorem zca : type_of% @Kd.C_drew := @Kd.C_drew
theorem zcb : type_of% @Nat.ne_of_lt := @Nat.ne_of_lt
theorem zcd : type_of% @errW_none := @errW_none
theorem zce : type_of% @errW_some := @errW_some
theorem zcf : type_of% @add_block := @add_block
theorem zch : type_of% @Nat.lt_of_lt_of_le := @Nat.lt_of_lt_of_le
theorem zci : type_of% @Kd.V_elderB := @Kd.V_elderB
theorem zcj : type_of% @Kd.V_below := @Kd.V_below
theorem zck : type_of% @Kd.N_mono := @Kd.N_mono
theorem zcl : type_of% @gate_callee := @gate_callee
theorem zcq : type_of% @Below.refl := @Below.refl
theorem zcr : type_of% @Kd.R_new' := @Kd.R_new'
theorem zct : type_of% @Kd.V_reads' := @Kd.V_reads'
theorem zcu : type_of% @Kd.N_elder' := @Kd.N_elder'
theorem zcv : type_of% @decide_eq_false := @decide_eq_false
theorem zcw : type_of% @eq_true := @eq_true
theorem zcz : type_of% @Kd.R_slice := @Kd.R_slice
theorem zdb : type_of% @Nat.le_trans := @Nat.le_trans
theorem zdc : type_of% @Kd.FK_slice_mk := @Kd.FK_slice_mk
theorem zdd : type_of% @Kd.R_lower := @Kd.R_lower
theorem zde : type_of% @Kd.C_below := @Kd.C_below
theorem zdf : type_of% @Kd.R_lt := @Kd.R_lt
theorem zdg : type_of% @Kd.N_lit_step := @Kd.N_lit_step
theorem zdh : type_of% @Kd.R_elder' := @Kd.R_elder'
theorem zdi : type_of% @Kd.N_reads' := @Kd.N_reads'
theorem zdj : type_of% @Nat.ne_of_gt := @Nat.ne_of_gt
theorem zdk : type_of% @Bool.eq_false_iff := @Bool.eq_false_iff
theorem zdl : type_of% @blk_put := @blk_put
theorem zdm : type_of% @Nat.min_eq_left := @Nat.min_eq_left
theorem zdn : type_of% @Kd.freshB := @Kd.freshB
theorem zdp : type_of% @Option.some.injEq := @Option.some.injEq
theorem zdr : type_of% @beq_eq_false_iff_ne := @beq_eq_false_iff_ne
theorem zds : type_of% @Reps.none := @Reps.none
theorem zdt : type_of% @Kd.N_below := @Kd.N_below
theorem zdw : type_of% @box_event := @box_event
theorem zdz : type_of% @Kd.N_elderB := @Kd.N_elderB
theorem zea : type_of% @Kd.N_lower := @Kd.N_lower
theorem zec : type_of% @Nat.sub_le_sub_right := @Nat.sub_le_sub_right
theorem zed : type_of% @bne_eq_false_iff_eq := @bne_eq_false_iff_eq
theorem zee : type_of% @Int.toNat_le := @Int.toNat_le
theorem zef : type_of% @gate_dst := @gate_dst
theorem zeg : type_of% @Prod.mk.injEq := @Prod.mk.injEq
theorem zeh : type_of% @Kd.R_told := @Kd.R_told
theorem zek : type_of% @Kd.at_int := @Kd.at_int
theorem zel : type_of% @Kd.fresh' := @Kd.fresh'
theorem zem : type_of% @of_eq_true := @of_eq_true
theorem zep : type_of% @Reps.one := @Reps.one
theorem zeq : type_of% @max_three := @max_three
theorem zer : type_of% @min_three := @min_three
theorem zet : type_of% @blk_far := @blk_far
theorem zeu : type_of% @Kd.R_keptB := @Kd.R_keptB
end Go.Proofs.Ytdineaebljpfaaa.P
