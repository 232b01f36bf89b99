import Derived.Test.YtdineaebljpfaaaProg
import Derived.Lib.Bytealg
import Derived.Lib.SliceRun
import Derived.Lib.SlBuf
import Derived.Lib.MakeNoZero
import Derived.Test.Ytdineaebljpfaaan4
namespace Go.Proofs.Ytdineaebljpfaaa.P
open Go.RowKit Go.Proofs.YtdineaebljpfaaaW.PrintWords Go.Proofs.YtdineaebljpfaaaW.PrintLast Go.Proofs.YtdineaebljpfaaaW.PrintMore
attribute [local go_sem] max2_int min2_int max_two min_two max_three min_three max_four min_four   -- for this text's walks alone
set_option linter.unusedVariables false
set_option linter.unusedSimpArgs false



def errW : Option Int → Value
 | none => .nilIface
 | some c => .iface 0 (.int .i64 c)
theorem errW_none : errW none = .nilIface := rfl
theorem errW_some (c : Int) : errW (some c) = .iface 0 (.int .i64 c) := rfl

theorem info3 : (Try.prog.info? 3).map (fun i => (i.zero, i.size, i.bytes)) = some (some (.int .i64 0), 1, 8) := by kernel_rfl
theorem info5 : (Try.prog.info? 5).map (fun i => (i.zero, i.size, i.bytes)) = some (some (.int .u8 0), 1, 1) := by kernel_rfl
theorem info22 : (Try.prog.info? 22).map (fun i => (i.zero, i.size, i.bytes)) = some (some (.slice none 0 0), 1, 24) := by kernel_rfl
-- the values' own types
def rd_L1 (xs : List (List Int)) (i : Int) : (List Int) := xs.getD i.toNat ([] : List Int)
theorem at_L1 {w : World} {A : Option Addr} {n : Nat} {xs : List (List Int)} (h : Kd.C (Kd.slice 5 (Kd.int .u8)) w A n xs) (i : Int) (h0 : 0 ≤ i) (h1 : i < n) : ∃ ad A0 c0, A = some ad ∧ w.cell? (ad.add i.toNat) = some (.slice A0 (rd_L1 xs i).length c0) ∧ (rd_L1 xs i).length ≤ c0 ∧ (Kd.int .u8).C w A0 (rd_L1 xs i).length (rd_L1 xs i) := by
 obtain ⟨ad, c, e, _, hK, hc0⟩ := Kd.C_get h ([] : List Int) i h0 h1
 have hc : ∀ j u, c[j]? = some u → w.cell? (ad.add (i.toNat * 1 + j)) = some u := hc0
 obtain ⟨A0, c0, rfl, l0, g0⟩ := hK
 exact ⟨ad, A0, c0, e, by have hq := hc 0 _ rfl; rwa [Nat.mul_one, Nat.add_zero] at hq, l0, g0⟩

def rd_L2 (xs : List (List (List Int))) (i : Int) : (List (List Int)) := xs.getD i.toNat ([] : List (List Int))
theorem at_L2 {w : World} {A : Option Addr} {n : Nat} {xs : List (List (List Int))} (h : Kd.C (Kd.slice 22 (Kd.slice 5 (Kd.int .u8))) w A n xs) (i : Int) (h0 : 0 ≤ i) (h1 : i < n) : ∃ ad A0 c0, A = some ad ∧ w.cell? (ad.add i.toNat) = some (.slice A0 (rd_L2 xs i).length c0) ∧ (rd_L2 xs i).length ≤ c0 ∧ (Kd.slice 5 (Kd.int .u8)).C w A0 (rd_L2 xs i).length (rd_L2 xs i) := by
 obtain ⟨ad, c, e, _, hK, hc0⟩ := Kd.C_get h ([] : List (List Int)) i h0 h1
 have hc : ∀ j u, c[j]? = some u → w.cell? (ad.add (i.toNat * 1 + j)) = some u := hc0
 obtain ⟨A0, c0, rfl, l0, g0⟩ := hK
 exact ⟨ad, A0, c0, e, by have hq := hc 0 _ rfl; rwa [Nat.mul_one, Nat.add_zero] at hq, l0, g0⟩

def rd_L4 (xs : List (List Int)) (i : Int) : (List Int) := xs.getD i.toNat ([] : List Int)
theorem at_L4 {w : World} {A : Option Addr} {n : Nat} {xs : List (List Int)} (h : Kd.C (Kd.slice 3 (Kd.int .i64)) w A n xs) (i : Int) (h0 : 0 ≤ i) (h1 : i < n) : ∃ ad A0 c0, A = some ad ∧ w.cell? (ad.add i.toNat) = some (.slice A0 (rd_L4 xs i).length c0) ∧ (rd_L4 xs i).length ≤ c0 ∧ (Kd.int .i64).C w A0 (rd_L4 xs i).length (rd_L4 xs i) := by
 obtain ⟨ad, c, e, _, hK, hc0⟩ := Kd.C_get h ([] : List Int) i h0 h1
 have hc : ∀ j u, c[j]? = some u → w.cell? (ad.add (i.toNat * 1 + j)) = some u := hc0
 obtain ⟨A0, c0, rfl, l0, g0⟩ := hK
 exact ⟨ad, A0, c0, e, by have hq := hc 0 _ rfl; rwa [Nat.mul_one, Nat.add_zero] at hq, l0, g0⟩

def rd_L5 (xs : List (List (List Int))) (i : Int) : (List (List Int)) := xs.getD i.toNat ([] : List (List Int))
theorem at_L5 {w : World} {A : Option Addr} {n : Nat} {xs : List (List (List Int))} (h : Kd.C (Kd.slice 33 (Kd.slice 3 (Kd.int .i64))) w A n xs) (i : Int) (h0 : 0 ≤ i) (h1 : i < n) : ∃ ad A0 c0, A = some ad ∧ w.cell? (ad.add i.toNat) = some (.slice A0 (rd_L5 xs i).length c0) ∧ (rd_L5 xs i).length ≤ c0 ∧ (Kd.slice 3 (Kd.int .i64)).C w A0 (rd_L5 xs i).length (rd_L5 xs i) := by
 obtain ⟨ad, c, e, _, hK, hc0⟩ := Kd.C_get h ([] : List (List Int)) i h0 h1
 have hc : ∀ j u, c[j]? = some u → w.cell? (ad.add (i.toNat * 1 + j)) = some u := hc0
 obtain ⟨A0, c0, rfl, l0, g0⟩ := hK
 exact ⟨ad, A0, c0, e, by have hq := hc 0 _ rfl; rwa [Nat.mul_one, Nat.add_zero] at hq, l0, g0⟩
end Go.Proofs.Ytdineaebljpfaaa.P
/- Short names for theorems that the texts name often; they state what the long ones state. -/
namespace Go.Proofs.Ytdineaebljpfaaa.P
open Go.RowKit Go.Proofs.YtdineaebljpfaaaW.PrintWords Go.Proofs.YtdineaebljpfaaaW.PrintLast Go.Proofs.YtdineaebljpfaaaW.PrintMore
theorem bind_ofs {α β : Type} {a : α} {f : α → Option β} {r : Option β} (H : (some a).bind f = r) : f a = r := H
theorem Kd.R_ofs {α : Type} {d : Kd α} {e : Nat} {W w1 : World} {base : Nat} {ok : Nat → Prop} {v : Value} {xs : List α} (h : Kd.R d e W base ok v xs) (_ : Below W.heap.size W w1) : Kd.R d e W base ok v xs := h
theorem below_ofs {B : Nat} {w W w1 : World} (h : Below B w W) (_ : Below W.heap.size W w1) : Below B w W := h
theorem zaa : type_of% @List.setIfInBounds_toArray := @List.setIfInBounds_toArray
theorem zab : type_of% @Kd.R_alloc := @Kd.R_alloc
theorem zac : type_of% @Kd.R_drewN := @Kd.R_drewN
theorem zad : type_of% @pw_below_drewN := @pw_below_drewN
theorem zae : type_of% @Kd.R_drew := @Kd.R_drew
theorem zaf : type_of% @Kd.R_reads' := @Kd.R_reads'
theorem zag : type_of% @List.set_cons_zero := @List.set_cons_zero
theorem zah : type_of% @List.set_cons_succ := @List.set_cons_succ
theorem zai : type_of% @below_drew1 := @below_drew1
theorem zaj : type_of% @below_alloc := @below_alloc
theorem zak : type_of% @Kd.R_elder' := @Kd.R_elder'
theorem zal : type_of% @List.map_toArray := @List.map_toArray
theorem zam : type_of% @Option.bind_eq_some_iff := @Option.bind_eq_some_iff
theorem zan : type_of% @Kd.R_base := @Kd.R_base
theorem zao : type_of% @Kd.R_new' := @Kd.R_new'
theorem zap : type_of% @of_decide_eq_true := @of_decide_eq_true
theorem zaq : type_of% @List.map_cons := @List.map_cons
theorem zar : type_of% @List.map_nil := @List.map_nil
theorem zas : type_of% @Kd.C_alloc := @Kd.C_alloc
theorem zat : type_of% @Kd.C_drewN := @Kd.C_drewN
theorem zau : type_of% @gate_callee := @gate_callee
theorem zav : type_of% @Kd.R_lt := @Kd.R_lt
theorem zaw : type_of% @Kd.C_drew := @Kd.C_drew
theorem zax : type_of% @decide_eq_true := @decide_eq_true
theorem zba : type_of% @below_size := @below_size
theorem zbb : type_of% @below_step := @below_step
theorem zbc : type_of% @Kd.R_lower := @Kd.R_lower
theorem zbe : type_of% @Kd.R_slice := @Kd.R_slice
theorem zbi : type_of% @List.length_take := @List.length_take
theorem zbj : type_of% @errW_none := @errW_none
theorem zbk : type_of% @errW_some := @errW_some
theorem zbl : type_of% @List.length_drop := @List.length_drop
theorem zbm : type_of% @Kd.R_mono := @Kd.R_mono
theorem zbn : type_of% @eq_true := @eq_true
theorem zbp : type_of% @Nat.le_refl := @Nat.le_refl
theorem zbq : type_of% @decide_eq_false := @decide_eq_false
theorem zbr : type_of% @Kd.C_below := @Kd.C_below
theorem zbs : type_of% @below_set := @below_set
theorem zbu : type_of% @Bool.eq_false_iff := @Bool.eq_false_iff
theorem zbv : type_of% @bne_eq_false_iff_eq := @bne_eq_false_iff_eq
theorem zbw : type_of% @KeepBut.set_ := @KeepBut.set_
theorem zbx : type_of% @Below.refl := @Below.refl
theorem zbz : type_of% @beq_eq_false_iff_ne := @beq_eq_false_iff_ne
theorem zca : type_of% @Kd.at_int := @Kd.at_int
theorem zcb : type_of% @Kd.R_keptB := @Kd.R_keptB
theorem zcc : type_of% @LeO.refl := @LeO.refl
theorem zcd : type_of% @LeO.bind := @LeO.bind
theorem zce : type_of% @keep_drewN := @keep_drewN
theorem zcf : type_of% @keep_alloc := @keep_alloc
theorem zcg : type_of% @LeO.none := @LeO.none
theorem zci : type_of% @max_three := @max_three
theorem zcj : type_of% @min_three := @min_three
theorem zcl : type_of% @World.drewN_drewN := @World.drewN_drewN
theorem zcm : type_of% @Nat.min_eq_left := @Nat.min_eq_left
theorem zcn : type_of% @keep_drew := @keep_drew
theorem zcp : type_of% @Option.some.injEq := @Option.some.injEq
theorem zcr : type_of% @LeO.ite := @LeO.ite
theorem zcu : type_of% @max2_int := @max2_int
theorem zcv : type_of% @min2_int := @min2_int
theorem zcw : type_of% @max_four := @max_four
theorem zcx : type_of% @min_four := @min_four
theorem zcy : type_of% @KeepBut.trans := @KeepBut.trans
theorem zcz : type_of% @Kd.R_below := @Kd.R_below
theorem zda : type_of% @Int.toNat_le := @Int.toNat_le
theorem zdb : type_of% @Prod.mk.injEq := @Prod.mk.injEq
theorem zdf : type_of% @max_two := @max_two
theorem zdg : type_of% @min_two := @min_two
theorem zdh : type_of% @bne_iff_ne := @bne_iff_ne
theorem zdk : type_of% @gate_builtin := @gate_builtin
theorem zdl : type_of% @of_eq_true := @of_eq_true
theorem zdm : type_of% @List.length_set := @List.length_set
theorem zdn : type_of% @beq_iff_eq := @beq_iff_eq
theorem zdp : type_of% @Reps.none := @Reps.none
theorem zds : type_of% @gate_dst := @gate_dst
theorem zdt : type_of% @take_ofW := @take_ofW
theorem zdv : type_of% @Kd.R_append_rows := @Kd.R_append_rows
theorem zdw : type_of% @Kd.R_after := @Kd.R_after
theorem zdy : type_of% @Reps.one := @Reps.one
theorem zdz : type_of% @Kd.R_tight := @Kd.R_tight
theorem zeb : type_of% @Nat.zero_add := @Nat.zero_add
theorem zec : type_of% @Kd.R_lit := @Kd.R_lit
theorem zeg : type_of% @add_plain := @add_plain
theorem zeh : type_of% @Kd.R_reok := @Kd.R_reok
theorem zei : type_of% @Kd.R_keep := @Kd.R_keep
theorem zek : type_of% @Nat.add_assoc := @Nat.add_assoc
theorem zel : type_of% @Kd.fresh' := @Kd.fresh'
theorem zem : type_of% @Kd.C_of_reads := @Kd.C_of_reads
theorem zeq : type_of% @with_tabW := @with_tabW
theorem zer : type_of% @Kd.R_celln := @Kd.R_celln
theorem zes : type_of% @Kd.V_reads' := @Kd.V_reads'
end Go.Proofs.Ytdineaebljpfaaa.P
