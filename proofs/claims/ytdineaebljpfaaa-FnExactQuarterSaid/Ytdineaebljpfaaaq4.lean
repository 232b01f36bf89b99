import Derived.Test.YtdineaebljpfaaaProg
import Derived.Lib.Bytealg
import Derived.Lib.SliceRun
import Derived.Lib.SlBuf
import Derived.Lib.MakeNoZero
import Derived.Test.Ytdineaebljpfaaaq3
namespace Go.Proofs.Ytdineaebljpfaaa.P
open Go.RowKit Go.Proofs.YtdineaebljpfaaaW.PrintWords Go.Proofs.YtdineaebljpfaaaW.PrintLast Go.Proofs.YtdineaebljpfaaaW.PrintMore
attribute [local go_sem] max2_int min2_int max_two min_two max_three min_three max_four min_four   -- for this text's walks alone
set_option linter.unusedVariables false
set_option linter.unusedSimpArgs false



def errW : Option Int → Value
 | none => .nilIface
 | some c => .iface 0 (.int .i64 c)
theorem errW_none : errW none = .nilIface := rfl
theorem errW_some (c : Int) : errW (some c) = .iface 0 (.int .i64 c) := rfl

theorem info3 : (Try.prog.info? 3).map (fun i => (i.zero, i.size, i.bytes)) = some (some (.int .i64 0), 1, 8) := by kernel_rfl
theorem info5 : (Try.prog.info? 5).map (fun i => (i.zero, i.size, i.bytes)) = some (some (.int .u8 0), 1, 1) := by kernel_rfl
theorem info22 : (Try.prog.info? 22).map (fun i => (i.zero, i.size, i.bytes)) = some (some (.slice none 0 0), 1, 24) := by kernel_rfl
-- the values' own types
def rd_L1 (xs : List (List Int)) (i : Int) : (List Int) := xs.getD i.toNat ([] : List Int)
theorem at_L1 {w : World} {A : Option Addr} {n : Nat} {xs : List (List Int)} (h : Kd.C (Kd.slice 5 (Kd.int .u8)) w A n xs) (i : Int) (h0 : 0 ≤ i) (h1 : i < n) : ∃ ad A0 c0, A = some ad ∧ w.cell? (ad.add i.toNat) = some (.slice A0 (rd_L1 xs i).length c0) ∧ (rd_L1 xs i).length ≤ c0 ∧ (Kd.int .u8).C w A0 (rd_L1 xs i).length (rd_L1 xs i) := by
 obtain ⟨ad, c, e, _, hK, hc0⟩ := Kd.C_get h ([] : List Int) i h0 h1
 have hc : ∀ j u, c[j]? = some u → w.cell? (ad.add (i.toNat * 1 + j)) = some u := hc0
 obtain ⟨A0, c0, rfl, l0, g0⟩ := hK
 exact ⟨ad, A0, c0, e, by have hq := hc 0 _ rfl; rwa [Nat.mul_one, Nat.add_zero] at hq, l0, g0⟩

def rd_L2 (xs : List (List (List Int))) (i : Int) : (List (List Int)) := xs.getD i.toNat ([] : List (List Int))
theorem at_L2 {w : World} {A : Option Addr} {n : Nat} {xs : List (List (List Int))} (h : Kd.C (Kd.slice 22 (Kd.slice 5 (Kd.int .u8))) w A n xs) (i : Int) (h0 : 0 ≤ i) (h1 : i < n) : ∃ ad A0 c0, A = some ad ∧ w.cell? (ad.add i.toNat) = some (.slice A0 (rd_L2 xs i).length c0) ∧ (rd_L2 xs i).length ≤ c0 ∧ (Kd.slice 5 (Kd.int .u8)).C w A0 (rd_L2 xs i).length (rd_L2 xs i) := by
 obtain ⟨ad, c, e, _, hK, hc0⟩ := Kd.C_get h ([] : List (List Int)) i h0 h1
 have hc : ∀ j u, c[j]? = some u → w.cell? (ad.add (i.toNat * 1 + j)) = some u := hc0
 obtain ⟨A0, c0, rfl, l0, g0⟩ := hK
 exact ⟨ad, A0, c0, e, by have hq := hc 0 _ rfl; rwa [Nat.mul_one, Nat.add_zero] at hq, l0, g0⟩

def rd_L4 (xs : List (List Int)) (i : Int) : (List Int) := xs.getD i.toNat ([] : List Int)
theorem at_L4 {w : World} {A : Option Addr} {n : Nat} {xs : List (List Int)} (h : Kd.C (Kd.slice 3 (Kd.int .i64)) w A n xs) (i : Int) (h0 : 0 ≤ i) (h1 : i < n) : ∃ ad A0 c0, A = some ad ∧ w.cell? (ad.add i.toNat) = some (.slice A0 (rd_L4 xs i).length c0) ∧ (rd_L4 xs i).length ≤ c0 ∧ (Kd.int .i64).C w A0 (rd_L4 xs i).length (rd_L4 xs i) := by
 obtain ⟨ad, c, e, _, hK, hc0⟩ := Kd.C_get h ([] : List Int) i h0 h1
 have hc : ∀ j u, c[j]? = some u → w.cell? (ad.add (i.toNat * 1 + j)) = some u := hc0
 obtain ⟨A0, c0, rfl, l0, g0⟩ := hK
 exact ⟨ad, A0, c0, e, by have hq := hc 0 _ rfl; rwa [Nat.mul_one, Nat.add_zero] at hq, l0, g0⟩
end Go.Proofs.Ytdineaebljpfaaa.P
/- Short names for theorems that the texts name often; they state what the long ones state. -/
namespace Go.Proofs.Ytdineaebljpfaaa.P
open Go.RowKit Go.Proofs.YtdineaebljpfaaaW.PrintWords Go.Proofs.YtdineaebljpfaaaW.PrintLast Go.Proofs.YtdineaebljpfaaaW.PrintMore
theorem bind_ofs {α β : Type} {a : α} {f : α → Option β} {r : Option β} (H : (some a).bind f = r) : f a = r := H
theorem Kd.R_ofs {α : Type} {d : Kd α} {e : Nat} {W w1 : World} {base : Nat} {ok : Nat → Prop} {v : Value} {xs : List α} (h : Kd.R d e W base ok v xs) (_ : Below W.heap.size W w1) : Kd.R d e W base ok v xs := h
theorem below_ofs {B : Nat} {w W w1 : World} (h : Below B w W) (_ : Below W.heap.size W w1) : Below B w W := h
theorem zaa : type_of% @List.setIfInBounds_toArray := @List.setIfInBounds_toArray
theorem zab : type_of% @List.set_cons_zero := @List.set_cons_zero
theorem zac : type_of% @List.set_cons_succ := @List.set_cons_succ
theorem zad : type_of% @of_decide_eq_true := @of_decide_eq_true
theorem zae : type_of% @pw_below_drewN := @pw_below_drewN
theorem zaf : type_of% @Kd.R_reads' := @Kd.R_reads'
theorem zag : type_of% @below_drew1 := @below_drew1
theorem zah : type_of% @List.map_toArray := @List.map_toArray
theorem zai : type_of% @Option.bind_eq_some_iff := @Option.bind_eq_some_iff
theorem zaj : type_of% @below_alloc := @below_alloc
theorem zak : type_of% @List.map_cons := @List.map_cons
theorem zal : type_of% @Kd.R_alloc := @Kd.R_alloc
theorem zam : type_of% @Kd.R_drewN := @Kd.R_drewN
theorem zan : type_of% @Kd.R_drew := @Kd.R_drew
theorem zao : type_of% @List.map_nil := @List.map_nil
theorem zar : type_of% @decide_eq_true := @decide_eq_true
theorem zas : type_of% @eq_true := @eq_true
theorem zat : type_of% @gate_callee := @gate_callee
theorem zau : type_of% @Kd.C_alloc := @Kd.C_alloc
theorem zav : type_of% @Kd.C_drewN := @Kd.C_drewN
theorem zaw : type_of% @List.length_take := @List.length_take
theorem zax : type_of% @List.length_drop := @List.length_drop
theorem zay : type_of% @Kd.R_elder' := @Kd.R_elder'
theorem zba : type_of% @Kd.C_drew := @Kd.C_drew
theorem zbc : type_of% @World.drewN_drewN := @World.drewN_drewN
theorem zbf : type_of% @Kd.R_base := @Kd.R_base
theorem zbg : type_of% @Kd.R_new' := @Kd.R_new'
theorem zbi : type_of% @bne_eq_false_iff_eq := @bne_eq_false_iff_eq
theorem zbj : type_of% @beq_eq_false_iff_ne := @beq_eq_false_iff_ne
theorem zbk : type_of% @errW_none := @errW_none
theorem zbl : type_of% @errW_some := @errW_some
theorem zbm : type_of% @below_size := @below_size
theorem zbn : type_of% @Nat.le_refl := @Nat.le_refl
theorem zbo : type_of% @Kd.R_slice := @Kd.R_slice
theorem zbp : type_of% @Kd.at_int := @Kd.at_int
theorem zbq : type_of% @List.length_set := @List.length_set
theorem zbr : type_of% @Kd.R_lower := @Kd.R_lower
theorem zbs : type_of% @below_step := @below_step
theorem zbt : type_of% @Kd.R_lt := @Kd.R_lt
theorem zbv : type_of% @Bool.eq_false_iff := @Bool.eq_false_iff
theorem zby : type_of% @decide_eq_false := @decide_eq_false
theorem zcb : type_of% @Nat.min_eq_left := @Nat.min_eq_left
theorem zcc : type_of% @Nat.zero_add := @Nat.zero_add
theorem zce : type_of% @Nat.add_assoc := @Nat.add_assoc
theorem zcf : type_of% @add_plain := @add_plain
theorem zcg : type_of% @max_three := @max_three
theorem zch : type_of% @min_three := @min_three
theorem zci : type_of% @Int.toNat_le := @Int.toNat_le
theorem zcj : type_of% @Kd.R_mono := @Kd.R_mono
theorem zck : type_of% @take_ofW := @take_ofW
theorem zcl : type_of% @LeO.refl := @LeO.refl
theorem zcm : type_of% @LeO.none := @LeO.none
theorem zcn : type_of% @LeO.bind := @LeO.bind
theorem zcp : type_of% @beq_iff_eq := @beq_iff_eq
theorem zcq : type_of% @bne_iff_ne := @bne_iff_ne
end Go.Proofs.Ytdineaebljpfaaa.P
namespace Go.Proofs.Ytdineaebljpfaaa.P
open Go.RowKit Go.Proofs.YtdineaebljpfaaaW.PrintWords Go.Proofs.YtdineaebljpfaaaW.PrintLast Go.Proofs.YtdineaebljpfaaaW.PrintMore
attribute [local go_sem] max2_int min2_int max_two min_two zcg zch max_four min_four   -- for this text's walks alone
set_option linter.unusedVariables false
set_option linter.unusedSimpArgs false

def spec_l1In.f (a0 : Int) (a1 : Int) (a2 : Int) : Option (Bool) := if a0 ≥ a1 then (some (decide (a0 ≤ a2))) else (some false)
set_option maxHeartbeats 8000000 in
set_option maxRecDepth 100000 in
theorem spec_l1In.calls (a0 : Int) (a1 : Int) (a2 : Int) (r : Bool) (w : World) (h : spec_l1In.f a0 a1 a2 = some r) :
  Calls Try.prog 37 #[.int .i64 a0, .int .i64 a1, .int .i64 a2] w fun e w' => e = .returned (.bool r) ∧ Drawn0 w w' := by
 have H : (if a0 ≥ a1 then (some (decide (a0 ≤ a2))) else (some false)) = some r := h
 clear h
 by_cases c4 : a0 ≥ a1
 ·rw [if_pos c4] at H
  have c4b0 : decide (a1 ≤ a0) = true := zar c4
  clear c4
  obtain rfl := Option.some.inj H
  go_enter Try.func37, Try.ntmps37
  go_wp2
  go_ret
  exact ⟨by first | rfl | (simp; done) | (simp [*]; done), by repeat (first | exact Drawn0.refl _ | apply Drawn0.step)⟩
 ·rw [if_neg c4] at H
  have c4b0 : decide (a1 ≤ a0) = false := zby c4
  clear c4
  obtain rfl := Option.some.inj H
  go_enter Try.func37, Try.ntmps37
  go_wp2
  go_ret
  exact ⟨by first | rfl | (simp; done) | (simp [*]; done), by repeat (first | exact Drawn0.refl _ | apply Drawn0.step)⟩
def spec_Word.f (a0 : Int) : Option (Int) := some (Go.bits .and .i64 a0 4294967295)
set_option maxHeartbeats 8000000 in
set_option maxRecDepth 100000 in
theorem spec_Word.calls (a0 : Int) (r : Int) (w : World) (h : spec_Word.f a0 = some r) :
  Calls Try.prog 38 #[.int .i64 a0] w fun e w' => e = .returned (.int .i64 r) ∧ Drawn0 w w' := by
 have H : (some (Go.bits .and .i64 a0 4294967295)) = some r := h
 clear h
 obtain rfl := Option.some.inj H
 go_enter Try.func38, Try.ntmps38
 go_wp2
 go_ret
 exact ⟨by first | rfl | (simp; done) | (simp [*]; done), by repeat (first | exact Drawn0.refl _ | apply Drawn0.step)⟩
def spec_Turn.f (a0 : Int) (a1 : Int) : Option (Int) := (spec_Word.f a0).bind fun t224 => (if 0 ≤ (Go.bits .and .i64 a1 31) then (if 0 ≤ (wrap64 (32 - (Go.bits .and .i64 a1 31))) then ((spec_Word.f (Go.bits .or .i64 (shl .i64 t224 (Go.bits .and .i64 a1 31)) (shr .i64 t224 (wrap64 (32 - (Go.bits .and .i64 a1 31)))))).bind fun t225 => (some t225)) else (none)) else (none))
set_option maxHeartbeats 8000000 in
set_option maxRecDepth 100000 in
theorem spec_Turn.calls (a0 : Int) (a1 : Int) (r : Int) (w : World) (h : spec_Turn.f a0 a1 = some r) :
  Calls Try.prog 39 #[.int .i64 a0, .int .i64 a1] w fun e w' => e = .returned (.int .i64 r) ∧ Drawn0 w w' := by
 have H : ((spec_Word.f a0).bind fun t224 => (if 0 ≤ (Go.bits .and .i64 a1 31) then (if 0 ≤ (wrap64 (32 - (Go.bits .and .i64 a1 31))) then ((spec_Word.f (Go.bits .or .i64 (shl .i64 t224 (Go.bits .and .i64 a1 31)) (shr .i64 t224 (wrap64 (32 - (Go.bits .and .i64 a1 31)))))).bind fun t225 => (some t225)) else (none)) else (none))) = some r := h
 clear h
 replace H := zai.mp H
 obtain ⟨t224, A30, H⟩ := H
 try dsimp only at H
 have A3 := Aside0.mk A30
 clear A30
 by_cases c4 : 0 ≤ (Go.bits .and .i64 a1 31)
 ·rw [if_pos c4] at H
  have c4b0 := zas c4
  have c4b1 : decide (0 ≤ (Go.bits .and .i64 a1 31)) = true := zar c4
  clear c4
  obtain ⟨ji5, hji5⟩ : ∃ j_ : Int, (shl .i64 t224 (Go.bits .and .i64 a1 31)) = j_ := ⟨_, rfl⟩
  replace H : (if 0 ≤ (wrap64 (32 - (Go.bits .and .i64 a1 31))) then ((spec_Word.f (Go.bits .or .i64 (ji5) (shr .i64 t224 (wrap64 (32 - (Go.bits .and .i64 a1 31)))))).bind fun t225 => (some t225)) else (none)) = some r := by first | (rw [hji5] at H; exact H) | (simp only [hji5] at H ⊢; exact H)
  (try rw [hji5] at A3)
  have hji5_ : (IntKind.i64.wrap (t224 * 2 ^ min (Go.bits .and .i64 a1 31).toNat 64)) = ji5 := hji5
  have hji5z : (Go.bits .and .i64 a1 31) ≤ 64 → (IntKind.i64.wrap (t224 * 2 ^ (Go.bits .and .i64 a1 31).toNat)) = ji5 := shl_small hji5
  have hji5y : (wrap64 (t224 * 2 ^ min (Go.bits .and .i64 a1 31).toNat 64)) = ji5 := (i64_w _).symm.trans hji5_
  have hji5x : (Go.bits .and .i64 a1 31) ≤ 64 → (wrap64 (t224 * 2 ^ (Go.bits .and .i64 a1 31).toNat)) = ji5 := fun h_ => (i64_w _).symm.trans (hji5z h_)
  obtain ⟨ji6, hji6⟩ : ∃ j_ : Int, (wrap64 (32 - (Go.bits .and .i64 a1 31))) = j_ := ⟨_, rfl⟩
  replace H : (if 0 ≤ (ji6) then ((spec_Word.f (Go.bits .or .i64 (ji5) (shr .i64 t224 (ji6)))).bind fun t225 => (some t225)) else (none)) = some r := by first | (rw [hji6] at H; exact H) | (simp only [hji6] at H ⊢; exact H)
  (try rw [hji6] at A3)
  have hji6w : (IntKind.i64.wrap (32 - (Go.bits .and .i64 a1 31))) = ji6 := (i64_w _).trans hji6
  by_cases c7 : 0 ≤ (ji6)
  ·rw [if_pos c7] at H
   have c7b0 := zas c7
   have c7b1 : decide (0 ≤ (ji6)) = true := zar c7
   clear c7
   obtain ⟨ji8, hji8⟩ : ∃ j_ : Int, (shr .i64 t224 (ji6)) = j_ := ⟨_, rfl⟩
   replace H : ((spec_Word.f (Go.bits .or .i64 (ji5) (ji8))).bind fun t225 => (some t225)) = some r := by first | (rw [hji8] at H; exact H) | (simp only [hji8] at H ⊢; exact H)
   (try rw [hji8] at A3)
   have hji8_ : (t224 / 2 ^ min (ji6).toNat 64) = ji8 := hji8
   have hji8z : (ji6) ≤ 64 → (t224 / 2 ^ (ji6).toNat) = ji8 := shr_small hji8
   replace H := zai.mp H
   obtain ⟨t225, A90, H⟩ := H
   try dsimp only at H
   have A9 := Aside0.mk A90
   clear A90
   obtain rfl := Option.some.inj H
   go_enter Try.func39, Try.ntmps39
   go_wp2_with (first | (go_at_call 38; (with_reducible refine (spec_Word.calls a0 t224 _ A3.out).mono ?_); rintro e w' ⟨rfl, ⟨nd, rfl⟩⟩; (try first | exact ⟨rfl, _, zbc _ _ _⟩ | exact ⟨rfl, _, Eq.trans (zbc _ _ _) (congrArg (World.drewN _) (zce _ _ _))⟩)) | (go_at_call 38; (with_reducible refine (spec_Word.calls (Go.bits .or .i64 (ji5) (ji8)) t225 _ A9.out).mono ?_); rintro e w' ⟨rfl, ⟨nd, rfl⟩⟩; (try first | exact ⟨rfl, _, zbc _ _ _⟩ | exact ⟨rfl, _, Eq.trans (zbc _ _ _) (congrArg (World.drewN _) (zce _ _ _))⟩)))
   repeat (go_quiet (first | (go_at_call 38; (with_reducible refine (spec_Word.calls a0 t224 _ A3.out).mono ?_); rintro e w' ⟨rfl, ⟨nd, rfl⟩⟩; (try first | exact ⟨rfl, _, zbc _ _ _⟩ | exact ⟨rfl, _, Eq.trans (zbc _ _ _) (congrArg (World.drewN _) (zce _ _ _))⟩)) | (go_at_call 38; (with_reducible refine (spec_Word.calls (Go.bits .or .i64 (ji5) (ji8)) t225 _ A9.out).mono ?_); rintro e w' ⟨rfl, ⟨nd, rfl⟩⟩; (try first | exact ⟨rfl, _, zbc _ _ _⟩ | exact ⟨rfl, _, Eq.trans (zbc _ _ _) (congrArg (World.drewN _) (zce _ _ _))⟩))); try go_wp2_with (first | (go_at_call 38; (with_reducible refine (spec_Word.calls a0 t224 _ A3.out).mono ?_); rintro e w' ⟨rfl, ⟨nd, rfl⟩⟩; (try first | exact ⟨rfl, _, zbc _ _ _⟩ | exact ⟨rfl, _, Eq.trans (zbc _ _ _) (congrArg (World.drewN _) (zce _ _ _))⟩)) | (go_at_call 38; (with_reducible refine (spec_Word.calls (Go.bits .or .i64 (ji5) (ji8)) t225 _ A9.out).mono ?_); rintro e w' ⟨rfl, ⟨nd, rfl⟩⟩; (try first | exact ⟨rfl, _, zbc _ _ _⟩ | exact ⟨rfl, _, Eq.trans (zbc _ _ _) (congrArg (World.drewN _) (zce _ _ _))⟩))))
   go_ret
   exact ⟨by first | rfl | (simp; done) | (simp only [← hji5, ← hji6, ← hji8] <;> (first | rfl | simp)) | (simp [*]; done), by repeat (first | exact Drawn0.refl _ | apply Drawn0.step)⟩
  ·rw [if_neg c7] at H
   exact absurd H (by simp)
 ·rw [if_neg c4] at H
  exact absurd H (by simp)
end Go.Proofs.Ytdineaebljpfaaa.P
