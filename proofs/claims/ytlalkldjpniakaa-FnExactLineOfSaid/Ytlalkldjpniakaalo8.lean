import Derived.Test.Ytlalkldjpniakaalo7
/- Short names for theorems that the texts name often; they state what the long ones state. -/
namespace Go.Proofs.Ytlalkldjpniakaa.P
open Go.RowKit Go.Proofs.YtlalkldjpniakaaW.PrintWords Go.Proofs.YtlalkldjpniakaaW.PrintLast Go.Proofs.YtlalkldjpniakaaW.PrintMore
theorem bind_ofs {α β : Type} {a : α} {f : α → Option β} {r : Option β} (H : (some a).bind f = r) : f a = r := H
theorem Kd.R_ofs {α : Type} {d : Kd α} {e : Nat} {W w1 : World} {base : Nat} {ok : Nat → Prop} {v : Value} {xs : List α} (h : Kd.R d e W base ok v xs) (_ : Below W.heap.size W w1) : Kd.R d e W base ok v xs := h
theorem below_ofs {B : Nat} {w W w1 : World} (h : Below B w W) (_ : Below W.heap.size W w1) : Below B w W := h
theorem zaa : type_of% @pw_below_drewN := @pw_below_drewN
theorem zab : type_of% @blk_frozen := @blk_frozen
theorem zac : type_of% @below_drew1 := @below_drew1
theorem zad : type_of% @below_alloc := @below_alloc
theorem zae : type_of% @List.setIfInBounds_toArray := @List.setIfInBounds_toArray
theorem zaf : type_of% @blk_cell := @blk_cell
theorem zag : type_of% @List.set_cons_zero := @List.set_cons_zero
theorem zah : type_of% @List.set_cons_succ := @List.set_cons_succ
theorem zai : type_of% @Kd.R_alloc := @Kd.R_alloc
theorem zaj : type_of% @Kd.R_drewN := @Kd.R_drewN
theorem zak : type_of% @Nat.le_refl := @Nat.le_refl
theorem zal : type_of% @below_set := @below_set
theorem zam : type_of% @Kd.R_drew := @Kd.R_drew
theorem zan : type_of% @below_size := @below_size
theorem zap : type_of% @of_decide_eq_true := @of_decide_eq_true
theorem zaq : type_of% @Option.bind_eq_some_iff := @Option.bind_eq_some_iff
theorem zar : type_of% @blk_drewN := @blk_drewN
theorem zas : type_of% @blk_alloc := @blk_alloc
theorem zat : type_of% @below_step := @below_step
theorem zav : type_of% @List.map_toArray := @List.map_toArray
theorem zaw : type_of% @blk_drew := @blk_drew
theorem zay : type_of% @decide_eq_true := @decide_eq_true
theorem zaz : type_of% @errW_none := @errW_none
theorem zba : type_of% @errW_some := @errW_some
theorem zbb : type_of% @World.drewN_drewN := @World.drewN_drewN
theorem zbd : type_of% @List.map_cons := @List.map_cons
theorem zbg : type_of% @Kd.R_mono := @Kd.R_mono
theorem zbh : type_of% @List.map_nil := @List.map_nil
theorem zbk : type_of% @Kd.C_below := @Kd.C_below
theorem zbl : type_of% @gate_callee := @gate_callee
theorem zbm : type_of% @Kd.R_elder' := @Kd.R_elder'
theorem zbq : type_of% @blk_below := @blk_below
theorem zbs : type_of% @eq_true := @eq_true
theorem zbt : type_of% @Kd.R_reads' := @Kd.R_reads'
theorem zbu : type_of% @gate_dst := @gate_dst
theorem zbv : type_of% @decide_eq_false := @decide_eq_false
theorem zbw : type_of% @Kd.R_base := @Kd.R_base
theorem zbx : type_of% @beq_eq_false_iff_ne := @beq_eq_false_iff_ne
theorem zby : type_of% @bne_eq_false_iff_eq := @bne_eq_false_iff_eq
theorem zbz : type_of% @Below.refl := @Below.refl
theorem zca : type_of% @Kd.R_lower := @Kd.R_lower
theorem zcb : type_of% @box_event := @box_event
theorem zcd : type_of% @Kd.R_far := @Kd.R_far
theorem zcl : type_of% @Kd.C_alloc := @Kd.C_alloc
theorem zcm : type_of% @Kd.C_drewN := @Kd.C_drewN
theorem zcn : type_of% @Bool.eq_false_iff := @Bool.eq_false_iff
theorem zco : type_of% @Kd.R_lt := @Kd.R_lt
theorem zcr : type_of% @Nat.add_assoc := @Nat.add_assoc
theorem zcs : type_of% @Kd.R_new' := @Kd.R_new'
theorem zcu : type_of% @Kd.C_drew := @Kd.C_drew
theorem zcx : type_of% @Kd.R_below := @Kd.R_below
theorem zcy : type_of% @Kd.R_slice := @Kd.R_slice
theorem zcz : type_of% @max_three := @max_three
theorem zda : type_of% @min_three := @min_three
theorem zdc : type_of% @Kd.R_after := @Kd.R_after
theorem zdd : type_of% @LeO.refl := @LeO.refl
theorem zde : type_of% @LeO.none := @LeO.none
theorem zdf : type_of% @LeO.bind := @LeO.bind
theorem zdg : type_of% @Option.some.injEq := @Option.some.injEq
theorem zdi : type_of% @IntWalk.i64_in := @IntWalk.i64_in
theorem zdk : type_of% @max2_int := @max2_int
theorem zdl : type_of% @min2_int := @min2_int
theorem zdm : type_of% @max_four := @max_four
theorem zdn : type_of% @min_four := @min_four
theorem zdp : type_of% @beq_iff_eq := @beq_iff_eq
theorem zdq : type_of% @Kd.fresh' := @Kd.fresh'
theorem zdr : type_of% @Kd.V_mono := @Kd.V_mono
theorem zds : type_of% @And.intro := @And.intro
theorem zdt : type_of% @Kd.R_types := @Kd.R_types
theorem zdv : type_of% @gate_builtin := @gate_builtin
theorem zdw : type_of% @pw_below_grown := @pw_below_grown
theorem zdx : type_of% @LeO.ite := @LeO.ite
theorem zdy : type_of% @cell_far := @cell_far
theorem zdz : type_of% @Nat.ne_of_lt := @Nat.ne_of_lt
theorem zea : type_of% @Nat.ne_of_gt := @Nat.ne_of_gt
theorem zeb : type_of% @bne_iff_ne := @bne_iff_ne
theorem zec : type_of% @gate_guard := @gate_guard
theorem zed : type_of% @List.not_mem_nil := @List.not_mem_nil
theorem zeh : type_of% @max_two := @max_two
theorem zei : type_of% @min_two := @min_two
theorem zej : type_of% @Reps.none := @Reps.none
theorem zem : type_of% @congrArg := @congrArg
theorem zen : type_of% @Prod.mk.injEq := @Prod.mk.injEq
theorem zeo : type_of% @Eq.trans := @Eq.trans
theorem zeq : type_of% @Kd.R_append_rows := @Kd.R_append_rows
theorem zer : type_of% @Kd.at_int := @Kd.at_int
theorem zet : type_of% @Nat.lt_of_lt_of_le := @Nat.lt_of_lt_of_le
theorem zew : type_of% @blk_put := @blk_put
theorem zey : type_of% @Kd.V_alloc := @Kd.V_alloc
theorem zez : type_of% @Kd.V_drewN := @Kd.V_drewN
theorem zfa : type_of% @bodyPost_ret := @bodyPost_ret
theorem zfc : type_of% @List.mem_cons := @List.mem_cons
theorem zfe : type_of% @and_imp := @and_imp
theorem zff : type_of% @gate_store := @gate_store
theorem zfg : type_of% @Kd.V_drew := @Kd.V_drew
theorem zfj : type_of% @List.length_drop := @List.length_drop
theorem zfl : type_of% @Kd.R_lit := @Kd.R_lit
theorem zfm : type_of% @Kd.R_ne := @Kd.R_ne
theorem zfn : type_of% @blk_far := @blk_far
theorem zfu : type_of% @take_ofW := @take_ofW
theorem zfx : type_of% @steps_cons := @steps_cons
theorem zfy : type_of% @putSel_upk := @putSel_upk
theorem zfz : type_of% @results_ctt := @results_ctt
theorem zga : type_of% @Nat.le_of_eq := @Nat.le_of_eq
theorem zgb : type_of% @List.length_take := @List.length_take
end Go.Proofs.Ytlalkldjpniakaa.P
namespace Go.Proofs.Ytlalkldjpniakaa.P
open Go.RowKit Go.Proofs.YtlalkldjpniakaaW.PrintWords Go.Proofs.YtlalkldjpniakaaW.PrintLast Go.Proofs.YtlalkldjpniakaaW.PrintMore
attribute [local go_sem] zdk zdl zeh zei zcz zda zdm zdn   -- for this text's walks alone
set_option linter.unusedVariables false
set_option linter.unusedSimpArgs false

def laws_toByteS.l0 : Nat → List Int → List Int → Int → Option (List Int)
 | 0, _, _, _ => none
 | k + 1, x0, x3, x4 => if x4 < (x0.length : Int) then (if 0 ≤ x4 then (if x4 < (x3.length : Int) then (laws_toByteS.l0 k x0 (x3.set (x4 : Int).toNat (rd x0 x4)) (wrap64 (x4 + 1))) else (none)) else (none)) else (some x3)
def laws_toByteS.f (k : Nat) (l0 : List Int) : Option (List Int) := if 0 ≤ (l0.length : Int) then (if ((l0.length : Int) : Int).toNat ≤ 281474976710656 then (laws_toByteS.l0 k l0 (List.replicate ((l0.length : Int) : Int).toNat 0) 0) else (none)) else (none)
theorem laws_toByteS.mono_l : ∀ k, (∀ y0 y1 y2, LeO (laws_toByteS.l0 k y0 y1 y2) (laws_toByteS.l0 (k + 1) y0 y1 y2))
 | 0 => fun _ _ _ r h => by simp [laws_toByteS.l0] at h
 | k + 1 => by
  have ih0 := laws_toByteS.mono_l k
  ·intro y0 y1 y2
   unfold laws_toByteS.l0
   repeat' first
   | (with_reducible exact ih0 _ _ _)
   | (with_reducible exact zdd _)
   | (with_reducible exact zde _)
   | (with_reducible refine zdx ?_ ?_)
   | (with_reducible refine zdf ?_ (fun _ => ?_))
   | exact ih0 _ _ _
theorem laws_toByteS.mono : ∀ a0 k, LeO (laws_toByteS.f k a0) (laws_toByteS.f (k + 1) a0) := by
 intro a0 k
 have ih0 := laws_toByteS.mono_l k
 unfold laws_toByteS.f
 repeat' first
   | (with_reducible exact ih0 _ _ _)
   | (with_reducible exact zdd _)
   | (with_reducible exact zde _)
   | (with_reducible refine zdx ?_ ?_)
   | (with_reducible refine zdf ?_ (fun _ => ?_))
   | exact ih0 _ _ _
set_option maxHeartbeats 8000000 in
set_option maxRecDepth 100000 in
theorem laws_toByteS.calls (k : Nat) (A0 : Option Addr) (c0 : Nat) (l0 : List Int) (r : List Int) (w : World) (hr0 : Kd.C (Kd.int .u8) w A0 l0.length l0) (hc0 : l0.length ≤ c0) (h : laws_toByteS.f k l0 = some r) :
  Calls Try.prog 55 #[.slice A0 l0.length c0] w fun e w' => ∃ v0_ : Value, e = .returned (v0_) ∧ Kd.R (Kd.int .u8) 5 w' w.heap.size (fun _ => True) v0_ r ∧ Below w.heap.size w w' := by
 have HR0 := Aside0.mk hr0
 have HC0 := Aside0.mk hc0
 clear hr0 hc0
 have HB := Aside0.mk (zbz w.heap.size w)
 have H : (if 0 ≤ (l0.length : Int) then (if ((l0.length : Int) : Int).toNat ≤ 281474976710656 then (laws_toByteS.l0 k l0 (List.replicate ((l0.length : Int) : Int).toNat 0) 0) else (none)) else (none)) = some r := h
 clear h
 by_cases c2 : 0 ≤ (l0.length : Int)
 ·rw [if_pos c2] at H
  have c2b0 := zbs c2
  have c2b1 : decide (0 ≤ (l0.length : Int)) = true := zay c2
  clear c2
  by_cases c3 : ((l0.length : Int) : Int).toNat ≤ 281474976710656
  ·rw [if_pos c3] at H
   have c3b0 := zbs c3
   have c3b1 : decide (((l0.length : Int) : Int).toNat ≤ 281474976710656) = true := zay c3
   clear c3
   obtain ⟨y107, hy107⟩ : ∃ y_ : List Int, y_ = (List.replicate ((l0.length : Int) : Int).toNat 0) := ⟨_, rfl⟩
   replace H : (laws_toByteS.l0 k l0 y107 0) = some r := by first | (rw [hy107]; with_reducible first | exact H | exact bind_ofs H) | (with_reducible first | exact H | exact bind_ofs H) | (rw [hy107]; exact H) | exact H
   have Ny107 := Aside0.mk hy107
   clear hy107
   have H' := Aside0.mk H
   clear H
   go_enter Try.func55, Try.ntmps55
   go_wp2_with (first | ((with_reducible refine zbu (N := 7) rfl ?_); refine Kd.R_make (Kd.int .u8) _ 5 rfl (N := 7) rfl 29 _ _ rfl (l0.length : Int) rfl rfl Try.underlying29 (.int .u8 0) 1 info5 rfl (by decide) (by omega) 0 (ok := fun _ => True) (okp := fun _ => True) rfl (fun _ hk => hk) trivial (zap (by first | (with_reducible assumption) | assumption)) (Nat.le_trans (Nat.mul_le_mul_right _ (zap (by first | (with_reducible assumption) | assumption) : (l0.length : Int).toNat ≤ 281474976710656)) (by omega)) (zbz _ _) (zak _) ?_; intro v108 w4 ho5 hb hg_ hnew_; have xb_ := below_ofs (by repeat (first | (with_reducible first | exact HB.out | apply zad | apply zaa | apply zac) | exact HB.out)) hb; clear hg_ hnew_; (first | rw [← Ny107.out] at ho5 | (simp only [Int.reduceToNat] at ho5; rw [← Ny107.out] at ho5)); have n0_ := Aside0.mk (zca ho5 (zan xb_)); have n1_ := Aside0.mk (zat xb_ hb); clear HB; have HO109 := n0_; have HB := n1_; clear n0_ n1_; clear xb_ hb ho5))
   go_loopg [4] k (fun kq v4 w' => ∃ (x3_1 : List Int) (x4_1 : Int), v4 = .int .i64 x4_1 ∧ Aside0 (laws_toByteS.l0 kq l0 x3_1 x4_1 = some r) ∧ Aside0 (kq ≤ k) ∧ Aside0 (Kd.R (Kd.int .u8) 5 w' w.heap.size (fun _ => True) v108 x3_1) ∧ Aside0 (Below w.heap.size w w'))
   case atStart => exact ⟨(y107), (0), (by first | rfl | (simp; done) | (simp [*]; done)), H', ⟨zak _⟩, ⟨by (with_reducible repeat (first | apply zai | apply zaj | apply zam)); exact HO109.out⟩, ⟨by repeat (first | (with_reducible first | exact HB.out | apply zad | apply zaa | apply zac) | exact HB.out)⟩⟩
   case round =>
    clear H'
    try clear c2
    try clear c2b0
    try clear c2b1
    try clear p2
    try clear c3
    try clear c3b0
    try clear c3b1
    try clear c5
    obtain ⟨x3_1, x4_1, rfl, HA, HK1, HO_3, HB⟩ := hrel
    cases gk with
    | zero => exact absurd HA.out (by simp [laws_toByteS.l0])
    | succ k1 =>
     have H := HA.out
     clear HA
     simp only [laws_toByteS.l0] at H
     by_cases c6 : x4_1 < (l0.length : Int)
     ·rw [if_pos c6] at H
      have c6b0 : decide (x4_1 < (l0.length : Int)) = true := zay c6
      clear c6
      by_cases c7 : 0 ≤ x4_1
      ·rw [if_pos c7] at H
       have c7b0 : decide (0 ≤ x4_1) = true := zay c7
       clear c7
       by_cases c8 : x4_1 < (x3_1.length : Int)
       ·rw [if_pos c8] at H
        have c8b0 : decide (x4_1 < (x3_1.length : Int)) = true := zay c8
        clear c8
        obtain ⟨y111, hy111⟩ : ∃ y_ : List Int, y_ = (x3_1.set (x4_1 : Int).toNat (rd l0 x4_1)) := ⟨_, rfl⟩
        replace H : (laws_toByteS.l0 k1 l0 y111 (wrap64 (x4_1 + 1))) = some r := by first | (rw [hy111]; with_reducible first | exact H | exact bind_ofs H) | (with_reducible first | exact H | exact bind_ofs H) | (rw [hy111]; exact H) | exact H
        have Ny111 := Aside0.mk hy111
        clear hy111
        have H' := Aside0.mk H
        clear H
        have p110 : 0 ≤ (x4_1 : Int) := zap (by first | (with_reducible assumption) | assumption)
        have q110 : x4_1 < (l0.length : Int) := zap (by first | (with_reducible assumption) | assumption)
        obtain ⟨ad110, e110, hx110_0⟩ := zer HR0.out x4_1 p110 q110
        cases e110
        replace hx110_0 := (HB.out.cell (World.block_lt_of_cell? w _ hx110_0)).trans hx110_0
        replace p110 := zbs p110
        replace q110 := zbs q110
        have p9 : 0 ≤ (x4_1 : Int) := zap (by first | (with_reducible assumption) | assumption)
        have q9 : (x4_1 : Int) < ((x3_1.length : Int) : Int) := zap (by first | (with_reducible assumption) | assumption)
        obtain ⟨go9, co9, eo9, gb9, gl9, cl9, HG9⟩ := Kd.R_form HO_3.out (by omega)
        (first | cases eo9 | (injection eo9 with ea_ en_ ec_; (first | subst ea_ | (injection ea_ with ea_; subst ea_)); subst ec_; clear en_))
        have GB9 := Aside0.mk gb9
        have GG9 := Aside0.mk HG9
        clear gb9 gl9 HG9
        obtain ⟨hx9_0, hf9_0⟩ := Kd.R_celln 0 HO_3.out (x4_1 : Int) p9 q9
        replace p9 := zbs p9
        replace q9 := zbs q9
        have HP10 := Kd.R_putg HO_3.out (x4_1 : Int) (rd l0 x4_1)
        go_wp2_with (first | ((with_reducible refine zff (t := 5) (p := 20) rfl ?_); refine store_event (t := 5) (p := 20) (v := ?vo_w11) (w1 := (wr.setCell ⟨go9, (x4_1 : Int).toNat, none⟩ (.int .u8 (rd l0 x4_1)))) ?hg ?ho ?hn ?hr ?_; (case ho => rfl); (case hg => rfl); (case hn => rfl); (case hr => first | (go_simp; done) | (go_simp; rfl)); intro w11 hw; have hg : wr.grownBy w11 (some go9) := (by rw [hw]; exact HP10.2); have hp_ : Kd.R (Kd.int .u8) 5 w11 w.heap.size (fun _ => True) (.slice (some ⟨go9, 0, none⟩) x3_1.length co9) y111 := (by rw [hw, Ny111.out]; exact HP10.1); clear HP10; have n0_ := Aside0.mk (hp_); have n1_ := Aside0.mk ((by rw [hw]; exact zal (HB.out) GB9.out : Below w.heap.size w w11)); clear HO_3 HB; have HO_3 := n0_; have HB := n1_; clear n0_ n1_; clear hg hw hp_))
        go_roundg k1
        case measure => have := HK1.out; omega
        case rel => exact ⟨(y111), (wrap64 (x4_1 + 1)), (by first | rfl | (simp; done) | (simp [*]; done)), H', ⟨by have := HK1.out; omega⟩, ⟨by (with_reducible repeat (first | apply zai | apply zaj | apply zam)); exact HO_3.out⟩, ⟨by repeat (first | (with_reducible first | exact HB.out | apply zad | apply zaa | apply zac) | exact HB.out)⟩⟩
       ·rw [if_neg c8] at H
        exact absurd H (by simp)
      ·rw [if_neg c7] at H
       exact absurd H (by simp)
     ·rw [if_neg c6] at H
      have c6b0 : decide (x4_1 < (l0.length : Int)) = false := zbv c6
      clear c6
      obtain rfl := Option.some.inj H
      go_wp2
      go_ret
      exact ⟨_, by first | rfl | (simp [zaz, zba] <;> rfl) | (simp [*, zaz, zba] <;> rfl), by (with_reducible repeat (first | apply zai | apply zaj | apply zam)); exact HO_3.out, by repeat (first | (with_reducible first | exact HB.out | apply zad | apply zaa | apply zac) | exact HB.out)⟩
  ·rw [if_neg c3] at H
   exact absurd H (by simp)
 ·rw [if_neg c2] at H
  exact absurd H (by simp)
end Go.Proofs.Ytlalkldjpniakaa.P
