import Derived.Test.Ytlalkldjpniakaadu6
/- Short names for theorems that the texts name often; they state what the long ones state. -/
namespace Go.Proofs.Ytlalkldjpniakaa.P
open Go.RowKit Go.Proofs.YtlalkldjpniakaaW.PrintWords Go.Proofs.YtlalkldjpniakaaW.PrintLast Go.Proofs.YtlalkldjpniakaaW.PrintMore
theorem bind_ofs {α β : Type} {a : α} {f : α → Option β} {r : Option β} (H : (some a).bind f = r) : f a = r := H
theorem Kd.R_ofs {α : Type} {d : Kd α} {e : Nat} {W w1 : World} {base : Nat} {ok : Nat → Prop} {v : Value} {xs : List α} (h : Kd.R d e W base ok v xs) (_ : Below W.heap.size W w1) : Kd.R d e W base ok v xs := h
theorem below_ofs {B : Nat} {w W w1 : World} (h : Below B w W) (_ : Below W.heap.size W w1) : Below B w W := h
theorem zab : type_of% @pw_below_drewN := @pw_below_drewN
theorem zac : type_of% @below_drew1 := @below_drew1
theorem zad : type_of% @of_decide_eq_true := @of_decide_eq_true
theorem zae : type_of% @below_alloc := @below_alloc
theorem zaf : type_of% @List.setIfInBounds_toArray := @List.setIfInBounds_toArray
theorem zag : type_of% @blk_frozen := @blk_frozen
theorem zai : type_of% @below_step := @below_step
theorem zaj : type_of% @below_set := @below_set
theorem zak : type_of% @Option.bind_eq_some_iff := @Option.bind_eq_some_iff
theorem zal : type_of% @below_size := @below_size
theorem zam : type_of% @World.drewN_drewN := @World.drewN_drewN
theorem zan : type_of% @List.set_cons_zero := @List.set_cons_zero
theorem zao : type_of% @List.set_cons_succ := @List.set_cons_succ
theorem zap : type_of% @blk_drewN := @blk_drewN
theorem zaq : type_of% @blk_alloc := @blk_alloc
theorem zar : type_of% @blk_cell := @blk_cell
theorem zas : type_of% @decide_eq_true := @decide_eq_true
theorem zat : type_of% @blk_drew := @blk_drew
theorem zau : type_of% @eq_true := @eq_true
theorem zaz : type_of% @List.map_toArray := @List.map_toArray
theorem zba : type_of% @errW_none := @errW_none
theorem zbb : type_of% @errW_some := @errW_some
theorem zbd : type_of% @List.map_cons := @List.map_cons
theorem zbe : type_of% @Kd.C_below := @Kd.C_below
theorem zbf : type_of% @decide_eq_false := @decide_eq_false
theorem zbg : type_of% @List.map_nil := @List.map_nil
theorem zbh : type_of% @Nat.le_refl := @Nat.le_refl
theorem zbi : type_of% @Kd.S_alloc := @Kd.S_alloc
theorem zbj : type_of% @Kd.S_drewN := @Kd.S_drewN
theorem zbk : type_of% @pw_cell_below := @pw_cell_below
theorem zbl : type_of% @Kd.C_alloc := @Kd.C_alloc
theorem zbn : type_of% @Kd.R_mono := @Kd.R_mono
theorem zbp : type_of% @Kd.S_drew := @Kd.S_drew
theorem zbq : type_of% @Below.refl := @Below.refl
theorem zbr : type_of% @Kd.C_drewN := @Kd.C_drewN
theorem zbs : type_of% @Nat.add_assoc := @Nat.add_assoc
theorem zbt : type_of% @gate_callee := @gate_callee
theorem zbv : type_of% @Kd.R_lower := @Kd.R_lower
theorem zbw : type_of% @Kd.C_drew := @Kd.C_drew
theorem zbx : type_of% @blk_below := @blk_below
theorem zby : type_of% @List.length_take := @List.length_take
theorem zca : type_of% @gate_dst := @gate_dst
theorem zcb : type_of% @List.length_drop := @List.length_drop
theorem zce : type_of% @Kd.R_alloc := @Kd.R_alloc
theorem zcf : type_of% @Kd.R_drewN := @Kd.R_drewN
theorem zch : type_of% @bne_eq_false_iff_eq := @bne_eq_false_iff_eq
theorem zci : type_of% @beq_eq_false_iff_ne := @beq_eq_false_iff_ne
theorem zcj : type_of% @Kd.R_apart' := @Kd.R_apart'
theorem zck : type_of% @Kd.R_slice := @Kd.R_slice
theorem zcl : type_of% @LeO.refl := @LeO.refl
theorem zcm : type_of% @LeO.bind := @LeO.bind
theorem zcn : type_of% @Kd.R_types := @Kd.R_types
theorem zco : type_of% @Kd.S_reads' := @Kd.S_reads'
theorem zcp : type_of% @gate_builtin := @gate_builtin
theorem zcq : type_of% @Kd.R_drew := @Kd.R_drew
theorem zcs : type_of% @max_three := @max_three
theorem zct : type_of% @min_three := @min_three
theorem zcu : type_of% @box_event := @box_event
theorem zcv : type_of% @Kd.S_typed := @Kd.S_typed
theorem zcw : type_of% @LeO.none := @LeO.none
theorem zcx : type_of% @Kd.S_mono := @Kd.S_mono
theorem zcy : type_of% @Option.some.injEq := @Option.some.injEq
theorem zcz : type_of% @Prod.mk.injEq := @Prod.mk.injEq
theorem zda : type_of% @Kd.S_below := @Kd.S_below
theorem zdb : type_of% @LeO.ite := @LeO.ite
theorem zdd : type_of% @max2_int := @max2_int
theorem zde : type_of% @min2_int := @min2_int
theorem zdf : type_of% @max_four := @max_four
theorem zdg : type_of% @min_four := @min_four
theorem zdi : type_of% @Bool.eq_false_iff := @Bool.eq_false_iff
theorem zdl : type_of% @Kd.R_base := @Kd.R_base
theorem zdm : type_of% @Eq.trans := @Eq.trans
theorem zdn : type_of% @congrArg := @congrArg
theorem zdo : type_of% @Nat.lt_of_lt_of_le := @Nat.lt_of_lt_of_le
theorem zdp : type_of% @Nat.le_trans := @Nat.le_trans
theorem zdq : type_of% @Kd.S_append := @Kd.S_append
theorem zdr : type_of% @List.not_mem_nil := @List.not_mem_nil
theorem zdv : type_of% @max_two := @max_two
theorem zdw : type_of% @min_two := @min_two
theorem zdx : type_of% @Kd.S_elder' := @Kd.S_elder'
theorem zdy : type_of% @Kd.R_tight := @Kd.R_tight
theorem zeb : type_of% @Nat.min_eq_left := @Nat.min_eq_left
theorem zec : type_of% @Kd.S_lower := @Kd.S_lower
theorem zed : type_of% @Reps.none := @Reps.none
theorem zeg : type_of% @List.mem_cons := @List.mem_cons
theorem zei : type_of% @beq_iff_eq := @beq_iff_eq
theorem zej : type_of% @bne_iff_ne := @bne_iff_ne
theorem zel : type_of% @pw_below_grown := @pw_below_grown
theorem zes : type_of% @Kd.freshB := @Kd.freshB
theorem zeu : type_of% @blk_grown := @blk_grown
theorem zew : type_of% @Kd.S_bound := @Kd.S_bound
theorem zex : type_of% @Kd.V_reads' := @Kd.V_reads'
theorem zey : type_of% @blk_put := @blk_put
theorem zez : type_of% @Int.toNat_le := @Int.toNat_le
theorem zfc : type_of% @k34_mkM := @k34_mkM
theorem zfh : type_of% @Kd.S_away := @Kd.S_away
theorem zfj : type_of% @Kd.R_far := @Kd.R_far
theorem zfk : type_of% @gate_store := @gate_store
theorem zfl : type_of% @Kd.V_below := @Kd.V_below
end Go.Proofs.Ytlalkldjpniakaa.P
namespace Go.Proofs.Ytlalkldjpniakaa.P
open Go.RowKit Go.Proofs.YtlalkldjpniakaaW.PrintWords Go.Proofs.YtlalkldjpniakaaW.PrintLast Go.Proofs.YtlalkldjpniakaaW.PrintMore
attribute [local go_sem] zdd zde zdv zdw zcs zct zdf zdg   -- for this text's walks alone
set_option linter.unusedVariables false
set_option linter.unusedSimpArgs false

def laws_szByteS.f (l0 : List Int) (a1 : Int) : Option (Int) := if (wrap64 (a1 - (l0.length : Int))) < 0 then (some (-1)) else (some (wrap64 (a1 - (l0.length : Int))))
set_option maxHeartbeats 8000000 in
set_option maxRecDepth 100000 in
theorem laws_szByteS.calls (A0 : Option Addr) (c0 : Nat) (l0 : List Int) (a1 : Int) (r : Int) (w : World) (hr0 : Kd.C (Kd.int .u8) w A0 l0.length l0) (hc0 : l0.length ≤ c0) (h : laws_szByteS.f l0 a1 = some r) :
  Calls Try.prog 87 #[.slice A0 l0.length c0, .int .i64 a1] w fun e w' => e = .returned (.int .i64 r) ∧ Drawn0 w w' := by
 have HR0 := Aside0.mk hr0
 have HC0 := Aside0.mk hc0
 clear hr0 hc0
 have H : (if (wrap64 (a1 - (l0.length : Int))) < 0 then (some (-1)) else (some (wrap64 (a1 - (l0.length : Int))))) = some r := h
 clear h
 by_cases c3 : (wrap64 (a1 - (l0.length : Int))) < 0
 ·rw [if_pos c3] at H
  have c3b0 : decide ((wrap64 (a1 - (l0.length : Int))) < 0) = true := zas c3
  clear c3
  obtain rfl := Option.some.inj H
  go_enter Try.func87, Try.ntmps87
  go_wp2
  go_ret
  exact ⟨by first | rfl | (simp; done) | (simp [*]; done), by repeat (first | exact Drawn0.refl _ | apply Drawn0.step)⟩
 ·rw [if_neg c3] at H
  have c3b0 : decide ((wrap64 (a1 - (l0.length : Int))) < 0) = false := zbf c3
  clear c3
  obtain rfl := Option.some.inj H
  go_enter Try.func87, Try.ntmps87
  go_wp2
  go_ret
  exact ⟨by first | rfl | (simp; done) | (simp [*]; done), by repeat (first | exact Drawn0.refl _ | apply Drawn0.step)⟩
def laws_szItem.f (a0_0 : ByteArray) (a0_1 : Int) (a0_2 : Int) (l0_3 : List Int) (a1 : Int) : Option (Int) := if (wrap64 (a1 - (a0_0.size : Int))) < 0 then (some (-1)) else ((laws_szByteS.f l0_3 (wrap64 (a1 - (a0_0.size : Int)))).bind fun t102 => (if t102 < 0 then (some (-1)) else (some t102)))
set_option maxHeartbeats 8000000 in
set_option maxRecDepth 100000 in
theorem laws_szItem.calls (a0_0 : ByteArray) (a0_1 : Int) (a0_2 : Int) (A0_3 : Option Addr) (c0_3 : Nat) (l0_3 : List Int) (a1 : Int) (r : Int) (w : World) (hr0_3 : Kd.C (Kd.int .u8) w A0_3 l0_3.length l0_3) (hc0_3 : l0_3.length ≤ c0_3) (h : laws_szItem.f a0_0 a0_1 a0_2 l0_3 a1 = some r) :
  Calls Try.prog 23 #[.agg #[.string a0_0, .int .i64 a0_1, .int .i64 a0_2, .slice A0_3 l0_3.length c0_3], .int .i64 a1] w fun e w' => e = .returned (.int .i64 r) ∧ Below w.heap.size w w' := by
 have hu31 := Try.underlying31
 have HR0_3 := Aside0.mk hr0_3
 have HC0_3 := Aside0.mk hc0_3
 clear hr0_3 hc0_3
 have HB := Aside0.mk (zbq w.heap.size w)
 have H : (if (wrap64 (a1 - (a0_0.size : Int))) < 0 then (some (-1)) else ((laws_szByteS.f l0_3 (wrap64 (a1 - (a0_0.size : Int)))).bind fun t102 => (if t102 < 0 then (some (-1)) else (some t102)))) = some r := h
 clear h
 by_cases c3 : (wrap64 (a1 - (a0_0.size : Int))) < 0
 ·rw [if_pos c3] at H
  have c3b0 : decide ((wrap64 (a1 - (a0_0.size : Int))) < 0) = true := zas c3
  clear c3
  obtain rfl := Option.some.inj H
  go_enter Try.func23, Try.ntmps23
  go_wp2_with (first | ((with_reducible refine zca (N := 2) rfl ?_); refine zcu ?hg (N := 2) ?hd (cs := #[.string a0_0, .int .i64 a0_1, .int .i64 a0_2, .slice A0_3 l0_3.length c0_3]) (t := 31) ?hr ?_; (case hd => rfl); (case hg => rfl); (case hr => first | (go_simp; done) | (go_simp; rfl)); intro gb101 hg w4 hbox hb; have xb_ := below_ofs (by repeat (first | (with_reducible first | exact HB.out | apply zae | apply zab | apply zac) | exact HB.out)) hb; have n0_ := Aside0.mk (zai xb_ hb); have n1_ := Aside0.mk (hbox); have n2_ := Aside0.mk ((by rw [hg]; exact (zal xb_) : w.heap.size ≤ gb101)); have n3_ := Aside0.mk ((by rw [hg]; exact (zal xb_) : w.heap.size ≤ gb101)); clear HB; have HB := n0_; have BK101 := n1_; have GW101 := n2_; have GE101 := n3_; clear n0_ n1_ n2_ n3_; clear xb_ hb hbox hg; have hcz5_0 : w4.cell? ⟨gb101, 0, none⟩ = some (.string a0_0) := (zar BK101.out 0).trans rfl; have hcz5_1 : w4.cell? ⟨gb101, 1, none⟩ = some (.int .i64 a0_1) := (zar BK101.out 1).trans rfl; have hcz5_2 : w4.cell? ⟨gb101, 2, none⟩ = some (.int .i64 a0_2) := (zar BK101.out 2).trans rfl; have hcz5_3 : w4.cell? ⟨gb101, 3, none⟩ = some (.slice A0_3 l0_3.length c0_3) := (zar BK101.out 3).trans rfl; have hfz5_0 := zag BK101.out 0; have hfz5_1 := zag BK101.out 1; have hfz5_2 := zag BK101.out 2; have hfz5_3 := zag BK101.out 3))
  go_ret
  exact ⟨by first | rfl | (simp [zba, zbb] <;> rfl) | (simp [*, zba, zbb] <;> rfl), by repeat (first | (with_reducible first | exact HB.out | apply zae | apply zab | apply zac | refine zaj ?_ GE101.out) | exact HB.out)⟩
 ·rw [if_neg c3] at H
  have c3b0 : decide ((wrap64 (a1 - (a0_0.size : Int))) < 0) = false := zbf c3
  clear c3
  replace H := zak.mp H
  obtain ⟨t102, A60, H⟩ := H
  try dsimp only at H
  have A6 := Aside0.mk A60
  clear A60
  by_cases c7 : t102 < 0
  ·rw [if_pos c7] at H
   have c7b0 : decide (t102 < 0) = true := zas c7
   clear c7
   obtain rfl := Option.some.inj H
   go_enter Try.func23, Try.ntmps23
   go_wp2_with (first | ((with_reducible refine zca (N := 2) rfl ?_); refine zcu ?hg (N := 2) ?hd (cs := #[.string a0_0, .int .i64 a0_1, .int .i64 a0_2, .slice A0_3 l0_3.length c0_3]) (t := 31) ?hr ?_; (case hd => rfl); (case hg => rfl); (case hr => first | (go_simp; done) | (go_simp; rfl)); intro gb101 hg w8 hbox hb; have xb_ := below_ofs (by repeat (first | (with_reducible first | exact HB.out | apply zae | apply zab | apply zac) | exact HB.out)) hb; have n0_ := Aside0.mk (zai xb_ hb); have n1_ := Aside0.mk (hbox); have n2_ := Aside0.mk ((by rw [hg]; exact (zal xb_) : w.heap.size ≤ gb101)); have n3_ := Aside0.mk ((by rw [hg]; exact (zal xb_) : w.heap.size ≤ gb101)); clear HB; have HB := n0_; have BK101 := n1_; have GW101 := n2_; have GE101 := n3_; clear n0_ n1_ n2_ n3_; clear xb_ hb hbox hg; have hcz9_0 : w8.cell? ⟨gb101, 0, none⟩ = some (.string a0_0) := (zar BK101.out 0).trans rfl; have hcz9_1 : w8.cell? ⟨gb101, 1, none⟩ = some (.int .i64 a0_1) := (zar BK101.out 1).trans rfl; have hcz9_2 : w8.cell? ⟨gb101, 2, none⟩ = some (.int .i64 a0_2) := (zar BK101.out 2).trans rfl; have hcz9_3 : w8.cell? ⟨gb101, 3, none⟩ = some (.slice A0_3 l0_3.length c0_3) := (zar BK101.out 3).trans rfl; have hfz9_0 := zag BK101.out 0; have hfz9_1 := zag BK101.out 1; have hfz9_2 := zag BK101.out 2; have hfz9_3 := zag BK101.out 3) | ((with_reducible refine zbt (f := 87) rfl ?_); refine goesL_ (some 15) rfl rfl Try.func87 (by kernel_rfl) rfl #[.slice A0_3 l0_3.length c0_3, .int .i64 (wrap64 (a1 - (a0_0.size : Int)))] rfl (by (try simp only [zaz, zbd, zbg]); first | done | rfl) ?_; (with_reducible refine (laws_szByteS.calls _ _ l0_3 (wrap64 (a1 - (a0_0.size : Int))) t102 _ ?side1 ?side2 A6.out).mono ?_); (case side1 => repeat (first | exact (zbe HR0_3.out HB.out) | (with_reducible first | apply zbl | apply zbr | apply zbw))); (case side2 => exact HC0_3.out); rintro e w' ⟨rfl, ⟨nd, rfl⟩⟩; refine ⟨_, rfl, ?_⟩))
   go_ret
   exact ⟨by first | rfl | (simp [zba, zbb] <;> rfl) | (simp [*, zba, zbb] <;> rfl), by repeat (first | (with_reducible first | exact HB.out | apply zae | apply zab | apply zac | refine zaj ?_ GE101.out) | exact HB.out)⟩
  ·rw [if_neg c7] at H
   have c7b0 : decide (t102 < 0) = false := zbf c7
   clear c7
   obtain rfl := Option.some.inj H
   go_enter Try.func23, Try.ntmps23
   go_wp2_with (first | ((with_reducible refine zca (N := 2) rfl ?_); refine zcu ?hg (N := 2) ?hd (cs := #[.string a0_0, .int .i64 a0_1, .int .i64 a0_2, .slice A0_3 l0_3.length c0_3]) (t := 31) ?hr ?_; (case hd => rfl); (case hg => rfl); (case hr => first | (go_simp; done) | (go_simp; rfl)); intro gb101 hg w10 hbox hb; have xb_ := below_ofs (by repeat (first | (with_reducible first | exact HB.out | apply zae | apply zab | apply zac) | exact HB.out)) hb; have n0_ := Aside0.mk (zai xb_ hb); have n1_ := Aside0.mk (hbox); have n2_ := Aside0.mk ((by rw [hg]; exact (zal xb_) : w.heap.size ≤ gb101)); have n3_ := Aside0.mk ((by rw [hg]; exact (zal xb_) : w.heap.size ≤ gb101)); clear HB; have HB := n0_; have BK101 := n1_; have GW101 := n2_; have GE101 := n3_; clear n0_ n1_ n2_ n3_; clear xb_ hb hbox hg; have hcz11_0 : w10.cell? ⟨gb101, 0, none⟩ = some (.string a0_0) := (zar BK101.out 0).trans rfl; have hcz11_1 : w10.cell? ⟨gb101, 1, none⟩ = some (.int .i64 a0_1) := (zar BK101.out 1).trans rfl; have hcz11_2 : w10.cell? ⟨gb101, 2, none⟩ = some (.int .i64 a0_2) := (zar BK101.out 2).trans rfl; have hcz11_3 : w10.cell? ⟨gb101, 3, none⟩ = some (.slice A0_3 l0_3.length c0_3) := (zar BK101.out 3).trans rfl; have hfz11_0 := zag BK101.out 0; have hfz11_1 := zag BK101.out 1; have hfz11_2 := zag BK101.out 2; have hfz11_3 := zag BK101.out 3) | ((with_reducible refine zbt (f := 87) rfl ?_); refine goesL_ (some 15) rfl rfl Try.func87 (by kernel_rfl) rfl #[.slice A0_3 l0_3.length c0_3, .int .i64 (wrap64 (a1 - (a0_0.size : Int)))] rfl (by (try simp only [zaz, zbd, zbg]); first | done | rfl) ?_; (with_reducible refine (laws_szByteS.calls _ _ l0_3 (wrap64 (a1 - (a0_0.size : Int))) t102 _ ?side1 ?side2 A6.out).mono ?_); (case side1 => repeat (first | exact (zbe HR0_3.out HB.out) | (with_reducible first | apply zbl | apply zbr | apply zbw))); (case side2 => exact HC0_3.out); rintro e w' ⟨rfl, ⟨nd, rfl⟩⟩; refine ⟨_, rfl, ?_⟩))
   go_ret
   exact ⟨by first | rfl | (simp [zba, zbb] <;> rfl) | (simp [*, zba, zbb] <;> rfl), by repeat (first | (with_reducible first | exact HB.out | apply zae | apply zab | apply zac | refine zaj ?_ GE101.out) | exact HB.out)⟩
end Go.Proofs.Ytlalkldjpniakaa.P
