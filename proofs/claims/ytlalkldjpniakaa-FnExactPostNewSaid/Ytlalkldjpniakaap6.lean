import Derived.Test.Ytlalkldjpniakaap5
/- Short names for theorems that the texts name often; they state what the long ones state. -/
namespace Go.Proofs.Ytlalkldjpniakaa.P
open Go.RowKit Go.Proofs.YtlalkldjpniakaaW.PrintWords Go.Proofs.YtlalkldjpniakaaW.PrintLast Go.Proofs.YtlalkldjpniakaaW.PrintMore
theorem bind_ofs {α β : Type} {a : α} {f : α → Option β} {r : Option β} (H : (some a).bind f = r) : f a = r := H
theorem Kd.R_ofs {α : Type} {d : Kd α} {e : Nat} {W w1 : World} {base : Nat} {ok : Nat → Prop} {v : Value} {xs : List α} (h : Kd.R d e W base ok v xs) (_ : Below W.heap.size W w1) : Kd.R d e W base ok v xs := h
theorem below_ofs {B : Nat} {w W w1 : World} (h : Below B w W) (_ : Below W.heap.size W w1) : Below B w W := h
theorem zaa : type_of% @blk_frozen := @blk_frozen
theorem zab : type_of% @pw_below_drewN := @pw_below_drewN
theorem zac : type_of% @blk_drewN := @blk_drewN
theorem zad : type_of% @blk_alloc := @blk_alloc
theorem zae : type_of% @blk_drew := @blk_drew
theorem zaf : type_of% @blk_cell := @blk_cell
theorem zag : type_of% @below_drew1 := @below_drew1
theorem zah : type_of% @below_alloc := @below_alloc
theorem zai : type_of% @Kd.R_far := @Kd.R_far
theorem zaj : type_of% @below_set := @below_set
theorem zak : type_of% @Kd.S_far := @Kd.S_far
theorem zal : type_of% @Kd.S_alloc := @Kd.S_alloc
theorem zam : type_of% @Kd.S_drewN := @Kd.S_drewN
theorem zan : type_of% @Kd.R_alloc := @Kd.R_alloc
theorem zao : type_of% @Kd.R_drewN := @Kd.R_drewN
theorem zaq : type_of% @Kd.S_drew := @Kd.S_drew
theorem zar : type_of% @Kd.R_drew := @Kd.R_drew
theorem zas : type_of% @below_size := @below_size
theorem zat : type_of% @List.map_toArray := @List.map_toArray
theorem zau : type_of% @blk_below := @blk_below
theorem zav : type_of% @Kd.S_below := @Kd.S_below
theorem zaw : type_of% @Kd.R_below := @Kd.R_below
theorem zax : type_of% @below_step := @below_step
theorem zay : type_of% @List.map_cons := @List.map_cons
theorem zaz : type_of% @Kd.S_reads' := @Kd.S_reads'
theorem zba : type_of% @Kd.R_reads' := @Kd.R_reads'
theorem zbb : type_of% @List.map_nil := @List.map_nil
theorem zbc : type_of% @Kd.R_types := @Kd.R_types
theorem zbd : type_of% @gate_callee := @gate_callee
theorem zbe : type_of% @Kd.S_mono := @Kd.S_mono
theorem zbf : type_of% @List.setIfInBounds_toArray := @List.setIfInBounds_toArray
theorem zbg : type_of% @Kd.S_types := @Kd.S_types
theorem zbh : type_of% @Kd.R_mono := @Kd.R_mono
theorem zbi : type_of% @Kd.C_alloc := @Kd.C_alloc
theorem zbj : type_of% @Kd.C_drewN := @Kd.C_drewN
theorem zbk : type_of% @Kd.C_drew := @Kd.C_drew
theorem zbl : type_of% @blk_put := @blk_put
theorem zbm : type_of% @List.set_cons_zero := @List.set_cons_zero
theorem zbn : type_of% @List.set_cons_succ := @List.set_cons_succ
theorem zbo : type_of% @errW_none := @errW_none
theorem zbp : type_of% @errW_some := @errW_some
theorem zbs : type_of% @box_event := @box_event
theorem zbt : type_of% @Option.bind_eq_some_iff := @Option.bind_eq_some_iff
theorem zbu : type_of% @blk_far := @blk_far
theorem zbv : type_of% @Nat.ne_of_lt := @Nat.ne_of_lt
theorem zbw : type_of% @Nat.ne_of_gt := @Nat.ne_of_gt
theorem zbx : type_of% @of_decide_eq_true := @of_decide_eq_true
theorem zby : type_of% @gate_dst := @gate_dst
theorem zca : type_of% @Kd.S_told := @Kd.S_told
theorem zcb : type_of% @Kd.R_base := @Kd.R_base
theorem zcc : type_of% @Kd.S_new' := @Kd.S_new'
theorem zce : type_of% @Kd.C_below := @Kd.C_below
theorem zcg : type_of% @bne_eq_false_iff_eq := @bne_eq_false_iff_eq
theorem zch : type_of% @beq_eq_false_iff_ne := @beq_eq_false_iff_ne
theorem zcm : type_of% @Kd.S_lower := @Kd.S_lower
theorem zcn : type_of% @Kd.R_lower := @Kd.R_lower
theorem zco : type_of% @Kd.S_slice := @Kd.S_slice
theorem zcp : type_of% @Kd.R_slice := @Kd.R_slice
theorem zcq : type_of% @Kd.R_elder' := @Kd.R_elder'
theorem zcr : type_of% @Kd.R_lt := @Kd.R_lt
end Go.Proofs.Ytlalkldjpniakaa.P
namespace Go.Proofs.Ytlalkldjpniakaa.P
open Go.RowKit Go.Proofs.YtlalkldjpniakaaW.PrintWords Go.Proofs.YtlalkldjpniakaaW.PrintLast Go.Proofs.YtlalkldjpniakaaW.PrintMore
attribute [local go_sem] max2_int min2_int max_two min_two max_three min_three max_four min_four   -- for this text's walks alone
set_option linter.unusedVariables false
set_option linter.unusedSimpArgs false

def spec_PostNew.f  : Option ((List (S34)) × Int × List Int × Int) := some (([] : List (S34)), 0, ([] : List Int), 0)
set_option maxHeartbeats 8000000 in
set_option maxRecDepth 100000 in
theorem spec_PostNew.calls  (r1 : List (S34)) (r2 : Int) (r3 : List Int) (r4 : Int) (w : World) (h : spec_PostNew.f  = some (r1, r2, r3, r4)) :
  Calls Try.prog 28 #[] w fun e w' => ∃ v0_ v2_ : Value, e = .returned (.agg #[v0_, .int .i64 r2, v2_, .int .i64 r4]) ∧ Kd.S k34 34 w' w.heap.size (fun k_ => some k_ ≠ (v2_ : Value).ownBlock) v0_ r1 ∧ Kd.R (Kd.int .u8) 5 w' w.heap.size (fun _ => True) v2_ r3 ∧ Below w.heap.size w w' := by
 have hu39 := Try.underlying39
 have HB := Aside0.mk (Below.refl w.heap.size w)
 have H : (some (([] : List (S34)), 0, ([] : List Int), 0)) = some (r1, r2, r3, r4) := h
 clear h
 simp only [Option.some.injEq, Prod.mk.injEq] at H
 obtain ⟨rfl, rfl, rfl, rfl⟩ := H
 go_enter Try.func28, Try.ntmps28
 go_wp2_with (first | ((with_reducible refine zby (N := 0) rfl ?_); refine zbs ?hg (N := 0) ?hd (cs := #[.slice none 0 0, .int .i64 0, .slice none 0 0, .int .i64 0]) (t := 39) ?hr ?_; (case hd => rfl); (case hg => rfl); (case hr => first | (go_simp; done) | (go_simp; rfl)); intro gb218 hg w1 hbox hb; have xb_ := below_ofs (by repeat (first | (with_reducible first | exact HB.out | apply zah | apply zab | apply zag) | exact HB.out)) hb; have n0_ := Aside0.mk (zax xb_ hb); have n1_ := Aside0.mk (hbox); have n2_ := Aside0.mk ((by rw [hg]; exact (zas xb_) : w.heap.size ≤ gb218)); have n3_ := Aside0.mk ((by rw [hg]; exact (zas xb_) : w.heap.size ≤ gb218)); clear HB; have HB := n0_; have BK218 := n1_; have GW218 := n2_; have GE218 := n3_; clear n0_ n1_ n2_ n3_; clear xb_ hb hbox hg; have hcz2_0 : w1.cell? ⟨gb218, 0, none⟩ = some (.slice none 0 0) := (zaf BK218.out 0).trans rfl; have hcz2_1 : w1.cell? ⟨gb218, 1, none⟩ = some (.int .i64 0) := (zaf BK218.out 1).trans rfl; have hcz2_2 : w1.cell? ⟨gb218, 2, none⟩ = some (.slice none 0 0) := (zaf BK218.out 2).trans rfl; have hcz2_3 : w1.cell? ⟨gb218, 3, none⟩ = some (.int .i64 0) := (zaf BK218.out 3).trans rfl; have hfz2_0 := zaa BK218.out 0; have hfz2_1 := zaa BK218.out 1; have hfz2_2 := zaa BK218.out 2; have hfz2_3 := zaa BK218.out 3))
 refine bodyPost_ret (results_cell_row rfl _ _ gb218 39 #[.slice none 0 0, .int .i64 0, .slice none 0 0, .int .i64 0] (0, 0) _ rfl (by (with_reducible repeat (first | refine zac ?_ _ | refine zae ?_ | refine zad ?_ _)); refine zbl (cs := #[.slice none 0 0, .int .i64 0, .slice none 0 0, .int .i64 0]) ?_ 3 _ rfl; (with_reducible repeat (first | refine zac ?_ _ | refine zae ?_ | refine zad ?_ _)); refine zbl (cs := #[.slice none 0 0, .int .i64 0, .slice none 0 0, .int .i64 0]) ?_ 2 _ rfl; (with_reducible repeat (first | refine zac ?_ _ | refine zae ?_ | refine zad ?_ _)); refine zbl (cs := #[.slice none 0 0, .int .i64 0, .slice none 0 0, .int .i64 0]) ?_ 1 _ rfl; (with_reducible repeat (first | refine zac ?_ _ | refine zae ?_ | refine zad ?_ _)); refine zbl (cs := #[.slice none 0 0, .int .i64 0, .slice none 0 0, .int .i64 0]) ?_ 0 _ rfl; (with_reducible repeat (first | refine zac ?_ _ | refine zae ?_ | refine zad ?_ _)); exact BK218.out) Try.underlying39 rfl (by kernel_rfl)) rfl ?_
 exact ⟨_, _, by first | rfl | (simp [zbo, zbp] <;> rfl) | (simp [*, zbo, zbp] <;> rfl), by first | exact Kd.S_nil _ _ _ _ _ | exact Kd.N_nil _ _ _ _ _ | exact Kd.V_nil _ _ _ _ _ | exact Kd.Q_nil _ _ _ _ _ | exact Kd.R_nil _ _ _ _ _, by first | exact Kd.R_nil _ _ _ _ _ | exact Kd.N_nil _ _ _ _ _ | exact Kd.V_nil _ _ _ _ _ | exact Kd.Q_nil _ _ _ _ _ | exact Kd.S_nil _ _ _ _ _, by repeat (first | (with_reducible first | exact HB.out | apply zah | apply zab | apply zag | refine zaj ?_ GE218.out) | exact HB.out)⟩
def impl_PostNew.f  : Option ((List (S34)) × Int × List Int × Int) := some (([] : List (S34)), 0, ([] : List Int), 0)
set_option maxHeartbeats 8000000 in
set_option maxRecDepth 100000 in
theorem impl_PostNew.calls  (r1 : List (S34)) (r2 : Int) (r3 : List Int) (r4 : Int) (w : World) (h : impl_PostNew.f  = some (r1, r2, r3, r4)) :
  Calls Try.prog 29 #[] w fun e w' => ∃ v0_ v2_ : Value, e = .returned (.agg #[v0_, .int .i64 r2, v2_, .int .i64 r4]) ∧ Kd.S k34 34 w' w.heap.size (fun k_ => some k_ ≠ (v2_ : Value).ownBlock) v0_ r1 ∧ Kd.R (Kd.int .u8) 5 w' w.heap.size (fun _ => True) v2_ r3 ∧ Below w.heap.size w w' := by
 have hu39 := Try.underlying39
 have HB := Aside0.mk (Below.refl w.heap.size w)
 have H : (some (([] : List (S34)), 0, ([] : List Int), 0)) = some (r1, r2, r3, r4) := h
 clear h
 simp only [Option.some.injEq, Prod.mk.injEq] at H
 obtain ⟨rfl, rfl, rfl, rfl⟩ := H
 go_enter Try.func29, Try.ntmps29
 go_wp2_with (first | ((with_reducible refine zby (N := 0) rfl ?_); refine zbs ?hg (N := 0) ?hd (cs := #[.slice none 0 0, .int .i64 0, .slice none 0 0, .int .i64 0]) (t := 39) ?hr ?_; (case hd => rfl); (case hg => rfl); (case hr => first | (go_simp; done) | (go_simp; rfl)); intro gb219 hg w1 hbox hb; have xb_ := below_ofs (by repeat (first | (with_reducible first | exact HB.out | apply zah | apply zab | apply zag) | exact HB.out)) hb; have n0_ := Aside0.mk (zax xb_ hb); have n1_ := Aside0.mk (hbox); have n2_ := Aside0.mk ((by rw [hg]; exact (zas xb_) : w.heap.size ≤ gb219)); have n3_ := Aside0.mk ((by rw [hg]; exact (zas xb_) : w.heap.size ≤ gb219)); clear HB; have HB := n0_; have BK219 := n1_; have GW219 := n2_; have GE219 := n3_; clear n0_ n1_ n2_ n3_; clear xb_ hb hbox hg; have hcz2_0 : w1.cell? ⟨gb219, 0, none⟩ = some (.slice none 0 0) := (zaf BK219.out 0).trans rfl; have hcz2_1 : w1.cell? ⟨gb219, 1, none⟩ = some (.int .i64 0) := (zaf BK219.out 1).trans rfl; have hcz2_2 : w1.cell? ⟨gb219, 2, none⟩ = some (.slice none 0 0) := (zaf BK219.out 2).trans rfl; have hcz2_3 : w1.cell? ⟨gb219, 3, none⟩ = some (.int .i64 0) := (zaf BK219.out 3).trans rfl; have hfz2_0 := zaa BK219.out 0; have hfz2_1 := zaa BK219.out 1; have hfz2_2 := zaa BK219.out 2; have hfz2_3 := zaa BK219.out 3))
 refine bodyPost_ret (results_cell_row rfl _ _ gb219 39 #[.slice none 0 0, .int .i64 0, .slice none 0 0, .int .i64 0] (0, 0) _ rfl (by (with_reducible repeat (first | refine zac ?_ _ | refine zae ?_ | refine zad ?_ _)); refine zbl (cs := #[.slice none 0 0, .int .i64 0, .slice none 0 0, .int .i64 0]) ?_ 3 _ rfl; (with_reducible repeat (first | refine zac ?_ _ | refine zae ?_ | refine zad ?_ _)); refine zbl (cs := #[.slice none 0 0, .int .i64 0, .slice none 0 0, .int .i64 0]) ?_ 2 _ rfl; (with_reducible repeat (first | refine zac ?_ _ | refine zae ?_ | refine zad ?_ _)); refine zbl (cs := #[.slice none 0 0, .int .i64 0, .slice none 0 0, .int .i64 0]) ?_ 1 _ rfl; (with_reducible repeat (first | refine zac ?_ _ | refine zae ?_ | refine zad ?_ _)); refine zbl (cs := #[.slice none 0 0, .int .i64 0, .slice none 0 0, .int .i64 0]) ?_ 0 _ rfl; (with_reducible repeat (first | refine zac ?_ _ | refine zae ?_ | refine zad ?_ _)); exact BK219.out) Try.underlying39 rfl (by kernel_rfl)) rfl ?_
 exact ⟨_, _, by first | rfl | (simp [zbo, zbp] <;> rfl) | (simp [*, zbo, zbp] <;> rfl), by first | exact Kd.S_nil _ _ _ _ _ | exact Kd.N_nil _ _ _ _ _ | exact Kd.V_nil _ _ _ _ _ | exact Kd.Q_nil _ _ _ _ _ | exact Kd.R_nil _ _ _ _ _, by first | exact Kd.R_nil _ _ _ _ _ | exact Kd.N_nil _ _ _ _ _ | exact Kd.V_nil _ _ _ _ _ | exact Kd.Q_nil _ _ _ _ _ | exact Kd.S_nil _ _ _ _ _, by repeat (first | (with_reducible first | exact HB.out | apply zah | apply zab | apply zag | refine zaj ?_ GE219.out) | exact HB.out)⟩
end Go.Proofs.Ytlalkldjpniakaa.P
