import Derived.Test.Ytlalkldjpniakaapu7
namespace Go.Proofs.Ytlalkldjpniakaa.P
open Go.RowKit Go.Proofs.YtlalkldjpniakaaW.PrintWords Go.Proofs.YtlalkldjpniakaaW.PrintLast Go.Proofs.YtlalkldjpniakaaW.PrintMore
attribute [local go_sem] zdj zdk zed zee zcy zcz zdl zdm   -- for this text's walks alone
set_option linter.unusedVariables false
set_option linter.unusedSimpArgs false

def slices_Clone_byte_byte.f (l0 : List Int) : Option (List Int) := if l0.length < 140737488355328 then some l0 else none
set_option maxHeartbeats 8000000 in
set_option maxRecDepth 100000 in
theorem slices_Clone_byte_byte.calls (A0 : Option Addr) (c0 : Nat) (l0 : List Int) (r : List Int) (w : World) (hr0 : Kd.C (Kd.int .u8) w A0 l0.length l0) (hc0 : l0.length ≤ c0) (h : slices_Clone_byte_byte.f l0 = some r) :
  Calls Try.prog 116 #[.slice A0 l0.length c0] w fun e w' => ∃ v0_ : Value, e = .returned (v0_) ∧ Kd.R (Kd.int .u8) 5 w' w.heap.size (fun _ => True) v0_ r ∧ Below w.heap.size w w' := by
 unfold slices_Clone_byte_byte.f at h
 by_cases c3 : l0.length < 140737488355328
 ·rw [if_pos c3] at h
  have LMc3 := Aside0.mk c3
  clear c3
  obtain rfl := Option.some.inj h
  have HB := Aside0.mk (zbt w.heap.size w)
  cases A0 with
  | none =>
   have hl : l0 = [] := by
    apply List.eq_nil_of_length_eq_zero
    rcases Nat.eq_zero_or_pos l0.length with h0 | h0
    ·exact h0
    ·obtain ⟨ad, e, _⟩ := hr0.2.2 h0
     cases e
   subst hl
   clear hr0 hc0
   have hq := fun W => Lib.run_eql_slice_nil (P := Try.prog) W 29 5 none 0 c0 0 0 Try.underlying29
   go_enter Try.func116, Try.ntmps116
   go_wp2
   go_ret
   exact ⟨_, rfl, Kd.R_nil _ _ _ _ _, zbt _ _⟩
  | some ad =>
   have HR0 := Aside0.mk hr0
   have HC0 := Aside0.mk hc0
   clear hr0 hc0
   have hq := fun W => Lib.run_eql_slice_nil (P := Try.prog) W 29 5 (some ad) l0.length c0 0 0 Try.underlying29
   go_enter Try.func116, Try.ntmps116
   go_wp2_with (first | ((with_reducible refine zcc (N := 5) rfl ?_); refine Kd.R_lit (Kd.int .u8) _ 5 ?hg (N := 5) ?hd (xs := ([] : List Int)) (inner := []) (ok := fun _ => True) (okp := fun _ => True) ?hr ?hp (fun _ hk => hk) trivial (zbt _ _) (zaw _) (by simp) ?_; (case hd => rfl); (case hg => rfl); (case hr => first | (go_simp; done) | (go_simp; rfl)); (case hp => exact (zel _ _)); intro v297 w8 ho9 hb hg_ hnew_; have xb_ := below_ofs (by repeat (first | (with_reducible first | exact HB.out | apply zae | apply zab | apply zac) | exact HB.out)) hb; clear hg_ hnew_; have n0_ := Aside0.mk (zbx ho9 (zam xb_)); have n1_ := Aside0.mk (zai xb_ hb); clear HB; have HO298 := n0_; have HB := n1_; clear n0_ n1_; clear xb_ hb ho9) | ((with_reducible refine zcx (b := .append) (xs := #[.tmp 5, .tmp 6]) rfl ?_); at_builtin; refine Kd.R_append_rows (Kd.int .u8) (w0 := w) w.heap.size rfl (.tmp 5) (.tmp 6) 29 5 (.int .u8 0) 1 rfl Try.underlying29 info5 rfl (by decide) (by omega) v297 ([] : List Int) l0 _ _ _ (fun _ => True) (fun _ => False) rfl rfl ?aO ?aR (fun _ _ h => h) (fun _ h => h.elim) ?aF ?aB ?aS ?aL ?_; (case aR => repeat (first | exact (zbf HR0.out HB.out) | (with_reducible first | apply zbs | apply zbw | apply zcd))); (case aB => exact (by repeat (first | (with_reducible first | exact HB.out | apply zae | apply zab | apply zac) | exact HB.out))); (case aF => exact (fun _ _ => trivial)); (case aO => exact (by (with_reducible repeat (first | apply zcj | apply zck | apply zcw)); exact HO298.out)); (case aS => exact (zam (by repeat (first | (with_reducible first | exact HB.out | apply zae | apply zab | apply zac) | exact HB.out)))); (case aL => have := LMc3.out; simp; omega); intro v300 w10 ho hb hg hat; have n0_ := Aside0.mk (hb); have n1_ := Aside0.mk (ho); clear HB HO298; have HB := n0_; have HO301 := n1_; clear n0_ n1_; clear ho hb hg hat))
   go_ret
   exact ⟨_, rfl, by (with_reducible repeat (first | apply zcj | apply zck | apply zcw)); simpa using HO301.out, by repeat (first | (with_reducible first | exact HB.out | apply zae | apply zab | apply zac) | exact HB.out)⟩
 ·rw [if_neg c3] at h
  cases h
def impl_cloneItem.f (a0_0 : ByteArray) (a0_1 : Int) (a0_2 : Int) (l0_3 : List Int) : Option (ByteArray × Int × Int × List Int) := (slices_Clone_byte_byte.f l0_3).bind fun t362 => (some (a0_0, a0_1, a0_2, t362))
set_option maxHeartbeats 8000000 in
set_option maxRecDepth 100000 in
theorem impl_cloneItem.calls (a0_0 : ByteArray) (a0_1 : Int) (a0_2 : Int) (A0_3 : Option Addr) (c0_3 : Nat) (l0_3 : List Int) (r1 : ByteArray) (r2 : Int) (r3 : Int) (r4 : List Int) (w : World) (hr0_3 : Kd.C (Kd.int .u8) w A0_3 l0_3.length l0_3) (hc0_3 : l0_3.length ≤ c0_3) (h : impl_cloneItem.f a0_0 a0_1 a0_2 l0_3 = some (r1, r2, r3, r4)) :
  Calls Try.prog 104 #[.agg #[.string a0_0, .int .i64 a0_1, .int .i64 a0_2, .slice A0_3 l0_3.length c0_3]] w fun e w' => ∃ v3_ : Value, e = .returned (.agg #[.string r1, .int .i64 r2, .int .i64 r3, v3_]) ∧ Kd.R (Kd.int .u8) 5 w' w.heap.size (fun _ => True) v3_ r4 ∧ Below w.heap.size w w' := by
 have hu34 := Try.underlying34
 have HR0_3 := Aside0.mk hr0_3
 have HC0_3 := Aside0.mk hc0_3
 clear hr0_3 hc0_3
 have HB := Aside0.mk (zbt w.heap.size w)
 have H : ((slices_Clone_byte_byte.f l0_3).bind fun t362 => (some (a0_0, a0_1, a0_2, t362))) = some (r1, r2, r3, r4) := h
 clear h
 replace H := zak.mp H
 obtain ⟨t362, A20, H⟩ := H
 try dsimp only at H
 have A2 := Aside0.mk A20
 clear A20
 simp only [zdb, zde] at H
 obtain ⟨rfl, rfl, rfl, rfl⟩ := H
 go_enter Try.func104, Try.ntmps104
 go_wp2_with (first | ((with_reducible refine zcc (N := 1) rfl ?_); refine zct ?hg (N := 1) ?hd (cs := #[.string a0_0, .int .i64 a0_1, .int .i64 a0_2, .slice A0_3 l0_3.length c0_3]) (t := 34) ?hr ?_; (case hd => rfl); (case hg => rfl); (case hr => first | (go_simp; done) | (go_simp; rfl)); intro gb360 hg w3 hbox hb; have xb_ := below_ofs (by repeat (first | (with_reducible first | exact HB.out | apply zae | apply zab | apply zac) | exact HB.out)) hb; have n0_ := Aside0.mk (zai xb_ hb); have n1_ := Aside0.mk (hbox); have n2_ := Aside0.mk ((by rw [hg]; exact (zam xb_) : w.heap.size ≤ gb360)); have n3_ := Aside0.mk ((by rw [hg]; exact (zam xb_) : w.heap.size ≤ gb360)); clear HB; have HB := n0_; have BK360 := n1_; have GW360 := n2_; have GE360 := n3_; clear n0_ n1_ n2_ n3_; clear xb_ hb hbox hg) | ((with_reducible refine zcc (N := 2) rfl ?_); refine zct ?hg (N := 2) ?hd (cs := #[.string (⟨#[]⟩ : ByteArray), .int .i64 0, .int .i64 0, .slice none 0 0]) (t := 34) ?hr ?_; (case hd => rfl); (case hg => rfl); (case hr => first | (go_simp; done) | (go_simp; rfl)); intro gb361 hg w4 hbox hb; have n0_ := Aside0.mk (zce (g := gb360) (o := .cells #[.string a0_0, .int .i64 a0_1, .int .i64 a0_2, .slice A0_3 l0_3.length c0_3] 34 (0, 0)) (by (with_reducible repeat (first | refine zaq ?_ _ | refine zav ?_ | refine zar ?_ _)); exact BK360.out) hb); have n1_ := Aside0.mk (zai (by repeat (first | (with_reducible first | exact HB.out | apply zae | apply zab | apply zac | refine zal ?_ GE360.out) | exact HB.out)) hb); have n2_ := Aside0.mk (hbox); have n3_ := Aside0.mk ((by rw [hg]; exact (zam (by repeat (first | (with_reducible first | exact HB.out | apply zae | apply zab | apply zac | refine zal ?_ GE360.out) | exact HB.out))) : w.heap.size ≤ gb361)); have n4_ := Aside0.mk ((by rw [hg]; exact (zam (by repeat (first | (with_reducible first | exact HB.out | apply zae | apply zab | apply zac | refine zal ?_ GE360.out) | exact HB.out))) : w.heap.size ≤ gb361)); have n5_ := Aside0.mk ((by rw [hg]; exact Nat.ne_of_lt (blk_lt (g := gb360) (o := .cells #[.string a0_0, .int .i64 a0_1, .int .i64 a0_2, .slice A0_3 l0_3.length c0_3] 34 (0, 0)) (by (with_reducible repeat (first | refine zaq ?_ _ | refine zav ?_ | refine zar ?_ _)); exact BK360.out)) : gb360 ≠ gb361)); have n6_ := Aside0.mk ((by rw [hg]; exact Nat.ne_of_gt (blk_lt (g := gb360) (o := .cells #[.string a0_0, .int .i64 a0_1, .int .i64 a0_2, .slice A0_3 l0_3.length c0_3] 34 (0, 0)) (by (with_reducible repeat (first | refine zaq ?_ _ | refine zav ?_ | refine zar ?_ _)); exact BK360.out)) : gb361 ≠ gb360)); clear BK360 HB; have BK360 := n0_; have HB := n1_; have BK361 := n2_; have GW361 := n3_; have GE361 := n4_; have NB360_361 := n5_; have NB361_360 := n6_; clear n0_ n1_ n2_ n3_ n4_ n5_ n6_; clear hb hbox hg; have hnb5 := NB360_361.out; have hnc5 := NB361_360.out; have hcz6_0 : w4.cell? ⟨gb360, 0, none⟩ = some (.string a0_0) := (zaf BK360.out 0).trans rfl; have hcz6_1 : w4.cell? ⟨gb360, 1, none⟩ = some (.int .i64 a0_1) := (zaf BK360.out 1).trans rfl; have hcz6_2 : w4.cell? ⟨gb360, 2, none⟩ = some (.int .i64 a0_2) := (zaf BK360.out 2).trans rfl; have hcz6_3 : w4.cell? ⟨gb360, 3, none⟩ = some (.slice A0_3 l0_3.length c0_3) := (zaf BK360.out 3).trans rfl; have hfz6_0 := zah BK360.out 0; have hfz6_1 := zah BK360.out 1; have hfz6_2 := zah BK360.out 2; have hfz6_3 := zah BK360.out 3) | ((with_reducible refine zbv (f := 116) rfl ?_); refine goesL_ (some 5) rfl rfl Try.func116 (by kernel_rfl) rfl #[.slice A0_3 l0_3.length c0_3] rfl (by (try simp only [zat, zbe, zbh]); first | done | rfl) ?_; (with_reducible refine (slices_Clone_byte_byte.calls _ _ l0_3 t362 _ ?side1 ?side2 A2.out).mono ?_); (case side1 => repeat (first | exact (zbf HR0_3.out HB.out) | (with_reducible first | apply zbs | apply zbw | apply zcd))); (case side2 => exact HC0_3.out); rintro e w7 ⟨v363, rfl, ho0, hb⟩; refine ⟨_, rfl, ?_⟩; have n0_ := Aside0.mk (zbx ho0 (zam (by repeat (first | (with_reducible first | exact HB.out | apply zae | apply zab | apply zac | refine zal ?_ GE360.out | refine zal ?_ GE361.out) | exact HB.out)))); have n1_ := Aside0.mk (zce (g := gb360) (o := .cells #[.string a0_0, .int .i64 a0_1, .int .i64 a0_2, .slice A0_3 l0_3.length c0_3] 34 (0, 0)) (by (with_reducible repeat (first | refine zaq ?_ _ | refine zav ?_ | refine zar ?_ _)); exact BK360.out) hb); have n2_ := Aside0.mk (zce (g := gb361) (o := .cells #[.string (⟨#[]⟩ : ByteArray), .int .i64 0, .int .i64 0, .slice none 0 0] 34 (0, 0)) (by (with_reducible repeat (first | refine zaq ?_ _ | refine zav ?_ | refine zar ?_ _)); exact BK361.out) hb); have n3_ := Aside0.mk (zai (by repeat (first | (with_reducible first | exact HB.out | apply zae | apply zab | apply zac | refine zal ?_ GE360.out | refine zal ?_ GE361.out) | exact HB.out)) hb); clear BK360 BK361 HB; have HO364 := n0_; have BK360 := n1_; have BK361 := n2_; have HB := n3_; clear n0_ n1_ n2_ n3_; clear hb ho0; obtain ⟨Ao8, co8, eo8⟩ := zci HO364.out; subst eo8; have hcz9_0 : w7.cell? ⟨gb360, 0, none⟩ = some (.string a0_0) := (zaf BK360.out 0).trans rfl; have hcz9_1 : w7.cell? ⟨gb360, 1, none⟩ = some (.int .i64 a0_1) := (zaf BK360.out 1).trans rfl; have hcz9_2 : w7.cell? ⟨gb360, 2, none⟩ = some (.int .i64 a0_2) := (zaf BK360.out 2).trans rfl; have hcz9_3 : w7.cell? ⟨gb360, 3, none⟩ = some (.slice A0_3 l0_3.length c0_3) := (zaf BK360.out 3).trans rfl; have hfz9_0 := zah BK360.out 0; have hfz9_1 := zah BK360.out 1; have hfz9_2 := zah BK360.out 2; have hfz9_3 := zah BK360.out 3; have hcz10_0 : w7.cell? ⟨gb361, 0, none⟩ = some (.string (⟨#[]⟩ : ByteArray)) := (zaf BK361.out 0).trans rfl; have hcz10_1 : w7.cell? ⟨gb361, 1, none⟩ = some (.int .i64 0) := (zaf BK361.out 1).trans rfl; have hcz10_2 : w7.cell? ⟨gb361, 2, none⟩ = some (.int .i64 0) := (zaf BK361.out 2).trans rfl; have hcz10_3 : w7.cell? ⟨gb361, 3, none⟩ = some (.slice none 0 0) := (zaf BK361.out 3).trans rfl; have hfz10_0 := zah BK361.out 0; have hfz10_1 := zah BK361.out 1; have hfz10_2 := zah BK361.out 2; have hfz10_3 := zah BK361.out 3))
 refine bodyPost_ret (results_cell_row rfl _ _ gb361 34 #[.string a0_0, .int .i64 a0_1, .int .i64 a0_2, .slice Ao8 t362.length co8] (0, 0) _ rfl (by (with_reducible repeat (first | refine zaq ?_ _ | refine zav ?_ | refine zar ?_ _)); refine zfe (cs := #[.string a0_0, .int .i64 a0_1, .int .i64 a0_2, .slice none 0 0]) ?_ 3 _ rfl; (with_reducible repeat (first | refine zaq ?_ _ | refine zav ?_ | refine zar ?_ _)); refine zfe (cs := #[.string a0_0, .int .i64 a0_1, .int .i64 0, .slice none 0 0]) ?_ 2 _ rfl; (with_reducible repeat (first | refine zaq ?_ _ | refine zav ?_ | refine zar ?_ _)); refine zfe (cs := #[.string a0_0, .int .i64 0, .int .i64 0, .slice none 0 0]) ?_ 1 _ rfl; (with_reducible repeat (first | refine zaq ?_ _ | refine zav ?_ | refine zar ?_ _)); refine zfe (cs := #[.string (⟨#[]⟩ : ByteArray), .int .i64 0, .int .i64 0, .slice none 0 0]) ?_ 0 _ rfl; (with_reducible repeat (first | refine zaq ?_ _ | refine zav ?_ | refine zar ?_ _)); refine blk_far ?_ NB361_360.out _; (with_reducible repeat (first | refine zaq ?_ _ | refine zav ?_ | refine zar ?_ _)); exact BK361.out) Try.underlying34 rfl (by kernel_rfl)) rfl ?_
 exact ⟨_, by first | rfl | (simp [zbb, zbc] <;> rfl) | (simp [*, zbb, zbc] <;> rfl), by (with_reducible repeat (first | apply zcj | apply zck | apply zcw)); exact zbr (zfr (p := ⟨gb361, 3, none⟩) (zfr (p := ⟨gb361, 2, none⟩) (zfr (p := ⟨gb361, 1, none⟩) (zfr (p := ⟨gb361, 0, none⟩) (zfr (p := ⟨gb360, 3, none⟩) (zcu (zcu HO364.out BK360.out (by decide)) BK361.out (by decide)) (fun _ hk => hk.1.2) (.slice Ao8 t362.length co8)) (fun _ hk => hk.2) (.string a0_0)) (fun _ hk => hk.2) (.int .i64 a0_1)) (fun _ hk => hk.2) (.int .i64 a0_2)) (fun _ hk => hk.2) (.slice Ao8 t362.length co8)) (fun _ hk => trivial), by repeat (first | (with_reducible first | exact HB.out | apply zae | apply zab | apply zac | refine zal ?_ GE360.out | refine zal ?_ GE361.out) | exact HB.out)⟩
end Go.Proofs.Ytlalkldjpniakaa.P
