import Derived.Test.Ytienlgcjohpphaake21
import Derived.Test.Ytienlgcjohpphaake22
import Derived.Test.Ytienlgcjohpphaake11
import Derived.Lib.SlBytesConst
namespace Go.Proofs.Ytienlgcjohpphaa.P
open Go.RowKit Go.Proofs.YtienlgcjohpphaaW.PrintWords Go.Proofs.YtienlgcjohpphaaW.PrintLast Go.Proofs.YtienlgcjohpphaaW.PrintMore
attribute [local go_sem] zbz zca zcn zco zbt zbu zcb zcc   -- for this text's walks alone
set_option linter.unusedVariables false
set_option linter.unusedSimpArgs false
set_option maxHeartbeats 8000000
set_option maxRecDepth 100000

def spec_Derive.f (k : Nat) (l0 : List Int) (l1 : List Int) (l2 : List Int) (a3 : Int) : Option (List Int) := (spec_Extract.f k l0 l1).bind fun t1055 => ((spec_Expand.f k t1055 l2 a3).bind fun t1058 => (some t1058))
theorem spec_Derive.mono : ∀ a0 a1 a2 a3 k, LeO (spec_Derive.f k a0 a1 a2 a3) (spec_Derive.f (k + 1) a0 a1 a2 a3) := by
 intro a0 a1 a2 a3 k
 unfold spec_Derive.f
 have m0 := @spec_Expand.mono
 have m1 := @spec_Extract.mono
 exact mt
theorem spec_Derive.calls (k : Nat) (A0 : Option Addr) (c0 : Nat) (l0 : List Int) (A1 : Option Addr) (c1 : Nat) (l1 : List Int) (A2 : Option Addr) (c2 : Nat) (l2 : List Int) (a3 : Int) (r : List Int) (w : World) (hr0 : Kd.C (Kd.int .u8) w A0 l0.length l0) (hc0 : l0.length ≤ c0) (hr1 : Kd.C (Kd.int .u8) w A1 l1.length l1) (hc1 : l1.length ≤ c1) (hr2 : Kd.C (Kd.int .u8) w A2 l2.length l2) (hc2 : l2.length ≤ c2) (h : spec_Derive.f k l0 l1 l2 a3 = some r) :
  Calls Try.prog 45 #[.slice A0 l0.length c0, .slice A1 l1.length c1, .slice A2 l2.length c2, .int .i64 a3] w fun e w' => ∃ v0_ : Value, e = .returned (v0_) ∧ Kd.R (Kd.int .u8) 5 w' w.heap.size (fun _ => True) v0_ r ∧ Below w.heap.size w w' := by
 have HR0 := Aside0.mk hr0
 have HC0 := Aside0.mk hc0
 clear hr0 hc0
 have HR1 := Aside0.mk hr1
 have HC1 := Aside0.mk hc1
 clear hr1 hc1
 have HR2 := Aside0.mk hr2
 have HC2 := Aside0.mk hc2
 clear hr2 hc2
 have HB := Aside0.mk (zbj w.heap.size w)
 have H : ((spec_Extract.f k l0 l1).bind fun t1055 => ((spec_Expand.f k t1055 l2 a3).bind fun t1058 => (some t1058))) = some r := h
 clear h
 obtain ⟨t1055, A5, H⟩ := bnd H
 obtain ⟨t1058, A6, H⟩ := bnd H
 obtain rfl := Option.some.inj H
 go_enter Try.func45, Try.ntmps45
 go_wp2_with (first | (refine jgc 39 ?_; refine jgs 11 Try.func39 #[.slice A0 l0.length c0, .slice A1 l1.length c1] ?_; (with_reducible refine (spec_Extract.calls k _ _ l0 _ _ l1 t1055 _ ?side1 ?side2 ?side3 ?side4 A5.out).mono ?_); (case side1 => repeat (first | exact HR0.out | (with_reducible first | apply zba | apply zbb | apply zbf))); (case side2 => exact HC0.out); (case side3 => repeat (first | exact HR1.out | (with_reducible first | apply zba | apply zbb | apply zbf))); (case side4 => exact HC1.out); rintro e w7 ⟨v1056, rfl, ho0, hb⟩; refine ⟨_, rfl, ?_⟩; have xb_ := below_ofs bq hb; have n_ := jA2 (zas ho0 (zaf xb_)) (zao xb_ hb); clear HB; obtain ⟨HO1057, HB⟩ := n_; clear xb_ hb ho0; obtain ⟨Ao8, co8, eo8⟩ := zax HO1057.out; subst eo8) | (refine jgc 43 ?_; refine jgs 14 Try.func43 #[.slice Ao8 t1055.length co8, .slice A2 l2.length c2, .int .i64 a3] ?_; (with_reducible refine (spec_Expand.calls k _ _ t1055 _ _ l2 a3 t1058 _ ?side1 ?side2 ?side3 ?side4 A6.out).mono ?_); (case side1 => repeat (first | exact (zad HO1057.out).2.2 | (with_reducible first | apply zba | apply zbb | apply zbf))); (case side2 => exact (zad HO1057.out).2.1); (case side3 => exact jcs HR2.out); (case side4 => exact HC2.out); rintro e w9 ⟨v1059, rfl, ho0, hb⟩; refine ⟨_, rfl, ?_⟩; have xb_ := below_ofs bq hb; have qHO1057 := Kd.R_ofs (pR HO1057.out) hb; have n_ := jA3 (zai qHO1057 (zag ho0) hb) (zas (zal ho0 (zar qHO1057)) (zaf xb_)) (zao xb_ hb); clear qHO1057 HO1057 HB; obtain ⟨HO1057, HO1060, HB⟩ := n_; clear xb_ hb ho0))
 go_ret
 exact ⟨_, jex, tqR HO1060.out, bq⟩
theorem spec_KeysOf.lit (W : World) (xs : List Int) (p : Nat × Nat) (b0 : Nat) (hm : xs.length ≤ 1000) : Kd.V (Kd.int .u8) 5 (W.alloc (.cells (xs.map (Value.int .u8)).toArray 5 p)) b0 (fun _ => True) (.slice (some ⟨W.heap.size, 0, none⟩) xs.length xs.length) xs := by
 have hg : (W.alloc (.cells (xs.map (Value.int .u8)).toArray 5 p)).heap[W.heap.size]? = some (.cells (xs.map (Value.int .u8)).toArray 5 p) := heap_alloc_new W _
 have hC : Kd.C (Kd.int .u8) (W.alloc (.cells (xs.map (Value.int .u8)).toArray 5 p)) (some ⟨W.heap.size, 0, none⟩) xs.length xs := by
  refine Kd.C_of_reads (readsInt_of.1 ⟨rfl, by omega, fun _ => ⟨_, rfl, fun j hj => ?_⟩⟩)
  rw [add_plain, cell_of_row _ W.heap.size _ _ 5 p hg]
  simp [List.getD_eq_getElem?_getD, hj]
 exact zeb (zaw _) (zdd (Kd.C_F (Kd.heap_int .u8) hC) (fun _ _ => trivial))
theorem spec_KeysOf.conv {ops : Array Oper} {rest : List Oper} {o : Oper} {a : Act} {W : World} {Q : Exit → Act → World → Prop} (hg : o.guard = none) (x : Operand) (hop : o.op = Op.convert 23 23 x) (xs l : List Int) (hl : l = xs) (hm : xs.length ≤ 1000)
  (hv : a.eval x = .slice (some ⟨W.heap.size, 0, none⟩) xs.length xs.length)
  (hK : ∀ A c, c = l.length → Kd.V (Kd.int .u8) 5 (W.alloc (.cells (xs.map (Value.int .u8)).toArray 5 ((xs.map (Value.int .u8)).toArray.size, (xs.map (Value.int .u8)).toArray.size + 1))) 0 (fun _ => True) (.slice A l.length c) l → wpList Try.prog ops Q rest (a.put o.dst (.slice A l.length c)) (W.alloc (.cells (xs.map (Value.int .u8)).toArray 5 ((xs.map (Value.int .u8)).toArray.size, (xs.map (Value.int .u8)).toArray.size + 1)))) :
  wpList Try.prog ops Q (o :: rest) a (W.alloc (.cells (xs.map (Value.int .u8)).toArray 5)) := by
 subst hl
 have hrun := Lib.run_convert_bytes_const (P := Try.prog) W 23 5 (l.map (Value.int .u8)).toArray l.length l.length Try.underlying23 (by kernel_rfl)
 have h := hK _ _ rfl (spec_KeysOf.lit W l _ 0 hm)
 refine wpList_plain hg fun K hK' => ?_
 unfold Oper.wp
 simp [execOp, hop, hv, hrun, Result.andThen]
 rw [show (List.map (Value.int .u8) l).toArray.size = l.length from by simp] at h
 exact hK' _ _ h
theorem spec_KeysOf.app {ops : Array Oper} {rest : List Oper} {o : Oper} {a : Act} {w : World} {Q : Exit → Act → World → Prop} (hg : o.guard = none) (s x : Operand) (hop : o.op = Op.call { callee := Callee.builtin Builtin.append, args := #[s, x], argTypes := #[23, 23] })
  {A0 A1 : Option Addr} {c0 c1 : Nat} {la lb : List Int} (hs : a.eval s = .slice A0 la.length c0) (hx : a.eval x = .slice A1 lb.length c1) (hA : Kd.C (Kd.int .u8) w A0 la.length la) (hB : Kd.C (Kd.int .u8) w A1 lb.length lb) (hc : c0 = la.length) (h0 : 0 < la.length) (h1 : 0 < lb.length) (hm : la.length + lb.length ≤ 100000)
  (hK : ∀ v' w', Kd.R (Kd.int .u8) 5 w' w.heap.size (fun _ => True) v' (la ++ lb) → Below w.heap.size w w' → wpList Try.prog ops Q rest (a.put o.dst v') w') :
  wpList Try.prog ops Q (o :: rest) a w := by
 obtain ⟨ad0, rfl, hcA⟩ := hA.2.2 h0
 obtain ⟨ad1, rfl, hcB⟩ := hB.2.2 h1
 have cells : ∀ (l : List Int) (ad : Addr), (∀ i z, l[i]? = some z → ∃ c, c.length = (Kd.int .u8).sz ∧ (Kd.int .u8).K w z c ∧ ∀ j u, c[j]? = some u → w.cell? (ad.add (i * (Kd.int .u8).sz + j)) = some u) → ∀ j u, (l.map (Value.int .u8))[j]? = some u → w.cell? (ad.add j) = some u := by
  intro l ad h j u hj
  rw [List.getElem?_map] at hj
  obtain ⟨z, hz, rfl⟩ := zea.1 hj
  obtain ⟨c, hc1, hc2, hc3⟩ := h j z hz
  have h3 := hc3 0 (.int .u8 z) (by rw [hc2]; rfl)
  rw [show j * (Kd.int .u8).sz + 0 = j from by show j * 1 + 0 = j; omega] at h3
  exact h3
 obtain ⟨ti, hti, hz⟩ := zea.1 info5
 simp only [Prod.mk.injEq] at hz
 refine wpList_append_grows (P := Try.prog) w hg s x 23 hop 5 ti (.int .u8 0) 1 1 Try.underlying23 hti hz.1 hz.2.1 hz.2.2 rfl (by decide) (some ad0) la.length c0 (la.map (Value.int .u8)) hs (fun h => by cases h) (by rw [zdg]; omega)
  (fun b hb => by obtain rfl := Option.some.inj hb; exact cells la _ hcA) ad1 lb.length c1 (lb.map (Value.int .u8)) hx (by rw [zdg]; omega) (cells lb ad1 hcB) (fun u hu => by obtain ⟨z, _, rfl⟩ := List.mem_map.1 hu; rfl) (by omega) (by unfold maxLen; omega) (by omega) ?_
 intro v' w' ho hgr
 refine hK v' w' (Kd.R_of_own ?_ (fun _ _ => trivial)) ⟨hgr.os, hgr.tape, hgr.output, hgr.size, fun i hi => hgr.block i hi (by simp)⟩
 rw [← List.map_append] at ho
 have h := ho.lax
 rw [← zdh] at h
 exact h
def spec_KeysOf.f (k : Nat) (l0 l1 l2 : List Int) : Option (List Int × List Int) := if l1.length + l2.length ≤ 10000000 then (spec_Derive.f k (l1 ++ l2) l0 [112, 108, 117, 109, 101] 44).bind fun t => if t.length = 44 then some (t.take 32, t.drop 32) else none else none
theorem spec_KeysOf.mono : ∀ a0 a1 a2 k, LeO (spec_KeysOf.f k a0 a1 a2) (spec_KeysOf.f (k + 1) a0 a1 a2) := by
 intro a0 a1 a2 k
 unfold spec_KeysOf.f
 have m0 := @spec_Derive.mono
 exact mt
theorem spec_KeysOf.calls (k : Nat) (AA : Option Addr) (cA : Nat) (lA : List Int) (AB : Option Addr) (cB : Nat) (lB : List Int) (AC : Option Addr) (cC : Nat) (lC : List Int) (r1 r2 : List Int) (w : World) (hr0 : Kd.C (Kd.int .u8) w AA lA.length lA) (hc0 : lA.length ≤ cA) (hr1 : Kd.C (Kd.int .u8) w AB lB.length lB) (hc1 : lB.length ≤ cB) (hr2 : Kd.C (Kd.int .u8) w AC lC.length lC) (hc2 : lC.length ≤ cC) (h : spec_KeysOf.f k lA lB lC = some (r1, r2)) :
  Calls Try.prog 49 #[.slice AA lA.length cA, .slice AB lB.length cB, .slice AC lC.length cC] w fun e w' => ∃ v0_ v1_ : Value, e = .returned (.tuple #[v0_, v1_]) ∧ Kd.R (Kd.int .u8) 5 w' w.heap.size (fun k_ => some k_ ≠ (v1_ : Value).ownBlock) v0_ r1 ∧ Kd.R (Kd.int .u8) 5 w' w.heap.size (fun k_ => some k_ ≠ (v0_ : Value).ownBlock) v1_ r2 ∧ Below w.heap.size w w' := by
 have HB := Aside0.mk (zbj w.heap.size w)
 unfold spec_KeysOf.f at h
 by_cases q1 : lB.length + lC.length ≤ 10000000
 case neg => rw [if_neg q1] at h; cases h
 rw [if_pos q1] at h
 obtain ⟨lK, A_, h⟩ := zbk.mp h
 by_cases q2 : lK.length = 44
 case neg => rw [if_neg q2] at h; cases h
 rw [if_pos q2] at h
 simp only [Option.some.injEq, Prod.mk.injEq] at h
 obtain ⟨h1, h2⟩ := h
 have HVA : Aside0 (Kd.V (Kd.int .u8) 5 w w.heap.size (fun _ => True) (.slice AA lA.length cA) lA) := ⟨zeb hc0 (zdd (Kd.C_F (Kd.heap_int .u8) hr0) (fun _ _ => trivial))⟩
 have HCB := Aside0.mk hr1
 have HCC := Aside0.mk hr2
 have HSZ := Aside0.mk q1
 obtain ⟨lS, hS⟩ : ∃ y_ : List Int, y_ = lB ++ lC := ⟨_, rfl⟩
 rw [← hS] at A_
 have NyS := Aside0.mk hS
 obtain ⟨lL, hL⟩ : ∃ y_ : List Int, y_ = [112, 108, 117, 109, 101] := ⟨_, rfl⟩
 rw [← hL] at A_
 have NyL := Aside0.mk hL
 have FD := Aside0.mk A_
 have d0 : ((lK.length : Int) != 44) = false := by rw [q2]; rfl
 have HK44 := Aside0.mk q2
 have H1 := Aside0.mk h1
 have H2 := Aside0.mk h2
 clear hS hL A_ q1 q2 h1 h2 hr0 hc0 hr1 hr2
 go_enter Try.func49, Try.ntmps49
 go_wp2_with (first | (refine jgd 10 ?_; refine jlt 10 (Kd.int .u8) 5 ?_; intro v1_ w1_ ho hb; have HR1_ := Aside0.mk ho; have mb_ := Aside0.mk (zao bq hb); clear HB hb ho; have HB := mb_; clear mb_) | ((with_reducible refine zbx (b := .append) (xs := #[.tmp 10, .tmp 11]) rfl ?_); at_builtin; refine zce (Kd.int .u8) (w0 := w) w.heap.size rfl (.tmp 10) (.tmp 11) 23 5 (.int .u8 0) 1 rfl Try.underlying23 info5 rfl (by decide) (by omega) v1_ [] lB _ _ _ (fun _ => True) (fun _ => False) rfl rfl ?aO ?aR (fun _ _ h => h) (fun _ h => h.elim) ?aF ?aB ?aS ?aL ?_; (case aR => exact Kd.C_below HCB.out HB.out); (case aB => exact HB.out); (case aF => exact (fun _ _ => trivial)); (case aO => exact HR1_.out); (case aS => exact HB.out.size); (case aL => have := HSZ.out; simp; omega); intro v2_ w_ ho hb hg hat; rw [List.nil_append] at ho; have n_ := jA2 (hb) (ho); clear HB HR1_; obtain ⟨HB, HR2_⟩ := n_; clear ho hb hg hat) | ((with_reducible refine zbx (b := .append) (xs := #[.tmp 12, .tmp 13]) rfl ?_); at_builtin; refine zce (Kd.int .u8) (w0 := w) w.heap.size rfl (.tmp 12) (.tmp 13) 23 5 (.int .u8 0) 1 rfl Try.underlying23 info5 rfl (by decide) (by omega) v2_ lB lC _ _ _ (fun _ => True) (fun _ => False) rfl rfl ?aO ?aR (fun _ _ h => h) (fun _ h => h.elim) ?aF ?aB ?aS ?aL ?_; (case aR => exact Kd.C_below HCC.out HB.out); (case aB => exact HB.out); (case aF => exact (fun _ _ => trivial)); (case aO => exact HR2_.out); (case aS => exact HB.out.size); (case aL => have := HSZ.out; simp; omega); intro v3_ w_ ho hb hg hat; rw [← NyS.out] at ho; have n_ := jA2 (hb) (ho); clear HB HR2_; obtain ⟨HB, HR3_⟩ := n_; clear ho hb hg hat; have ho3_ := HR3_.out; clear HR3_; obtain ⟨AS, cS, e_⟩ := zax ho3_; subst e_; have HVS := Aside0.mk (show Kd.V (Kd.int .u8) 5 _ w.heap.size (fun _ => True) _ _ from zeb (zad ho3_).2.1 (zdd (Kd.R_F ho3_) (fun _ _ => trivial))); clear ho3_; have mA_ := Aside0.mk (zde HVA.out HB.out); clear HVA; have HVA := mA_; clear mA_) | (refine jgd 18 ?_; refine spec_KeysOf.conv rfl (.tmp 17) rfl [112, 108, 117, 109, 101] lL NyL.out (by decide) rfl ?_; intro AL cL hc_ hv_; simp only [zdr, zdx, List.size_toArray, List.length_cons, List.length_nil, Nat.zero_add, Nat.reduceAdd] at hv_; have HcL := Aside0.mk hc_; have HVL := Aside0.mk hv_; clear hc_ hv_) | (refine jgc 45 ?_; refine jgs 19 Try.func45 #[.slice AS lS.length cS, .slice AA lA.length cA, .slice AL lL.length cL, .int .i64 44] ?_; (with_reducible refine (spec_Derive.calls k _ _ lS _ _ lA _ _ lL 44 lK _ ?side1 ?side2 ?side3 ?side4 ?side5 ?side6 FD.out).mono ?_); (case side1 => exact (zbo (by repeat (first | (with_reducible first | exact HVS.out | apply Kd.V_alloc | apply Kd.V_drewN | apply Kd.V_drew) | exact HVS.out))).2.2); (case side2 => exact (zbo HVS.out).2.1); (case side3 => exact (zbo (by repeat (first | (with_reducible first | exact HVA.out | apply Kd.V_alloc | apply Kd.V_drewN | apply Kd.V_drew) | exact HVA.out))).2.2); (case side4 => exact (zbo HVA.out).2.1); (case side5 => exact (zbo HVL.out).2.2); (case side6 => exact (zbo HVL.out).2.1); rintro e w_ ⟨v_, rfl, ho_, hb⟩; refine ⟨_, rfl, ?_⟩; obtain ⟨AK, cK, e_⟩ := zax ho_; subst e_; have mn_ := Aside0.mk (show Kd.V (Kd.int .u8) 5 _ w.heap.size (fun _ => True) _ _ from zeb (zad ho_).2.1 (zdd (Kd.R_F ho_) (fun _ _ => trivial))); have mb_ := Aside0.mk (zao bq hb); clear HVA HVS HVL HB; have HVK := mn_; have HB := mb_; clear mn_ mb_; clear ho_ hb))
 have hk44 := HK44.out
 obtain ⟨Ax, cx, hcutx, hlx, hCx⟩ := cut_u8_to (P := Try.prog) 23 5 Try.underlying23 info5 AK cK lK 32 (by omega) (by omega) (zbo HVK.out).2.1
 obtain ⟨Ay, cy, hcuty, hly, hCy⟩ := cut_u8_from (P := Try.prog) 23 5 Try.underlying23 info5 AK cK lK 32 (by omega) (by omega) (zbo HVK.out).2.1
 refine spec_KeysOf.r5 lK _ _ AK Ax Ay cK cx cy (by rw [zcp]; omega) (by rw [zcp]; omega) (by rw [zcu]; omega) (by rw [zcu]; omega) hcutx (hCx _ (zbo HVK.out).2.2) hcuty (hCy _ (zbo HVK.out).2.2) rfl rfl ?_
 intro w5 v25 v28 v29 v32 hb5 r28 r32
 have R28 := Aside0.mk (zas r28 HB.out.size)
 have R32 := Aside0.mk (zas r32 HB.out.size)
 have HB5 := Aside0.mk (zao HB.out hb5)
 clear hb5 r28 r32 HB hcutx hcuty hCx hCy
 simp only [Act.put, zaj, zay, zaz]
 try go_wp2
 go_ret2
 refine ⟨_, _, rfl, ?_, ?_, HB5.out⟩
 ·rw [← H1.out]; exact R28.out
 ·rw [← H2.out]; exact R32.out
def impl_Word.f (a0 : Int) : Option (Int) := some (Go.bits .and .i64 a0 4294967295)
theorem impl_Word.calls (a0 : Int) (r : Int) (w : World) (h : impl_Word.f a0 = some r) :
  Calls Try.prog 71 #[.int .i64 a0] w fun e w' => e = .returned (.int .i64 r) ∧ Drawn0 w w' := by
 have H : (some (Go.bits .and .i64 a0 4294967295)) = some r := h
 clear h
 obtain rfl := Option.some.inj H
 go_enter Try.func71, Try.ntmps71
 go_wp2
 go_ret
 exact ⟨by first | rfl | (simp; done) | (simp [*]; done), by repeat (first | exact Drawn0.refl _ | apply Drawn0.step)⟩
end Go.Proofs.Ytienlgcjohpphaa.P
