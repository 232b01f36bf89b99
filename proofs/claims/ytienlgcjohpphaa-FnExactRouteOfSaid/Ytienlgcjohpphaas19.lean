import Derived.Test.Ytienlgcjohpphaas17
import Derived.Test.Ytienlgcjohpphaas18
import Derived.Lib.SlBytesConst
namespace Go.Proofs.Ytienlgcjohpphaa.P
open Go.RowKit Go.Proofs.YtienlgcjohpphaaW.PrintWords Go.Proofs.YtienlgcjohpphaaW.PrintLast Go.Proofs.YtienlgcjohpphaaW.PrintMore
attribute [local go_sem] zcx zcy zdl zdm zcm zcn zcz zda   -- for this text's walks alone
set_option linter.unusedVariables false
set_option linter.unusedSimpArgs false

def spec_Derive.f (k : Nat) (l0 : List Int) (l1 : List Int) (l2 : List Int) (a3 : Int) : Option (List Int) := (spec_Extract.f k l0 l1).bind fun t1055 => ((spec_Expand.f k t1055 l2 a3).bind fun t1058 => (some t1058))
theorem spec_Derive.mono : ∀ a0 a1 a2 a3 k, LeO (spec_Derive.f k a0 a1 a2 a3) (spec_Derive.f (k + 1) a0 a1 a2 a3) := by
 intro a0 a1 a2 a3 k
 unfold spec_Derive.f
 repeat' first
   | (with_reducible exact spec_Expand.mono _ _ _ _)
   | (with_reducible exact spec_Extract.mono _ _ _)
   | (with_reducible exact zck _)
   | (with_reducible exact zbs _)
   | (with_reducible refine zby ?_ ?_)
   | (with_reducible refine zbq ?_ (fun _ => ?_))
   | exact spec_Expand.mono _ _ _ _
   | exact spec_Extract.mono _ _ _
   | exact zbs _
   | refine zby ?_ ?_
   | refine zbq ?_ (fun _ => ?_)
set_option maxHeartbeats 8000000 in
set_option maxRecDepth 100000 in
theorem spec_Derive.calls (k : Nat) (A0 : Option Addr) (c0 : Nat) (l0 : List Int) (A1 : Option Addr) (c1 : Nat) (l1 : List Int) (A2 : Option Addr) (c2 : Nat) (l2 : List Int) (a3 : Int) (r : List Int) (w : World) (hr0 : Kd.C (Kd.int .u8) w A0 l0.length l0) (hc0 : l0.length ≤ c0) (hr1 : Kd.C (Kd.int .u8) w A1 l1.length l1) (hc1 : l1.length ≤ c1) (hr2 : Kd.C (Kd.int .u8) w A2 l2.length l2) (hc2 : l2.length ≤ c2) (h : spec_Derive.f k l0 l1 l2 a3 = some r) :
  Calls Try.prog 45 #[.slice A0 l0.length c0, .slice A1 l1.length c1, .slice A2 l2.length c2, .int .i64 a3] w fun e w' => ∃ v0_ : Value, e = .returned (v0_) ∧ Kd.R (Kd.int .u8) 5 w' w.heap.size (fun _ => True) v0_ r ∧ Below w.heap.size w w' := by
 have HR0 := Aside0.mk hr0
 have HC0 := Aside0.mk hc0
 clear hr0 hc0
 have HR1 := Aside0.mk hr1
 have HC1 := Aside0.mk hc1
 clear hr1 hc1
 have HR2 := Aside0.mk hr2
 have HC2 := Aside0.mk hc2
 clear hr2 hc2
 have HB := Aside0.mk (zbu w.heap.size w)
 have H : ((spec_Extract.f k l0 l1).bind fun t1055 => ((spec_Expand.f k t1055 l2 a3).bind fun t1058 => (some t1058))) = some r := h
 clear h
 replace H := zal.mp H
 obtain ⟨t1055, A50, H⟩ := H
 replace H : ((spec_Expand.f k t1055 l2 a3).bind fun t1058 => (some t1058)) = some r := H
 have A5 := Aside0.mk A50
 clear A50
 replace H := zal.mp H
 obtain ⟨t1058, A60, H⟩ := H
 replace H : (some t1058) = some r := H
 have A6 := Aside0.mk A60
 clear A60
 obtain rfl := Option.some.inj H
 go_enter Try.func45, Try.ntmps45
 go_wp2_with (first | ((with_reducible refine zax (f := 39) rfl ?_); refine goesL_ (some 11) rfl rfl Try.func39 (by kernel_rfl) rfl #[.slice A0 l0.length c0, .slice A1 l1.length c1] rfl (by (try simp only [zan, zar, zav]); first | done | rfl | (simp only [zah, zag]; rfl) | (simp only [zah, zag]; rw [zat (zay.mpr (zbg (by assumption)))])) ?_; (with_reducible refine (spec_Extract.calls k _ _ l0 _ _ l1 t1055 _ ?side1 ?side2 ?side3 ?side4 A5.out).mono ?_); (case side1 => repeat (first | exact HR0.out | (with_reducible refine zbe ?_ _) | (with_reducible refine zbf ?_ _) | (with_reducible refine zbl ?_))); (case side2 => exact HC0.out); (case side3 => repeat (first | exact HR1.out | (with_reducible refine zbe ?_ _) | (with_reducible refine zbf ?_ _) | (with_reducible refine zbl ?_))); (case side4 => exact HC1.out); rintro e w7 ⟨v1056, rfl, ho0, hb⟩; refine ⟨_, rfl, ?_⟩; have n0_ := Aside0.mk (zbm ho0 (zba (by repeat (first | (with_reducible first | exact HB.out | apply zaf | apply zab | apply zae) | exact HB.out)))); have n1_ := Aside0.mk (zbb (by repeat (first | (with_reducible first | exact HB.out | apply zaf | apply zab | apply zae) | exact HB.out)) hb); clear HB; have HO1057 := n0_; have HB := n1_; clear n0_ n1_; (try clear hb); (try clear hb2); (try clear hk); (try clear hi); (try clear ho0); obtain ⟨Ao8, co8, eo8⟩ := zbr HO1057.out; subst eo8) | ((with_reducible refine zax (f := 43) rfl ?_); refine goesL_ (some 14) rfl rfl Try.func43 (by kernel_rfl) rfl #[.slice Ao8 t1055.length co8, .slice A2 l2.length c2, .int .i64 a3] rfl (by (try simp only [zan, zar, zav]); first | done | rfl | (simp only [zah, zag]; rfl) | (simp only [zah, zag]; rw [zat (zay.mpr (zbg (by assumption)))])) ?_; (with_reducible refine (spec_Expand.calls k _ _ t1055 _ _ l2 a3 t1058 _ ?side1 ?side2 ?side3 ?side4 A6.out).mono ?_); (case side1 => repeat (first | exact (zas HO1057.out).2.2 | (with_reducible refine zbe ?_ _) | (with_reducible refine zbf ?_ _) | (with_reducible refine zbl ?_))); (case side2 => exact (zas HO1057.out).2.1); (case side3 => repeat (first | exact (zdo HR2.out HB.out) | (with_reducible refine zbe ?_ _) | (with_reducible refine zbf ?_ _) | (with_reducible refine zbl ?_))); (case side4 => exact HC2.out); rintro e w9 ⟨v1059, rfl, ho0, hb⟩; refine ⟨_, rfl, ?_⟩; have n0_ := Aside0.mk (zbj (by (with_reducible repeat (first | apply zai | apply zaj | apply zak)); exact HO1057.out) (zbt ho0) hb); have n1_ := Aside0.mk (zbm (zbv ho0 (zcb (by (with_reducible repeat (first | apply zai | apply zaj | apply zak)); exact HO1057.out))) (zba (by repeat (first | (with_reducible first | exact HB.out | apply zaf | apply zab | apply zae) | exact HB.out)))); have n2_ := Aside0.mk (zbb (by repeat (first | (with_reducible first | exact HB.out | apply zaf | apply zab | apply zae) | exact HB.out)) hb); clear HO1057; clear HB; have HO1057 := n0_; have HO1060 := n1_; have HB := n2_; clear n0_ n1_ n2_; (try clear hb); (try clear hb2); (try clear hk); (try clear hi); (try clear ho0)))
 go_ret
 exact ⟨_, by first | rfl | (simp [zbn, zbo] <;> rfl) | (simp [*, zbn, zbo] <;> rfl), by (with_reducible repeat (first | apply zai | apply zaj | apply zak)); exact zbx HO1060.out (fun _ hk => zcc), by repeat (first | (with_reducible first | exact HB.out | apply zaf | apply zab | apply zae) | exact HB.out)⟩
theorem spec_SecretOf.lit (W : World) (xs : List Int) (p : Nat × Nat) (b0 : Nat) (hm : xs.length ≤ 1000) : Kd.V (Kd.int .u8) 5 (W.alloc (.cells (xs.map (Value.int .u8)).toArray 5 p)) b0 (fun _ => True) (.slice (some ⟨W.heap.size, 0, none⟩) xs.length xs.length) xs := by
 have hg : (W.alloc (.cells (xs.map (Value.int .u8)).toArray 5 p)).heap[W.heap.size]? = some (.cells (xs.map (Value.int .u8)).toArray 5 p) := heap_alloc_new W _
 have hC : Kd.C (Kd.int .u8) (W.alloc (.cells (xs.map (Value.int .u8)).toArray 5 p)) (some ⟨W.heap.size, 0, none⟩) xs.length xs := by
  refine Kd.C_of_reads (readsInt_of.1 ⟨rfl, by omega, fun _ => ⟨_, rfl, fun j hj => ?_⟩⟩)
  rw [add_plain, cell_of_row _ W.heap.size _ _ 5 p hg]
  simp [List.getD_eq_getElem?_getD, hj]
 exact zeo (zbh _) (zdz (Kd.C_F (Kd.heap_int .u8) hC) (fun _ _ => zcc))
theorem spec_SecretOf.conv {ops : Array Oper} {rest : List Oper} {o : Oper} {a : Act} {W : World} {Q : Exit → Act → World → Prop} (hg : o.guard = none) (x : Operand) (hop : o.op = Op.convert 23 23 x) (xs l : List Int) (hl : l = xs) (hm : xs.length ≤ 1000)
  (hv : a.eval x = .slice (some ⟨W.heap.size, 0, none⟩) xs.length xs.length)
  (hK : ∀ A c, c = l.length → Kd.V (Kd.int .u8) 5 (W.alloc (.cells (xs.map (Value.int .u8)).toArray 5 ((xs.map (Value.int .u8)).toArray.size, (xs.map (Value.int .u8)).toArray.size + 1))) 0 (fun _ => True) (.slice A l.length c) l → wpList Try.prog ops Q rest (a.put o.dst (.slice A l.length c)) (W.alloc (.cells (xs.map (Value.int .u8)).toArray 5 ((xs.map (Value.int .u8)).toArray.size, (xs.map (Value.int .u8)).toArray.size + 1)))) :
  wpList Try.prog ops Q (o :: rest) a (W.alloc (.cells (xs.map (Value.int .u8)).toArray 5)) := by
 subst hl
 have hrun := Lib.run_convert_bytes_const (P := Try.prog) W 23 5 (l.map (Value.int .u8)).toArray l.length l.length Try.underlying23 (by kernel_rfl)
 have h := hK _ _ rfl (spec_SecretOf.lit W l _ 0 hm)
 refine wpList_plain hg fun K hK' => ?_
 unfold Oper.wp
 simp [execOp, hop, hv, hrun, Result.andThen]
 rw [show (List.map (Value.int .u8) l).toArray.size = l.length from by simp] at h
 exact hK' _ _ h
theorem spec_SecretOf.app {ops : Array Oper} {rest : List Oper} {o : Oper} {a : Act} {w : World} {Q : Exit → Act → World → Prop} (hg : o.guard = none) (s x : Operand) (hop : o.op = Op.call { callee := Callee.builtin Builtin.append, args := #[s, x], argTypes := #[23, 23] })
  {A0 A1 : Option Addr} {c0 c1 : Nat} {la lb : List Int} (hs : a.eval s = .slice A0 la.length c0) (hx : a.eval x = .slice A1 lb.length c1) (hA : Kd.C (Kd.int .u8) w A0 la.length la) (hB : Kd.C (Kd.int .u8) w A1 lb.length lb) (hc : c0 = la.length) (h0 : 0 < la.length) (h1 : 0 < lb.length) (hm : la.length + lb.length ≤ 100000)
  (hK : ∀ v' w', Kd.R (Kd.int .u8) 5 w' w.heap.size (fun _ => True) v' (la ++ lb) → Below w.heap.size w w' → wpList Try.prog ops Q rest (a.put o.dst v') w') :
  wpList Try.prog ops Q (o :: rest) a w := by
 obtain ⟨ad0, rfl, hcA⟩ := hA.2.2 h0
 obtain ⟨ad1, rfl, hcB⟩ := hB.2.2 h1
 have cells : ∀ (l : List Int) (ad : Addr), (∀ i z, l[i]? = some z → ∃ c, c.length = (Kd.int .u8).sz ∧ (Kd.int .u8).K w z c ∧ ∀ j u, c[j]? = some u → w.cell? (ad.add (i * (Kd.int .u8).sz + j)) = some u) → ∀ j u, (l.map (Value.int .u8))[j]? = some u → w.cell? (ad.add j) = some u := by
  intro l ad h j u hj
  rw [List.getElem?_map] at hj
  obtain ⟨z, hz, rfl⟩ := zex.1 hj
  obtain ⟨c, hc1, hc2, hc3⟩ := h j z hz
  have h3 := hc3 0 (.int .u8 z) (by rw [hc2]; rfl)
  rw [show j * (Kd.int .u8).sz + 0 = j from by show j * 1 + 0 = j; omega] at h3
  exact h3
 obtain ⟨ti, hti, hz⟩ := zex.1 info5
 simp only [Prod.mk.injEq] at hz
 refine wpList_append_grows (P := Try.prog) w hg s x 23 hop 5 ti (.int .u8 0) 1 1 Try.underlying23 hti hz.1 hz.2.1 hz.2.2 rfl (by decide) (some ad0) la.length c0 (la.map (Value.int .u8)) hs (fun h => by cases h) (by rw [zej]; omega)
  (fun b hb => by obtain rfl := Option.some.inj hb; exact cells la _ hcA) ad1 lb.length c1 (lb.map (Value.int .u8)) hx (by rw [zej]; omega) (cells lb ad1 hcB) (fun u hu => by obtain ⟨z, _, rfl⟩ := List.mem_map.1 hu; rfl) (by omega) (by unfold maxLen; omega) (by omega) ?_
 intro v' w' ho hgr
 refine hK v' w' (Kd.R_of_own ?_ (fun _ _ => zcc)) ⟨hgr.os, hgr.tape, hgr.output, hgr.size, fun i hi => hgr.block i hi (by simp)⟩
 rw [← List.map_append] at ho
 have h := ho.lax
 rw [← zek] at h
 exact h
def spec_SecretOf.f (k : Nat) (l0 : List Int) (a1 : Int) : Option (List Int) := if (l0.length : Int) = 32 ∧ 0 ≤ a1 ∧ a1 ≤ 40 then (spec_Great.f k a1 2).bind fun t => if 1 ≤ t.length ∧ t.length ≤ 1000 then spec_Derive.f k [] l0 ([101, 112, 111, 99, 104] ++ t) 32 else none else some []
theorem spec_SecretOf.mono : ∀ a0 a1 k, LeO (spec_SecretOf.f k a0 a1) (spec_SecretOf.f (k + 1) a0 a1) := by
 intro a0 a1 k
 unfold spec_SecretOf.f
 repeat' first
   | (with_reducible exact spec_Great.mono _ _ _)
   | (with_reducible exact spec_Derive.mono _ _ _ _ _)
   | (with_reducible exact zck _)
   | (with_reducible exact zbs _)
   | (with_reducible refine zby ?_ ?_)
   | (with_reducible refine zbq ?_ (fun _ => ?_))
set_option maxHeartbeats 8000000 in
set_option maxRecDepth 100000 in
theorem spec_SecretOf.calls (k : Nat) (AA : Option Addr) (cA : Nat) (lA : List Int) (a1 : Int) (r : List Int) (w : World) (hr0 : Kd.C (Kd.int .u8) w AA lA.length lA) (hc0 : lA.length ≤ cA) (h : spec_SecretOf.f k lA a1 = some r) :
  Calls Try.prog 47 #[.slice AA lA.length cA, .int .i64 a1] w fun e w' => ∃ v0_ : Value, e = .returned (v0_) ∧ Kd.R (Kd.int .u8) 5 w' w.heap.size (fun _ => True) v0_ r ∧ Below w.heap.size w w' := by
 have HB := Aside0.mk (zbu w.heap.size w)
 unfold spec_SecretOf.f at h
 by_cases q1 : (lA.length : Int) = 32
 ·by_cases q2 : 0 ≤ a1
  ·by_cases q3 : a1 ≤ 40
   ·rw [if_pos ⟨q1, q2, q3⟩] at h
    have HVA : Aside0 (Kd.V (Kd.int .u8) 5 w w.heap.size (fun _ => True) (.slice AA lA.length cA) lA) := ⟨zeo hc0 (zdz (Kd.C_F (Kd.heap_int .u8) hr0) (fun _ _ => zcc))⟩
    clear hr0 hc0
    obtain ⟨lG, A_, H⟩ := zal.mp h
    have FG := Aside0.mk A_
    clear A_ h
    by_cases q4 : 1 ≤ lG.length ∧ lG.length ≤ 1000
    ·rw [if_pos q4] at H
     obtain ⟨lL, hL⟩ : ∃ y_ : List Int, y_ = [101, 112, 111, 99, 104] := ⟨_, rfl⟩
     have hl5 : lL.length = 5 := by rw [hL]; rfl
     rw [show ([101, 112, 111, 99, 104] : List Int) = lL from hL.symm] at H
     obtain ⟨lN, hN⟩ : ∃ y_ : List Int, y_ = lL ++ lG := ⟨_, rfl⟩
     rw [← hN] at H
     have NyL := Aside0.mk hL
     have NyN := Aside0.mk hN
     have HpL : Aside0 (0 < lL.length) := ⟨by omega⟩
     have HpG : Aside0 (0 < lG.length) := ⟨by omega⟩
     have HsN : Aside0 (lL.length + lG.length ≤ 100000) := ⟨by omega⟩
     clear hL hl5 hN q4
     have FD := Aside0.mk H
     clear H
     go_enter Try.func47, Try.ntmps47
     go_wp2_with (first | ((with_reducible refine zdc (N := 16) rfl ?_); refine spec_SecretOf.conv rfl (.tmp 15) rfl [101, 112, 111, 99, 104] lL NyL.out (by decide) rfl ?_; intro AL cL hc_ hv_; simp only [zar, zav, List.size_toArray, List.length_cons, List.length_nil, Nat.zero_add, Nat.reduceAdd] at hv_; have HcL := Aside0.mk hc_; have HVL := Aside0.mk hv_; clear hc_ hv_) | ((with_reducible refine zax (f := 86) rfl ?_); refine goesL_ (some 18) rfl rfl Try.func86 (by kernel_rfl) rfl #[.int .i64 a1, .int .i64 2] rfl (by (try simp only [zan, zar, zav]); first | done | rfl) ?_; (with_reducible refine (spec_Great.calls k a1 2 lG _ FG.out).mono ?_); rintro e w_ ⟨v_, rfl, ho_, hb⟩; refine ⟨_, rfl, ?_⟩; obtain ⟨AG, cG, e_⟩ := zbr ho_; subst e_; have mn_ := Aside0.mk (show Kd.V (Kd.int .u8) 5 _ w.heap.size (fun _ => True) _ _ from zeo (zas ho_).2.1 (zdz (Kd.R_F ho_) (fun _ _ => zcc))); have mA_ := Aside0.mk (zdv (by repeat (first | (with_reducible first | exact HVA.out | apply zce | apply zcf | apply zcj) | exact HVA.out)) hb); have mL_ := Aside0.mk (zdv (by repeat (first | (with_reducible first | exact HVL.out | apply zce | apply zcf | apply zcj) | exact HVL.out)) hb); have mb_ := Aside0.mk (zbb (by repeat (first | (with_reducible first | exact HB.out | apply zaf | apply zab | apply zae) | exact HB.out)) hb); clear HVA; clear HVL; clear HB; have HVA := mA_; clear mA_; have HVL := mL_; clear mL_; have HVG := mn_; have HB := mb_; clear mn_ mb_; clear ho_ hb) | ((with_reducible refine zdc (N := 19) rfl ?_); at_builtin; refine spec_SecretOf.app rfl (.tmp 16) (.tmp 18) rfl (la := lL) (lb := lG) rfl rfl (zcl (by repeat (first | (with_reducible first | exact HVL.out | apply zce | apply zcf | apply zcj) | exact HVL.out))).2.2 (zcl (by repeat (first | (with_reducible first | exact HVG.out | apply zce | apply zcf | apply zcj) | exact HVG.out))).2.2 HcL.out HpL.out HpG.out HsN.out ?_; intro v_ w_ ho_ hb; rw [← NyN.out] at ho_; obtain ⟨AN, cN, e_⟩ := zbr ho_; subst e_; have mn_ := Aside0.mk (show Kd.V (Kd.int .u8) 5 _ w.heap.size (fun _ => True) _ _ from zeo (zas ho_).2.1 (zdz (Kd.R_F ho_) (fun _ _ => zcc))); have mA_ := Aside0.mk (zdv (by repeat (first | (with_reducible first | exact HVA.out | apply zce | apply zcf | apply zcj) | exact HVA.out)) hb); have mb_ := Aside0.mk (zbb (by repeat (first | (with_reducible first | exact HB.out | apply zaf | apply zab | apply zae) | exact HB.out)) hb); clear HVA; clear HVL; clear HVG; clear HB; have HVA := mA_; clear mA_; have HVN := mn_; have HB := mb_; clear mn_ mb_; clear ho_ hb) | ((with_reducible refine zax (f := 45) rfl ?_); refine goesL_ (some 20) rfl rfl Try.func45 (by kernel_rfl) rfl #[.slice none ([] : List Int).length 0, .slice AA lA.length cA, .slice AN lN.length cN, .int .i64 32] rfl (by (try simp only [zan, zar, zav]); first | done | rfl) ?_; (with_reducible refine (spec_Derive.calls k _ _ ([] : List Int) _ _ lA _ _ lN 32 r _ ?side5 ?side6 ?side1 ?side2 ?side3 ?side4 FD.out).mono ?_); (case side5 => exact Kd.C_nil _ _); (case side6 => exact zbh _); (case side1 => exact (zcl (by repeat (first | (with_reducible first | exact HVA.out | apply zce | apply zcf | apply zcj) | exact HVA.out))).2.2); (case side2 => exact (zcl HVA.out).2.1); (case side3 => exact (zcl (by repeat (first | (with_reducible first | exact HVN.out | apply zce | apply zcf | apply zcj) | exact HVN.out))).2.2); (case side4 => exact (zcl HVN.out).2.1); rintro e w_ ⟨v_, rfl, ho_, hb⟩; refine ⟨_, rfl, ?_⟩; have mn_ := Aside0.mk (zbm ho_ (zba (by repeat (first | (with_reducible first | exact HB.out | apply zaf | apply zab | apply zae) | exact HB.out)))); have mb_ := Aside0.mk (zbb (by repeat (first | (with_reducible first | exact HB.out | apply zaf | apply zab | apply zae) | exact HB.out)) hb); clear HB; have HR := mn_; have HB := mb_; clear mn_ mb_; clear ho_ hb) | go_in)
     go_ret
     exact ⟨_, rfl, by (with_reducible repeat (first | apply zai | apply zaj | apply zak)); exact HR.out, by repeat (first | (with_reducible first | exact HB.out | apply zaf | apply zab | apply zae) | exact HB.out)⟩
    ·rw [if_neg q4] at H; cases H
   ·rw [if_neg (by omega)] at h
    obtain rfl := Option.some.inj h
    clear h hr0 hc0
    go_enter Try.func47, Try.ntmps47
    go_wp2_with (first | ((with_reducible refine zdc (N := 13) rfl ?_); refine zdx (Kd.int .u8) _ 5 ?hg (N := 13) ?hd (xs := ([] : List Int)) (inner := []) (ok := fun _ => True) (okp := fun _ => True) ?hr ?hp (fun _ hk => hk) zcc (zbu _ _) (zbh _) (by simp) ?_; (case hd => rfl); (case hg => rfl); (case hr => first | (go_simp; done) | (go_simp; rfl)); (case hp => exact (zcv _ _)); intro v_ w_ ho_ hb hg_ hnew_; clear hg_ hnew_; have mn_ := Aside0.mk (zbm ho_ (zba (by repeat (first | (with_reducible first | exact HB.out | apply zaf | apply zab | apply zae) | exact HB.out)))); have mb_ := Aside0.mk (zbb (by repeat (first | (with_reducible first | exact HB.out | apply zaf | apply zab | apply zae) | exact HB.out)) hb); clear HB; have HR := mn_; have HB := mb_; clear mn_ mb_; clear hb ho_) | go_in)
    go_ret
    exact ⟨_, rfl, by (with_reducible repeat (first | apply zai | apply zaj | apply zak)); exact HR.out, by repeat (first | (with_reducible first | exact HB.out | apply zaf | apply zab | apply zae) | exact HB.out)⟩
  ·rw [if_neg (by omega)] at h
   obtain rfl := Option.some.inj h
   clear h hr0 hc0
   go_enter Try.func47, Try.ntmps47
   go_wp2_with (first | ((with_reducible refine zdc (N := 13) rfl ?_); refine zdx (Kd.int .u8) _ 5 ?hg (N := 13) ?hd (xs := ([] : List Int)) (inner := []) (ok := fun _ => True) (okp := fun _ => True) ?hr ?hp (fun _ hk => hk) zcc (zbu _ _) (zbh _) (by simp) ?_; (case hd => rfl); (case hg => rfl); (case hr => first | (go_simp; done) | (go_simp; rfl)); (case hp => exact (zcv _ _)); intro v_ w_ ho_ hb hg_ hnew_; clear hg_ hnew_; have mn_ := Aside0.mk (zbm ho_ (zba (by repeat (first | (with_reducible first | exact HB.out | apply zaf | apply zab | apply zae) | exact HB.out)))); have mb_ := Aside0.mk (zbb (by repeat (first | (with_reducible first | exact HB.out | apply zaf | apply zab | apply zae) | exact HB.out)) hb); clear HB; have HR := mn_; have HB := mb_; clear mn_ mb_; clear hb ho_) | go_in)
   go_ret
   exact ⟨_, rfl, by (with_reducible repeat (first | apply zai | apply zaj | apply zak)); exact HR.out, by repeat (first | (with_reducible first | exact HB.out | apply zaf | apply zab | apply zae) | exact HB.out)⟩
 ·rw [if_neg (by omega)] at h
  obtain rfl := Option.some.inj h
  clear h hr0 hc0
  go_enter Try.func47, Try.ntmps47
  go_wp2_with (first | ((with_reducible refine zdc (N := 13) rfl ?_); refine zdx (Kd.int .u8) _ 5 ?hg (N := 13) ?hd (xs := ([] : List Int)) (inner := []) (ok := fun _ => True) (okp := fun _ => True) ?hr ?hp (fun _ hk => hk) zcc (zbu _ _) (zbh _) (by simp) ?_; (case hd => rfl); (case hg => rfl); (case hr => first | (go_simp; done) | (go_simp; rfl)); (case hp => exact (zcv _ _)); intro v_ w_ ho_ hb hg_ hnew_; clear hg_ hnew_; have mn_ := Aside0.mk (zbm ho_ (zba (by repeat (first | (with_reducible first | exact HB.out | apply zaf | apply zab | apply zae) | exact HB.out)))); have mb_ := Aside0.mk (zbb (by repeat (first | (with_reducible first | exact HB.out | apply zaf | apply zab | apply zae) | exact HB.out)) hb); clear HB; have HR := mn_; have HB := mb_; clear mn_ mb_; clear hb ho_) | go_in)
  go_ret
  exact ⟨_, rfl, by (with_reducible repeat (first | apply zai | apply zaj | apply zak)); exact HR.out, by repeat (first | (with_reducible first | exact HB.out | apply zaf | apply zab | apply zae) | exact HB.out)⟩
def impl_in.f (a0 : Int) (a1 : Int) (a2 : Int) : Option (Bool) := if a0 ≥ a1 then (some (decide (a0 ≤ a2))) else (some false)
set_option maxHeartbeats 8000000 in
set_option maxRecDepth 100000 in
theorem impl_in.calls (a0 : Int) (a1 : Int) (a2 : Int) (r : Bool) (w : World) (h : impl_in.f a0 a1 a2 = some r) :
  Calls Try.prog 94 #[.int .i64 a0, .int .i64 a1, .int .i64 a2] w fun e w' => e = .returned (.bool r) ∧ Drawn0 w w' := by
 have H : (if a0 ≥ a1 then (some (decide (a0 ≤ a2))) else (some false)) = some r := h
 clear h
 by_cases c4 : a0 ≥ a1
 ·rw [if_pos c4] at H
  have c4b0 : decide (a1 ≤ a0) = true := zap c4
  clear c4
  obtain rfl := Option.some.inj H
  go_enter Try.func94, Try.ntmps94
  go_wp2
  go_ret
  exact ⟨by first | rfl | (simp; done) | (simp [*]; done), by repeat (first | exact Drawn0.refl _ | apply Drawn0.step)⟩
 ·rw [if_neg c4] at H
  have c4b0 : decide (a1 ≤ a0) = false := zbw c4
  clear c4
  obtain rfl := Option.some.inj H
  go_enter Try.func94, Try.ntmps94
  go_wp2
  go_ret
  exact ⟨by first | rfl | (simp; done) | (simp [*]; done), by repeat (first | exact Drawn0.refl _ | apply Drawn0.step)⟩
end Go.Proofs.Ytienlgcjohpphaa.P
