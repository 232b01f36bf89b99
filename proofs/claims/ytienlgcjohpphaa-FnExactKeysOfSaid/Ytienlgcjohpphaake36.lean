import Derived.Test.Ytienlgcjohpphaake34
import Derived.Test.Ytienlgcjohpphaake35
import Derived.Laws.BitsAllLaws
namespace Go.Proofs.Ytienlgcjohpphaa.P
open Go.RowKit Go.Proofs.YtienlgcjohpphaaW.PrintWords Go.Proofs.YtienlgcjohpphaaW.PrintLast Go.Proofs.YtienlgcjohpphaaW.PrintMore
attribute [local go_sem] zbz zca zcn zco zbt zbu zcb zcc   -- for this text's walks alone
set_option linter.unusedVariables false
set_option linter.unusedSimpArgs false
set_option maxHeartbeats 8000000
set_option maxRecDepth 100000

def impl_Derive.f (k : Nat) (l0 : List Int) (l1 : List Int) (l2 : List Int) (a3 : Int) : Option (List Int) := (impl_Extract.f k l0 l1).bind fun t1061 => ((impl_Expand.f k t1061 l2 a3).bind fun t1064 => (some t1064))
theorem impl_Derive.mono : ∀ a0 a1 a2 a3 k, LeO (impl_Derive.f k a0 a1 a2 a3) (impl_Derive.f (k + 1) a0 a1 a2 a3) := by
 intro a0 a1 a2 a3 k
 unfold impl_Derive.f
 have m0 := @impl_Expand.mono
 have m1 := @impl_Extract.mono
 exact mt
theorem impl_Derive.calls (k : Nat) (A0 : Option Addr) (c0 : Nat) (l0 : List Int) (A1 : Option Addr) (c1 : Nat) (l1 : List Int) (A2 : Option Addr) (c2 : Nat) (l2 : List Int) (a3 : Int) (r : List Int) (w : World) (hr0 : Kd.C (Kd.int .u8) w A0 l0.length l0) (hc0 : l0.length ≤ c0) (hr1 : Kd.C (Kd.int .u8) w A1 l1.length l1) (hc1 : l1.length ≤ c1) (hr2 : Kd.C (Kd.int .u8) w A2 l2.length l2) (hc2 : l2.length ≤ c2) (h : impl_Derive.f k l0 l1 l2 a3 = some r) :
  Calls Try.prog 46 #[.slice A0 l0.length c0, .slice A1 l1.length c1, .slice A2 l2.length c2, .int .i64 a3] w fun e w' => ∃ v0_ : Value, e = .returned (v0_) ∧ Kd.R (Kd.int .u8) 5 w' w.heap.size (fun _ => True) v0_ r ∧ Below w.heap.size w w' := by
 have HR0 := Aside0.mk hr0
 have HC0 := Aside0.mk hc0
 clear hr0 hc0
 have HR1 := Aside0.mk hr1
 have HC1 := Aside0.mk hc1
 clear hr1 hc1
 have HR2 := Aside0.mk hr2
 have HC2 := Aside0.mk hc2
 clear hr2 hc2
 have HB := Aside0.mk (zbj w.heap.size w)
 have H : ((impl_Extract.f k l0 l1).bind fun t1061 => ((impl_Expand.f k t1061 l2 a3).bind fun t1064 => (some t1064))) = some r := h
 clear h
 obtain ⟨t1061, A5, H⟩ := bnd H
 obtain ⟨t1064, A6, H⟩ := bnd H
 obtain rfl := Option.some.inj H
 go_enter Try.func46, Try.ntmps46
 go_wp2_with (first | (refine jgc 40 ?_; refine jgs 11 Try.func40 #[.slice A0 l0.length c0, .slice A1 l1.length c1] ?_; (with_reducible refine (impl_Extract.calls k _ _ l0 _ _ l1 t1061 _ ?side1 ?side2 ?side3 ?side4 A5.out).mono ?_); (case side1 => repeat (first | exact HR0.out | (with_reducible first | apply zba | apply zbb | apply zbf))); (case side2 => exact HC0.out); (case side3 => repeat (first | exact HR1.out | (with_reducible first | apply zba | apply zbb | apply zbf))); (case side4 => exact HC1.out); rintro e w7 ⟨v1062, rfl, ho0, hb⟩; refine ⟨_, rfl, ?_⟩; have xb_ := below_ofs bq hb; have n_ := jA2 (zas ho0 (zaf xb_)) (zao xb_ hb); clear HB; obtain ⟨HO1063, HB⟩ := n_; clear xb_ hb ho0; obtain ⟨Ao8, co8, eo8⟩ := zax HO1063.out; subst eo8) | (refine jgc 44 ?_; refine jgs 14 Try.func44 #[.slice Ao8 t1061.length co8, .slice A2 l2.length c2, .int .i64 a3] ?_; (with_reducible refine (impl_Expand.calls k _ _ t1061 (fun k_ => k_ < w.heap.size) _ _ l2 a3 t1064 _ ?side1 ?side2 ?side3 A6.out).mono ?_); (case side1 => repeat (first | exact (zad HO1063.out).2.2 | (with_reducible first | apply zba | apply zbb | apply zbf))); (case side2 => exact (zad HO1063.out).2.1); (case side3 => exact zeb HC2.out (Kd.F_below (Kd.C_F (Kd.heap_int .u8) HR2.out) bq)); rintro e w9 ⟨v1065, rfl, ho0, hb⟩; refine ⟨_, rfl, ?_⟩; have xb_ := below_ofs bq hb; have qHO1063 := Kd.R_ofs (pR HO1063.out) hb; have n_ := jA3 (zai qHO1063 (zag ho0) hb) (zas (zal (zap (ok' := fun k_ => True) ho0 (fun _ hk_ => trivial)) (zar qHO1063)) (zaf xb_)) (zao xb_ hb); clear qHO1063 HO1063 HB; obtain ⟨HO1063, HO1066, HB⟩ := n_; clear xb_ hb ho0))
 go_ret
 exact ⟨_, jex, tqR HO1066.out, bq⟩
theorem impl_KeysOf.lit (W : World) (xs : List Int) (p : Nat × Nat) (b0 : Nat) (hm : xs.length ≤ 1000) : Kd.V (Kd.int .u8) 5 (W.alloc (.cells (xs.map (Value.int .u8)).toArray 5 p)) b0 (fun _ => True) (.slice (some ⟨W.heap.size, 0, none⟩) xs.length xs.length) xs := by
 have hg : (W.alloc (.cells (xs.map (Value.int .u8)).toArray 5 p)).heap[W.heap.size]? = some (.cells (xs.map (Value.int .u8)).toArray 5 p) := heap_alloc_new W _
 have hC : Kd.C (Kd.int .u8) (W.alloc (.cells (xs.map (Value.int .u8)).toArray 5 p)) (some ⟨W.heap.size, 0, none⟩) xs.length xs := by
  refine Kd.C_of_reads (readsInt_of.1 ⟨rfl, by omega, fun _ => ⟨_, rfl, fun j hj => ?_⟩⟩)
  rw [add_plain, cell_of_row _ W.heap.size _ _ 5 p hg]
  simp [List.getD_eq_getElem?_getD, hj]
 exact zeb (zaw _) (zdd (Kd.C_F (Kd.heap_int .u8) hC) (fun _ _ => trivial))
theorem impl_KeysOf.conv {ops : Array Oper} {rest : List Oper} {o : Oper} {a : Act} {W : World} {Q : Exit → Act → World → Prop} (hg : o.guard = none) (x : Operand) (hop : o.op = Op.convert 23 23 x) (xs l : List Int) (hl : l = xs) (hm : xs.length ≤ 1000)
  (hv : a.eval x = .slice (some ⟨W.heap.size, 0, none⟩) xs.length xs.length)
  (hK : ∀ A c, c = l.length → Kd.V (Kd.int .u8) 5 (W.alloc (.cells (xs.map (Value.int .u8)).toArray 5 ((xs.map (Value.int .u8)).toArray.size, (xs.map (Value.int .u8)).toArray.size + 1))) 0 (fun _ => True) (.slice A l.length c) l → wpList Try.prog ops Q rest (a.put o.dst (.slice A l.length c)) (W.alloc (.cells (xs.map (Value.int .u8)).toArray 5 ((xs.map (Value.int .u8)).toArray.size, (xs.map (Value.int .u8)).toArray.size + 1)))) :
  wpList Try.prog ops Q (o :: rest) a (W.alloc (.cells (xs.map (Value.int .u8)).toArray 5)) := by
 subst hl
 have hrun := Lib.run_convert_bytes_const (P := Try.prog) W 23 5 (l.map (Value.int .u8)).toArray l.length l.length Try.underlying23 (by kernel_rfl)
 have h := hK _ _ rfl (impl_KeysOf.lit W l _ 0 hm)
 refine wpList_plain hg fun K hK' => ?_
 unfold Oper.wp
 simp [execOp, hop, hv, hrun, Result.andThen]
 rw [show (List.map (Value.int .u8) l).toArray.size = l.length from by simp] at h
 exact hK' _ _ h
theorem impl_KeysOf.app {ops : Array Oper} {rest : List Oper} {o : Oper} {a : Act} {w : World} {Q : Exit → Act → World → Prop} (hg : o.guard = none) (s x : Operand) (hop : o.op = Op.call { callee := Callee.builtin Builtin.append, args := #[s, x], argTypes := #[23, 23] })
  {A0 A1 : Option Addr} {c0 c1 : Nat} {la lb : List Int} (hs : a.eval s = .slice A0 la.length c0) (hx : a.eval x = .slice A1 lb.length c1) (hA : Kd.C (Kd.int .u8) w A0 la.length la) (hB : Kd.C (Kd.int .u8) w A1 lb.length lb) (hc : c0 = la.length) (h0 : 0 < la.length) (h1 : 0 < lb.length) (hm : la.length + lb.length ≤ 100000)
  (hK : ∀ v' w', Kd.R (Kd.int .u8) 5 w' w.heap.size (fun _ => True) v' (la ++ lb) → Below w.heap.size w w' → wpList Try.prog ops Q rest (a.put o.dst v') w') :
  wpList Try.prog ops Q (o :: rest) a w := by
 obtain ⟨ad0, rfl, hcA⟩ := hA.2.2 h0
 obtain ⟨ad1, rfl, hcB⟩ := hB.2.2 h1
 have cells : ∀ (l : List Int) (ad : Addr), (∀ i z, l[i]? = some z → ∃ c, c.length = (Kd.int .u8).sz ∧ (Kd.int .u8).K w z c ∧ ∀ j u, c[j]? = some u → w.cell? (ad.add (i * (Kd.int .u8).sz + j)) = some u) → ∀ j u, (l.map (Value.int .u8))[j]? = some u → w.cell? (ad.add j) = some u := by
  intro l ad h j u hj
  rw [List.getElem?_map] at hj
  obtain ⟨z, hz, rfl⟩ := zea.1 hj
  obtain ⟨c, hc1, hc2, hc3⟩ := h j z hz
  have h3 := hc3 0 (.int .u8 z) (by rw [hc2]; rfl)
  rw [show j * (Kd.int .u8).sz + 0 = j from by show j * 1 + 0 = j; omega] at h3
  exact h3
 obtain ⟨ti, hti, hz⟩ := zea.1 info5
 simp only [Prod.mk.injEq] at hz
 refine wpList_append_grows (P := Try.prog) w hg s x 23 hop 5 ti (.int .u8 0) 1 1 Try.underlying23 hti hz.1 hz.2.1 hz.2.2 rfl (by decide) (some ad0) la.length c0 (la.map (Value.int .u8)) hs (fun h => by cases h) (by rw [zdg]; omega)
  (fun b hb => by obtain rfl := Option.some.inj hb; exact cells la _ hcA) ad1 lb.length c1 (lb.map (Value.int .u8)) hx (by rw [zdg]; omega) (cells lb ad1 hcB) (fun u hu => by obtain ⟨z, _, rfl⟩ := List.mem_map.1 hu; rfl) (by omega) (by unfold maxLen; omega) (by omega) ?_
 intro v' w' ho hgr
 refine hK v' w' (Kd.R_of_own ?_ (fun _ _ => trivial)) ⟨hgr.os, hgr.tape, hgr.output, hgr.size, fun i hi => hgr.block i hi (by simp)⟩
 rw [← List.map_append] at ho
 have h := ho.lax
 rw [← zdh] at h
 exact h
def impl_KeysOf.f (k : Nat) (l0 l1 l2 : List Int) : Option (List Int × List Int) := (impl_joined.f [l1, l2]).bind fun s => (impl_Derive.f k s l0 [112, 108, 117, 109, 101] 44).bind fun t => if t.length = 44 then (impl_joined.f [t.take 32]).bind fun x => (impl_joined.f [t.drop 32]).bind fun y => some (x, y) else none
theorem impl_KeysOf.mono : ∀ a0 a1 a2 k, LeO (impl_KeysOf.f k a0 a1 a2) (impl_KeysOf.f (k + 1) a0 a1 a2) := by
 intro a0 a1 a2 k
 unfold impl_KeysOf.f
 have m0 := @impl_Derive.mono
 exact mt
theorem impl_KeysOf.calls (k : Nat) (AA : Option Addr) (cA : Nat) (lA : List Int) (AB : Option Addr) (cB : Nat) (lB : List Int) (AC : Option Addr) (cC : Nat) (lC : List Int) (r1 r2 : List Int) (w : World) (hr0 : Kd.C (Kd.int .u8) w AA lA.length lA) (hc0 : lA.length ≤ cA) (hr1 : Kd.C (Kd.int .u8) w AB lB.length lB) (hc1 : lB.length ≤ cB) (hr2 : Kd.C (Kd.int .u8) w AC lC.length lC) (hc2 : lC.length ≤ cC) (h : impl_KeysOf.f k lA lB lC = some (r1, r2)) :
  Calls Try.prog 50 #[.slice AA lA.length cA, .slice AB lB.length cB, .slice AC lC.length cC] w fun e w' => ∃ v0_ v1_ : Value, e = .returned (.tuple #[v0_, v1_]) ∧ Kd.R (Kd.int .u8) 5 w' w.heap.size (fun k_ => some k_ ≠ (v1_ : Value).ownBlock) v0_ r1 ∧ Kd.R (Kd.int .u8) 5 w' w.heap.size (fun k_ => some k_ ≠ (v0_ : Value).ownBlock) v1_ r2 ∧ Below w.heap.size w w' := by
 have HB := Aside0.mk (zbj w.heap.size w)
 unfold impl_KeysOf.f at h
 obtain ⟨lS, J_, h⟩ := zbk.mp h
 obtain ⟨lK, A_, h⟩ := zbk.mp h
 by_cases q2 : lK.length = 44
 case neg => rw [if_neg q2] at h; cases h
 rw [if_pos q2] at h
 obtain ⟨ra, Ja, h⟩ := zbk.mp h
 obtain ⟨rb, Jb, h⟩ := zbk.mp h
 simp only [Option.some.injEq, Prod.mk.injEq] at h
 obtain ⟨h1, h2⟩ := h
 have HVA : Aside0 (Kd.V (Kd.int .u8) 5 w w.heap.size (fun _ => True) (.slice AA lA.length cA) lA) := ⟨zeb hc0 (zdd (Kd.C_F (Kd.heap_int .u8) hr0) (fun _ _ => trivial))⟩
 have HVB : Aside0 (Kd.V (Kd.int .u8) 5 w w.heap.size (fun _ => True) (.slice AB lB.length cB) lB) := ⟨zeb hc1 (zdd (Kd.C_F (Kd.heap_int .u8) hr1) (fun _ _ => trivial))⟩
 have HVC : Aside0 (Kd.V (Kd.int .u8) 5 w w.heap.size (fun _ => True) (.slice AC lC.length cC) lC) := ⟨zeb hc2 (zdd (Kd.C_F (Kd.heap_int .u8) hr2) (fun _ _ => trivial))⟩
 obtain ⟨y1, hy⟩ : ∃ y_ : List (List Int), y_ = [lB, lC] := ⟨_, rfl⟩
 rw [← hy] at J_
 have Ny1 := Aside0.mk hy
 obtain ⟨lL, hL⟩ : ∃ y_ : List Int, y_ = [112, 108, 117, 109, 101] := ⟨_, rfl⟩
 rw [← hL] at A_
 have NyL := Aside0.mk hL
 have FJ := Aside0.mk J_
 have FD := Aside0.mk A_
 have FA := Aside0.mk Ja
 have FB := Aside0.mk Jb
 have d0 : ((lK.length : Int) != 44) = false := by rw [q2]; rfl
 have HK44 := Aside0.mk q2
 have H1 := Aside0.mk h1
 have H2 := Aside0.mk h2
 clear hy hL J_ A_ Ja Jb q2 h1 h2 hr0 hc0 hr1 hr2
 go_enter Try.func50, Try.ntmps50
 go_wp2_with (first | (refine jgd 11 ?_; refine Kd.N_lit (Kd.slice 5 (Kd.int .u8)) _ 23 ?hg (N' := 11) ?hd (xs := ([lB, lC] : List (List Int))) (inner := [.slice AB lB.length cB, .slice AC lC.length cC]) (ok := (fun _ => True)) (okp := (fun _ => True)) ?hr ?hp (fun _ hk => hk) trivial (zbj _ _) (zaw _) (by simp) ?_; (case hd => rfl); (case hg => rfl); (case hr => first | (go_simp; done) | (go_simp; rfl)); (case hp => exact (zam (show Kd.FK (Kd.slice 5 (Kd.int .u8)) _ _ lB [.slice AB lB.length cB] from (zcw (zbo HVB.out).2.1 (Kd.V_F HVB.out))) (zam (show Kd.FK (Kd.slice 5 (Kd.int .u8)) _ _ lC [.slice AC lC.length cC] from (zcw (zbo HVC.out).2.1 (Kd.V_F HVC.out))) (zdu _ _)))); intro v_ w_ ho_ hb hg_ hnew_; have xb_ := below_ofs bq hb; clear hg_ hnew_; (first | rw [← Ny1.out] at ho_ | (simp only [Int.reduceToNat] at ho_; rw [← Ny1.out] at ho_)); have mn_ := Aside0.mk (Kd.N_lower ho_ (zaf xb_)); have mA_ := Aside0.mk (zde (by repeat (first | (with_reducible first | exact HVA.out | apply Kd.V_alloc | apply Kd.V_drewN | apply Kd.V_drew) | exact HVA.out)) hb); have mb_ := Aside0.mk (zao xb_ hb); clear HVA HVB HVC HB; have HVA := mA_; clear mA_; have HN := mn_; have HB := mb_; clear mn_ mb_; clear xb_ hb ho_; obtain ⟨AN, cN, eN⟩ := Kd.N_slice HN.out; subst eN) | (refine jgc 79 ?_; refine jgs 12 Try.func79 #[.slice AN y1.length cN] ?_; (with_reducible refine (impl_joined.calls _ _ y1 lS _ ?side1 ?side2 FJ.out).mono ?_); (case side1 => repeat (first | exact (zdy HN.out).2.2 | (with_reducible first | apply zba | apply zbb | apply zbf))); (case side2 => exact (zdy HN.out).2.1); clear HN; rintro e w_ ⟨v_, rfl, ho_, hb⟩; refine ⟨_, rfl, ?_⟩; obtain ⟨AS, cS, e_⟩ := zax ho_; subst e_; have mn_ := Aside0.mk (show Kd.V (Kd.int .u8) 5 _ w.heap.size (fun _ => True) _ _ from zeb (zad ho_).2.1 (zdd (Kd.R_F ho_) (fun _ _ => trivial))); have mA_ := Aside0.mk (zde (by repeat (first | (with_reducible first | exact HVA.out | apply Kd.V_alloc | apply Kd.V_drewN | apply Kd.V_drew) | exact HVA.out)) hb); have mb_ := Aside0.mk (zao bq hb); clear HVA HB; have HVA := mA_; clear mA_; have HVS := mn_; have HB := mb_; clear mn_ mb_; clear ho_ hb) | (refine jgd 15 ?_; refine impl_KeysOf.conv rfl (.tmp 14) rfl [112, 108, 117, 109, 101] lL NyL.out (by decide) rfl ?_; intro AL cL hc_ hv_; simp only [zdr, zdx, List.size_toArray, List.length_cons, List.length_nil, Nat.zero_add, Nat.reduceAdd] at hv_; have HcL := Aside0.mk hc_; have HVL := Aside0.mk hv_; clear hc_ hv_) | (refine jgc 46 ?_; refine jgs 16 Try.func46 #[.slice AS lS.length cS, .slice AA lA.length cA, .slice AL lL.length cL, .int .i64 44] ?_; (with_reducible refine (impl_Derive.calls k _ _ lS _ _ lA _ _ lL 44 lK _ ?side1 ?side2 ?side3 ?side4 ?side5 ?side6 FD.out).mono ?_); (case side1 => exact (zbo (by repeat (first | (with_reducible first | exact HVS.out | apply Kd.V_alloc | apply Kd.V_drewN | apply Kd.V_drew) | exact HVS.out))).2.2); (case side2 => exact (zbo HVS.out).2.1); (case side3 => exact (zbo (by repeat (first | (with_reducible first | exact HVA.out | apply Kd.V_alloc | apply Kd.V_drewN | apply Kd.V_drew) | exact HVA.out))).2.2); (case side4 => exact (zbo HVA.out).2.1); (case side5 => exact (zbo HVL.out).2.2); (case side6 => exact (zbo HVL.out).2.1); rintro e w_ ⟨v_, rfl, ho_, hb⟩; refine ⟨_, rfl, ?_⟩; obtain ⟨AK, cK, e_⟩ := zax ho_; subst e_; have mn_ := Aside0.mk (show Kd.V (Kd.int .u8) 5 _ w.heap.size (fun _ => True) _ _ from zeb (zad ho_).2.1 (zdd (Kd.R_F ho_) (fun _ _ => trivial))); have mb_ := Aside0.mk (zao bq hb); clear HVA HVS HVL HB; have HVK := mn_; have HB := mb_; clear mn_ mb_; clear ho_ hb))
 have hk44 := HK44.out
 obtain ⟨Ax, cx, hcutx, hlx, hCx⟩ := cut_u8_to (P := Try.prog) 23 5 Try.underlying23 info5 AK cK lK 32 (by omega) (by omega) (zbo HVK.out).2.1
 obtain ⟨Ay, cy, hcuty, hly, hCy⟩ := cut_u8_from (P := Try.prog) 23 5 Try.underlying23 info5 AK cK lK 32 (by omega) (by omega) (zbo HVK.out).2.1
 refine impl_KeysOf.r4 lK _ _ ra rb AK Ax Ay cK cx cy hcutx (hCx _ (zbo HVK.out).2.2) hlx hcuty (hCy _ (zbo HVK.out).2.2) hly FA.out FB.out rfl rfl ?_
 intro w5 v22 v23 v26 v27 hb5 r23 r27
 have R23 := Aside0.mk (zas r23 HB.out.size)
 have R27 := Aside0.mk (zas r27 HB.out.size)
 have HB5 := Aside0.mk (zao HB.out hb5)
 clear hb5 r23 r27 HB hcutx hcuty hCx hCy
 simp only [Act.put, zaj, zay, zaz]
 try go_wp2
 go_ret2
 refine ⟨_, _, rfl, ?_, ?_, HB5.out⟩
 ·rw [← H1.out]; exact R23.out
 ·rw [← H2.out]; exact R27.out
end Go.Proofs.Ytienlgcjohpphaa.P
/- Plain lemmas on lists and on numbers that do not wrap, used by all pure statements of this seat; no condition but those each lemma names. -/
namespace Go.Proofs.Ytienlgcjohpphaa.B
open Go.RowKit Go.Proofs.YtienlgcjohpphaaW.PrintWords Go.Proofs.YtienlgcjohpphaaW.PrintLast Go.Proofs.YtienlgcjohpphaaW.PrintMore

theorem wrap_eq (x : Int) (h0 : -9223372036854775808 ≤ x) (h1 : x ≤ 9223372036854775807) : wrap64 x = x := by
  unfold wrap64; omega
theorem rd_mid (pre : List Int) (a : Int) (rest : List Int) : rd (pre ++ a :: rest) (pre.length : Int) = a := by
  unfold rd; simp [List.getD_eq_getElem?_getD]
theorem set_mid (pre : List Int) (a b : Int) (rest : List Int) : (pre ++ b :: rest).set ((pre.length : Int).toNat) a = pre ++ a :: rest := by
  simp
theorem lt_mid {α : Type} (pre : List α) (a : α) (rest : List α) : (pre.length : Int) < (((pre ++ a :: rest).length : Nat) : Int) := by
  simp; omega
theorem nlt_end {α : Type} (pre : List α) : ¬ ((pre.length : Int) < (((pre ++ []).length : Nat) : Int)) := by
  simp
theorem wrap_step {α : Type} (pre : List α) (a : α) (h : pre.length ≤ 4611686018427387904) : wrap64 ((pre.length : Int) + 1) = (((pre ++ [a]).length : Nat) : Int) := by
  rw [wrap_eq _ (by omega) (by omega)]; simp
theorem snoc_app {α : Type} (pre : List α) (a : α) (rest : List α) : pre ++ a :: rest = (pre ++ [a]) ++ rest := by simp
theorem pre_nonneg {α : Type} (pre : List α) : 0 ≤ (pre.length : Int) := by omega

theorem rd_mid2 (pa pb : List Int) (a : Int) (rest : List Int) (h : pa.length = pb.length) : rd (pb ++ a :: rest) (pa.length : Int) = a := by
  rw [h]; exact rd_mid pb a rest
theorem lt_mid2 {α : Type} (pa pb : List α) (a : α) (rest : List α) (h : pa.length = pb.length) : (pa.length : Int) < (((pb ++ a :: rest).length : Nat) : Int) := by
  rw [h]; exact lt_mid pb a rest
theorem nlt_end2 {α : Type} (pa pb : List α) (h : pa.length = pb.length) : ¬ ((pa.length : Int) < (((pb ++ []).length : Nat) : Int)) := by
  rw [h]; exact nlt_end pb
/-- n numbers m, m + 1, .. as bytes. -/
def marks : Nat → Int → List Int
  | 0, _ => []
  | n + 1, m => m % 256 :: marks n (m + 1)
theorem marks_length : ∀ (n : Nat) (m : Int), (marks n m).length = n
  | 0, _ => rfl
  | n + 1, m => by simp [marks, marks_length n]
theorem marks_snoc : ∀ (n : Nat) (m : Int), marks n m ++ [(m + n) % 256] = marks (n + 1) m
  | 0, m => by simp [marks]
  | n + 1, m => by
    have h := marks_snoc n (m + 1)
    rw [show m + 1 + (n : Int) = m + ((n + 1 : Nat) : Int) from by omega] at h
    rw [marks, marks, List.cons_append, h]
/-- n numbers m, m + 1, .. -/
def counts : Nat → Int → List Int
  | 0, _ => []
  | n + 1, m => m :: counts n (m + 1)
theorem counts_length : ∀ (n : Nat) (m : Int), (counts n m).length = n
  | 0, _ => rfl
  | n + 1, m => by simp [counts, counts_length n]
theorem counts_snoc : ∀ (n : Nat) (m : Int), counts n m ++ [m + n] = counts (n + 1) m
  | 0, m => by simp [counts]
  | n + 1, m => by
    have h := counts_snoc n (m + 1)
    rw [show m + 1 + (n : Int) = m + ((n + 1 : Nat) : Int) from by omega] at h
    rw [counts, counts, List.cons_append, h]
end Go.Proofs.Ytienlgcjohpphaa.B
/- What masks and shifts of whole numbers are, as remainders; each for the numbers that it names. -/
namespace Go.Proofs.Ytienlgcjohpphaa.B
open Go.RowKit Go.Proofs.YtienlgcjohpphaaW.PrintWords Go.Proofs.YtienlgcjohpphaaW.PrintLast Go.Proofs.YtienlgcjohpphaaW.PrintMore

theorem i64_and_nat (x : Int) (m : Nat) (hm : m < 9223372036854775808) : Go.bits .and .i64 x (m : Int) = (((x % 18446744073709551616).toNat &&& m : Nat) : Int) := by
  have h1 : (BitVec.ofInt 64 x).toNat = (x % 18446744073709551616).toNat := by
    rw [BitVec.toNat_ofInt]; rfl
  have h2 : (BitVec.ofInt 64 (m : Int)).toNat = m := ofInt_u64 m (by omega)
  have hx : (x % 18446744073709551616).toNat &&& m ≤ m := Nat.and_le_right
  show IntKind.i64.wrap ((BitVec.ofInt 64 x &&& BitVec.ofInt 64 (m : Int)).toNat : Int) = _
  rw [BitVec.toNat_and, h1, h2, IntKind.wrap_i64]
  omega
theorem i64_and31 (x : Int) : Go.bits .and .i64 x 31 = x % 32 := by
  rw [show (31 : Int) = ((31 : Nat) : Int) from rfl, i64_and_nat x 31 (by omega), show (31 : Nat) = 2 ^ 5 - 1 from rfl, Nat.and_two_pow_sub_one_eq_mod]
  omega
theorem i64_and255 (x : Int) : Go.bits .and .i64 x 255 = x % 256 := by
  rw [show (255 : Int) = ((255 : Nat) : Int) from rfl, i64_and_nat x 255 (by omega), show (255 : Nat) = 2 ^ 8 - 1 from rfl, Nat.and_two_pow_sub_one_eq_mod]
  omega
theorem i64_and32 (x : Int) : Go.bits .and .i64 x 4294967295 = x % 4294967296 := by
  rw [show (4294967295 : Int) = ((4294967295 : Nat) : Int) from rfl, i64_and_nat x 4294967295 (by omega), show (4294967295 : Nat) = 2 ^ 32 - 1 from rfl, Nat.and_two_pow_sub_one_eq_mod]
  omega
theorem wf8 {l : List Int} (h : ∀ x ∈ l, (Lit.int .u8 x).wf = true) : ∀ x ∈ l, 0 ≤ x ∧ x < 256 := by
  intro x hx
  have := h x hx
  have m1 : IntKind.u8.min = 0 := by decide
  have m2 : IntKind.u8.max = 255 := by decide
  simp only [Lit.wf, m1, m2, Bool.and_eq_true, decide_eq_true_eq] at this
  omega
theorem wf64 {x : Int} (h : (Lit.int .i64 x).wf = true) : -9223372036854775808 ≤ x ∧ x ≤ 9223372036854775807 := by
  have m1 : IntKind.i64.min = -9223372036854775808 := by decide
  have m2 : IntKind.i64.max = 9223372036854775807 := by decide
  simp only [Lit.wf, m1, m2, Bool.and_eq_true, decide_eq_true_eq] at h
  omega
end Go.Proofs.Ytienlgcjohpphaa.B
