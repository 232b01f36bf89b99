import Derived.Test.Ytienlgcjohpphaas36
import Derived.Test.Ytienlgcjohpphaas42
import Derived.Test.Ytienlgcjohpphaas43
/- Hex, by the program and by the reference: two signs a byte; for lists of at most 2^40 bytes. -/
namespace Go.Proofs.Ytienlgcjohpphaa.B
open Go.RowKit Go.Proofs.Ytienlgcjohpphaa.P Go.Proofs.YtienlgcjohpphaaW.PrintWords Go.Proofs.YtienlgcjohpphaaW.PrintLast Go.Proofs.YtienlgcjohpphaaW.PrintMore
def signs : ByteArray := ⟨#[48, 49, 50, 51, 52, 53, 54, 55, 56, 57, 97, 98, 99, 100, 101, 102]⟩
/-- Two signs a byte. -/
def hexL : List Int → List Int
  | [] => []
  | x :: l => bt signs (x / 16) :: bt signs (x % 16) :: hexL l
theorem hexL_length : ∀ l : List Int, (hexL l).length = 2 * l.length
  | [] => rfl
  | x :: l => by simp [hexL, hexL_length l]; omega
theorem specHex_l0 : ∀ (rest pre acc : List Int) (k : Nat), (∀ x ∈ rest, 0 ≤ x ∧ x < 256) → pre.length + rest.length ≤ 1099511627776 → acc.length + 2 * rest.length ≤ 4398046511104 → rest.length < k →
    spec_Hex.l0 k (pre ++ rest) signs acc (pre.length : Int) = some (strOfNums (acc ++ hexL rest))
  | [], pre, acc, k, hw, hb, hc, hk => by
    obtain ⟨k, rfl⟩ : ∃ m, k = m + 1 := ⟨k - 1, by omega⟩
    simp only [spec_Hex.l0]; rw [if_neg (nlt_end pre)]; simp [hexL]
  | x :: rest, pre, acc, k, hw, hb, hc, hk => by
    obtain ⟨k, rfl⟩ : ∃ m, k = m + 1 := ⟨k - 1, by omega⟩
    simp only [List.length_cons] at hb hc hk
    have hx := hw x (by simp)
    have hs : (signs.size : Int) = 16 := rfl
    have ih := specHex_l0 rest (pre ++ [x]) (acc ++ [bt signs (x / 16), bt signs (x % 16)]) k (fun y hy => hw y (by simp [hy])) (by simp; omega) (by simp; omega) (by omega)
    simp only [spec_Hex.l0, Option.bind_some]
    rw [if_pos (lt_mid pre x rest), if_pos (pre_nonneg pre), rd_mid, u8_and15 _ hx.1 hx.2, hs, if_pos (by omega), if_pos (by omega), if_pos (by omega), if_pos (by omega), if_pos (by simp; omega), wrap_step pre x (by omega), snoc_app pre x rest, ih]
    simp [hexL]
theorem specHex (l : List Int) (hw : ∀ x ∈ l, 0 ≤ x ∧ x < 256) (hn : l.length ≤ 1099511627776) (k : Nat) (hk : l.length < k) : spec_Hex.f k l = some (strOfNums (hexL l)) := by
  have h := specHex_l0 l [] [] k hw (by simpa using hn) (by simp; omega) hk
  simpa [spec_Hex.f, signs] using h
theorem implHex_l0 : ∀ (rest pre acc : List Int) (n : Int) (k : Nat), n = (((pre ++ rest).length : Nat) : Int) → (∀ x ∈ rest, 0 ≤ x ∧ x < 256) → pre.length + rest.length ≤ 1099511627776 → acc.length + 2 * rest.length ≤ 4398046511104 → rest.length < k →
    impl_Hex.l0 k acc (pre ++ rest) n (pre.length : Int) = some (strOfNums (acc ++ hexL rest))
  | [], pre, acc, n, k, he, hw, hb, hc, hk => by
    obtain ⟨k, rfl⟩ : ∃ m, k = m + 1 := ⟨k - 1, by omega⟩
    simp only [impl_Hex.l0]; rw [if_neg (by rw [he]; exact nlt_end pre)]; simp [hexL]
  | x :: rest, pre, acc, n, k, he, hw, hb, hc, hk => by
    obtain ⟨k, rfl⟩ : ∃ m, k = m + 1 := ⟨k - 1, by omega⟩
    simp only [List.length_cons] at hb hc hk
    have hx := hw x (by simp)
    have ih := implHex_l0 rest (pre ++ [x]) (acc ++ [bt signs (x / 16), bt signs (x % 16)]) n k (by rw [he]; simp) (fun y hy => hw y (by simp [hy])) (by simp; omega) (by simp; omega) (by omega)
    simp only [impl_Hex.l0, Option.bind_some]
    rw [if_pos (by rw [he]; exact lt_mid pre x rest), if_pos (pre_nonneg pre), if_pos (lt_mid pre x rest), rd_mid, u8_and15 _ hx.1 hx.2, if_pos (by omega), if_pos (by omega), if_pos (by omega), if_pos (by omega), if_pos (by simp; omega), wrap_step pre x (by omega), snoc_app pre x rest]
    refine Eq.trans ?_ (ih.trans ?_)
    · rfl
    · simp [hexL]
theorem implHex (l : List Int) (hw : ∀ x ∈ l, 0 ≤ x ∧ x < 256) (hn : l.length ≤ 1099511627776) (k : Nat) (hk : l.length < k) : impl_Hex.f k l = some (strOfNums (hexL l)) := by
  have h := implHex_l0 l [] [] _ k rfl hw (by simpa using hn) (by simp; omega) hk
  simpa [impl_Hex.f] using h
end Go.Proofs.Ytienlgcjohpphaa.B
namespace Go.Proofs.Ytienlgcjohpphaa.P
open Go.RowKit Go.Proofs.YtienlgcjohpphaaW.PrintWords Go.Proofs.YtienlgcjohpphaaW.PrintLast Go.Proofs.YtienlgcjohpphaaW.PrintMore
attribute [local go_sem] zcx zcy zdl zdm zcm zcn zcz zda   -- for this text's walks alone
set_option linter.unusedVariables false
set_option linter.unusedSimpArgs false

theorem spec_RouteOf.lit (W : World) (xs : List Int) (p : Nat × Nat) (b0 : Nat) (hm : xs.length ≤ 1000) : Kd.V (Kd.int .u8) 5 (W.alloc (.cells (xs.map (Value.int .u8)).toArray 5 p)) b0 (fun _ => True) (.slice (some ⟨W.heap.size, 0, none⟩) xs.length xs.length) xs := by
 have hg : (W.alloc (.cells (xs.map (Value.int .u8)).toArray 5 p)).heap[W.heap.size]? = some (.cells (xs.map (Value.int .u8)).toArray 5 p) := heap_alloc_new W _
 have hC : Kd.C (Kd.int .u8) (W.alloc (.cells (xs.map (Value.int .u8)).toArray 5 p)) (some ⟨W.heap.size, 0, none⟩) xs.length xs := by
  refine Kd.C_of_reads (readsInt_of.1 ⟨rfl, by omega, fun _ => ⟨_, rfl, fun j hj => ?_⟩⟩)
  rw [add_plain, cell_of_row _ W.heap.size _ _ 5 p hg]
  simp [List.getD_eq_getElem?_getD, hj]
 exact zeo (zbh _) (zdz (Kd.C_F (Kd.heap_int .u8) hC) (fun _ _ => zcc))
theorem spec_RouteOf.conv {ops : Array Oper} {rest : List Oper} {o : Oper} {a : Act} {W : World} {Q : Exit → Act → World → Prop} (hg : o.guard = none) (x : Operand) (hop : o.op = Op.convert 23 23 x) (xs l : List Int) (hl : l = xs) (hm : xs.length ≤ 1000)
  (hv : a.eval x = .slice (some ⟨W.heap.size, 0, none⟩) xs.length xs.length)
  (hK : ∀ A c, c = l.length → Kd.V (Kd.int .u8) 5 (W.alloc (.cells (xs.map (Value.int .u8)).toArray 5 ((xs.map (Value.int .u8)).toArray.size, (xs.map (Value.int .u8)).toArray.size + 1))) 0 (fun _ => True) (.slice A l.length c) l → wpList Try.prog ops Q rest (a.put o.dst (.slice A l.length c)) (W.alloc (.cells (xs.map (Value.int .u8)).toArray 5 ((xs.map (Value.int .u8)).toArray.size, (xs.map (Value.int .u8)).toArray.size + 1)))) :
  wpList Try.prog ops Q (o :: rest) a (W.alloc (.cells (xs.map (Value.int .u8)).toArray 5)) := by
 subst hl
 have hrun := Lib.run_convert_bytes_const (P := Try.prog) W 23 5 (l.map (Value.int .u8)).toArray l.length l.length Try.underlying23 (by kernel_rfl)
 have h := hK _ _ rfl (spec_RouteOf.lit W l _ 0 hm)
 refine wpList_plain hg fun K hK' => ?_
 unfold Oper.wp
 simp [execOp, hop, hv, hrun, Result.andThen]
 rw [show (List.map (Value.int .u8) l).toArray.size = l.length from by simp] at h
 exact hK' _ _ h
theorem spec_RouteOf.app {ops : Array Oper} {rest : List Oper} {o : Oper} {a : Act} {w : World} {Q : Exit → Act → World → Prop} (hg : o.guard = none) (s x : Operand) (hop : o.op = Op.call { callee := Callee.builtin Builtin.append, args := #[s, x], argTypes := #[23, 23] })
  {A0 A1 : Option Addr} {c0 c1 : Nat} {la lb : List Int} (hs : a.eval s = .slice A0 la.length c0) (hx : a.eval x = .slice A1 lb.length c1) (hA : Kd.C (Kd.int .u8) w A0 la.length la) (hB : Kd.C (Kd.int .u8) w A1 lb.length lb) (hc : c0 = la.length) (h0 : 0 < la.length) (h1 : 0 < lb.length) (hm : la.length + lb.length ≤ 100000)
  (hK : ∀ v' w', Kd.R (Kd.int .u8) 5 w' w.heap.size (fun _ => True) v' (la ++ lb) → Below w.heap.size w w' → wpList Try.prog ops Q rest (a.put o.dst v') w') :
  wpList Try.prog ops Q (o :: rest) a w := by
 obtain ⟨ad0, rfl, hcA⟩ := hA.2.2 h0
 obtain ⟨ad1, rfl, hcB⟩ := hB.2.2 h1
 have cells : ∀ (l : List Int) (ad : Addr), (∀ i z, l[i]? = some z → ∃ c, c.length = (Kd.int .u8).sz ∧ (Kd.int .u8).K w z c ∧ ∀ j u, c[j]? = some u → w.cell? (ad.add (i * (Kd.int .u8).sz + j)) = some u) → ∀ j u, (l.map (Value.int .u8))[j]? = some u → w.cell? (ad.add j) = some u := by
  intro l ad h j u hj
  rw [List.getElem?_map] at hj
  obtain ⟨z, hz, rfl⟩ := zex.1 hj
  obtain ⟨c, hc1, hc2, hc3⟩ := h j z hz
  have h3 := hc3 0 (.int .u8 z) (by rw [hc2]; rfl)
  rw [show j * (Kd.int .u8).sz + 0 = j from by show j * 1 + 0 = j; omega] at h3
  exact h3
 obtain ⟨ti, hti, hz⟩ := zex.1 info5
 simp only [Prod.mk.injEq] at hz
 refine wpList_append_grows (P := Try.prog) w hg s x 23 hop 5 ti (.int .u8 0) 1 1 Try.underlying23 hti hz.1 hz.2.1 hz.2.2 rfl (by decide) (some ad0) la.length c0 (la.map (Value.int .u8)) hs (fun h => by cases h) (by rw [zej]; omega)
  (fun b hb => by obtain rfl := Option.some.inj hb; exact cells la _ hcA) ad1 lb.length c1 (lb.map (Value.int .u8)) hx (by rw [zej]; omega) (cells lb ad1 hcB) (fun u hu => by obtain ⟨z, _, rfl⟩ := List.mem_map.1 hu; rfl) (by omega) (by unfold maxLen; omega) (by omega) ?_
 intro v' w' ho hgr
 refine hK v' w' (Kd.R_of_own ?_ (fun _ _ => zcc)) ⟨hgr.os, hgr.tape, hgr.output, hgr.size, fun i hi => hgr.block i hi (by simp)⟩
 rw [← List.map_append] at ho
 have h := ho.lax
 rw [← zek] at h
 exact h
def spec_RouteOf.f (k : Nat) (l0 : List Int) (a1 : Int) : Option (ByteArray) := if (l0.length : Int) = 32 ∧ 0 ≤ a1 ∧ a1 ≤ 40 then (spec_Great.f k a1 2).bind fun t => if 1 ≤ t.length ∧ t.length ≤ 1000 then (spec_Mac.f k l0 ([114, 111, 117, 116, 101] ++ t)).bind fun m => if 8 ≤ m.length then spec_Hex.f k (m.take 8) else none else none else some ⟨#[]⟩
theorem spec_RouteOf.mono : ∀ a0 a1 k, LeO (spec_RouteOf.f k a0 a1) (spec_RouteOf.f (k + 1) a0 a1) := by
 intro a0 a1 k
 unfold spec_RouteOf.f
 repeat' first
   | (with_reducible exact spec_Great.mono _ _ _)
   | (with_reducible exact spec_Mac.mono _ _ _)
   | (with_reducible exact spec_Hex.mono _ _)
   | (with_reducible exact zck _)
   | (with_reducible exact zbs _)
   | (with_reducible refine zby ?_ ?_)
   | (with_reducible refine zbq ?_ (fun _ => ?_))
set_option maxHeartbeats 8000000 in
set_option maxRecDepth 100000 in
theorem spec_RouteOf.calls (k : Nat) (AA : Option Addr) (cA : Nat) (lA : List Int) (a1 : Int) (r : ByteArray) (w : World) (hr0 : Kd.C (Kd.int .u8) w AA lA.length lA) (hc0 : lA.length ≤ cA) (h : spec_RouteOf.f k lA a1 = some r) :
  Calls Try.prog 41 #[.slice AA lA.length cA, .int .i64 a1] w fun e w' => e = .returned (.string r) ∧ Below w.heap.size w w' := by
 have HB := Aside0.mk (zbu w.heap.size w)
 unfold spec_RouteOf.f at h
 by_cases q1 : (lA.length : Int) = 32
 ·by_cases q2 : 0 ≤ a1
  ·by_cases q3 : a1 ≤ 40
   ·rw [if_pos ⟨q1, q2, q3⟩] at h
    have HVA : Aside0 (Kd.V (Kd.int .u8) 5 w w.heap.size (fun _ => True) (.slice AA lA.length cA) lA) := ⟨zeo hc0 (zdz (Kd.C_F (Kd.heap_int .u8) hr0) (fun _ _ => zcc))⟩
    clear hr0 hc0
    obtain ⟨lG, A_, H⟩ := zal.mp h
    have FG := Aside0.mk A_
    clear A_ h
    by_cases q4 : 1 ≤ lG.length ∧ lG.length ≤ 1000
    ·rw [if_pos q4] at H
     obtain ⟨lL, hL⟩ : ∃ y_ : List Int, y_ = [114, 111, 117, 116, 101] := ⟨_, rfl⟩
     have hl5 : lL.length = 5 := by rw [hL]; rfl
     rw [show ([114, 111, 117, 116, 101] : List Int) = lL from hL.symm] at H
     obtain ⟨lN, hN⟩ : ∃ y_ : List Int, y_ = lL ++ lG := ⟨_, rfl⟩
     rw [← hN] at H
     have NyL := Aside0.mk hL
     have NyN := Aside0.mk hN
     have HpL : Aside0 (0 < lL.length) := ⟨by omega⟩
     have HpG : Aside0 (0 < lG.length) := ⟨by omega⟩
     have HsN : Aside0 (lL.length + lG.length ≤ 100000) := ⟨by omega⟩
     clear hL hl5 hN q4
     obtain ⟨lM, A_, H⟩ := zal.mp H
     have FM := Aside0.mk A_
     clear A_
     by_cases q5 : 8 ≤ lM.length
     case neg => rw [if_neg q5] at H; cases H
     rw [if_pos q5] at H
     obtain ⟨lX, hX⟩ : ∃ y_ : List Int, y_ = lM.take 8 := ⟨_, rfl⟩
     rw [← hX] at H
     have FX8 : Aside0 (lX.length = (8 : Int).toNat) := ⟨by rw [hX, zag]; omega⟩
     have FX9 : Aside0 (lX.length ≤ lM.length) := ⟨by rw [hX, zag]; omega⟩
     have FM8 : Aside0 ((8 : Int) ≤ (lM.length : Int)) := ⟨by omega⟩
     have FM9 : Aside0 (8 ≤ lM.length) := ⟨q5⟩
     have NyX := Aside0.mk hX
     have FH := Aside0.mk H
     clear H hX q5
     go_enter Try.func41, Try.ntmps41
     go_wp2_with (first | ((with_reducible refine zdc (N := 15) rfl ?_); refine spec_RouteOf.conv rfl (.tmp 14) rfl [114, 111, 117, 116, 101] lL NyL.out (by decide) rfl ?_; intro AL cL hc_ hv_; simp only [zar, zav, List.size_toArray, List.length_cons, List.length_nil, Nat.zero_add, Nat.reduceAdd] at hv_; have HcL := Aside0.mk hc_; have HVL := Aside0.mk hv_; clear hc_ hv_) | ((with_reducible refine zax (f := 86) rfl ?_); refine goesL_ (some 17) rfl rfl Try.func86 (by kernel_rfl) rfl #[.int .i64 a1, .int .i64 2] rfl (by (try simp only [zan, zar, zav]); first | done | rfl) ?_; (with_reducible refine (spec_Great.calls k a1 2 lG _ FG.out).mono ?_); rintro e w_ ⟨v_, rfl, ho_, hb⟩; refine ⟨_, rfl, ?_⟩; obtain ⟨AG, cG, e_⟩ := zbr ho_; subst e_; have mn_ := Aside0.mk (show Kd.V (Kd.int .u8) 5 _ w.heap.size (fun _ => True) _ _ from zeo (zas ho_).2.1 (zdz (Kd.R_F ho_) (fun _ _ => zcc))); have mA_ := Aside0.mk (zdv (by repeat (first | (with_reducible first | exact HVA.out | apply zce | apply zcf | apply zcj) | exact HVA.out)) hb); have mL_ := Aside0.mk (zdv (by repeat (first | (with_reducible first | exact HVL.out | apply zce | apply zcf | apply zcj) | exact HVL.out)) hb); have mb_ := Aside0.mk (zbb (by repeat (first | (with_reducible first | exact HB.out | apply zaf | apply zab | apply zae) | exact HB.out)) hb); clear HVA; clear HVL; clear HB; have HVA := mA_; clear mA_; have HVL := mL_; clear mL_; have HVG := mn_; have HB := mb_; clear mn_ mb_; clear ho_ hb) | ((with_reducible refine zdc (N := 18) rfl ?_); at_builtin; refine spec_RouteOf.app rfl (.tmp 15) (.tmp 17) rfl (la := lL) (lb := lG) rfl rfl (zcl (by repeat (first | (with_reducible first | exact HVL.out | apply zce | apply zcf | apply zcj) | exact HVL.out))).2.2 (zcl (by repeat (first | (with_reducible first | exact HVG.out | apply zce | apply zcf | apply zcj) | exact HVG.out))).2.2 HcL.out HpL.out HpG.out HsN.out ?_; intro v_ w_ ho_ hb; rw [← NyN.out] at ho_; obtain ⟨AN, cN, e_⟩ := zbr ho_; subst e_; have mn_ := Aside0.mk (show Kd.V (Kd.int .u8) 5 _ w.heap.size (fun _ => True) _ _ from zeo (zas ho_).2.1 (zdz (Kd.R_F ho_) (fun _ _ => zcc))); have mA_ := Aside0.mk (zdv (by repeat (first | (with_reducible first | exact HVA.out | apply zce | apply zcf | apply zcj) | exact HVA.out)) hb); have mb_ := Aside0.mk (zbb (by repeat (first | (with_reducible first | exact HB.out | apply zaf | apply zab | apply zae) | exact HB.out)) hb); clear HVA; clear HVL; clear HVG; clear HB; have HVA := mA_; clear mA_; have HVN := mn_; have HB := mb_; clear mn_ mb_; clear ho_ hb) | ((with_reducible refine zax (f := 37) rfl ?_); refine goesL_ (some 19) rfl rfl Try.func37 (by kernel_rfl) rfl #[.slice AA lA.length cA, .slice AN lN.length cN] rfl (by (try simp only [zan, zar, zav]); first | done | rfl) ?_; (with_reducible refine (spec_Mac.calls k _ _ lA _ _ lN lM _ ?side1 ?side2 ?side3 ?side4 FM.out).mono ?_); (case side1 => exact (zcl (by repeat (first | (with_reducible first | exact HVA.out | apply zce | apply zcf | apply zcj) | exact HVA.out))).2.2); (case side2 => exact (zcl HVA.out).2.1); (case side3 => exact (zcl (by repeat (first | (with_reducible first | exact HVN.out | apply zce | apply zcf | apply zcj) | exact HVN.out))).2.2); (case side4 => exact (zcl HVN.out).2.1); rintro e w_ ⟨v_, rfl, ho_, hb⟩; refine ⟨_, rfl, ?_⟩; obtain ⟨AM, cM, e_⟩ := zbr ho_; subst e_; have mn_ := Aside0.mk (show Kd.V (Kd.int .u8) 5 _ w.heap.size (fun _ => True) _ _ from zeo (zas ho_).2.1 (zdz (Kd.R_F ho_) (fun _ _ => zcc))); have mb_ := Aside0.mk (zbb (by repeat (first | (with_reducible first | exact HB.out | apply zaf | apply zab | apply zae) | exact HB.out)) hb); clear HVA; clear HVN; clear HB; have HVM := mn_; have HB := mb_; clear mn_ mb_; clear ho_ hb; have hroom_ := (zcl HVM.out).2.1; obtain ⟨i0_, hi0_, _, hsz_, _⟩ := info_parts info5; have hcutM := cut_to (P := Try.prog) 23 5 .i64 Try.underlying23 hi0_ AM lM.length cM 8 (by omega) FM8.out hroom_; have hC_ := Kd.C_take (m := 8) (zcl HVM.out).2.2 FM9.out; rw [← NyX.out] at hC_; rw [← FX8.out] at hcutM; have HRX := Aside0.mk hC_; have HCX := Aside0.mk (show lX.length ≤ cM from by have h8_ := FX9.out; omega); clear hC_ hroom_ hi0_ hsz_) | ((with_reducible refine zax (f := 90) rfl ?_); refine goesL_ (some 21) rfl rfl Try.func90 (by kernel_rfl) rfl #[.slice AM lX.length cM] rfl (by (try simp only [zan, zar, zav]); first | done | rfl) ?_; (with_reducible refine (spec_Hex.calls k _ _ lX r _ ?side1 ?side2 FH.out).mono ?_); (case side1 => exact (by repeat (first | (with_reducible exact HRX.out) | (with_reducible refine zbe ?_ _) | (with_reducible refine zbf ?_ _) | (with_reducible refine zbl ?_) | exact HRX.out))); (case side2 => exact HCX.out); rintro e w_ ⟨rfl, hb⟩; refine ⟨_, rfl, ?_⟩; have mb_ := Aside0.mk (zbb (by repeat (first | (with_reducible first | exact HB.out | apply zaf | apply zab | apply zae) | exact HB.out)) hb); clear HB; have HB := mb_; clear mb_; clear hb) | go_in)
     go_ret
     exact ⟨rfl, by repeat (first | (with_reducible first | exact HB.out | apply zaf | apply zab | apply zae) | exact HB.out)⟩
    ·rw [if_neg q4] at H; cases H
   ·rw [if_neg (by omega)] at h
    obtain rfl := Option.some.inj h
    clear h hr0 hc0
    go_enter Try.func41, Try.ntmps41
    go_wp2
    go_ret
    exact ⟨rfl, by repeat (first | (with_reducible first | exact HB.out | apply zaf | apply zab | apply zae) | exact HB.out)⟩
  ·rw [if_neg (by omega)] at h
   obtain rfl := Option.some.inj h
   clear h hr0 hc0
   go_enter Try.func41, Try.ntmps41
   go_wp2
   go_ret
   exact ⟨rfl, by repeat (first | (with_reducible first | exact HB.out | apply zaf | apply zab | apply zae) | exact HB.out)⟩
 ·rw [if_neg (by omega)] at h
  obtain rfl := Option.some.inj h
  clear h hr0 hc0
  go_enter Try.func41, Try.ntmps41
  go_wp2
  go_ret
  exact ⟨rfl, by repeat (first | (with_reducible first | exact HB.out | apply zaf | apply zab | apply zae) | exact HB.out)⟩
end Go.Proofs.Ytienlgcjohpphaa.P
