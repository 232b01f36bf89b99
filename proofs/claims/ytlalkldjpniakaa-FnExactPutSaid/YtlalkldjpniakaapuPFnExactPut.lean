import Derived.Test.Ytlalkldjpniakaapu11
import Derived.Test.Ytlalkldjpniakaapu44
import Derived.Test.Ytlalkldjpniakaapu45
namespace Go.Proofs.Ytlalkldjpniakaa.P
open Go.RowKit Go.Proofs.YtlalkldjpniakaaW.PrintWords Go.Proofs.YtlalkldjpniakaaW.PrintLast Go.Proofs.YtlalkldjpniakaaW.PrintMore
attribute [local go_sem] zdj zdk zed zee zcy zcz zdl zdm   -- for this text's walks alone
set_option linter.unusedVariables false
set_option linter.unusedSimpArgs false

theorem laws_FnExactPut.made_S {t : Nat} {w W w' : World} {v : Value} {r : List S34} {ok : Nat → Prop} (ho : Kd.S k34 34 w' W.heap.size ok v r) (hb : Below W.heap.size W w') (hB : w.heap.size ≤ W.heap.size) (hT : t ≤ W.heap.size) :
  ∃ a b, t ≤ a ∧ a ≤ b ∧ b ≤ w'.heap.size ∧ Kd.S k34 34 w' w.heap.size (fun k_ => (a ≤ k_ ∧ k_ < b) ∧ True) v r :=
 ⟨W.heap.size, w'.heap.size, hT, hb.size, zaw _, zef (zdf (zfd ho) (fun _ h => ⟨⟨h.2.1, h.2.2.1⟩, trivial⟩)) hB⟩
theorem laws_FnExactPut.made_V {t : Nat} {w W w' : World} {v : Value} {r : List S34} {ok : Nat → Prop} (ho : Kd.S k34 34 w' W.heap.size ok v r) (hb : Below W.heap.size W w') (hB : w.heap.size ≤ W.heap.size) (hT : t ≤ W.heap.size) :
  ∃ a b, t ≤ a ∧ a ≤ b ∧ b ≤ w'.heap.size ∧ Kd.V k34 34 w' w.heap.size (fun k_ => (a ≤ k_ ∧ k_ < b) ∧ True) v r :=
 ⟨W.heap.size, w'.heap.size, hT, hb.size, zaw _, Kd.S_V (zdf (zfd ho) (fun _ h => ⟨⟨h.2.1, h.2.2.1⟩, trivial⟩))⟩
theorem laws_FnExactPut.made_R {t : Nat} {w W w' : World} {v : Value} {r : List Int} {ok : Nat → Prop} (ho : Kd.R (Kd.int .u8) 5 w' W.heap.size ok v r) (hb : Below W.heap.size W w') (hB : w.heap.size ≤ W.heap.size) (hT : t ≤ W.heap.size) :
  ∃ a b, t ≤ a ∧ a ≤ b ∧ b ≤ w'.heap.size ∧ Kd.R (Kd.int .u8) 5 w' w.heap.size (fun k_ => (a ≤ k_ ∧ k_ < b) ∧ True) v r :=
 ⟨W.heap.size, w'.heap.size, hT, hb.size, zaw _, zbx (zbr (Kd.R_bound ho) (fun _ h => ⟨⟨h.2.1, h.2.2.1⟩, trivial⟩)) hB⟩
theorem laws_FnExactPut.made_RS {t : Nat} {w W w' : World} {u v : Value} {q : List Int} {r : List S34} {ok : Nat → Prop} (ho1 : Kd.R (Kd.int .u8) 5 w' W.heap.size ok u q) (ho : Kd.S k34 34 w' W.heap.size (fun k_ => some k_ ≠ u.ownBlock) v r) (hb : Below W.heap.size W w') (hB : w.heap.size ≤ W.heap.size) (hT : t ≤ W.heap.size) :
  ∃ a b, t ≤ a ∧ a ≤ b ∧ b ≤ w'.heap.size ∧ Kd.R (Kd.int .u8) 5 w' w.heap.size (fun k_ => (a ≤ k_ ∧ k_ < b) ∧ some k_ = u.ownBlock) u q ∧ Kd.S k34 34 w' w.heap.size (fun k_ => (a ≤ k_ ∧ k_ < b) ∧ some k_ ≠ u.ownBlock) v r :=
 ⟨W.heap.size, w'.heap.size, hT, hb.size, zaw _, zbx (zbr (Kd.R_bound (zdy rfl ho1)) (fun _ h => ⟨⟨h.2.1, h.2.2.1⟩, h.1⟩)) hB, zef (zdf (zfd ho) (fun _ h => ⟨⟨h.2.1, h.2.2.1⟩, h.1⟩)) hB⟩
theorem laws_FnExactPut.made_RV {t : Nat} {w W w' : World} {u v : Value} {q : List Int} {r : List S34} {ok : Nat → Prop} (ho1 : Kd.R (Kd.int .u8) 5 w' W.heap.size ok u q) (ho : Kd.N k34 34 w' W.heap.size (fun k_ => (W.heap.size ≤ k_) ∧ some k_ ≠ u.ownBlock) v r) (hb : Below W.heap.size W w') (hB : w.heap.size ≤ W.heap.size) (hT : t ≤ W.heap.size) :
  ∃ a b, t ≤ a ∧ a ≤ b ∧ b ≤ w'.heap.size ∧ Kd.R (Kd.int .u8) 5 w' w.heap.size (fun k_ => (a ≤ k_ ∧ k_ < b) ∧ True) u q ∧ Kd.V k34 34 w' w.heap.size (fun k_ => (a ≤ k_ ∧ k_ < b) ∧ True) v r :=
 ⟨W.heap.size, w'.heap.size, hT, hb.size, zaw _, zbx (zbr (Kd.R_bound ho1) (fun _ h => ⟨⟨h.2.1, h.2.2.1⟩, trivial⟩)) hB, Kd.N_V (Kd.N_mono (Kd.N_bound ho) (fun _ h => ⟨⟨h.1.1, h.2⟩, trivial⟩))⟩
theorem laws_FnExactPut.made_B {t g : Nat} {W w' : World} {o : Obj} (hg : g = W.heap.size) (ho : w'.heap[g]? = some o) (hb : Below W.heap.size W w') (hT : t ≤ W.heap.size) : ∃ a b, t ≤ a ∧ a ≤ b ∧ b ≤ w'.heap.size ∧ a ≤ g ∧ g < b :=
 ⟨W.heap.size, w'.heap.size, hT, hb.size, zaw _, by omega, (Array.getElem?_eq_some_iff.1 ho).1⟩
theorem laws_FnExactPut.C_len {w : World} {A : Option Addr} {n m : Nat} {xs : List S34} (e : n = m) (h : Kd.C k34 w A n xs) : Kd.C k34 w A m xs := e ▸ h
theorem laws_FnExactPut.C_lenR {w : World} {A : Option Addr} {n m : Nat} {xs : List Int} (e : n = m) (h : Kd.C (Kd.int .u8) w A n xs) : Kd.C (Kd.int .u8) w A m xs := e ▸ h
set_option maxHeartbeats 4000000 in
set_option maxRecDepth 100000 in
theorem laws_FnExactPut.r8 {Q : Exit → Act → World → Prop} {a0 : Act} {W : World} (k c0 c3 g : Nat) (A0 A3 : Option Addr) (l0 : List S31) (l3 : List Int) (p0 : ByteArray) (p1 p2 : Int) (lx ld : List S34) (i0 : ByteArray) (i1 i2 : Int) (ir : List Int) (d2 : Bool) (hC0 : Kd.C k31 W A0 l0.length l0) (hc0 : l0.length ≤ c0) (hC3 : Kd.C (Kd.int .u8) W A3 l3.length l3) (hc3 : l3.length ≤ c3) (hblk : W.heap[g]? = some (.cells [.string p0, .int .i64 p1, .int .i64 p2, .slice A3 l3.length c3].toArray 31 (0, 0))) (FX : laws_toItemS.f k l0 = some lx) (FT : laws_toItem.f k p0 p1 p2 l3 = some (i0, i1, i2, ir)) (FP : spec_Put.f k lx i0 i1 i2 ir = some (ld, d2)) (hsz : a0.tmps.size = 119) (h0 : a0.tmps[0]? = some (.slice A0 l0.length c0)) (h3 : a0.tmps[3]? = some (.pointer (some ⟨g, 0, none⟩)))
  (hend : ∀ (w' : World) (A : Option Addr) (c : Nat) (v1 v3 : Value), Below W.heap.size W w' → Kd.S k34 34 w' W.heap.size (fun _ => True) (.slice A ld.length c) ld → Q .normal ((((((((((a0.put (some 28) (.slice A0 l0.length c0)).put (some 29) (v1)).put (some 30) (.agg #[.string p0, .int .i64 p1, .int .i64 p2, .slice A3 l3.length c3])).put (some 31) (v3)).put (some 32) (.tuple #[.slice A ld.length c, .bool d2])).put (some 27) (.tuple #[.slice A ld.length c, .bool d2])).put (some 33) (.slice A ld.length c)).put (some 34) (.bool d2)).put (some 6) (.slice A ld.length c)).put (some 7) (.bool d2)) w') : (Code.region 8 (opsOf Try.f13 8) true).wp Try.prog Q a0 W := by
 have hn : (opsOf Try.f13 8).size = 10 := by kernel_rfl
 have hk : regOk (opsOf Try.f13 8) a0.tmps.size = true := by rw [hsz]; kernel_rfl
 have hst : ∀ (vals : Nat → Value) (w_ w1 : World), Below w_.heap.size w_ w1 → ∀ j, ([fun vals w_ => vals 0 = .slice A0 l0.length c0, fun vals w_ => Kd.S k34 34 w_ W.heap.size (fun _ => True) (vals 1) lx, fun vals w_ => vals 2 = .agg #[.string p0, .int .i64 p1, .int .i64 p2, .slice A3 l3.length c3], fun vals w_ => ∃ v, vals 3 = .agg #[.string i0, .int .i64 i1, .int .i64 i2, v] ∧ Kd.R (Kd.int .u8) 5 w_ W.heap.size (fun _ => True) v ir, fun vals w_ => ∃ A c, vals 4 = .tuple #[.slice A ld.length c, .bool d2] ∧ Kd.S k34 34 w_ W.heap.size (fun _ => True) (.slice A ld.length c) ld, fun vals w_ => ∃ A c, vals 4 = .tuple #[.slice A ld.length c, .bool d2] ∧ vals 5 = .tuple #[.slice A ld.length c, .bool d2], fun vals w_ => ∃ A c, vals 5 = .tuple #[.slice A ld.length c, .bool d2] ∧ vals 6 = .slice A ld.length c, fun vals w_ => vals 7 = .bool d2, fun vals w_ => ∃ A c, vals 6 = .slice A ld.length c ∧ vals 8 = .slice A ld.length c, fun vals w_ => vals 9 = .bool d2] : List ((Nat → Value) → World → Prop)).getD j (fun _ _ => True) vals w_ → ([fun vals w_ => vals 0 = .slice A0 l0.length c0, fun vals w_ => Kd.S k34 34 w_ W.heap.size (fun _ => True) (vals 1) lx, fun vals w_ => vals 2 = .agg #[.string p0, .int .i64 p1, .int .i64 p2, .slice A3 l3.length c3], fun vals w_ => ∃ v, vals 3 = .agg #[.string i0, .int .i64 i1, .int .i64 i2, v] ∧ Kd.R (Kd.int .u8) 5 w_ W.heap.size (fun _ => True) v ir, fun vals w_ => ∃ A c, vals 4 = .tuple #[.slice A ld.length c, .bool d2] ∧ Kd.S k34 34 w_ W.heap.size (fun _ => True) (.slice A ld.length c) ld, fun vals w_ => ∃ A c, vals 4 = .tuple #[.slice A ld.length c, .bool d2] ∧ vals 5 = .tuple #[.slice A ld.length c, .bool d2], fun vals w_ => ∃ A c, vals 5 = .tuple #[.slice A ld.length c, .bool d2] ∧ vals 6 = .slice A ld.length c, fun vals w_ => vals 7 = .bool d2, fun vals w_ => ∃ A c, vals 6 = .slice A ld.length c ∧ vals 8 = .slice A ld.length c, fun vals w_ => vals 9 = .bool d2] : List ((Nat → Value) → World → Prop)).getD j (fun _ _ => True) vals w1 := by
  intro vals w_ w1 hb j h
  match j, h with
  | 0, h => exact h
  | 1, h => exact zcv h hb
  | 2, h => exact h
  | 3, h => exact by obtain ⟨v, h2, h3⟩ := h; exact ⟨v, h2, Kd.R_below h3 hb⟩
  | 4, h => exact by obtain ⟨A, c, h2, h3⟩ := h; exact ⟨A, c, h2, zcv h3 hb⟩
  | 5, h => exact h
  | 6, h => exact h
  | 7, h => exact h
  | 8, h => exact h
  | 9, h => exact h
  | k + 10, _ => exact trivial
 refine region_inv (by kernel_rfl) (fun j => ([fun vals w_ => vals 0 = .slice A0 l0.length c0, fun vals w_ => Kd.S k34 34 w_ W.heap.size (fun _ => True) (vals 1) lx, fun vals w_ => vals 2 = .agg #[.string p0, .int .i64 p1, .int .i64 p2, .slice A3 l3.length c3], fun vals w_ => ∃ v, vals 3 = .agg #[.string i0, .int .i64 i1, .int .i64 i2, v] ∧ Kd.R (Kd.int .u8) 5 w_ W.heap.size (fun _ => True) v ir, fun vals w_ => ∃ A c, vals 4 = .tuple #[.slice A ld.length c, .bool d2] ∧ Kd.S k34 34 w_ W.heap.size (fun _ => True) (.slice A ld.length c) ld, fun vals w_ => ∃ A c, vals 4 = .tuple #[.slice A ld.length c, .bool d2] ∧ vals 5 = .tuple #[.slice A ld.length c, .bool d2], fun vals w_ => ∃ A c, vals 5 = .tuple #[.slice A ld.length c, .bool d2] ∧ vals 6 = .slice A ld.length c, fun vals w_ => vals 7 = .bool d2, fun vals w_ => ∃ A c, vals 6 = .slice A ld.length c ∧ vals 8 = .slice A ld.length c, fun vals w_ => vals 9 = .bool d2] : List ((Nat → Value) → World → Prop)).getD j (fun _ _ => True)) (fun w_ => Below W.heap.size W w_) (fun j => (opsOf Try.f13 8).size) hk ?_ ?_ ?_ ?_
 ·intro j vals vals' w_ h0 h1 h
  match j, h0, h1, h with
  | 0, h0, h1, h => exact h0.symm.trans h
  | 1, h0, h1, h => exact by show Kd.S k34 34 w_ W.heap.size (fun _ => True) (vals' 1) lx; rw [← h0]; exact h
  | 2, h0, h1, h => exact h0.symm.trans h
  | 3, h0, h1, h => exact by obtain ⟨v, h2, h3⟩ := h; exact ⟨v, h0.symm.trans h2, h3⟩
  | 4, h0, h1, h => exact by obtain ⟨A, c, h2, h3⟩ := h; exact ⟨A, c, h0.symm.trans h2, h3⟩
  | 5, h0, h1, h => exact by obtain ⟨A, c, h2, h3⟩ := h; exact ⟨A, c, (h1 4 (dep_of (by kernel_rfl))).symm.trans h2, h0.symm.trans h3⟩
  | 6, h0, h1, h => exact by obtain ⟨A, c, h2, h3⟩ := h; exact ⟨A, c, (h1 5 (dep_of (by kernel_rfl))).symm.trans h2, h0.symm.trans h3⟩
  | 7, h0, h1, h => exact h0.symm.trans h
  | 8, h0, h1, h => exact by obtain ⟨A, c, h2, h3⟩ := h; exact ⟨A, c, (h1 6 (dep_of (by kernel_rfl))).symm.trans h2, h0.symm.trans h3⟩
  | 9, h0, h1, h => exact h0.symm.trans h
  | k + 10, _, _, _ => exact trivial
 ·exact below_drew (zbt _ _)
 ·intro i o ho a w vals hfr hdp hG K hK
  match i, ho, hdp, hK with
  | 0, ho, hdp, hK =>
   obtain ⟨hop, hds, hgd⟩ := reg_op (op := Op.move (Operand.tmp 0)) (d := some 28) (g := none) (by kernel_rfl) ho
   have e0 : a.eval (.tmp 0) = .slice A0 l0.length c0 := eval_tmp ((hfr 0 (not_dst (by kernel_rfl))).trans h0)
   refine reg_val (w1 := w) ho hgd (.slice A0 l0.length c0) (by unfold execOp; simp only [hop, e0]; go_simp) ?_
   exact hK _ _ (upd_same _ _ _) hG (fun _ _ _ h => h)
  | 1, ho, hdp, hK =>
   obtain ⟨hop, hds, hgd⟩ := reg_op (op := Op.call { callee := Callee.value (Operand.func 20), args := #[(Operand.tmp 28)], argTypes := #[22] }) (d := some 29) (g := none) (by kernel_rfl) ho
   have e28 : a.eval (.tmp 28) = .slice A0 l0.length c0 := (eval_tmp ((hdp 0 (dep_of (by kernel_rfl))).1 28 rfl)).trans ((hdp 0 (dep_of (by kernel_rfl))).2 (.inr (zaw _)))
   refine reg_call ho hgd (f := 20) Try.func20 (by kernel_rfl) rfl #[.slice A0 l0.length c0] hop (by simp only [zat, zbe, zbh, e28]) ?_
   refine (laws_toItemS.calls k _ _ l0 lx w (zbf hC0 hG) hc0 FX).mono ?_
   rintro e w1 ⟨v, rfl, hr, hb⟩
   exact ⟨_, rfl, hK _ _ (show Kd.S k34 34 w1 W.heap.size (fun _ => True) (upd vals 1 v 1) lx from by rw [upd_same]; exact zef hr hG.size) (zai hG hb) (fun j _ _ h => hst vals w w1 hb j h)⟩
  | 2, ho, hdp, hK =>
   obtain ⟨hop, hds, hgd⟩ := reg_op (op := Op.load 31 (Operand.tmp 3)) (d := some 30) (g := none) (by kernel_rfl) ho
   have e3 : a.eval (.tmp 3) = .pointer (some ⟨g, 0, none⟩) := eval_tmp ((hfr 3 (not_dst (by kernel_rfl))).trans h3)
   have hblk_ := (hG.block _ (Array.getElem?_eq_some_iff.1 hblk).1).trans hblk; have hq0_ : w.cell? ⟨g, 0, none⟩ = some (.string p0) := (zaf hblk_ 0).trans rfl; have hq1_ : w.cell? ⟨g, 1, none⟩ = some (.int .i64 p1) := (zaf hblk_ 1).trans rfl; have hq2_ : w.cell? ⟨g, 2, none⟩ = some (.int .i64 p2) := (zaf hblk_ 2).trans rfl; have hq3_ : w.cell? ⟨g, 3, none⟩ = some (.slice A3 l3.length c3) := (zaf hblk_ 3).trans rfl; have hu31 := Try.underlying31
   refine reg_val (w1 := w) ho hgd (.agg #[.string p0, .int .i64 p1, .int .i64 p2, .slice A3 l3.length c3]) (by unfold execOp; simp only [hop, e3]; go_simp) ?_
   exact hK _ _ (upd_same _ _ _) hG (fun _ _ _ h => h)
  | 3, ho, hdp, hK =>
   obtain ⟨hop, hds, hgd⟩ := reg_op (op := Op.call { callee := Callee.value (Operand.func 25), args := #[(Operand.tmp 30)], argTypes := #[31] }) (d := some 31) (g := none) (by kernel_rfl) ho
   have e30 : a.eval (.tmp 30) = .agg #[.string p0, .int .i64 p1, .int .i64 p2, .slice A3 l3.length c3] := (eval_tmp ((hdp 2 (dep_of (by kernel_rfl))).1 30 rfl)).trans ((hdp 2 (dep_of (by kernel_rfl))).2 (.inr (zaw _)))
   refine reg_call ho hgd (f := 25) Try.func25 (by kernel_rfl) rfl #[.agg #[.string p0, .int .i64 p1, .int .i64 p2, .slice A3 l3.length c3]] hop (by simp only [zat, zbe, zbh, e30]) ?_
   refine (laws_toItem.calls k p0 p1 p2 _ _ l3 i0 i1 i2 ir w (zbf hC3 hG) hc3 FT).mono ?_
   rintro e w1 ⟨v, rfl, hr, hb⟩
   exact ⟨_, rfl, hK _ _ ⟨v, upd_same _ _ _, zbx hr hG.size⟩ (zai hG hb) (fun j _ _ h => hst vals w w1 hb j h)⟩
  | 4, ho, hdp, hK =>
   obtain ⟨hop, hds, hgd⟩ := reg_op (op := Op.call { callee := Callee.value (Operand.func 61), args := #[(Operand.tmp 29), (Operand.tmp 31)], argTypes := #[25, 34] }) (d := some 32) (g := none) (by kernel_rfl) ho
   have e29 : a.eval (.tmp 29) = vals 1 := eval_tmp ((hdp 1 (dep_of (by kernel_rfl))).1 29 rfl)
   have f1_ := (hdp 1 (dep_of (by kernel_rfl))).2 (.inr (zaw _))
   have f2_ : Kd.S k34 34 w W.heap.size (fun _ => True) (vals 1) lx := f1_
   obtain ⟨Ax, cx, f3⟩ := zfs f2_
   replace e29 := e29.trans f3
   rw [f3] at f2_
   have e31 : a.eval (.tmp 31) = vals 3 := eval_tmp ((hdp 3 (dep_of (by kernel_rfl))).1 31 rfl)
   have f4_ := (hdp 3 (dep_of (by kernel_rfl))).2 (.inr (zaw _))
   obtain ⟨v3, f5, f6⟩ := f4_
   obtain ⟨Ar, cr, f7⟩ := zci f6
   subst f7
   replace e31 := e31.trans f5
   refine reg_call ho hgd (f := 61) Try.func61 (by kernel_rfl) rfl #[.slice Ax lx.length cx, .agg #[.string i0, .int .i64 i1, .int .i64 i2, .slice Ar ir.length cr]] hop (by simp only [zat, zbe, zbh, e29, e31]) ?_
   refine (spec_Put.calls k _ _ lx i0 i1 i2 _ _ ir ld d2 w (zcm f2_).2.2 (zcm f2_).2.1 (Kd.R_reads' f6).2.2 (Kd.R_reads' f6).2.1 FP).mono ?_
   rintro e w1 ⟨v, rfl, hr, hb⟩
   obtain ⟨A, c, e_⟩ := zfs hr
   subst e_
   exact ⟨_, rfl, hK _ _ ⟨A, c, upd_same _ _ _, zef hr hG.size⟩ (zai hG hb) (fun j _ _ h => hst vals w w1 hb j h)⟩
  | 5, ho, hdp, hK =>
   obtain ⟨hop, hds, hgd⟩ := reg_op (op := Op.move (Operand.tmp 32)) (d := some 27) (g := none) (by kernel_rfl) ho
   have e32 : a.eval (.tmp 32) = vals 4 := eval_tmp ((hdp 4 (dep_of (by kernel_rfl))).1 32 rfl)
   have fr_ := (hdp 4 (dep_of (by kernel_rfl))).2 (.inr (zaw _))
   obtain ⟨A, c, f1, f2⟩ := fr_
   replace e32 := e32.trans f1
   refine reg_val (w1 := w) ho hgd _ (by unfold execOp; simp only [hop, e32]; go_simp; rfl) ?_
   exact hK _ _ ⟨A, c, (upd_ne vals _ (by omega)).trans f1, upd_same _ _ _⟩ hG (fun _ _ _ h => h)
  | 6, ho, hdp, hK =>
   obtain ⟨hop, hds, hgd⟩ := reg_op (op := Op.extract (Operand.tmp 27) 0) (d := some 33) (g := none) (by kernel_rfl) ho
   have e27 : a.eval (.tmp 27) = vals 5 := eval_tmp ((hdp 5 (dep_of (by kernel_rfl))).1 27 rfl)
   have fr_ := (hdp 5 (dep_of (by kernel_rfl))).2 (.inr (zaw _))
   obtain ⟨A, c, f1, f2⟩ := fr_
   replace e27 := e27.trans f2
   refine reg_val (w1 := w) ho hgd (.slice A ld.length c) (by unfold execOp; simp only [hop, e27]; go_simp) ?_
   exact hK _ _ ⟨A, c, (upd_ne vals _ (by omega)).trans f2, upd_same _ _ _⟩ hG (fun _ _ _ h => h)
  | 7, ho, hdp, hK =>
   obtain ⟨hop, hds, hgd⟩ := reg_op (op := Op.extract (Operand.tmp 27) 1) (d := some 34) (g := none) (by kernel_rfl) ho
   have e27 : a.eval (.tmp 27) = vals 5 := eval_tmp ((hdp 5 (dep_of (by kernel_rfl))).1 27 rfl)
   have fr_ := (hdp 5 (dep_of (by kernel_rfl))).2 (.inr (zaw _))
   obtain ⟨A, c, f1, f2⟩ := fr_
   replace e27 := e27.trans f2
   refine reg_val (w1 := w) ho hgd (.bool d2) (by unfold execOp; simp only [hop, e27]; go_simp) ?_
   exact hK _ _ (upd_same _ _ _) hG (fun _ _ _ h => h)
  | 8, ho, hdp, hK =>
   obtain ⟨hop, hds, hgd⟩ := reg_op (op := Op.assign (Operand.tmp 33)) (d := some 6) (g := none) (by kernel_rfl) ho
   have e33 : a.eval (.tmp 33) = vals 6 := eval_tmp ((hdp 6 (dep_of (by kernel_rfl))).1 33 rfl)
   have fr_ := (hdp 6 (dep_of (by kernel_rfl))).2 (.inr (zaw _))
   obtain ⟨A, c, f1, f2⟩ := fr_
   replace e33 := e33.trans f2
   refine reg_val (w1 := w) ho hgd (.slice A ld.length c) (by unfold execOp; simp only [hop, e33]; go_simp) ?_
   exact hK _ _ ⟨A, c, (upd_ne vals _ (by omega)).trans f2, upd_same _ _ _⟩ hG (fun _ _ _ h => h)
  | 9, ho, hdp, hK =>
   obtain ⟨hop, hds, hgd⟩ := reg_op (op := Op.assign (Operand.tmp 34)) (d := some 7) (g := none) (by kernel_rfl) ho
   have e34 : a.eval (.tmp 34) = vals 7 := eval_tmp ((hdp 7 (dep_of (by kernel_rfl))).1 34 rfl)
   have fr_ := (hdp 7 (dep_of (by kernel_rfl))).2 (.inr (zaw _))
   replace e34 := e34.trans fr_
   refine reg_val (w1 := w) ho hgd (.bool d2) (by unfold execOp; simp only [hop, e34]; go_simp) ?_
   exact hK _ _ (upd_same _ _ _) hG (fun _ _ _ h => h)
  | k + 10, ho, _, _ => exact absurd (Array.getElem?_eq_some_iff.1 ho).1 (by rw [hn]; omega)
 ·intro a w' vals hd hs hf hv hV hG
  have ha := region_act hk hd hs hf hv
  have hN : ∀ j, j < 10 → j < (opsOf Try.f13 8).size := fun j h => by rw [hn]; exact h
  replace ha : a = ((((((((((a0.put (some 28) (vals 0)).put (some 29) (vals 1)).put (some 30) (vals 2)).put (some 31) (vals 3)).put (some 32) (vals 4)).put (some 27) (vals 5)).put (some 33) (vals 6)).put (some 34) (vals 7)).put (some 6) (vals 8)).put (some 7) (vals 9)) := ha.trans (by rw [hn]; rfl)
  rw [ha]
  obtain ⟨A, c, q4, q4'⟩ := hV 4 (hN 4 (by omega)) (zaw _)
  obtain ⟨A2, c2, q5, q5'⟩ := hV 5 (hN 5 (by omega)) (zaw _)
  have z_ := q4.symm.trans q5
  simp only [Value.tuple.injEq, Array.mk.injEq, List.cons.injEq, Value.slice.injEq, true_and, and_true] at z_
  obtain ⟨rfl, rfl⟩ := z_
  obtain ⟨A3_, c3_, q6, q6'⟩ := hV 6 (hN 6 (by omega)) (zaw _)
  have z_ := q5'.symm.trans q6
  simp only [Value.tuple.injEq, Array.mk.injEq, List.cons.injEq, Value.slice.injEq, true_and, and_true] at z_
  obtain ⟨rfl, rfl⟩ := z_
  obtain ⟨A4_, c4_, q8, q8'⟩ := hV 8 (hN 8 (by omega)) (zaw _)
  have z_ := q6'.symm.trans q8
  simp only [Value.slice.injEq, true_and] at z_
  obtain ⟨rfl, rfl⟩ := z_
  rw [show vals 0 = .slice A0 l0.length c0 from hV 0 (hN 0 (by omega)) (zaw _), show vals 2 = .agg #[.string p0, .int .i64 p1, .int .i64 p2, .slice A3 l3.length c3] from hV 2 (hN 2 (by omega)) (zaw _), q4, q5', q6', show vals 7 = .bool d2 from hV 7 (hN 7 (by omega)) (zaw _), q8', show vals 9 = .bool d2 from hV 9 (hN 9 (by omega)) (zaw _)]
  exact hend w' A c (vals 1) (vals 3) hG q4'
set_option maxHeartbeats 4000000 in
set_option maxRecDepth 100000 in
theorem laws_FnExactPut.r31 {Q : Exit → Act → World → Prop} {a0 : Act} {W : World} (k c0 c3 g : Nat) (A0 A3 : Option Addr) (l0 : List S31) (l3 : List Int) (p0 : ByteArray) (p1 p2 : Int) (lx ld : List S34) (i0 : ByteArray) (i1 i2 : Int) (ir : List Int) (d2 : Bool) (hC0 : Kd.C k31 W A0 l0.length l0) (hc0 : l0.length ≤ c0) (hC3 : Kd.C (Kd.int .u8) W A3 l3.length l3) (hc3 : l3.length ≤ c3) (hblk : W.heap[g]? = some (.cells [.string p0, .int .i64 p1, .int .i64 p2, .slice A3 l3.length c3].toArray 31 (0, 0))) (FX : laws_toItemS.f k l0 = some lx) (FT : laws_toItem.f k p0 p1 p2 l3 = some (i0, i1, i2, ir)) (FP : impl_Put.f k lx i0 i1 i2 ir = some (ld, d2)) (hsz : a0.tmps.size = 119) (h0 : a0.tmps[0]? = some (.slice A0 l0.length c0)) (h3 : a0.tmps[3]? = some (.pointer (some ⟨g, 0, none⟩)))
  (hend : ∀ (w' : World) (A : Option Addr) (c : Nat) (v1 v3 : Value), Below W.heap.size W w' → Kd.S k34 34 w' W.heap.size (fun _ => True) (.slice A ld.length c) ld → Q .normal ((((((((((a0.put (some 95) (.slice A0 l0.length c0)).put (some 96) (v1)).put (some 97) (.agg #[.string p0, .int .i64 p1, .int .i64 p2, .slice A3 l3.length c3])).put (some 98) (v3)).put (some 99) (.tuple #[.slice A ld.length c, .bool d2])).put (some 94) (.tuple #[.slice A ld.length c, .bool d2])).put (some 100) (.slice A ld.length c)).put (some 101) (.bool d2)).put (some 15) (.slice A ld.length c)).put (some 16) (.bool d2)) w') : (Code.region 31 (opsOf Try.f13 31) true).wp Try.prog Q a0 W := by
 have hn : (opsOf Try.f13 31).size = 10 := by kernel_rfl
 have hk : regOk (opsOf Try.f13 31) a0.tmps.size = true := by rw [hsz]; kernel_rfl
 have hst : ∀ (vals : Nat → Value) (w_ w1 : World), Below w_.heap.size w_ w1 → ∀ j, ([fun vals w_ => vals 0 = .slice A0 l0.length c0, fun vals w_ => Kd.S k34 34 w_ W.heap.size (fun _ => True) (vals 1) lx, fun vals w_ => vals 2 = .agg #[.string p0, .int .i64 p1, .int .i64 p2, .slice A3 l3.length c3], fun vals w_ => ∃ v, vals 3 = .agg #[.string i0, .int .i64 i1, .int .i64 i2, v] ∧ Kd.R (Kd.int .u8) 5 w_ W.heap.size (fun _ => True) v ir, fun vals w_ => ∃ A c, vals 4 = .tuple #[.slice A ld.length c, .bool d2] ∧ Kd.S k34 34 w_ W.heap.size (fun _ => True) (.slice A ld.length c) ld, fun vals w_ => ∃ A c, vals 4 = .tuple #[.slice A ld.length c, .bool d2] ∧ vals 5 = .tuple #[.slice A ld.length c, .bool d2], fun vals w_ => ∃ A c, vals 5 = .tuple #[.slice A ld.length c, .bool d2] ∧ vals 6 = .slice A ld.length c, fun vals w_ => vals 7 = .bool d2, fun vals w_ => ∃ A c, vals 6 = .slice A ld.length c ∧ vals 8 = .slice A ld.length c, fun vals w_ => vals 9 = .bool d2] : List ((Nat → Value) → World → Prop)).getD j (fun _ _ => True) vals w_ → ([fun vals w_ => vals 0 = .slice A0 l0.length c0, fun vals w_ => Kd.S k34 34 w_ W.heap.size (fun _ => True) (vals 1) lx, fun vals w_ => vals 2 = .agg #[.string p0, .int .i64 p1, .int .i64 p2, .slice A3 l3.length c3], fun vals w_ => ∃ v, vals 3 = .agg #[.string i0, .int .i64 i1, .int .i64 i2, v] ∧ Kd.R (Kd.int .u8) 5 w_ W.heap.size (fun _ => True) v ir, fun vals w_ => ∃ A c, vals 4 = .tuple #[.slice A ld.length c, .bool d2] ∧ Kd.S k34 34 w_ W.heap.size (fun _ => True) (.slice A ld.length c) ld, fun vals w_ => ∃ A c, vals 4 = .tuple #[.slice A ld.length c, .bool d2] ∧ vals 5 = .tuple #[.slice A ld.length c, .bool d2], fun vals w_ => ∃ A c, vals 5 = .tuple #[.slice A ld.length c, .bool d2] ∧ vals 6 = .slice A ld.length c, fun vals w_ => vals 7 = .bool d2, fun vals w_ => ∃ A c, vals 6 = .slice A ld.length c ∧ vals 8 = .slice A ld.length c, fun vals w_ => vals 9 = .bool d2] : List ((Nat → Value) → World → Prop)).getD j (fun _ _ => True) vals w1 := by
  intro vals w_ w1 hb j h
  match j, h with
  | 0, h => exact h
  | 1, h => exact zcv h hb
  | 2, h => exact h
  | 3, h => exact by obtain ⟨v, h2, h3⟩ := h; exact ⟨v, h2, Kd.R_below h3 hb⟩
  | 4, h => exact by obtain ⟨A, c, h2, h3⟩ := h; exact ⟨A, c, h2, zcv h3 hb⟩
  | 5, h => exact h
  | 6, h => exact h
  | 7, h => exact h
  | 8, h => exact h
  | 9, h => exact h
  | k + 10, _ => exact trivial
 refine region_inv (by kernel_rfl) (fun j => ([fun vals w_ => vals 0 = .slice A0 l0.length c0, fun vals w_ => Kd.S k34 34 w_ W.heap.size (fun _ => True) (vals 1) lx, fun vals w_ => vals 2 = .agg #[.string p0, .int .i64 p1, .int .i64 p2, .slice A3 l3.length c3], fun vals w_ => ∃ v, vals 3 = .agg #[.string i0, .int .i64 i1, .int .i64 i2, v] ∧ Kd.R (Kd.int .u8) 5 w_ W.heap.size (fun _ => True) v ir, fun vals w_ => ∃ A c, vals 4 = .tuple #[.slice A ld.length c, .bool d2] ∧ Kd.S k34 34 w_ W.heap.size (fun _ => True) (.slice A ld.length c) ld, fun vals w_ => ∃ A c, vals 4 = .tuple #[.slice A ld.length c, .bool d2] ∧ vals 5 = .tuple #[.slice A ld.length c, .bool d2], fun vals w_ => ∃ A c, vals 5 = .tuple #[.slice A ld.length c, .bool d2] ∧ vals 6 = .slice A ld.length c, fun vals w_ => vals 7 = .bool d2, fun vals w_ => ∃ A c, vals 6 = .slice A ld.length c ∧ vals 8 = .slice A ld.length c, fun vals w_ => vals 9 = .bool d2] : List ((Nat → Value) → World → Prop)).getD j (fun _ _ => True)) (fun w_ => Below W.heap.size W w_) (fun j => (opsOf Try.f13 31).size) hk ?_ ?_ ?_ ?_
 ·intro j vals vals' w_ h0 h1 h
  match j, h0, h1, h with
  | 0, h0, h1, h => exact h0.symm.trans h
  | 1, h0, h1, h => exact by show Kd.S k34 34 w_ W.heap.size (fun _ => True) (vals' 1) lx; rw [← h0]; exact h
  | 2, h0, h1, h => exact h0.symm.trans h
  | 3, h0, h1, h => exact by obtain ⟨v, h2, h3⟩ := h; exact ⟨v, h0.symm.trans h2, h3⟩
  | 4, h0, h1, h => exact by obtain ⟨A, c, h2, h3⟩ := h; exact ⟨A, c, h0.symm.trans h2, h3⟩
  | 5, h0, h1, h => exact by obtain ⟨A, c, h2, h3⟩ := h; exact ⟨A, c, (h1 4 (dep_of (by kernel_rfl))).symm.trans h2, h0.symm.trans h3⟩
  | 6, h0, h1, h => exact by obtain ⟨A, c, h2, h3⟩ := h; exact ⟨A, c, (h1 5 (dep_of (by kernel_rfl))).symm.trans h2, h0.symm.trans h3⟩
  | 7, h0, h1, h => exact h0.symm.trans h
  | 8, h0, h1, h => exact by obtain ⟨A, c, h2, h3⟩ := h; exact ⟨A, c, (h1 6 (dep_of (by kernel_rfl))).symm.trans h2, h0.symm.trans h3⟩
  | 9, h0, h1, h => exact h0.symm.trans h
  | k + 10, _, _, _ => exact trivial
 ·exact below_drew (zbt _ _)
 ·intro i o ho a w vals hfr hdp hG K hK
  match i, ho, hdp, hK with
  | 0, ho, hdp, hK =>
   obtain ⟨hop, hds, hgd⟩ := reg_op (op := Op.move (Operand.tmp 0)) (d := some 95) (g := none) (by kernel_rfl) ho
   have e0 : a.eval (.tmp 0) = .slice A0 l0.length c0 := eval_tmp ((hfr 0 (not_dst (by kernel_rfl))).trans h0)
   refine reg_val (w1 := w) ho hgd (.slice A0 l0.length c0) (by unfold execOp; simp only [hop, e0]; go_simp) ?_
   exact hK _ _ (upd_same _ _ _) hG (fun _ _ _ h => h)
  | 1, ho, hdp, hK =>
   obtain ⟨hop, hds, hgd⟩ := reg_op (op := Op.call { callee := Callee.value (Operand.func 20), args := #[(Operand.tmp 95)], argTypes := #[22] }) (d := some 96) (g := none) (by kernel_rfl) ho
   have e95 : a.eval (.tmp 95) = .slice A0 l0.length c0 := (eval_tmp ((hdp 0 (dep_of (by kernel_rfl))).1 95 rfl)).trans ((hdp 0 (dep_of (by kernel_rfl))).2 (.inr (zaw _)))
   refine reg_call ho hgd (f := 20) Try.func20 (by kernel_rfl) rfl #[.slice A0 l0.length c0] hop (by simp only [zat, zbe, zbh, e95]) ?_
   refine (laws_toItemS.calls k _ _ l0 lx w (zbf hC0 hG) hc0 FX).mono ?_
   rintro e w1 ⟨v, rfl, hr, hb⟩
   exact ⟨_, rfl, hK _ _ (show Kd.S k34 34 w1 W.heap.size (fun _ => True) (upd vals 1 v 1) lx from by rw [upd_same]; exact zef hr hG.size) (zai hG hb) (fun j _ _ h => hst vals w w1 hb j h)⟩
  | 2, ho, hdp, hK =>
   obtain ⟨hop, hds, hgd⟩ := reg_op (op := Op.load 31 (Operand.tmp 3)) (d := some 97) (g := none) (by kernel_rfl) ho
   have e3 : a.eval (.tmp 3) = .pointer (some ⟨g, 0, none⟩) := eval_tmp ((hfr 3 (not_dst (by kernel_rfl))).trans h3)
   have hblk_ := (hG.block _ (Array.getElem?_eq_some_iff.1 hblk).1).trans hblk; have hq0_ : w.cell? ⟨g, 0, none⟩ = some (.string p0) := (zaf hblk_ 0).trans rfl; have hq1_ : w.cell? ⟨g, 1, none⟩ = some (.int .i64 p1) := (zaf hblk_ 1).trans rfl; have hq2_ : w.cell? ⟨g, 2, none⟩ = some (.int .i64 p2) := (zaf hblk_ 2).trans rfl; have hq3_ : w.cell? ⟨g, 3, none⟩ = some (.slice A3 l3.length c3) := (zaf hblk_ 3).trans rfl; have hu31 := Try.underlying31
   refine reg_val (w1 := w) ho hgd (.agg #[.string p0, .int .i64 p1, .int .i64 p2, .slice A3 l3.length c3]) (by unfold execOp; simp only [hop, e3]; go_simp) ?_
   exact hK _ _ (upd_same _ _ _) hG (fun _ _ _ h => h)
  | 3, ho, hdp, hK =>
   obtain ⟨hop, hds, hgd⟩ := reg_op (op := Op.call { callee := Callee.value (Operand.func 25), args := #[(Operand.tmp 97)], argTypes := #[31] }) (d := some 98) (g := none) (by kernel_rfl) ho
   have e97 : a.eval (.tmp 97) = .agg #[.string p0, .int .i64 p1, .int .i64 p2, .slice A3 l3.length c3] := (eval_tmp ((hdp 2 (dep_of (by kernel_rfl))).1 97 rfl)).trans ((hdp 2 (dep_of (by kernel_rfl))).2 (.inr (zaw _)))
   refine reg_call ho hgd (f := 25) Try.func25 (by kernel_rfl) rfl #[.agg #[.string p0, .int .i64 p1, .int .i64 p2, .slice A3 l3.length c3]] hop (by simp only [zat, zbe, zbh, e97]) ?_
   refine (laws_toItem.calls k p0 p1 p2 _ _ l3 i0 i1 i2 ir w (zbf hC3 hG) hc3 FT).mono ?_
   rintro e w1 ⟨v, rfl, hr, hb⟩
   exact ⟨_, rfl, hK _ _ ⟨v, upd_same _ _ _, zbx hr hG.size⟩ (zai hG hb) (fun j _ _ h => hst vals w w1 hb j h)⟩
  | 4, ho, hdp, hK =>
   obtain ⟨hop, hds, hgd⟩ := reg_op (op := Op.call { callee := Callee.value (Operand.func 60), args := #[(Operand.tmp 96), (Operand.tmp 98)], argTypes := #[25, 34] }) (d := some 99) (g := none) (by kernel_rfl) ho
   have e96 : a.eval (.tmp 96) = vals 1 := eval_tmp ((hdp 1 (dep_of (by kernel_rfl))).1 96 rfl)
   have f1_ := (hdp 1 (dep_of (by kernel_rfl))).2 (.inr (zaw _))
   have f2_ : Kd.S k34 34 w W.heap.size (fun _ => True) (vals 1) lx := f1_
   obtain ⟨Ax, cx, f3⟩ := zfs f2_
   replace e96 := e96.trans f3
   rw [f3] at f2_
   have e98 : a.eval (.tmp 98) = vals 3 := eval_tmp ((hdp 3 (dep_of (by kernel_rfl))).1 98 rfl)
   have f4_ := (hdp 3 (dep_of (by kernel_rfl))).2 (.inr (zaw _))
   obtain ⟨v3, f5, f6⟩ := f4_
   obtain ⟨Ar, cr, f7⟩ := zci f6
   subst f7
   replace e98 := e98.trans f5
   refine reg_call ho hgd (f := 60) Try.func60 (by kernel_rfl) rfl #[.slice Ax lx.length cx, .agg #[.string i0, .int .i64 i1, .int .i64 i2, .slice Ar ir.length cr]] hop (by simp only [zat, zbe, zbh, e96, e98]) ?_
   refine (impl_Put.calls k _ _ lx i0 i1 i2 _ _ ir ld d2 w (zcm f2_).2.2 (zcm f2_).2.1 (Kd.R_reads' f6).2.2 (Kd.R_reads' f6).2.1 FP).mono ?_
   rintro e w1 ⟨v, rfl, hr, hb⟩
   obtain ⟨A, c, e_⟩ := zfs hr
   subst e_
   exact ⟨_, rfl, hK _ _ ⟨A, c, upd_same _ _ _, zef hr hG.size⟩ (zai hG hb) (fun j _ _ h => hst vals w w1 hb j h)⟩
  | 5, ho, hdp, hK =>
   obtain ⟨hop, hds, hgd⟩ := reg_op (op := Op.move (Operand.tmp 99)) (d := some 94) (g := none) (by kernel_rfl) ho
   have e99 : a.eval (.tmp 99) = vals 4 := eval_tmp ((hdp 4 (dep_of (by kernel_rfl))).1 99 rfl)
   have fr_ := (hdp 4 (dep_of (by kernel_rfl))).2 (.inr (zaw _))
   obtain ⟨A, c, f1, f2⟩ := fr_
   replace e99 := e99.trans f1
   refine reg_val (w1 := w) ho hgd _ (by unfold execOp; simp only [hop, e99]; go_simp; rfl) ?_
   exact hK _ _ ⟨A, c, (upd_ne vals _ (by omega)).trans f1, upd_same _ _ _⟩ hG (fun _ _ _ h => h)
  | 6, ho, hdp, hK =>
   obtain ⟨hop, hds, hgd⟩ := reg_op (op := Op.extract (Operand.tmp 94) 0) (d := some 100) (g := none) (by kernel_rfl) ho
   have e94 : a.eval (.tmp 94) = vals 5 := eval_tmp ((hdp 5 (dep_of (by kernel_rfl))).1 94 rfl)
   have fr_ := (hdp 5 (dep_of (by kernel_rfl))).2 (.inr (zaw _))
   obtain ⟨A, c, f1, f2⟩ := fr_
   replace e94 := e94.trans f2
   refine reg_val (w1 := w) ho hgd (.slice A ld.length c) (by unfold execOp; simp only [hop, e94]; go_simp) ?_
   exact hK _ _ ⟨A, c, (upd_ne vals _ (by omega)).trans f2, upd_same _ _ _⟩ hG (fun _ _ _ h => h)
  | 7, ho, hdp, hK =>
   obtain ⟨hop, hds, hgd⟩ := reg_op (op := Op.extract (Operand.tmp 94) 1) (d := some 101) (g := none) (by kernel_rfl) ho
   have e94 : a.eval (.tmp 94) = vals 5 := eval_tmp ((hdp 5 (dep_of (by kernel_rfl))).1 94 rfl)
   have fr_ := (hdp 5 (dep_of (by kernel_rfl))).2 (.inr (zaw _))
   obtain ⟨A, c, f1, f2⟩ := fr_
   replace e94 := e94.trans f2
   refine reg_val (w1 := w) ho hgd (.bool d2) (by unfold execOp; simp only [hop, e94]; go_simp) ?_
   exact hK _ _ (upd_same _ _ _) hG (fun _ _ _ h => h)
  | 8, ho, hdp, hK =>
   obtain ⟨hop, hds, hgd⟩ := reg_op (op := Op.assign (Operand.tmp 100)) (d := some 15) (g := none) (by kernel_rfl) ho
   have e100 : a.eval (.tmp 100) = vals 6 := eval_tmp ((hdp 6 (dep_of (by kernel_rfl))).1 100 rfl)
   have fr_ := (hdp 6 (dep_of (by kernel_rfl))).2 (.inr (zaw _))
   obtain ⟨A, c, f1, f2⟩ := fr_
   replace e100 := e100.trans f2
   refine reg_val (w1 := w) ho hgd (.slice A ld.length c) (by unfold execOp; simp only [hop, e100]; go_simp) ?_
   exact hK _ _ ⟨A, c, (upd_ne vals _ (by omega)).trans f2, upd_same _ _ _⟩ hG (fun _ _ _ h => h)
  | 9, ho, hdp, hK =>
   obtain ⟨hop, hds, hgd⟩ := reg_op (op := Op.assign (Operand.tmp 101)) (d := some 16) (g := none) (by kernel_rfl) ho
   have e101 : a.eval (.tmp 101) = vals 7 := eval_tmp ((hdp 7 (dep_of (by kernel_rfl))).1 101 rfl)
   have fr_ := (hdp 7 (dep_of (by kernel_rfl))).2 (.inr (zaw _))
   replace e101 := e101.trans fr_
   refine reg_val (w1 := w) ho hgd (.bool d2) (by unfold execOp; simp only [hop, e101]; go_simp) ?_
   exact hK _ _ (upd_same _ _ _) hG (fun _ _ _ h => h)
  | k + 10, ho, _, _ => exact absurd (Array.getElem?_eq_some_iff.1 ho).1 (by rw [hn]; omega)
 ·intro a w' vals hd hs hf hv hV hG
  have ha := region_act hk hd hs hf hv
  have hN : ∀ j, j < 10 → j < (opsOf Try.f13 31).size := fun j h => by rw [hn]; exact h
  replace ha : a = ((((((((((a0.put (some 95) (vals 0)).put (some 96) (vals 1)).put (some 97) (vals 2)).put (some 98) (vals 3)).put (some 99) (vals 4)).put (some 94) (vals 5)).put (some 100) (vals 6)).put (some 101) (vals 7)).put (some 15) (vals 8)).put (some 16) (vals 9)) := ha.trans (by rw [hn]; rfl)
  rw [ha]
  obtain ⟨A, c, q4, q4'⟩ := hV 4 (hN 4 (by omega)) (zaw _)
  obtain ⟨A2, c2, q5, q5'⟩ := hV 5 (hN 5 (by omega)) (zaw _)
  have z_ := q4.symm.trans q5
  simp only [Value.tuple.injEq, Array.mk.injEq, List.cons.injEq, Value.slice.injEq, true_and, and_true] at z_
  obtain ⟨rfl, rfl⟩ := z_
  obtain ⟨A3_, c3_, q6, q6'⟩ := hV 6 (hN 6 (by omega)) (zaw _)
  have z_ := q5'.symm.trans q6
  simp only [Value.tuple.injEq, Array.mk.injEq, List.cons.injEq, Value.slice.injEq, true_and, and_true] at z_
  obtain ⟨rfl, rfl⟩ := z_
  obtain ⟨A4_, c4_, q8, q8'⟩ := hV 8 (hN 8 (by omega)) (zaw _)
  have z_ := q6'.symm.trans q8
  simp only [Value.slice.injEq, true_and] at z_
  obtain ⟨rfl, rfl⟩ := z_
  rw [show vals 0 = .slice A0 l0.length c0 from hV 0 (hN 0 (by omega)) (zaw _), show vals 2 = .agg #[.string p0, .int .i64 p1, .int .i64 p2, .slice A3 l3.length c3] from hV 2 (hN 2 (by omega)) (zaw _), q4, q5', q6', show vals 7 = .bool d2 from hV 7 (hN 7 (by omega)) (zaw _), q8', show vals 9 = .bool d2 from hV 9 (hN 9 (by omega)) (zaw _)]
  exact hend w' A c (vals 1) (vals 3) hG q4'
set_option maxHeartbeats 4000000 in
set_option maxRecDepth 100000 in
theorem laws_FnExactPut.r16 {Q : Exit → Act → World → Prop} {a0 : Act} {W : World} (k c3 cx g gx : Nat) (A3 Ax : Option Addr) (l3 ir : List Int) (p0 i0 : ByteArray) (p1 p2 i1 i2 : Int) (hC3 : Kd.C (Kd.int .u8) W A3 l3.length l3) (hc3 : l3.length ≤ c3) (hblk : W.heap[g]? = some (.cells [.string p0, .int .i64 p1, .int .i64 p2, .slice A3 l3.length c3].toArray 31 (0, 0))) (hbx : W.heap[gx]? = some (.cells [.string i0, .int .i64 i1, .int .i64 i2, .slice Ax ir.length cx].toArray 34 (0, 0))) (hCx : Kd.C (Kd.int .u8) W Ax ir.length ir) (hcx : ir.length ≤ cx) (FT : laws_toItem.f k p0 p1 p2 l3 = some (i0, i1, i2, ir)) (FE : laws_eqItem.f k i0 i1 i2 ir i0 i1 i2 ir = some true) (hsz : a0.tmps.size = 119) (h3 : a0.tmps[3]? = some (.pointer (some ⟨g, 0, none⟩))) (h9 : a0.tmps[9]? = some (.pointer (some ⟨gx, 0, none⟩)))
  (hend : ∀ (w' : World) (v2 : Value), Below W.heap.size W w' → Q .normal (((((a0.put (some 59) (.agg #[.string i0, .int .i64 i1, .int .i64 i2, .slice Ax ir.length cx])).put (some 60) (.agg #[.string p0, .int .i64 p1, .int .i64 p2, .slice A3 l3.length c3])).put (some 61) (v2)).put (some 62) (.bool true)).put (some 63) (.bool false)) w') : (Code.region 16 (opsOf Try.f13 16) true).wp Try.prog Q a0 W := by
 have hn : (opsOf Try.f13 16).size = 5 := by kernel_rfl
 have hk : regOk (opsOf Try.f13 16) a0.tmps.size = true := by rw [hsz]; kernel_rfl
 have hst : ∀ (vals : Nat → Value) (w_ w1 : World), Below w_.heap.size w_ w1 → ∀ j, ([fun vals w_ => vals 0 = .agg #[.string i0, .int .i64 i1, .int .i64 i2, .slice Ax ir.length cx], fun vals w_ => vals 1 = .agg #[.string p0, .int .i64 p1, .int .i64 p2, .slice A3 l3.length c3], fun vals w_ => ∃ v, vals 2 = .agg #[.string i0, .int .i64 i1, .int .i64 i2, v] ∧ Kd.R (Kd.int .u8) 5 w_ W.heap.size (fun _ => True) v ir, fun vals w_ => vals 3 = .bool true, fun vals w_ => vals 4 = .bool false] : List ((Nat → Value) → World → Prop)).getD j (fun _ _ => True) vals w_ → ([fun vals w_ => vals 0 = .agg #[.string i0, .int .i64 i1, .int .i64 i2, .slice Ax ir.length cx], fun vals w_ => vals 1 = .agg #[.string p0, .int .i64 p1, .int .i64 p2, .slice A3 l3.length c3], fun vals w_ => ∃ v, vals 2 = .agg #[.string i0, .int .i64 i1, .int .i64 i2, v] ∧ Kd.R (Kd.int .u8) 5 w_ W.heap.size (fun _ => True) v ir, fun vals w_ => vals 3 = .bool true, fun vals w_ => vals 4 = .bool false] : List ((Nat → Value) → World → Prop)).getD j (fun _ _ => True) vals w1 := by
  intro vals w_ w1 hb j h
  match j, h with
  | 0, h => exact h
  | 1, h => exact h
  | 2, h => exact by obtain ⟨v, h2, h3⟩ := h; exact ⟨v, h2, Kd.R_below h3 hb⟩
  | 3, h => exact h
  | 4, h => exact h
  | k + 5, _ => exact trivial
 refine region_inv (by kernel_rfl) (fun j => ([fun vals w_ => vals 0 = .agg #[.string i0, .int .i64 i1, .int .i64 i2, .slice Ax ir.length cx], fun vals w_ => vals 1 = .agg #[.string p0, .int .i64 p1, .int .i64 p2, .slice A3 l3.length c3], fun vals w_ => ∃ v, vals 2 = .agg #[.string i0, .int .i64 i1, .int .i64 i2, v] ∧ Kd.R (Kd.int .u8) 5 w_ W.heap.size (fun _ => True) v ir, fun vals w_ => vals 3 = .bool true, fun vals w_ => vals 4 = .bool false] : List ((Nat → Value) → World → Prop)).getD j (fun _ _ => True)) (fun w_ => Below W.heap.size W w_) (fun j => (opsOf Try.f13 16).size) hk ?_ ?_ ?_ ?_
 ·intro j vals vals' w_ h0 h1 h
  match j, h0, h1, h with
  | 0, h0, h1, h => exact h0.symm.trans h
  | 1, h0, h1, h => exact h0.symm.trans h
  | 2, h0, h1, h => exact by obtain ⟨v, h2, h3⟩ := h; exact ⟨v, h0.symm.trans h2, h3⟩
  | 3, h0, h1, h => exact h0.symm.trans h
  | 4, h0, h1, h => exact h0.symm.trans h
  | k + 5, _, _, _ => exact trivial
 ·exact below_drew (zbt _ _)
 ·intro i o ho a w vals hfr hdp hG K hK
  match i, ho, hdp, hK with
  | 0, ho, hdp, hK =>
   obtain ⟨hop, hds, hgd⟩ := reg_op (op := Op.load 34 (Operand.tmp 9)) (d := some 59) (g := none) (by kernel_rfl) ho
   have e9 : a.eval (.tmp 9) = .pointer (some ⟨gx, 0, none⟩) := eval_tmp ((hfr 9 (not_dst (by kernel_rfl))).trans h9)
   have hblk_ := (hG.block _ (Array.getElem?_eq_some_iff.1 hbx).1).trans hbx; have hq0_ : w.cell? ⟨gx, 0, none⟩ = some (.string i0) := (zaf hblk_ 0).trans rfl; have hq1_ : w.cell? ⟨gx, 1, none⟩ = some (.int .i64 i1) := (zaf hblk_ 1).trans rfl; have hq2_ : w.cell? ⟨gx, 2, none⟩ = some (.int .i64 i2) := (zaf hblk_ 2).trans rfl; have hq3_ : w.cell? ⟨gx, 3, none⟩ = some (.slice Ax ir.length cx) := (zaf hblk_ 3).trans rfl; have hu34 := Try.underlying34
   refine reg_val (w1 := w) ho hgd (.agg #[.string i0, .int .i64 i1, .int .i64 i2, .slice Ax ir.length cx]) (by unfold execOp; simp only [hop, e9]; go_simp) ?_
   exact hK _ _ (upd_same _ _ _) hG (fun _ _ _ h => h)
  | 1, ho, hdp, hK =>
   obtain ⟨hop, hds, hgd⟩ := reg_op (op := Op.load 31 (Operand.tmp 3)) (d := some 60) (g := none) (by kernel_rfl) ho
   have e3 : a.eval (.tmp 3) = .pointer (some ⟨g, 0, none⟩) := eval_tmp ((hfr 3 (not_dst (by kernel_rfl))).trans h3)
   have hblk_ := (hG.block _ (Array.getElem?_eq_some_iff.1 hblk).1).trans hblk; have hq0_ : w.cell? ⟨g, 0, none⟩ = some (.string p0) := (zaf hblk_ 0).trans rfl; have hq1_ : w.cell? ⟨g, 1, none⟩ = some (.int .i64 p1) := (zaf hblk_ 1).trans rfl; have hq2_ : w.cell? ⟨g, 2, none⟩ = some (.int .i64 p2) := (zaf hblk_ 2).trans rfl; have hq3_ : w.cell? ⟨g, 3, none⟩ = some (.slice A3 l3.length c3) := (zaf hblk_ 3).trans rfl; have hu31 := Try.underlying31
   refine reg_val (w1 := w) ho hgd (.agg #[.string p0, .int .i64 p1, .int .i64 p2, .slice A3 l3.length c3]) (by unfold execOp; simp only [hop, e3]; go_simp) ?_
   exact hK _ _ (upd_same _ _ _) hG (fun _ _ _ h => h)
  | 2, ho, hdp, hK =>
   obtain ⟨hop, hds, hgd⟩ := reg_op (op := Op.call { callee := Callee.value (Operand.func 25), args := #[(Operand.tmp 60)], argTypes := #[31] }) (d := some 61) (g := none) (by kernel_rfl) ho
   have e60 : a.eval (.tmp 60) = .agg #[.string p0, .int .i64 p1, .int .i64 p2, .slice A3 l3.length c3] := (eval_tmp ((hdp 1 (dep_of (by kernel_rfl))).1 60 rfl)).trans ((hdp 1 (dep_of (by kernel_rfl))).2 (.inr (zaw _)))
   refine reg_call ho hgd (f := 25) Try.func25 (by kernel_rfl) rfl #[.agg #[.string p0, .int .i64 p1, .int .i64 p2, .slice A3 l3.length c3]] hop (by simp only [zat, zbe, zbh, e60]) ?_
   refine (laws_toItem.calls k p0 p1 p2 _ _ l3 i0 i1 i2 ir w (zbf hC3 hG) hc3 FT).mono ?_
   rintro e w1 ⟨v, rfl, hr, hb⟩
   exact ⟨_, rfl, hK _ _ ⟨v, upd_same _ _ _, zbx hr hG.size⟩ (zai hG hb) (fun j _ _ h => hst vals w w1 hb j h)⟩
  | 3, ho, hdp, hK =>
   obtain ⟨hop, hds, hgd⟩ := reg_op (op := Op.call { callee := Callee.value (Operand.func 27), args := #[(Operand.tmp 59), (Operand.tmp 61)], argTypes := #[34, 34] }) (d := some 62) (g := none) (by kernel_rfl) ho
   have e59 : a.eval (.tmp 59) = .agg #[.string i0, .int .i64 i1, .int .i64 i2, .slice Ax ir.length cx] := (eval_tmp ((hdp 0 (dep_of (by kernel_rfl))).1 59 rfl)).trans ((hdp 0 (dep_of (by kernel_rfl))).2 (.inr (zaw _)))
   have e61 : a.eval (.tmp 61) = vals 2 := eval_tmp ((hdp 2 (dep_of (by kernel_rfl))).1 61 rfl)
   have f4_ := (hdp 2 (dep_of (by kernel_rfl))).2 (.inr (zaw _))
   obtain ⟨v3, f5, f6⟩ := f4_
   obtain ⟨Ar, cr, f7⟩ := zci f6
   subst f7
   replace e61 := e61.trans f5
   refine reg_call ho hgd (f := 27) Try.func27 (by kernel_rfl) rfl #[.agg #[.string i0, .int .i64 i1, .int .i64 i2, .slice Ax ir.length cx], .agg #[.string i0, .int .i64 i1, .int .i64 i2, .slice Ar ir.length cr]] hop (by simp only [zat, zbe, zbh, e59, e61]) ?_
   refine (laws_eqItem.calls k i0 i1 i2 _ _ ir i0 i1 i2 _ _ ir true w (zbf hCx hG) hcx (Kd.R_reads' f6).2.2 (Kd.R_reads' f6).2.1 FE).mono ?_
   rintro e w1 ⟨rfl, hb⟩
   exact ⟨_, rfl, hK _ _ (upd_same _ _ _) (zai hG hb) (fun j _ _ h => hst vals w w1 hb j h)⟩
  | 4, ho, hdp, hK =>
   obtain ⟨hop, hds, hgd⟩ := reg_op (op := Op.unOp UnOp.not 4 (Operand.tmp 62)) (d := some 63) (g := none) (by kernel_rfl) ho
   have e62 : a.eval (.tmp 62) = .bool true := (eval_tmp ((hdp 3 (dep_of (by kernel_rfl))).1 62 rfl)).trans ((hdp 3 (dep_of (by kernel_rfl))).2 (.inr (zaw _)))
   refine reg_val (w1 := w) ho hgd (.bool false) (by unfold execOp; simp only [hop, e62]; go_simp) ?_
   exact hK _ _ (upd_same _ _ _) hG (fun _ _ _ h => h)
  | k + 5, ho, _, _ => exact absurd (Array.getElem?_eq_some_iff.1 ho).1 (by rw [hn]; omega)
 ·intro a w' vals hd hs hf hv hV hG
  have ha := region_act hk hd hs hf hv
  have hN : ∀ j, j < 5 → j < (opsOf Try.f13 16).size := fun j h => by rw [hn]; exact h
  replace ha : a = (((((a0.put (some 59) (vals 0)).put (some 60) (vals 1)).put (some 61) (vals 2)).put (some 62) (vals 3)).put (some 63) (vals 4)) := ha.trans (by rw [hn]; rfl)
  rw [ha]
  rw [show vals 0 = .agg #[.string i0, .int .i64 i1, .int .i64 i2, .slice Ax ir.length cx] from hV 0 (hN 0 (by omega)) (zaw _), show vals 1 = .agg #[.string p0, .int .i64 p1, .int .i64 p2, .slice A3 l3.length c3] from hV 1 (hN 1 (by omega)) (zaw _), show vals 3 = .bool true from hV 3 (hN 3 (by omega)) (zaw _), show vals 4 = .bool false from hV 4 (hN 4 (by omega)) (zaw _)]
  exact hend w' (vals 2) hG
def laws_FnExactPut.f (k : Nat) (l0 : List (S31)) (p0 : ByteArray) (p1 : Int) (p2 : Int) (l3 : List Int) : Option Bool := (laws_szItemS.f k l0 1048576).bind fun s => if s < 0 then some true else (laws_szItem.f p0 p1 p2 l3 s).bind fun s2 => if s2 < 0 then some true else (laws_toItemS.f k l0).bind fun x => (laws_toItem.f k p0 p1 p2 l3).bind fun i => (spec_Put.f k x i.1 i.2.1 i.2.2.1 i.2.2.2).bind fun d => (impl_Put.f k x i.1 i.2.1 i.2.2.1 i.2.2.2).bind fun e => (laws_eqItemS.f k e.1 d.1).bind fun b1 => (laws_eqItemS.f k x x).bind fun b2 => (laws_eqItem.f k i.1 i.2.1 i.2.2.1 i.2.2.2 i.1 i.2.1 i.2.2.1 i.2.2.2).bind fun b3 => (laws_markItemS.f k x 1).bind fun p => (laws_markItem.f k i.1 i.2.1 i.2.2.1 i.2.2.2 p.1).bind fun q => (laws_markItemS.f k e.1 1).bind fun z => (laws_heldItemS.f k z.2 1).bind fun h => if b1 = true ∧ b2 = true ∧ b3 = true ∧ e.2 = d.2 ∧ 0 ≤ q.1 ∧ h = z.1 ∧ 0 ≤ h then some true else none
theorem laws_FnExactPut.mono : ∀ a0 a1 a2 a3 a4 k, LeO (laws_FnExactPut.f k a0 a1 a2 a3 a4) (laws_FnExactPut.f (k + 1) a0 a1 a2 a3 a4) := by
 intro a0 a1 a2 a3 a4 k
 unfold laws_FnExactPut.f
 repeat' first
   | (with_reducible exact laws_szItemS.mono _ _ _)
   | (with_reducible exact laws_toItemS.mono _ _)
   | (with_reducible exact laws_toItem.mono _ _ _ _ _)
   | (with_reducible exact spec_Put.mono _ _ _ _ _ _)
   | (with_reducible exact impl_Put.mono _ _ _ _ _ _)
   | (with_reducible exact laws_eqItem.mono _ _ _ _ _ _ _ _ _)
   | (with_reducible exact laws_eqItemS.mono _ _ _)
   | (with_reducible exact laws_markItemS.mono _ _ _)
   | (with_reducible exact laws_markItem.mono _ _ _ _ _ _)
   | (with_reducible exact laws_heldItemS.mono _ _ _)
   | (with_reducible exact zcn _)
   | (with_reducible exact zda _)
   | (with_reducible refine zdh ?_ ?_)
   | (with_reducible refine zcs ?_ (fun _ => ?_))
set_option maxHeartbeats 8000000 in
set_option maxRecDepth 100000 in
theorem laws_FnExactPut.calls (k : Nat) (A0 : Option Addr) (c0 : Nat) (l0 : List (S31)) (p0 : ByteArray) (p1 : Int) (p2 : Int) (A3 : Option Addr) (c3 : Nat) (l3 : List Int) (r : Bool) (w : World) (hr0 : Kd.C k31 w A0 l0.length l0) (hc0 : l0.length ≤ c0) (hr1_3 : Kd.C (Kd.int .u8) w A3 l3.length l3) (hc1_3 : l3.length ≤ c3) (h : laws_FnExactPut.f k l0 p0 p1 p2 l3 = some r) :
  Calls Try.prog 13 #[.slice A0 l0.length c0, .agg #[.string p0, .int .i64 p1, .int .i64 p2, .slice A3 l3.length c3]] w fun e w' => e = .returned (.bool r) ∧ Below w.heap.size w w' := by
 have HR0 := Aside0.mk hr0
 have HC0 := Aside0.mk hc0
 have HR3 := Aside0.mk hr1_3
 have HC3 := Aside0.mk hc1_3
 clear hr0 hc0 hr1_3 hc1_3
 have HB := Aside0.mk (zbt w.heap.size w)
 have HT := Aside0.mk (zaw w.heap.size)
 have hu34 := Try.underlying34
 have hu31 := Try.underlying31
 unfold laws_FnExactPut.f at h
 obtain ⟨s, hs, h⟩ := zak.1 h
 have FS := Aside0.mk hs
 clear hs
 by_cases c1 : s < 0
 ·rw [if_pos c1] at h
  obtain rfl := Option.some.inj h
  have d1 : decide (s < 0) = true := zas c1
  clear c1 h
  go_enter Try.func13, Try.ntmps13
  go_wp2_with (first | ((with_reducible refine zcc (N := 3) rfl ?_); refine zct ?hg (N := 3) ?hd (cs := #[.string p0, .int .i64 p1, .int .i64 p2, .slice A3 l3.length c3]) (t := 31) ?hr ?_; (case hd => rfl); (case hg => rfl); (case hr => first | (go_simp; done) | (go_simp; rfl)); intro gP e_ w_ hx_ hb_; obtain ⟨bd0, bd1, o_, p_, q_, s_⟩ := laws_FnExactPut.made_B e_ hx_ hb_ HT.out; have nb_ := Aside0.mk (zai HB.out hb_); clear HB HT; have HB := nb_; have HT := Aside0.mk q_; have O0 := Aside0.mk o_; have O1 := Aside0.mk p_; have HP := Aside0.mk hx_; have GP := Aside0.mk s_; clear nb_ o_ p_ q_ s_ hx_ hb_ e_; have hcP_0 : w_.cell? ⟨gP, 0, none⟩ = some (.string p0) := (zaf HP.out 0).trans rfl; have hcP_1 : w_.cell? ⟨gP, 1, none⟩ = some (.int .i64 p1) := (zaf HP.out 1).trans rfl; have hcP_2 : w_.cell? ⟨gP, 2, none⟩ = some (.int .i64 p2) := (zaf HP.out 2).trans rfl; have hcP_3 : w_.cell? ⟨gP, 3, none⟩ = some (.slice A3 l3.length c3) := (zaf HP.out 3).trans rfl) | ((with_reducible refine zbv (f := 18) rfl ?_); refine goesL_ (some 19) rfl rfl Try.func18 (by kernel_rfl) rfl #[.slice A0 l0.length c0, .int .i64 1048576] rfl (by (try simp only [zat, zbe, zbh]); first | done | rfl) ?_; (with_reducible refine (laws_szItemS.calls k _ _ l0 1048576 s _ (zbf HR0.out HB.out) HC0.out FS.out).mono ?_); rintro e w_ ⟨rfl, hb_⟩; refine ⟨_, rfl, ?_⟩; have nP_ := Aside0.mk ((hb_.block _ (Array.getElem?_eq_some_iff.1 HP.out).1).trans HP.out); have nt_ := Aside0.mk (zdd HT.out hb_.size); have nb_ := Aside0.mk (zai HB.out hb_); clear HB HT; clear HP hcP_0 hcP_1 hcP_2 hcP_3; have HP := nP_; clear nP_; have HB := nb_; have HT := nt_; clear nb_ nt_ hb_; have hcP_0 : w_.cell? ⟨gP, 0, none⟩ = some (.string p0) := (zaf HP.out 0).trans rfl; have hcP_1 : w_.cell? ⟨gP, 1, none⟩ = some (.int .i64 p1) := (zaf HP.out 1).trans rfl; have hcP_2 : w_.cell? ⟨gP, 2, none⟩ = some (.int .i64 p2) := (zaf HP.out 2).trans rfl; have hcP_3 : w_.cell? ⟨gP, 3, none⟩ = some (.slice A3 l3.length c3) := (zaf HP.out 3).trans rfl))
  go_ret
  exact ⟨rfl, HB.out⟩
 rw [if_neg c1] at h
 have d1 : decide (s < 0) = false := zbj c1
 clear c1
 obtain ⟨s2, hs2, h⟩ := zak.1 h
 have FS2 := Aside0.mk hs2
 clear hs2
 by_cases c2 : s2 < 0
 ·rw [if_pos c2] at h
  obtain rfl := Option.some.inj h
  have d2_ : decide (s2 < 0) = true := zas c2
  clear c2 h
  go_enter Try.func13, Try.ntmps13
  go_wp2_with (first | ((with_reducible refine zcc (N := 3) rfl ?_); refine zct ?hg (N := 3) ?hd (cs := #[.string p0, .int .i64 p1, .int .i64 p2, .slice A3 l3.length c3]) (t := 31) ?hr ?_; (case hd => rfl); (case hg => rfl); (case hr => first | (go_simp; done) | (go_simp; rfl)); intro gP e_ w_ hx_ hb_; obtain ⟨bd0, bd1, o_, p_, q_, s_⟩ := laws_FnExactPut.made_B e_ hx_ hb_ HT.out; have nb_ := Aside0.mk (zai HB.out hb_); clear HB HT; have HB := nb_; have HT := Aside0.mk q_; have O0 := Aside0.mk o_; have O1 := Aside0.mk p_; have HP := Aside0.mk hx_; have GP := Aside0.mk s_; clear nb_ o_ p_ q_ s_ hx_ hb_ e_; have hcP_0 : w_.cell? ⟨gP, 0, none⟩ = some (.string p0) := (zaf HP.out 0).trans rfl; have hcP_1 : w_.cell? ⟨gP, 1, none⟩ = some (.int .i64 p1) := (zaf HP.out 1).trans rfl; have hcP_2 : w_.cell? ⟨gP, 2, none⟩ = some (.int .i64 p2) := (zaf HP.out 2).trans rfl; have hcP_3 : w_.cell? ⟨gP, 3, none⟩ = some (.slice A3 l3.length c3) := (zaf HP.out 3).trans rfl) | ((with_reducible refine zbv (f := 18) rfl ?_); refine goesL_ (some 19) rfl rfl Try.func18 (by kernel_rfl) rfl #[.slice A0 l0.length c0, .int .i64 1048576] rfl (by (try simp only [zat, zbe, zbh]); first | done | rfl) ?_; (with_reducible refine (laws_szItemS.calls k _ _ l0 1048576 s _ (zbf HR0.out HB.out) HC0.out FS.out).mono ?_); rintro e w_ ⟨rfl, hb_⟩; refine ⟨_, rfl, ?_⟩; have nP_ := Aside0.mk ((hb_.block _ (Array.getElem?_eq_some_iff.1 HP.out).1).trans HP.out); have nt_ := Aside0.mk (zdd HT.out hb_.size); have nb_ := Aside0.mk (zai HB.out hb_); clear HB HT; clear HP hcP_0 hcP_1 hcP_2 hcP_3; have HP := nP_; clear nP_; have HB := nb_; have HT := nt_; clear nb_ nt_ hb_; have hcP_0 : w_.cell? ⟨gP, 0, none⟩ = some (.string p0) := (zaf HP.out 0).trans rfl; have hcP_1 : w_.cell? ⟨gP, 1, none⟩ = some (.int .i64 p1) := (zaf HP.out 1).trans rfl; have hcP_2 : w_.cell? ⟨gP, 2, none⟩ = some (.int .i64 p2) := (zaf HP.out 2).trans rfl; have hcP_3 : w_.cell? ⟨gP, 3, none⟩ = some (.slice A3 l3.length c3) := (zaf HP.out 3).trans rfl) | ((with_reducible refine zbv (f := 23) rfl ?_); refine goesL_ (some 24) rfl rfl Try.func23 (by kernel_rfl) rfl #[.agg #[.string p0, .int .i64 p1, .int .i64 p2, .slice A3 l3.length c3], .int .i64 s] rfl (by (try simp only [zat, zbe, zbh]); first | done | rfl) ?_; (with_reducible refine (laws_szItem.calls p0 p1 p2 _ _ l3 s s2 _ (zbf HR3.out HB.out) HC3.out FS2.out).mono ?_); rintro e w_ ⟨rfl, hb_⟩; refine ⟨_, rfl, ?_⟩; have nP_ := Aside0.mk ((hb_.block _ (Array.getElem?_eq_some_iff.1 HP.out).1).trans HP.out); have nt_ := Aside0.mk (zdd HT.out hb_.size); have nb_ := Aside0.mk (zai HB.out hb_); clear HB HT; clear HP hcP_0 hcP_1 hcP_2 hcP_3; have HP := nP_; clear nP_; have HB := nb_; have HT := nt_; clear nb_ nt_ hb_; have hcP_0 : w_.cell? ⟨gP, 0, none⟩ = some (.string p0) := (zaf HP.out 0).trans rfl; have hcP_1 : w_.cell? ⟨gP, 1, none⟩ = some (.int .i64 p1) := (zaf HP.out 1).trans rfl; have hcP_2 : w_.cell? ⟨gP, 2, none⟩ = some (.int .i64 p2) := (zaf HP.out 2).trans rfl; have hcP_3 : w_.cell? ⟨gP, 3, none⟩ = some (.slice A3 l3.length c3) := (zaf HP.out 3).trans rfl))
  go_ret
  exact ⟨rfl, HB.out⟩
 rw [if_neg c2] at h
 have d2_ : decide (s2 < 0) = false := zbj c2
 clear c2
 obtain ⟨lx, hx, h⟩ := zak.1 h
 obtain ⟨⟨i0, i1, i2, ir⟩, ht, h⟩ := zak.1 h
 obtain ⟨⟨ld, d2⟩, hd, h⟩ := zak.1 h
 obtain ⟨⟨le, e2⟩, he, h⟩ := zak.1 h
 obtain ⟨b1, h1, h⟩ := zak.1 h
 obtain ⟨b2, h2, h⟩ := zak.1 h
 obtain ⟨b3, h3, h⟩ := zak.1 h
 obtain ⟨⟨p, lp⟩, hp, h⟩ := zak.1 h
 obtain ⟨⟨q, rq⟩, hq, h⟩ := zak.1 h
 obtain ⟨⟨z, lz⟩, hz, h⟩ := zak.1 h
 obtain ⟨zh, hh, h⟩ := zak.1 h
 by_cases c : b1 = true ∧ b2 = true ∧ b3 = true ∧ e2 = d2 ∧ 0 ≤ q ∧ zh = z ∧ 0 ≤ zh
 ·rw [if_pos c] at h
  obtain rfl := Option.some.inj h
  obtain ⟨rfl, rfl, rfl, e_, hq0, rfl, hz0⟩ := c
  obtain rfl := e_.symm
  have d3_ : decide (q < 0) = false := zbj (by omega)
  have d4_ : decide (zh < 0) = false := zbj (by omega)
  have FX := Aside0.mk hx
  have FT := Aside0.mk ht
  have FD := Aside0.mk hd
  have FE := Aside0.mk he
  have F1 := Aside0.mk h1
  have F2 := Aside0.mk h2
  have F3 := Aside0.mk h3
  have FP := Aside0.mk hp
  have FQ := Aside0.mk hq
  have FZ := Aside0.mk hz
  have FH := Aside0.mk hh
  clear hx ht hd he h1 h2 h3 hp hq hz hh h hq0 hz0
  go_enter Try.func13, Try.ntmps13
  go_wp2_with (first | ((with_reducible refine zcc (N := 3) rfl ?_); refine zct ?hg (N := 3) ?hd (cs := #[.string p0, .int .i64 p1, .int .i64 p2, .slice A3 l3.length c3]) (t := 31) ?hr ?_; (case hd => rfl); (case hg => rfl); (case hr => first | (go_simp; done) | (go_simp; rfl)); intro gP e_ w_ hx_ hb_; obtain ⟨bd0, bd1, o_, p_, q_, s_⟩ := laws_FnExactPut.made_B e_ hx_ hb_ HT.out; have nb_ := Aside0.mk (zai HB.out hb_); clear HB HT; have HB := nb_; have HT := Aside0.mk q_; have O0 := Aside0.mk o_; have O1 := Aside0.mk p_; have HP := Aside0.mk hx_; have GP := Aside0.mk s_; clear nb_ o_ p_ q_ s_ hx_ hb_ e_; have hcP_0 : w_.cell? ⟨gP, 0, none⟩ = some (.string p0) := (zaf HP.out 0).trans rfl; have hcP_1 : w_.cell? ⟨gP, 1, none⟩ = some (.int .i64 p1) := (zaf HP.out 1).trans rfl; have hcP_2 : w_.cell? ⟨gP, 2, none⟩ = some (.int .i64 p2) := (zaf HP.out 2).trans rfl; have hcP_3 : w_.cell? ⟨gP, 3, none⟩ = some (.slice A3 l3.length c3) := (zaf HP.out 3).trans rfl) | ((with_reducible refine zbv (f := 18) rfl ?_); refine goesL_ (some 19) rfl rfl Try.func18 (by kernel_rfl) rfl #[.slice A0 l0.length c0, .int .i64 1048576] rfl (by (try simp only [zat, zbe, zbh]); first | done | rfl) ?_; (with_reducible refine (laws_szItemS.calls k _ _ l0 1048576 s _ (zbf HR0.out HB.out) HC0.out FS.out).mono ?_); rintro e w_ ⟨rfl, hb_⟩; refine ⟨_, rfl, ?_⟩; have nP_ := Aside0.mk ((hb_.block _ (Array.getElem?_eq_some_iff.1 HP.out).1).trans HP.out); have nt_ := Aside0.mk (zdd HT.out hb_.size); have nb_ := Aside0.mk (zai HB.out hb_); clear HB HT; clear HP hcP_0 hcP_1 hcP_2 hcP_3; have HP := nP_; clear nP_; have HB := nb_; have HT := nt_; clear nb_ nt_ hb_; have hcP_0 : w_.cell? ⟨gP, 0, none⟩ = some (.string p0) := (zaf HP.out 0).trans rfl; have hcP_1 : w_.cell? ⟨gP, 1, none⟩ = some (.int .i64 p1) := (zaf HP.out 1).trans rfl; have hcP_2 : w_.cell? ⟨gP, 2, none⟩ = some (.int .i64 p2) := (zaf HP.out 2).trans rfl; have hcP_3 : w_.cell? ⟨gP, 3, none⟩ = some (.slice A3 l3.length c3) := (zaf HP.out 3).trans rfl) | ((with_reducible refine zbv (f := 23) rfl ?_); refine goesL_ (some 24) rfl rfl Try.func23 (by kernel_rfl) rfl #[.agg #[.string p0, .int .i64 p1, .int .i64 p2, .slice A3 l3.length c3], .int .i64 s] rfl (by (try simp only [zat, zbe, zbh]); first | done | rfl) ?_; (with_reducible refine (laws_szItem.calls p0 p1 p2 _ _ l3 s s2 _ (zbf HR3.out HB.out) HC3.out FS2.out).mono ?_); rintro e w_ ⟨rfl, hb_⟩; refine ⟨_, rfl, ?_⟩; have nP_ := Aside0.mk ((hb_.block _ (Array.getElem?_eq_some_iff.1 HP.out).1).trans HP.out); have nt_ := Aside0.mk (zdd HT.out hb_.size); have nb_ := Aside0.mk (zai HB.out hb_); clear HB HT; clear HP hcP_0 hcP_1 hcP_2 hcP_3; have HP := nP_; clear nP_; have HB := nb_; have HT := nt_; clear nb_ nt_ hb_; have hcP_0 : w_.cell? ⟨gP, 0, none⟩ = some (.string p0) := (zaf HP.out 0).trans rfl; have hcP_1 : w_.cell? ⟨gP, 1, none⟩ = some (.int .i64 p1) := (zaf HP.out 1).trans rfl; have hcP_2 : w_.cell? ⟨gP, 2, none⟩ = some (.int .i64 p2) := (zaf HP.out 2).trans rfl; have hcP_3 : w_.cell? ⟨gP, 3, none⟩ = some (.slice A3 l3.length c3) := (zaf HP.out 3).trans rfl))
  refine laws_FnExactPut.r8 k c0 c3 gP A0 A3 l0 l3 p0 p1 p2 lx ld i0 i1 i2 ir d2 (zbf HR0.out HB.out) HC0.out (zbf HR3.out HB.out) HC3.out HP.out FX.out FT.out FD.out rfl rfl rfl ?_
  intro w_ AD cD v1_ v3_ hb_ ho_
  obtain ⟨bd2, bd3, o_, p_, q_, s0_⟩ := laws_FnExactPut.made_V ho_ hb_ HB.out.size HT.out
  have nP_ := Aside0.mk ((hb_.block _ (Array.getElem?_eq_some_iff.1 HP.out).1).trans HP.out)
  have nb_ := Aside0.mk (zai HB.out hb_)
  clear HB HT
  clear HP
  clear hcP_0
  clear hcP_1
  clear hcP_2
  clear hcP_3
  have HP := nP_
  clear nP_
  have HB := nb_
  have HT := Aside0.mk q_
  have O2 := Aside0.mk o_
  have O3 := Aside0.mk p_
  clear o_ p_
  clear nb_ q_ hb_
  have HD := Aside0.mk s0_
  clear s0_ ho_
  have hcP_0 : w_.cell? ⟨gP, 0, none⟩ = some (.string p0) := (zaf HP.out 0).trans rfl
  have hcP_1 : w_.cell? ⟨gP, 1, none⟩ = some (.int .i64 p1) := (zaf HP.out 1).trans rfl
  have hcP_2 : w_.cell? ⟨gP, 2, none⟩ = some (.int .i64 p2) := (zaf HP.out 2).trans rfl
  have hcP_3 : w_.cell? ⟨gP, 3, none⟩ = some (.slice A3 l3.length c3) := (zaf HP.out 3).trans rfl
  simp only [Act.put, zag, zan, zao]
  go_wp2_with (first | ((with_reducible refine zbv (f := 20) rfl ?_); refine goesL_ (some 36) rfl rfl Try.func20 (by kernel_rfl) rfl #[.slice A0 l0.length c0] rfl (by (try simp only [zat, zbe, zbh]); first | done | rfl) ?_; (with_reducible refine (laws_toItemS.calls k _ _ l0 lx _ (zbf HR0.out HB.out) HC0.out FX.out).mono ?_); rintro e w_ ⟨v_, rfl, ho_, hb_⟩; refine ⟨_, rfl, ?_⟩; obtain ⟨bd4, bd5, o_, p_, q_, s0_⟩ := laws_FnExactPut.made_S ho_ hb_ HB.out.size HT.out; have nP_ := Aside0.mk ((hb_.block _ (Array.getElem?_eq_some_iff.1 HP.out).1).trans HP.out); have nD_ := Aside0.mk (zfi HD.out hb_); have nb_ := Aside0.mk (zai HB.out hb_); clear HB HT; clear HP HD hcP_0 hcP_1 hcP_2 hcP_3; have HP := nP_; clear nP_; have HD := nD_; clear nD_; have HB := nb_; have HT := Aside0.mk q_; have O4 := Aside0.mk o_; have O5 := Aside0.mk p_; clear nb_ o_ p_ q_ hb_; have HX := Aside0.mk s0_; clear s0_ ho_; obtain ⟨AX, cX, e_⟩ := zfs HX.out; subst e_; have hcP_0 : w_.cell? ⟨gP, 0, none⟩ = some (.string p0) := (zaf HP.out 0).trans rfl; have hcP_1 : w_.cell? ⟨gP, 1, none⟩ = some (.int .i64 p1) := (zaf HP.out 1).trans rfl; have hcP_2 : w_.cell? ⟨gP, 2, none⟩ = some (.int .i64 p2) := (zaf HP.out 2).trans rfl; have hcP_3 : w_.cell? ⟨gP, 3, none⟩ = some (.slice A3 l3.length c3) := (zaf HP.out 3).trans rfl) | ((with_reducible refine zbv (f := 25) rfl ?_); refine goesL_ (some 38) rfl rfl Try.func25 (by kernel_rfl) rfl #[.agg #[.string p0, .int .i64 p1, .int .i64 p2, .slice A3 l3.length c3]] rfl (by (try simp only [zat, zbe, zbh]); first | done | rfl) ?_; (with_reducible refine (laws_toItem.calls k p0 p1 p2 _ _ l3 i0 i1 i2 ir _ (zbf HR3.out HB.out) HC3.out FT.out).mono ?_); rintro e w_ ⟨v_, rfl, ho_, hb_⟩; refine ⟨_, rfl, ?_⟩; obtain ⟨bd6, bd7, o_, p_, q_, s0_⟩ := laws_FnExactPut.made_R ho_ hb_ HB.out.size HT.out; have nP_ := Aside0.mk ((hb_.block _ (Array.getElem?_eq_some_iff.1 HP.out).1).trans HP.out); have nD_ := Aside0.mk (zfi HD.out hb_); have nX_ := Aside0.mk (zcv HX.out hb_); have nb_ := Aside0.mk (zai HB.out hb_); clear HB HT; clear HP HD HX hcP_0 hcP_1 hcP_2 hcP_3; have HP := nP_; clear nP_; have HD := nD_; clear nD_; have HX := nX_; clear nX_; have HB := nb_; have HT := Aside0.mk q_; have O6 := Aside0.mk o_; have O7 := Aside0.mk p_; clear nb_ o_ p_ q_ hb_; have HXR := Aside0.mk s0_; clear s0_ ho_; obtain ⟨AXR, cXR, e_⟩ := zci HXR.out; subst e_; have hcP_0 : w_.cell? ⟨gP, 0, none⟩ = some (.string p0) := (zaf HP.out 0).trans rfl; have hcP_1 : w_.cell? ⟨gP, 1, none⟩ = some (.int .i64 p1) := (zaf HP.out 1).trans rfl; have hcP_2 : w_.cell? ⟨gP, 2, none⟩ = some (.int .i64 p2) := (zaf HP.out 2).trans rfl; have hcP_3 : w_.cell? ⟨gP, 3, none⟩ = some (.slice A3 l3.length c3) := (zaf HP.out 3).trans rfl) | ((with_reducible refine zcc (N := 9) rfl ?_); refine zct ?hg (N := 9) ?hd (cs := #[.string (⟨#[]⟩ : ByteArray), .int .i64 0, .int .i64 0, .slice none 0 0]) (t := 34) ?hr ?_; (case hd => rfl); (case hg => rfl); (case hr => first | (go_simp; done) | (go_simp; rfl)); intro gBX e_ w_ hx_ hb_; obtain ⟨bd8, bd9, o_, p_, q_, s_⟩ := laws_FnExactPut.made_B e_ hx_ hb_ HT.out; have nP_ := Aside0.mk ((hb_.block _ (Array.getElem?_eq_some_iff.1 HP.out).1).trans HP.out); have nD_ := Aside0.mk (zfi HD.out hb_); have nX_ := Aside0.mk (zcv HX.out hb_); have nXR_ := Aside0.mk (Kd.R_below HXR.out hb_); have nb_ := Aside0.mk (zai HB.out hb_); clear HB HT; clear HP HD HX HXR hcP_0 hcP_1 hcP_2 hcP_3; have HP := nP_; clear nP_; have HD := nD_; clear nD_; have HX := nX_; clear nX_; have HXR := nXR_; clear nXR_; have HB := nb_; have HT := Aside0.mk q_; have O8 := Aside0.mk o_; have O9 := Aside0.mk p_; have HBX := Aside0.mk hx_; have GBX := Aside0.mk s_; clear nb_ o_ p_ q_ s_ hx_ hb_ e_; have hcP_0 : w_.cell? ⟨gP, 0, none⟩ = some (.string p0) := (zaf HP.out 0).trans rfl; have hcP_1 : w_.cell? ⟨gP, 1, none⟩ = some (.int .i64 p1) := (zaf HP.out 1).trans rfl; have hcP_2 : w_.cell? ⟨gP, 2, none⟩ = some (.int .i64 p2) := (zaf HP.out 2).trans rfl; have hcP_3 : w_.cell? ⟨gP, 3, none⟩ = some (.slice A3 l3.length c3) := (zaf HP.out 3).trans rfl; have hcBX_0 : w_.cell? ⟨gBX, 0, none⟩ = some (.string (⟨#[]⟩ : ByteArray)) := (zaf HBX.out 0).trans rfl; have hcBX_1 : w_.cell? ⟨gBX, 1, none⟩ = some (.int .i64 0) := (zaf HBX.out 1).trans rfl; have hcBX_2 : w_.cell? ⟨gBX, 2, none⟩ = some (.int .i64 0) := (zaf HBX.out 2).trans rfl; have hcBX_3 : w_.cell? ⟨gBX, 3, none⟩ = some (.slice none 0 0) := (zaf HBX.out 3).trans rfl) | ((with_reducible refine zfo (t := 34) (p := 9) rfl ?_); refine box_put3 rfl rfl (.tmp 9) (.tmp 38) rfl rfl rfl HBX.out (by intro u hu; simp only [zej, zdw, or_false] at hu; rcases hu with rfl | rfl | rfl | rfl <;> rfl) rfl ?_; intro w_ hg_ hw_; have nP_ := Aside0.mk ((hg_.block _ (Array.getElem?_eq_some_iff.1 HP.out).1 (fun e_ => by injection e_ with e_; have o0_ := O0.out; have o1_ := O1.out; have o2_ := O2.out; have o3_ := O3.out; have o4_ := O4.out; have o5_ := O5.out; have o6_ := O6.out; have o7_ := O7.out; have o8_ := O8.out; have o9_ := O9.out; have ot_ := HT.out; have h3_ := GBX.out; have h4_ := GP.out; omega)).trans HP.out); have nD_ := Aside0.mk (Kd.V_grown HD.out hg_ (fun k_ h_ e_ => by injection e_ with e_; subst e_; have o0_ := O0.out; have o1_ := O1.out; have o2_ := O2.out; have o3_ := O3.out; have o4_ := O4.out; have o5_ := O5.out; have o6_ := O6.out; have o7_ := O7.out; have o8_ := O8.out; have o9_ := O9.out; have ot_ := HT.out; have h3_ := GBX.out; obtain ⟨⟨h5_, h6_⟩, _⟩ := h_; omega)); have nX_ := Aside0.mk (Kd.S_grown HX.out hg_ (fun k_ h_ e_ => by injection e_ with e_; subst e_; have o0_ := O0.out; have o1_ := O1.out; have o2_ := O2.out; have o3_ := O3.out; have o4_ := O4.out; have o5_ := O5.out; have o6_ := O6.out; have o7_ := O7.out; have o8_ := O8.out; have o9_ := O9.out; have ot_ := HT.out; have h3_ := GBX.out; obtain ⟨⟨h5_, h6_⟩, _⟩ := h_; omega)); have nXR_ := Aside0.mk (Kd.R_grown HXR.out hg_ (fun k_ h_ e_ => by injection e_ with e_; subst e_; have o0_ := O0.out; have o1_ := O1.out; have o2_ := O2.out; have o3_ := O3.out; have o4_ := O4.out; have o5_ := O5.out; have o6_ := O6.out; have o7_ := O7.out; have o8_ := O8.out; have o9_ := O9.out; have ot_ := HT.out; have h3_ := GBX.out; obtain ⟨⟨h5_, h6_⟩, _⟩ := h_; omega)); have nBX_ := Aside0.mk (hw_); have nt_ := Aside0.mk (zdd HT.out hg_.size); have nb_ := Aside0.mk (zen HB.out (some gBX) HB.out.size hg_ (fun k_ e_ => by injection e_ with e_; have o0_ := O0.out; have o1_ := O1.out; have o2_ := O2.out; have o3_ := O3.out; have o4_ := O4.out; have o5_ := O5.out; have o6_ := O6.out; have o7_ := O7.out; have o8_ := O8.out; have o9_ := O9.out; have ot_ := HT.out; have h3_ := GBX.out; omega)); clear HB HT; clear HP HD HX HXR HBX hcP_0 hcP_1 hcP_2 hcP_3 hcBX_0 hcBX_1 hcBX_2 hcBX_3; have HP := nP_; clear nP_; have HD := nD_; clear nD_; have HX := nX_; clear nX_; have HXR := nXR_; clear nXR_; have HBX := nBX_; clear nBX_; have HB := nb_; have HT := nt_; clear nb_ nt_ hg_ hw_; have hcP_0 : w_.cell? ⟨gP, 0, none⟩ = some (.string p0) := (zaf HP.out 0).trans rfl; have hcP_1 : w_.cell? ⟨gP, 1, none⟩ = some (.int .i64 p1) := (zaf HP.out 1).trans rfl; have hcP_2 : w_.cell? ⟨gP, 2, none⟩ = some (.int .i64 p2) := (zaf HP.out 2).trans rfl; have hcP_3 : w_.cell? ⟨gP, 3, none⟩ = some (.slice A3 l3.length c3) := (zaf HP.out 3).trans rfl; have hcBX_0 : w_.cell? ⟨gBX, 0, none⟩ = some (.string i0) := (zaf HBX.out 0).trans rfl; have hcBX_1 : w_.cell? ⟨gBX, 1, none⟩ = some (.int .i64 i1) := (zaf HBX.out 1).trans rfl; have hcBX_2 : w_.cell? ⟨gBX, 2, none⟩ = some (.int .i64 i2) := (zaf HBX.out 2).trans rfl; have hcBX_3 : w_.cell? ⟨gBX, 3, none⟩ = some (.slice AXR ir.length cXR) := (zaf HBX.out 3).trans rfl) | ((with_reducible refine zbv (f := 60) rfl ?_); refine goesL_ (some 42) rfl rfl Try.func60 (by kernel_rfl) rfl #[.slice AX lx.length cX, .agg #[.string i0, .int .i64 i1, .int .i64 i2, .slice AXR ir.length cXR]] rfl (by (try simp only [zat, zbe, zbh]); first | done | rfl) ?_; (with_reducible refine (impl_Put.calls k _ _ lx i0 i1 i2 _ _ ir le d2 _ (zcm HX.out).2.2 (zcm HX.out).2.1 (Kd.R_reads' HXR.out).2.2 (Kd.R_reads' HXR.out).2.1 FE.out).mono ?_); rintro e w_ ⟨v_, rfl, ho_, hb_⟩; refine ⟨_, rfl, ?_⟩; obtain ⟨bd10, bd11, o_, p_, q_, s0_⟩ := laws_FnExactPut.made_S ho_ hb_ HB.out.size HT.out; have nP_ := Aside0.mk ((hb_.block _ (Array.getElem?_eq_some_iff.1 HP.out).1).trans HP.out); have nD_ := Aside0.mk (zfi HD.out hb_); have nX_ := Aside0.mk (zcv HX.out hb_); have nXR_ := Aside0.mk (Kd.R_below HXR.out hb_); have nBX_ := Aside0.mk ((hb_.block _ (Array.getElem?_eq_some_iff.1 HBX.out).1).trans HBX.out); have nb_ := Aside0.mk (zai HB.out hb_); clear HB HT; clear HP HD HX HXR HBX hcP_0 hcP_1 hcP_2 hcP_3 hcBX_0 hcBX_1 hcBX_2 hcBX_3; have HP := nP_; clear nP_; have HD := nD_; clear nD_; have HX := nX_; clear nX_; have HXR := nXR_; clear nXR_; have HBX := nBX_; clear nBX_; have HB := nb_; have HT := Aside0.mk q_; have O10 := Aside0.mk o_; have O11 := Aside0.mk p_; clear nb_ o_ p_ q_ hb_; have HE := Aside0.mk s0_; clear s0_ ho_; obtain ⟨AE, cE, e_⟩ := zfs HE.out; subst e_; have hcP_0 : w_.cell? ⟨gP, 0, none⟩ = some (.string p0) := (zaf HP.out 0).trans rfl; have hcP_1 : w_.cell? ⟨gP, 1, none⟩ = some (.int .i64 p1) := (zaf HP.out 1).trans rfl; have hcP_2 : w_.cell? ⟨gP, 2, none⟩ = some (.int .i64 p2) := (zaf HP.out 2).trans rfl; have hcP_3 : w_.cell? ⟨gP, 3, none⟩ = some (.slice A3 l3.length c3) := (zaf HP.out 3).trans rfl; have hcBX_0 : w_.cell? ⟨gBX, 0, none⟩ = some (.string i0) := (zaf HBX.out 0).trans rfl; have hcBX_1 : w_.cell? ⟨gBX, 1, none⟩ = some (.int .i64 i1) := (zaf HBX.out 1).trans rfl; have hcBX_2 : w_.cell? ⟨gBX, 2, none⟩ = some (.int .i64 i2) := (zaf HBX.out 2).trans rfl; have hcBX_3 : w_.cell? ⟨gBX, 3, none⟩ = some (.slice AXR ir.length cXR) := (zaf HBX.out 3).trans rfl) | ((with_reducible refine zbv (f := 22) rfl ?_); refine goesL_ (some 47) rfl rfl Try.func22 (by kernel_rfl) rfl #[.slice AE le.length cE, .slice AD ld.length cD] rfl (by (try simp only [zat, zbe, zbh]); first | done | rfl) ?_; (with_reducible refine (laws_eqItemS.calls k _ _ le _ _ ld true _ (zcm HE.out).2.2 (zcm HE.out).2.1 (Kd.V_reads' HD.out).2.2 (Kd.V_reads' HD.out).2.1 F1.out).mono ?_); rintro e w_ ⟨rfl, hb_⟩; refine ⟨_, rfl, ?_⟩; have nP_ := Aside0.mk ((hb_.block _ (Array.getElem?_eq_some_iff.1 HP.out).1).trans HP.out); have nD_ := Aside0.mk (zfi HD.out hb_); have nX_ := Aside0.mk (zcv HX.out hb_); have nXR_ := Aside0.mk (Kd.R_below HXR.out hb_); have nBX_ := Aside0.mk ((hb_.block _ (Array.getElem?_eq_some_iff.1 HBX.out).1).trans HBX.out); have nE_ := Aside0.mk (zcv HE.out hb_); have nt_ := Aside0.mk (zdd HT.out hb_.size); have nb_ := Aside0.mk (zai HB.out hb_); clear HB HT; clear HP HD HX HXR HBX HE hcP_0 hcP_1 hcP_2 hcP_3 hcBX_0 hcBX_1 hcBX_2 hcBX_3; have HP := nP_; clear nP_; have HD := nD_; clear nD_; have HX := nX_; clear nX_; have HXR := nXR_; clear nXR_; have HBX := nBX_; clear nBX_; have HE := nE_; clear nE_; have HB := nb_; have HT := nt_; clear nb_ nt_ hb_; have hcP_0 : w_.cell? ⟨gP, 0, none⟩ = some (.string p0) := (zaf HP.out 0).trans rfl; have hcP_1 : w_.cell? ⟨gP, 1, none⟩ = some (.int .i64 p1) := (zaf HP.out 1).trans rfl; have hcP_2 : w_.cell? ⟨gP, 2, none⟩ = some (.int .i64 p2) := (zaf HP.out 2).trans rfl; have hcP_3 : w_.cell? ⟨gP, 3, none⟩ = some (.slice A3 l3.length c3) := (zaf HP.out 3).trans rfl; have hcBX_0 : w_.cell? ⟨gBX, 0, none⟩ = some (.string i0) := (zaf HBX.out 0).trans rfl; have hcBX_1 : w_.cell? ⟨gBX, 1, none⟩ = some (.int .i64 i1) := (zaf HBX.out 1).trans rfl; have hcBX_2 : w_.cell? ⟨gBX, 2, none⟩ = some (.int .i64 i2) := (zaf HBX.out 2).trans rfl; have hcBX_3 : w_.cell? ⟨gBX, 3, none⟩ = some (.slice AXR ir.length cXR) := (zaf HBX.out 3).trans rfl) | ((with_reducible refine zbv (f := 20) rfl ?_); refine goesL_ (some 56) rfl rfl Try.func20 (by kernel_rfl) rfl #[.slice A0 l0.length c0] rfl (by (try simp only [zat, zbe, zbh]); first | done | rfl) ?_; (with_reducible refine (laws_toItemS.calls k _ _ l0 lx _ (zbf HR0.out HB.out) HC0.out FX.out).mono ?_); rintro e w_ ⟨v_, rfl, ho_, hb_⟩; refine ⟨_, rfl, ?_⟩; obtain ⟨bd12, bd13, o_, p_, q_, s0_⟩ := laws_FnExactPut.made_V ho_ hb_ HB.out.size HT.out; have nP_ := Aside0.mk ((hb_.block _ (Array.getElem?_eq_some_iff.1 HP.out).1).trans HP.out); have nD_ := Aside0.mk (zfi HD.out hb_); have nX_ := Aside0.mk (zcv HX.out hb_); have nXR_ := Aside0.mk (Kd.R_below HXR.out hb_); have nBX_ := Aside0.mk ((hb_.block _ (Array.getElem?_eq_some_iff.1 HBX.out).1).trans HBX.out); have nE_ := Aside0.mk (zcv HE.out hb_); have nb_ := Aside0.mk (zai HB.out hb_); clear HB HT; clear HP HD HX HXR HBX HE hcP_0 hcP_1 hcP_2 hcP_3 hcBX_0 hcBX_1 hcBX_2 hcBX_3; have HP := nP_; clear nP_; have HD := nD_; clear nD_; have HX := nX_; clear nX_; have HXR := nXR_; clear nXR_; have HBX := nBX_; clear nBX_; have HE := nE_; clear nE_; have HB := nb_; have HT := Aside0.mk q_; have O12 := Aside0.mk o_; have O13 := Aside0.mk p_; clear nb_ o_ p_ q_ hb_; have HY := Aside0.mk s0_; clear s0_ ho_; obtain ⟨AY, cY, e_⟩ := Kd.V_slice HY.out; subst e_; have hcP_0 : w_.cell? ⟨gP, 0, none⟩ = some (.string p0) := (zaf HP.out 0).trans rfl; have hcP_1 : w_.cell? ⟨gP, 1, none⟩ = some (.int .i64 p1) := (zaf HP.out 1).trans rfl; have hcP_2 : w_.cell? ⟨gP, 2, none⟩ = some (.int .i64 p2) := (zaf HP.out 2).trans rfl; have hcP_3 : w_.cell? ⟨gP, 3, none⟩ = some (.slice A3 l3.length c3) := (zaf HP.out 3).trans rfl; have hcBX_0 : w_.cell? ⟨gBX, 0, none⟩ = some (.string i0) := (zaf HBX.out 0).trans rfl; have hcBX_1 : w_.cell? ⟨gBX, 1, none⟩ = some (.int .i64 i1) := (zaf HBX.out 1).trans rfl; have hcBX_2 : w_.cell? ⟨gBX, 2, none⟩ = some (.int .i64 i2) := (zaf HBX.out 2).trans rfl; have hcBX_3 : w_.cell? ⟨gBX, 3, none⟩ = some (.slice AXR ir.length cXR) := (zaf HBX.out 3).trans rfl) | ((with_reducible refine zbv (f := 22) rfl ?_); refine goesL_ (some 57) rfl rfl Try.func22 (by kernel_rfl) rfl #[.slice AX lx.length cX, .slice AY lx.length cY] rfl (by (try simp only [zat, zbe, zbh]); first | done | rfl) ?_; (with_reducible refine (laws_eqItemS.calls k _ _ lx _ _ lx true _ (zcm HX.out).2.2 (zcm HX.out).2.1 (Kd.V_reads' HY.out).2.2 (Kd.V_reads' HY.out).2.1 F2.out).mono ?_); rintro e w_ ⟨rfl, hb_⟩; refine ⟨_, rfl, ?_⟩; have nP_ := Aside0.mk ((hb_.block _ (Array.getElem?_eq_some_iff.1 HP.out).1).trans HP.out); have nD_ := Aside0.mk (zfi HD.out hb_); have nX_ := Aside0.mk (zcv HX.out hb_); have nXR_ := Aside0.mk (Kd.R_below HXR.out hb_); have nBX_ := Aside0.mk ((hb_.block _ (Array.getElem?_eq_some_iff.1 HBX.out).1).trans HBX.out); have nE_ := Aside0.mk (zcv HE.out hb_); have nt_ := Aside0.mk (zdd HT.out hb_.size); have nb_ := Aside0.mk (zai HB.out hb_); clear HB HT; clear HP HD HX HXR HBX HE HY hcP_0 hcP_1 hcP_2 hcP_3 hcBX_0 hcBX_1 hcBX_2 hcBX_3; have HP := nP_; clear nP_; have HD := nD_; clear nD_; have HX := nX_; clear nX_; have HXR := nXR_; clear nXR_; have HBX := nBX_; clear nBX_; have HE := nE_; clear nE_; have HB := nb_; have HT := nt_; clear nb_ nt_ hb_; have hcP_0 : w_.cell? ⟨gP, 0, none⟩ = some (.string p0) := (zaf HP.out 0).trans rfl; have hcP_1 : w_.cell? ⟨gP, 1, none⟩ = some (.int .i64 p1) := (zaf HP.out 1).trans rfl; have hcP_2 : w_.cell? ⟨gP, 2, none⟩ = some (.int .i64 p2) := (zaf HP.out 2).trans rfl; have hcP_3 : w_.cell? ⟨gP, 3, none⟩ = some (.slice A3 l3.length c3) := (zaf HP.out 3).trans rfl; have hcBX_0 : w_.cell? ⟨gBX, 0, none⟩ = some (.string i0) := (zaf HBX.out 0).trans rfl; have hcBX_1 : w_.cell? ⟨gBX, 1, none⟩ = some (.int .i64 i1) := (zaf HBX.out 1).trans rfl; have hcBX_2 : w_.cell? ⟨gBX, 2, none⟩ = some (.int .i64 i2) := (zaf HBX.out 2).trans rfl; have hcBX_3 : w_.cell? ⟨gBX, 3, none⟩ = some (.slice AXR ir.length cXR) := (zaf HBX.out 3).trans rfl))
  refine laws_FnExactPut.r16 k c3 cXR gP gBX A3 AXR l3 ir p0 i0 p1 p2 i1 i2 (zbf HR3.out HB.out) HC3.out HP.out HBX.out (Kd.R_reads' HXR.out).2.2 (Kd.R_reads' HXR.out).2.1 FT.out F3.out rfl rfl rfl ?_
  intro w_ v2_ hb_
  have q_ := zdd HT.out hb_.size
  have nP_ := Aside0.mk ((hb_.block _ (Array.getElem?_eq_some_iff.1 HP.out).1).trans HP.out)
  have nD_ := Aside0.mk (zfi HD.out hb_)
  have nX_ := Aside0.mk (zcv HX.out hb_)
  have nXR_ := Aside0.mk (Kd.R_below HXR.out hb_)
  have nBX_ := Aside0.mk ((hb_.block _ (Array.getElem?_eq_some_iff.1 HBX.out).1).trans HBX.out)
  have nE_ := Aside0.mk (zcv HE.out hb_)
  have nb_ := Aside0.mk (zai HB.out hb_)
  clear HB HT
  clear HP
  clear HD
  clear HX
  clear HXR
  clear HBX
  clear HE
  clear hcP_0
  clear hcP_1
  clear hcP_2
  clear hcP_3
  clear hcBX_0
  clear hcBX_1
  clear hcBX_2
  clear hcBX_3
  have HP := nP_
  clear nP_
  have HD := nD_
  clear nD_
  have HX := nX_
  clear nX_
  have HXR := nXR_
  clear nXR_
  have HBX := nBX_
  clear nBX_
  have HE := nE_
  clear nE_
  have HB := nb_
  have HT := Aside0.mk q_
  clear nb_ q_ hb_
  have hcP_0 : w_.cell? ⟨gP, 0, none⟩ = some (.string p0) := (zaf HP.out 0).trans rfl
  have hcP_1 : w_.cell? ⟨gP, 1, none⟩ = some (.int .i64 p1) := (zaf HP.out 1).trans rfl
  have hcP_2 : w_.cell? ⟨gP, 2, none⟩ = some (.int .i64 p2) := (zaf HP.out 2).trans rfl
  have hcP_3 : w_.cell? ⟨gP, 3, none⟩ = some (.slice A3 l3.length c3) := (zaf HP.out 3).trans rfl
  have hcBX_0 : w_.cell? ⟨gBX, 0, none⟩ = some (.string i0) := (zaf HBX.out 0).trans rfl
  have hcBX_1 : w_.cell? ⟨gBX, 1, none⟩ = some (.int .i64 i1) := (zaf HBX.out 1).trans rfl
  have hcBX_2 : w_.cell? ⟨gBX, 2, none⟩ = some (.int .i64 i2) := (zaf HBX.out 2).trans rfl
  have hcBX_3 : w_.cell? ⟨gBX, 3, none⟩ = some (.slice AXR ir.length cXR) := (zaf HBX.out 3).trans rfl
  simp only [Act.put, zag, zan, zao]
  go_wp2_with (first | ((with_reducible refine zbv (f := 40) rfl ?_); refine goesL_ (some 66) rfl rfl Try.func40 (by kernel_rfl) rfl #[.slice AX lx.length cX, .int .i64 1] rfl (by (try simp only [zat, zbe, zbh]); first | done | rfl) ?_; (with_reducible refine (laws_markItemS.calls k (fun k_ => (bd4 ≤ k_ ∧ k_ < bd5) ∧ True) (.slice AX lx.length cX) lx 1 p lp w _ HB.out HX.out FP.out).mono ?_); rintro e w_ ⟨rfl, hs_, hb_, hk_⟩; refine ⟨_, rfl, ?_⟩; have nP_ := Aside0.mk (blk_kept HP.out hk_ (fun h2_ => by have o0_ := O0.out; have o1_ := O1.out; have o2_ := O2.out; have o3_ := O3.out; have o4_ := O4.out; have o5_ := O5.out; have o6_ := O6.out; have o7_ := O7.out; have o8_ := O8.out; have o9_ := O9.out; have o10_ := O10.out; have o11_ := O11.out; have o12_ := O12.out; have o13_ := O13.out; have ot_ := HT.out; have h3_ := GP.out; obtain ⟨⟨h5_, h6_⟩, _⟩ := h2_; omega)); have nD_ := Aside0.mk (Kd.V_kept HD.out hk_ (fun k_ h_ h2_ => by first | exact absurd (h2_).2 (h_).2 | exact absurd (h_).2 (h2_).2 | (have o0_ := O0.out; have o1_ := O1.out; have o2_ := O2.out; have o3_ := O3.out; have o4_ := O4.out; have o5_ := O5.out; have o6_ := O6.out; have o7_ := O7.out; have o8_ := O8.out; have o9_ := O9.out; have o10_ := O10.out; have o11_ := O11.out; have o12_ := O12.out; have o13_ := O13.out; have ot_ := HT.out; obtain ⟨⟨h3_, h4_⟩, _⟩ := h_; obtain ⟨⟨h5_, h6_⟩, _⟩ := h2_; omega))); have nXR_ := Aside0.mk (Kd.R_kept HXR.out hk_ (fun k_ h_ h2_ => by first | exact absurd (h2_).2 (h_).2 | exact absurd (h_).2 (h2_).2 | (have o0_ := O0.out; have o1_ := O1.out; have o2_ := O2.out; have o3_ := O3.out; have o4_ := O4.out; have o5_ := O5.out; have o6_ := O6.out; have o7_ := O7.out; have o8_ := O8.out; have o9_ := O9.out; have o10_ := O10.out; have o11_ := O11.out; have o12_ := O12.out; have o13_ := O13.out; have ot_ := HT.out; obtain ⟨⟨h3_, h4_⟩, _⟩ := h_; obtain ⟨⟨h5_, h6_⟩, _⟩ := h2_; omega))); have nBX_ := Aside0.mk (blk_kept HBX.out hk_ (fun h2_ => by have o0_ := O0.out; have o1_ := O1.out; have o2_ := O2.out; have o3_ := O3.out; have o4_ := O4.out; have o5_ := O5.out; have o6_ := O6.out; have o7_ := O7.out; have o8_ := O8.out; have o9_ := O9.out; have o10_ := O10.out; have o11_ := O11.out; have o12_ := O12.out; have o13_ := O13.out; have ot_ := HT.out; have h3_ := GBX.out; obtain ⟨⟨h5_, h6_⟩, _⟩ := h2_; omega)); have nE_ := Aside0.mk (Kd.S_kept HE.out hk_ (fun k_ h_ h2_ => by first | exact absurd (h2_).2 (h_).2 | exact absurd (h_).2 (h2_).2 | (have o0_ := O0.out; have o1_ := O1.out; have o2_ := O2.out; have o3_ := O3.out; have o4_ := O4.out; have o5_ := O5.out; have o6_ := O6.out; have o7_ := O7.out; have o8_ := O8.out; have o9_ := O9.out; have o10_ := O10.out; have o11_ := O11.out; have o12_ := O12.out; have o13_ := O13.out; have ot_ := HT.out; obtain ⟨⟨h3_, h4_⟩, _⟩ := h_; obtain ⟨⟨h5_, h6_⟩, _⟩ := h2_; omega))); have nt_ := Aside0.mk (zdd HT.out hk_.1); have nb_ := Aside0.mk hb_; clear HB HT; clear HP HD HX HXR HBX HE hcP_0 hcP_1 hcP_2 hcP_3 hcBX_0 hcBX_1 hcBX_2 hcBX_3; have HP := nP_; clear nP_; have HD := nD_; clear nD_; have HXR := nXR_; clear nXR_; have HBX := nBX_; clear nBX_; have HE := nE_; clear nE_; have HB := nb_; have HT := nt_; clear nb_ nt_ hs_ hb_ hk_; have hcP_0 : w_.cell? ⟨gP, 0, none⟩ = some (.string p0) := (zaf HP.out 0).trans rfl; have hcP_1 : w_.cell? ⟨gP, 1, none⟩ = some (.int .i64 p1) := (zaf HP.out 1).trans rfl; have hcP_2 : w_.cell? ⟨gP, 2, none⟩ = some (.int .i64 p2) := (zaf HP.out 2).trans rfl; have hcP_3 : w_.cell? ⟨gP, 3, none⟩ = some (.slice A3 l3.length c3) := (zaf HP.out 3).trans rfl; have hcBX_0 : w_.cell? ⟨gBX, 0, none⟩ = some (.string i0) := (zaf HBX.out 0).trans rfl; have hcBX_1 : w_.cell? ⟨gBX, 1, none⟩ = some (.int .i64 i1) := (zaf HBX.out 1).trans rfl; have hcBX_2 : w_.cell? ⟨gBX, 2, none⟩ = some (.int .i64 i2) := (zaf HBX.out 2).trans rfl; have hcBX_3 : w_.cell? ⟨gBX, 3, none⟩ = some (.slice AXR ir.length cXR) := (zaf HBX.out 3).trans rfl) | ((with_reducible refine zbv (f := 46) rfl ?_); refine goesL_ (some 69) rfl rfl Try.func46 (by kernel_rfl) rfl #[.agg #[.string i0, .int .i64 i1, .int .i64 i2, .slice AXR ir.length cXR], .int .i64 p] rfl (by (try simp only [zat, zbe, zbh]); first | done | rfl) ?_; (with_reducible refine (laws_markItem.calls k i0 i1 i2 (fun k_ => (bd6 ≤ k_ ∧ k_ < bd7) ∧ True) (.slice AXR ir.length cXR) ir p q rq w _ HB.out HXR.out FQ.out).mono ?_); rintro e w_ ⟨rfl, hs_, hb_, hk_⟩; refine ⟨_, rfl, ?_⟩; have nP_ := Aside0.mk (blk_kept HP.out hk_ (fun h2_ => by have o0_ := O0.out; have o1_ := O1.out; have o2_ := O2.out; have o3_ := O3.out; have o4_ := O4.out; have o5_ := O5.out; have o6_ := O6.out; have o7_ := O7.out; have o8_ := O8.out; have o9_ := O9.out; have o10_ := O10.out; have o11_ := O11.out; have o12_ := O12.out; have o13_ := O13.out; have ot_ := HT.out; have h3_ := GP.out; obtain ⟨⟨h5_, h6_⟩, _⟩ := h2_; omega)); have nD_ := Aside0.mk (Kd.V_kept HD.out hk_ (fun k_ h_ h2_ => by first | exact absurd (h2_).2 (h_).2 | exact absurd (h_).2 (h2_).2 | (have o0_ := O0.out; have o1_ := O1.out; have o2_ := O2.out; have o3_ := O3.out; have o4_ := O4.out; have o5_ := O5.out; have o6_ := O6.out; have o7_ := O7.out; have o8_ := O8.out; have o9_ := O9.out; have o10_ := O10.out; have o11_ := O11.out; have o12_ := O12.out; have o13_ := O13.out; have ot_ := HT.out; obtain ⟨⟨h3_, h4_⟩, _⟩ := h_; obtain ⟨⟨h5_, h6_⟩, _⟩ := h2_; omega))); have nBX_ := Aside0.mk (blk_kept HBX.out hk_ (fun h2_ => by have o0_ := O0.out; have o1_ := O1.out; have o2_ := O2.out; have o3_ := O3.out; have o4_ := O4.out; have o5_ := O5.out; have o6_ := O6.out; have o7_ := O7.out; have o8_ := O8.out; have o9_ := O9.out; have o10_ := O10.out; have o11_ := O11.out; have o12_ := O12.out; have o13_ := O13.out; have ot_ := HT.out; have h3_ := GBX.out; obtain ⟨⟨h5_, h6_⟩, _⟩ := h2_; omega)); have nE_ := Aside0.mk (Kd.S_kept HE.out hk_ (fun k_ h_ h2_ => by first | exact absurd (h2_).2 (h_).2 | exact absurd (h_).2 (h2_).2 | (have o0_ := O0.out; have o1_ := O1.out; have o2_ := O2.out; have o3_ := O3.out; have o4_ := O4.out; have o5_ := O5.out; have o6_ := O6.out; have o7_ := O7.out; have o8_ := O8.out; have o9_ := O9.out; have o10_ := O10.out; have o11_ := O11.out; have o12_ := O12.out; have o13_ := O13.out; have ot_ := HT.out; obtain ⟨⟨h3_, h4_⟩, _⟩ := h_; obtain ⟨⟨h5_, h6_⟩, _⟩ := h2_; omega))); have nt_ := Aside0.mk (zdd HT.out hk_.1); have nb_ := Aside0.mk hb_; clear HB HT; clear HP HD HXR HBX HE hcP_0 hcP_1 hcP_2 hcP_3 hcBX_0 hcBX_1 hcBX_2 hcBX_3; have HP := nP_; clear nP_; have HD := nD_; clear nD_; have HBX := nBX_; clear nBX_; have HE := nE_; clear nE_; have HB := nb_; have HT := nt_; clear nb_ nt_ hs_ hb_ hk_; have hcP_0 : w_.cell? ⟨gP, 0, none⟩ = some (.string p0) := (zaf HP.out 0).trans rfl; have hcP_1 : w_.cell? ⟨gP, 1, none⟩ = some (.int .i64 p1) := (zaf HP.out 1).trans rfl; have hcP_2 : w_.cell? ⟨gP, 2, none⟩ = some (.int .i64 p2) := (zaf HP.out 2).trans rfl; have hcP_3 : w_.cell? ⟨gP, 3, none⟩ = some (.slice A3 l3.length c3) := (zaf HP.out 3).trans rfl; have hcBX_0 : w_.cell? ⟨gBX, 0, none⟩ = some (.string i0) := (zaf HBX.out 0).trans rfl; have hcBX_1 : w_.cell? ⟨gBX, 1, none⟩ = some (.int .i64 i1) := (zaf HBX.out 1).trans rfl; have hcBX_2 : w_.cell? ⟨gBX, 2, none⟩ = some (.int .i64 i2) := (zaf HBX.out 2).trans rfl; have hcBX_3 : w_.cell? ⟨gBX, 3, none⟩ = some (.slice AXR ir.length cXR) := (zaf HBX.out 3).trans rfl) | (go_at_call 22; (with_reducible refine (laws_eqItemS.calls k _ _ le _ _ ld true _ (zcm HE.out).2.2 (zcm HE.out).2.1 (Kd.V_reads' HD.out).2.2 (Kd.V_reads' HD.out).2.1 F1.out).mono ?_); rintro e w_ ⟨rfl, hb_⟩; have nP_ := Aside0.mk ((hb_.block _ (Array.getElem?_eq_some_iff.1 HP.out).1).trans HP.out); have nD_ := Aside0.mk (zfi HD.out hb_); have nBX_ := Aside0.mk ((hb_.block _ (Array.getElem?_eq_some_iff.1 HBX.out).1).trans HBX.out); have nE_ := Aside0.mk (zcv HE.out hb_); have nt_ := Aside0.mk (zdd HT.out hb_.size); have nb_ := Aside0.mk (zai HB.out hb_); clear HB HT; clear HP HD HBX HE hcP_0 hcP_1 hcP_2 hcP_3 hcBX_0 hcBX_1 hcBX_2 hcBX_3; have HP := nP_; clear nP_; have HD := nD_; clear nD_; have HBX := nBX_; clear nBX_; have HE := nE_; clear nE_; have HB := nb_; have HT := nt_; clear nb_ nt_ hb_; have hcP_0 : w_.cell? ⟨gP, 0, none⟩ = some (.string p0) := (zaf HP.out 0).trans rfl; have hcP_1 : w_.cell? ⟨gP, 1, none⟩ = some (.int .i64 p1) := (zaf HP.out 1).trans rfl; have hcP_2 : w_.cell? ⟨gP, 2, none⟩ = some (.int .i64 p2) := (zaf HP.out 2).trans rfl; have hcP_3 : w_.cell? ⟨gP, 3, none⟩ = some (.slice A3 l3.length c3) := (zaf HP.out 3).trans rfl; have hcBX_0 : w_.cell? ⟨gBX, 0, none⟩ = some (.string i0) := (zaf HBX.out 0).trans rfl; have hcBX_1 : w_.cell? ⟨gBX, 1, none⟩ = some (.int .i64 i1) := (zaf HBX.out 1).trans rfl; have hcBX_2 : w_.cell? ⟨gBX, 2, none⟩ = some (.int .i64 i2) := (zaf HBX.out 2).trans rfl; have hcBX_3 : w_.cell? ⟨gBX, 3, none⟩ = some (.slice AXR ir.length cXR) := (zaf HBX.out 3).trans rfl) | ((with_reducible refine zbv (f := 40) rfl ?_); refine goesL_ (some 85) rfl rfl Try.func40 (by kernel_rfl) rfl #[.slice AE le.length cE, .int .i64 1] rfl (by (try simp only [zat, zbe, zbh]); first | done | rfl) ?_; (with_reducible refine (laws_markItemS.calls k (fun k_ => (bd10 ≤ k_ ∧ k_ < bd11) ∧ True) (.slice AE le.length cE) le 1 zh lz w _ HB.out HE.out FZ.out).mono ?_); rintro e w_ ⟨rfl, hs_, hb_, hk_⟩; refine ⟨_, rfl, ?_⟩; have nP_ := Aside0.mk (blk_kept HP.out hk_ (fun h2_ => by have o0_ := O0.out; have o1_ := O1.out; have o2_ := O2.out; have o3_ := O3.out; have o4_ := O4.out; have o5_ := O5.out; have o6_ := O6.out; have o7_ := O7.out; have o8_ := O8.out; have o9_ := O9.out; have o10_ := O10.out; have o11_ := O11.out; have o12_ := O12.out; have o13_ := O13.out; have ot_ := HT.out; have h3_ := GP.out; obtain ⟨⟨h5_, h6_⟩, _⟩ := h2_; omega)); have nD_ := Aside0.mk (Kd.V_kept HD.out hk_ (fun k_ h_ h2_ => by first | exact absurd (h2_).2 (h_).2 | exact absurd (h_).2 (h2_).2 | (have o0_ := O0.out; have o1_ := O1.out; have o2_ := O2.out; have o3_ := O3.out; have o4_ := O4.out; have o5_ := O5.out; have o6_ := O6.out; have o7_ := O7.out; have o8_ := O8.out; have o9_ := O9.out; have o10_ := O10.out; have o11_ := O11.out; have o12_ := O12.out; have o13_ := O13.out; have ot_ := HT.out; obtain ⟨⟨h3_, h4_⟩, _⟩ := h_; obtain ⟨⟨h5_, h6_⟩, _⟩ := h2_; omega))); have nBX_ := Aside0.mk (blk_kept HBX.out hk_ (fun h2_ => by have o0_ := O0.out; have o1_ := O1.out; have o2_ := O2.out; have o3_ := O3.out; have o4_ := O4.out; have o5_ := O5.out; have o6_ := O6.out; have o7_ := O7.out; have o8_ := O8.out; have o9_ := O9.out; have o10_ := O10.out; have o11_ := O11.out; have o12_ := O12.out; have o13_ := O13.out; have ot_ := HT.out; have h3_ := GBX.out; obtain ⟨⟨h5_, h6_⟩, _⟩ := h2_; omega)); have nE_ := Aside0.mk (hs_); have nt_ := Aside0.mk (zdd HT.out hk_.1); have nb_ := Aside0.mk hb_; clear HB HT; clear HP HD HBX HE hcP_0 hcP_1 hcP_2 hcP_3 hcBX_0 hcBX_1 hcBX_2 hcBX_3; have HP := nP_; clear nP_; have HD := nD_; clear nD_; have HBX := nBX_; clear nBX_; have HE := nE_; clear nE_; have HB := nb_; have HT := nt_; clear nb_ nt_ hs_ hb_ hk_; have EE := Aside0.mk (zcm HE.out).1; have hcP_0 : w_.cell? ⟨gP, 0, none⟩ = some (.string p0) := (zaf HP.out 0).trans rfl; have hcP_1 : w_.cell? ⟨gP, 1, none⟩ = some (.int .i64 p1) := (zaf HP.out 1).trans rfl; have hcP_2 : w_.cell? ⟨gP, 2, none⟩ = some (.int .i64 p2) := (zaf HP.out 2).trans rfl; have hcP_3 : w_.cell? ⟨gP, 3, none⟩ = some (.slice A3 l3.length c3) := (zaf HP.out 3).trans rfl; have hcBX_0 : w_.cell? ⟨gBX, 0, none⟩ = some (.string i0) := (zaf HBX.out 0).trans rfl; have hcBX_1 : w_.cell? ⟨gBX, 1, none⟩ = some (.int .i64 i1) := (zaf HBX.out 1).trans rfl; have hcBX_2 : w_.cell? ⟨gBX, 2, none⟩ = some (.int .i64 i2) := (zaf HBX.out 2).trans rfl; have hcBX_3 : w_.cell? ⟨gBX, 3, none⟩ = some (.slice AXR ir.length cXR) := (zaf HBX.out 3).trans rfl) | ((with_reducible refine zbv (f := 41) rfl ?_); refine goesL_ (some 88) rfl rfl Try.func41 (by kernel_rfl) rfl #[.slice AE lz.length cE, .int .i64 1] rfl (by (try simp only [zat, zbe, zbh]); first | done | rfl | (rw [EE.out] <;> rfl) | (rw [← EE.out] <;> rfl)) ?_; (with_reducible refine (laws_heldItemS.calls k _ _ lz 1 zh _ (laws_FnExactPut.C_len (by rw [← EE.out]) (zcm HE.out).2.2) (by rw [← EE.out]; exact (zcm HE.out).2.1) FH.out).mono ?_); rintro e w_ ⟨rfl, hb_⟩; refine ⟨_, rfl, ?_⟩; have nP_ := Aside0.mk ((hb_.block _ (Array.getElem?_eq_some_iff.1 HP.out).1).trans HP.out); have nD_ := Aside0.mk (zfi HD.out hb_); have nBX_ := Aside0.mk ((hb_.block _ (Array.getElem?_eq_some_iff.1 HBX.out).1).trans HBX.out); have nE_ := Aside0.mk (zcv HE.out hb_); have nt_ := Aside0.mk (zdd HT.out hb_.size); have nb_ := Aside0.mk (zai HB.out hb_); clear HB HT; clear HP HD HBX HE hcP_0 hcP_1 hcP_2 hcP_3 hcBX_0 hcBX_1 hcBX_2 hcBX_3; have HP := nP_; clear nP_; have HD := nD_; clear nD_; have HBX := nBX_; clear nBX_; have HE := nE_; clear nE_; have HB := nb_; have HT := nt_; clear nb_ nt_ hb_; have hcP_0 : w_.cell? ⟨gP, 0, none⟩ = some (.string p0) := (zaf HP.out 0).trans rfl; have hcP_1 : w_.cell? ⟨gP, 1, none⟩ = some (.int .i64 p1) := (zaf HP.out 1).trans rfl; have hcP_2 : w_.cell? ⟨gP, 2, none⟩ = some (.int .i64 p2) := (zaf HP.out 2).trans rfl; have hcP_3 : w_.cell? ⟨gP, 3, none⟩ = some (.slice A3 l3.length c3) := (zaf HP.out 3).trans rfl; have hcBX_0 : w_.cell? ⟨gBX, 0, none⟩ = some (.string i0) := (zaf HBX.out 0).trans rfl; have hcBX_1 : w_.cell? ⟨gBX, 1, none⟩ = some (.int .i64 i1) := (zaf HBX.out 1).trans rfl; have hcBX_2 : w_.cell? ⟨gBX, 2, none⟩ = some (.int .i64 i2) := (zaf HBX.out 2).trans rfl; have hcBX_3 : w_.cell? ⟨gBX, 3, none⟩ = some (.slice AXR ir.length cXR) := (zaf HBX.out 3).trans rfl))
  refine laws_FnExactPut.r31 k c0 c3 gP A0 A3 l0 l3 p0 p1 p2 lx le i0 i1 i2 ir d2 (zbf HR0.out HB.out) HC0.out (zbf HR3.out HB.out) HC3.out HP.out FX.out FT.out FE.out rfl rfl rfl ?_
  intro w_ AV cV v1_ v3_ hb_ ho_
  obtain ⟨bd14, bd15, o_, p_, q_, s0_⟩ := laws_FnExactPut.made_V ho_ hb_ HB.out.size HT.out
  have nP_ := Aside0.mk ((hb_.block _ (Array.getElem?_eq_some_iff.1 HP.out).1).trans HP.out)
  have nD_ := Aside0.mk (zfi HD.out hb_)
  have nBX_ := Aside0.mk ((hb_.block _ (Array.getElem?_eq_some_iff.1 HBX.out).1).trans HBX.out)
  have nE_ := Aside0.mk (zcv HE.out hb_)
  have nb_ := Aside0.mk (zai HB.out hb_)
  clear HB HT
  clear HP
  clear HD
  clear HBX
  clear HE
  clear hcP_0
  clear hcP_1
  clear hcP_2
  clear hcP_3
  clear hcBX_0
  clear hcBX_1
  clear hcBX_2
  clear hcBX_3
  have HP := nP_
  clear nP_
  have HD := nD_
  clear nD_
  have HBX := nBX_
  clear nBX_
  have HE := nE_
  clear nE_
  have HB := nb_
  have HT := Aside0.mk q_
  have O14 := Aside0.mk o_
  have O15 := Aside0.mk p_
  clear o_ p_
  clear nb_ q_ hb_
  have HV := Aside0.mk s0_
  clear s0_ ho_
  have hcP_0 : w_.cell? ⟨gP, 0, none⟩ = some (.string p0) := (zaf HP.out 0).trans rfl
  have hcP_1 : w_.cell? ⟨gP, 1, none⟩ = some (.int .i64 p1) := (zaf HP.out 1).trans rfl
  have hcP_2 : w_.cell? ⟨gP, 2, none⟩ = some (.int .i64 p2) := (zaf HP.out 2).trans rfl
  have hcP_3 : w_.cell? ⟨gP, 3, none⟩ = some (.slice A3 l3.length c3) := (zaf HP.out 3).trans rfl
  have hcBX_0 : w_.cell? ⟨gBX, 0, none⟩ = some (.string i0) := (zaf HBX.out 0).trans rfl
  have hcBX_1 : w_.cell? ⟨gBX, 1, none⟩ = some (.int .i64 i1) := (zaf HBX.out 1).trans rfl
  have hcBX_2 : w_.cell? ⟨gBX, 2, none⟩ = some (.int .i64 i2) := (zaf HBX.out 2).trans rfl
  have hcBX_3 : w_.cell? ⟨gBX, 3, none⟩ = some (.slice AXR ir.length cXR) := (zaf HBX.out 3).trans rfl
  simp only [Act.put, zag, zan, zao]
  go_wp2_with (first | ((with_reducible refine zbv (f := 22) rfl ?_); refine goesL_ (some 104) rfl rfl Try.func22 (by kernel_rfl) rfl #[.slice AV le.length cV, .slice AD ld.length cD] rfl (by (try simp only [zat, zbe, zbh]); first | done | rfl) ?_; (with_reducible refine (laws_eqItemS.calls k _ _ le _ _ ld true _ (Kd.V_reads' HV.out).2.2 (Kd.V_reads' HV.out).2.1 (Kd.V_reads' HD.out).2.2 (Kd.V_reads' HD.out).2.1 F1.out).mono ?_); rintro e w_ ⟨rfl, hb_⟩; refine ⟨_, rfl, ?_⟩; have nP_ := Aside0.mk ((hb_.block _ (Array.getElem?_eq_some_iff.1 HP.out).1).trans HP.out); have nD_ := Aside0.mk (zfi HD.out hb_); have nBX_ := Aside0.mk ((hb_.block _ (Array.getElem?_eq_some_iff.1 HBX.out).1).trans HBX.out); have nE_ := Aside0.mk (zcv HE.out hb_); have nV_ := Aside0.mk (zfi HV.out hb_); have nt_ := Aside0.mk (zdd HT.out hb_.size); have nb_ := Aside0.mk (zai HB.out hb_); clear HB HT; clear HP HD HBX HE HV hcP_0 hcP_1 hcP_2 hcP_3 hcBX_0 hcBX_1 hcBX_2 hcBX_3; have HP := nP_; clear nP_; have HD := nD_; clear nD_; have HBX := nBX_; clear nBX_; have HE := nE_; clear nE_; have HV := nV_; clear nV_; have HB := nb_; have HT := nt_; clear nb_ nt_ hb_; have hcP_0 : w_.cell? ⟨gP, 0, none⟩ = some (.string p0) := (zaf HP.out 0).trans rfl; have hcP_1 : w_.cell? ⟨gP, 1, none⟩ = some (.int .i64 p1) := (zaf HP.out 1).trans rfl; have hcP_2 : w_.cell? ⟨gP, 2, none⟩ = some (.int .i64 p2) := (zaf HP.out 2).trans rfl; have hcP_3 : w_.cell? ⟨gP, 3, none⟩ = some (.slice A3 l3.length c3) := (zaf HP.out 3).trans rfl; have hcBX_0 : w_.cell? ⟨gBX, 0, none⟩ = some (.string i0) := (zaf HBX.out 0).trans rfl; have hcBX_1 : w_.cell? ⟨gBX, 1, none⟩ = some (.int .i64 i1) := (zaf HBX.out 1).trans rfl; have hcBX_2 : w_.cell? ⟨gBX, 2, none⟩ = some (.int .i64 i2) := (zaf HBX.out 2).trans rfl; have hcBX_3 : w_.cell? ⟨gBX, 3, none⟩ = some (.slice AXR ir.length cXR) := (zaf HBX.out 3).trans rfl) | ((with_reducible refine zbv (f := 41) rfl ?_); refine goesL_ (some 113) rfl rfl Try.func41 (by kernel_rfl) rfl #[.slice AE lz.length cE, .int .i64 1] rfl (by (try simp only [zat, zbe, zbh]); first | done | rfl | (rw [EE.out] <;> rfl) | (rw [← EE.out] <;> rfl)) ?_; (with_reducible refine (laws_heldItemS.calls k _ _ lz 1 zh _ (laws_FnExactPut.C_len (by rw [← EE.out]) (zcm HE.out).2.2) (by rw [← EE.out]; exact (zcm HE.out).2.1) FH.out).mono ?_); rintro e w_ ⟨rfl, hb_⟩; refine ⟨_, rfl, ?_⟩; have nP_ := Aside0.mk ((hb_.block _ (Array.getElem?_eq_some_iff.1 HP.out).1).trans HP.out); have nD_ := Aside0.mk (zfi HD.out hb_); have nBX_ := Aside0.mk ((hb_.block _ (Array.getElem?_eq_some_iff.1 HBX.out).1).trans HBX.out); have nE_ := Aside0.mk (zcv HE.out hb_); have nV_ := Aside0.mk (zfi HV.out hb_); have nt_ := Aside0.mk (zdd HT.out hb_.size); have nb_ := Aside0.mk (zai HB.out hb_); clear HB HT; clear HP HD HBX HE HV hcP_0 hcP_1 hcP_2 hcP_3 hcBX_0 hcBX_1 hcBX_2 hcBX_3; have HP := nP_; clear nP_; have HD := nD_; clear nD_; have HBX := nBX_; clear nBX_; have HE := nE_; clear nE_; have HV := nV_; clear nV_; have HB := nb_; have HT := nt_; clear nb_ nt_ hb_; have hcP_0 : w_.cell? ⟨gP, 0, none⟩ = some (.string p0) := (zaf HP.out 0).trans rfl; have hcP_1 : w_.cell? ⟨gP, 1, none⟩ = some (.int .i64 p1) := (zaf HP.out 1).trans rfl; have hcP_2 : w_.cell? ⟨gP, 2, none⟩ = some (.int .i64 p2) := (zaf HP.out 2).trans rfl; have hcP_3 : w_.cell? ⟨gP, 3, none⟩ = some (.slice A3 l3.length c3) := (zaf HP.out 3).trans rfl; have hcBX_0 : w_.cell? ⟨gBX, 0, none⟩ = some (.string i0) := (zaf HBX.out 0).trans rfl; have hcBX_1 : w_.cell? ⟨gBX, 1, none⟩ = some (.int .i64 i1) := (zaf HBX.out 1).trans rfl; have hcBX_2 : w_.cell? ⟨gBX, 2, none⟩ = some (.int .i64 i2) := (zaf HBX.out 2).trans rfl; have hcBX_3 : w_.cell? ⟨gBX, 3, none⟩ = some (.slice AXR ir.length cXR) := (zaf HBX.out 3).trans rfl))
  go_ret
  exact ⟨rfl, HB.out⟩
 ·rw [if_neg c] at h
  cases h
end Go.Proofs.Ytlalkldjpniakaa.P
-- Written by a program of this session (wip/drive.py) over the kit's print.
namespace Go.Proofs.Ytlalkldjpniakaa.P
open Go.RowKit Go.Proofs.YtlalkldjpniakaaW.PrintWords
def good31 (x : S31) : Prop := x.f0.size ≤ maxLen ∧ (Lit.int .i64 x.f1).wf = true ∧ (Lit.int .i64 x.f2).wf = true ∧ (x.f3.length ≤ maxLen ∧ ∀ y_ ∈ x.f3, (Lit.int .u8 y_).wf = true)
/-- The one pure statement of laws_FnExactPut. -/
def laws_FnExactPut.Pure : Prop := ∀ (l0 : List (S31)) (a1_0 : ByteArray) (a1_1 : Int) (a1_2 : Int) (l1_3 : List Int), (l0.length ≤ maxLen ∧ ∀ y_ ∈ l0, good31 y_) → a1_0.size ≤ maxLen → (Lit.int .i64 a1_1).wf = true → (Lit.int .i64 a1_2).wf = true → (l1_3.length ≤ maxLen ∧ ∀ y_ ∈ l1_3, (Lit.int .u8 y_).wf = true) → ∃ k, laws_FnExactPut.f k l0 a1_0 a1_1 a1_2 l1_3 = some true
end Go.Proofs.Ytlalkldjpniakaa.P
/- FnExactPut: of every queue and item both answers are one, nothing of the queue or the item is changed, and no two calls share what is answered. -/
namespace Go.Proofs.Ytlalkldjpniakaa.Pure
open Go.RowKit Go.Proofs.Ytlalkldjpniakaa.P Go.Proofs.Ytlalkldjpniakaa.B Go.Proofs.YtlalkldjpniakaaW.PrintWords Go.Proofs.YtlalkldjpniakaaW.PrintLast Go.Proofs.YtlalkldjpniakaaW.PrintMore
theorem sz_le_l0 : ∀ (rest pre : List S31) (a : Int) (k : Nat) (r : Int), (∀ y ∈ rest, okIt y) → 0 ≤ a → a ≤ 1048576 → pre.length + rest.length ≤ 4611686018427387904 → rest.length < k →
    laws_szItemS.l0 k (pre ++ rest) a (pre.length : Int) = some r → r ≤ 1048576
  | [], pre, a, k, r, hg, h0, h1, hb, hk, h => by
    obtain ⟨k, rfl⟩ : ∃ m, k = m + 1 := ⟨k - 1, by omega⟩
    simp only [laws_szItemS.l0] at h; rw [if_neg (nlt_end pre)] at h
    obtain rfl := Option.some.inj h
    exact h1
  | x :: rest, pre, a, k, r, hg, h0, h1, hb, hk, h => by
    obtain ⟨k, rfl⟩ : ∃ m, k = m + 1 := ⟨k - 1, by simp at hk; omega⟩
    simp only [List.length_cons] at hb hk
    have hx := hg x List.mem_cons_self
    simp only [laws_szItemS.l0] at h
    rw [if_pos (lt_mid pre x rest), if_pos (pre_nonneg pre), rdT31_mid] at h
    rcases szItem x.f0 x.f1 x.f2 x.f3 a hx.1 hx.2 h0 h1 with e | ⟨e, hle⟩
    · rw [e, Option.bind_some, if_pos (by omega)] at h
      obtain rfl := Option.some.inj h
      omega
    · rw [e, Option.bind_some, if_neg (by omega), wrap_step pre x (by omega), snoc_app pre x rest] at h
      exact sz_le_l0 rest (pre ++ [x]) (a - x.f0.size - x.f3.length) k r (fun y hy => hg y (List.mem_cons_of_mem _ hy)) (by omega) (by omega) (by simp; omega) (by omega) h
theorem sz_le (l : List S31) (hl : l.length ≤ maxLen) (hg : ∀ y ∈ l, okIt y) (k : Nat) (hk : l.length < k) (r : Int) (h : laws_szItemS.f k l 1048576 = some r) : r ≤ 1048576 := by
  unfold laws_szItemS.f at h
  have hl' := hl
  unfold maxLen at hl'
  rw [wrap_eq _ (by omega) (by omega)] at h
  by_cases c : (1048576 : Int) - (l.length : Int) < 0
  · rw [if_pos c] at h
    obtain rfl := Option.some.inj h
    omega
  · rw [if_neg c] at h
    exact sz_le_l0 l [] _ k r hg (by omega) (by omega) (by simp; omega) hk h
theorem putL_length {L : List S34} (h : L.length ≤ 1048576) (a : ByteArray) (n m : Int) (b : List Int) : (putL L a n m b).1.length ≤ 1048576 := by
  unfold putL
  split
  · rename_i c
    unfold queueOkL at c
    have := of_decide_eq_true (Bool.and_eq_true_iff.1 c).2
    show (putI a n L ++ [(⟨a, n, m, b⟩ : S34)]).length ≤ _
    omega
  · exact h
theorem putL_f3 {L : List S34} {a : ByteArray} {n m : Int} {b : List Int} (hs : ∀ x ∈ L, x.f3.length ≤ 1048576) (hb : b.length ≤ 1048576) : ∀ x ∈ (putL L a n m b).1, x.f3.length ≤ 1048576 := by
  intro x h
  unfold putL at h
  split at h
  · rcases List.mem_append.1 h with h | h
    · exact hs x (putI_mem h)
    · rw [List.mem_singleton.1 h]; exact hb
  · exact hs x h
theorem FnExactPut : laws_FnExactPut.Pure := by
  intro l s n m b hl hs _ _ hb
  obtain ⟨hl, hg⟩ := hl
  obtain ⟨hb, _⟩ := hb
  have hg' : ∀ y ∈ l, okIt y := fun y hy => ⟨(hg y hy).1, (hg y hy).2.2.2.1⟩
  obtain ⟨r, h0⟩ : ∃ r, (∀ k, l.length < k → laws_szItemS.f k l 1048576 = some r) ∧ (¬ r < 0 → l.length ≤ 1048576 ∧ ∀ y ∈ l, fits y) ∧ r ≤ 1048576 := by
    obtain ⟨r, hr, hf⟩ := szItemS l 1048576 hl hg' (by omega) (by omega) (l.length + 1) (by omega)
    refine ⟨r, fun k hk => ?_, hf, sz_le l hl hg' _ (by omega) r hr⟩
    exact at_rounds (g := fun k => laws_szItemS.f k l 1048576) (fun k => laws_szItemS.mono l 1048576 k) (show l.length + 1 ≤ k by omega) hr
  refine (Ev.rounds ?_)
  unfold laws_FnExactPut.f
  refine evBind (a := r) (evOf _ h0.1) ?_
  by_cases h1 : r < 0
  · exact evPos h1 (evConst _)
  refine evNeg h1 ?_
  obtain ⟨h2, h3⟩ := h0.2.1 h1
  rcases szItem s n m b r hs hb (by omega) h0.2.2 with e | ⟨e, hle⟩
  · rw [e]
    exact evBind (a := -1) (evConst _) (evPos (by omega) (evConst _))
  rw [e]
  refine evBind (a := r - s.size - b.length) (evConst _) (evNeg (by omega) ?_)
  have := h0.2.2
  have hm : (l.map it).length = l.length := List.length_map it
  have hsm : ∀ y ∈ l.map it, small y := fun y hy => by obtain ⟨x, hx, rfl⟩ := List.mem_map.1 hy; have := (h3 x hx).1; have := (h3 x hx).2; exact ⟨by show x.f0.size ≤ _; omega, by show x.f3.length ≤ _; omega⟩
  have hf : ∀ y ∈ l.map it, y.f3.length ≤ 1048576 := fun y hy => by obtain ⟨x, hx, rfl⟩ := List.mem_map.1 hy; exact (h3 x hx).2
  have ht : Ev (fun k => laws_toItemS.f k l) (l.map it) := evOf 2097152 fun k hk => toItemS l h2 h3 k hk
  have hi : Ev (fun k => laws_toItem.f k s n m b) (s, n, m, b) := evOf 1048576 fun k hk => toItem s n m b (by omega) k hk
  have hx : small ⟨s, n, m, b⟩ := ⟨by show s.size ≤ _; omega, by show b.length ≤ _; omega⟩
  have eS := specPut s n m b hx (l.map it) (by omega) hsm
  have eI := implPut s n m b hx (l.map it) (by omega) hsm
  have q1 := putL_length (L := l.map it) (by omega) s n m b
  have q2 := putL_f3 (n := n) (m := m) (a := s) hf (show b.length ≤ 1048576 by omega)
  obtain ⟨⟨Q, qb⟩, hQ⟩ : ∃ Q, Q = putL (l.map it) s n m b := ⟨_, rfl⟩
  rw [← hQ] at eS eI q1 q2
  replace q1 : Q.length ≤ 1048576 := q1
  replace q2 : ∀ x ∈ Q, x.f3.length ≤ 1048576 := q2
  have he : ∀ L : List S34, L.length ≤ 1048576 → (∀ y ∈ L, y.f3.length ≤ 1048576) → Ev (fun k => laws_eqItemS.f k L L) true := fun L hL hy => evOf 2097152 fun k hk => eqItemS_same L hL hy k hk
  have hj : Ev (fun k => laws_eqItem.f k s n m b s n m b) true := evOf 1048576 fun k hk => eqItem_same s n m b (by omega) k hk
  obtain ⟨p, lp, ⟨p1, p1'⟩, _, p2, _⟩ := markItemS2 (l.map it) 1 (by omega) (by omega) (by omega) hf
  have hk : Ev (fun k => laws_markItem.f k s n m b p) (p + (b.length : Int), marks b.length p) := by
    unfold laws_markItem.f
    exact evBind (evOf b.length fun k hk => markByteS b p (by omega) (by omega) (by omega) k hk) (evConst _)
  obtain ⟨z, lz, z1, _, z2, z3⟩ := markItemS Q 1 (by omega) (by omega) (by omega) q2
  refine evBind ht (evBind hi (evBind eS (evBind eI (evBind (he _ q1 q2) (evBind (he _ (by omega) hf) (evBind hj (evBind p2 (evBind hk (evBind z2 (evBind z3 ?_))))))))))
  exact evPos ⟨rfl, rfl, rfl, rfl, by show 0 ≤ p + (b.length : Int); omega, rfl, by omega⟩ (evConst _)
end Go.Proofs.Ytlalkldjpniakaa.Pure
