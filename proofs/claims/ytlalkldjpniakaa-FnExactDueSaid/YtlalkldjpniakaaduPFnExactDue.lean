import Derived.Test.Ytlalkldjpniakaadu43
import Derived.Test.Ytlalkldjpniakaadu44
namespace Go.Proofs.Ytlalkldjpniakaa.P
open Go.RowKit Go.Proofs.YtlalkldjpniakaaW.PrintWords Go.Proofs.YtlalkldjpniakaaW.PrintLast Go.Proofs.YtlalkldjpniakaaW.PrintMore
attribute [local go_sem] zdd zde zdv zdw zcs zct zdf zdg   -- for this text's walks alone
set_option linter.unusedVariables false
set_option linter.unusedSimpArgs false

theorem laws_FnExactDue.made_S {t : Nat} {w W w' : World} {v : Value} {r : List S34} {ok : Nat → Prop} (ho : Kd.S k34 34 w' W.heap.size ok v r) (hb : Below W.heap.size W w') (hB : w.heap.size ≤ W.heap.size) (hT : t ≤ W.heap.size) :
  ∃ a b, t ≤ a ∧ a ≤ b ∧ b ≤ w'.heap.size ∧ Kd.S k34 34 w' w.heap.size (fun k_ => (a ≤ k_ ∧ k_ < b) ∧ True) v r :=
 ⟨W.heap.size, w'.heap.size, hT, hb.size, zbh _, zec (zcx (zew ho) (fun _ h => ⟨⟨h.2.1, h.2.2.1⟩, trivial⟩)) hB⟩
theorem laws_FnExactDue.made_V {t : Nat} {w W w' : World} {v : Value} {r : List S34} {ok : Nat → Prop} (ho : Kd.S k34 34 w' W.heap.size ok v r) (hb : Below W.heap.size W w') (hB : w.heap.size ≤ W.heap.size) (hT : t ≤ W.heap.size) :
  ∃ a b, t ≤ a ∧ a ≤ b ∧ b ≤ w'.heap.size ∧ Kd.V k34 34 w' w.heap.size (fun k_ => (a ≤ k_ ∧ k_ < b) ∧ True) v r :=
 ⟨W.heap.size, w'.heap.size, hT, hb.size, zbh _, Kd.S_V (zcx (zew ho) (fun _ h => ⟨⟨h.2.1, h.2.2.1⟩, trivial⟩))⟩
theorem laws_FnExactDue.made_R {t : Nat} {w W w' : World} {v : Value} {r : List Int} {ok : Nat → Prop} (ho : Kd.R (Kd.int .u8) 5 w' W.heap.size ok v r) (hb : Below W.heap.size W w') (hB : w.heap.size ≤ W.heap.size) (hT : t ≤ W.heap.size) :
  ∃ a b, t ≤ a ∧ a ≤ b ∧ b ≤ w'.heap.size ∧ Kd.R (Kd.int .u8) 5 w' w.heap.size (fun k_ => (a ≤ k_ ∧ k_ < b) ∧ True) v r :=
 ⟨W.heap.size, w'.heap.size, hT, hb.size, zbh _, zbv (zbn (Kd.R_bound ho) (fun _ h => ⟨⟨h.2.1, h.2.2.1⟩, trivial⟩)) hB⟩
theorem laws_FnExactDue.made_RS {t : Nat} {w W w' : World} {u v : Value} {q : List Int} {r : List S34} {ok : Nat → Prop} (ho1 : Kd.R (Kd.int .u8) 5 w' W.heap.size ok u q) (ho : Kd.S k34 34 w' W.heap.size (fun k_ => some k_ ≠ u.ownBlock) v r) (hb : Below W.heap.size W w') (hB : w.heap.size ≤ W.heap.size) (hT : t ≤ W.heap.size) :
  ∃ a b, t ≤ a ∧ a ≤ b ∧ b ≤ w'.heap.size ∧ Kd.R (Kd.int .u8) 5 w' w.heap.size (fun k_ => (a ≤ k_ ∧ k_ < b) ∧ some k_ = u.ownBlock) u q ∧ Kd.S k34 34 w' w.heap.size (fun k_ => (a ≤ k_ ∧ k_ < b) ∧ some k_ ≠ u.ownBlock) v r :=
 ⟨W.heap.size, w'.heap.size, hT, hb.size, zbh _, zbv (zbn (Kd.R_bound (zdy rfl ho1)) (fun _ h => ⟨⟨h.2.1, h.2.2.1⟩, h.1⟩)) hB, zec (zcx (zew ho) (fun _ h => ⟨⟨h.2.1, h.2.2.1⟩, h.1⟩)) hB⟩
theorem laws_FnExactDue.made_RV {t : Nat} {w W w' : World} {u v : Value} {q : List Int} {r : List S34} {ok : Nat → Prop} (ho1 : Kd.R (Kd.int .u8) 5 w' W.heap.size ok u q) (ho : Kd.N k34 34 w' W.heap.size (fun k_ => (W.heap.size ≤ k_) ∧ some k_ ≠ u.ownBlock) v r) (hb : Below W.heap.size W w') (hB : w.heap.size ≤ W.heap.size) (hT : t ≤ W.heap.size) :
  ∃ a b, t ≤ a ∧ a ≤ b ∧ b ≤ w'.heap.size ∧ Kd.R (Kd.int .u8) 5 w' w.heap.size (fun k_ => (a ≤ k_ ∧ k_ < b) ∧ True) u q ∧ Kd.V k34 34 w' w.heap.size (fun k_ => (a ≤ k_ ∧ k_ < b) ∧ True) v r :=
 ⟨W.heap.size, w'.heap.size, hT, hb.size, zbh _, zbv (zbn (Kd.R_bound ho1) (fun _ h => ⟨⟨h.2.1, h.2.2.1⟩, trivial⟩)) hB, Kd.N_V (Kd.N_mono (Kd.N_bound ho) (fun _ h => ⟨⟨h.1.1, h.2⟩, trivial⟩))⟩
theorem laws_FnExactDue.made_B {t g : Nat} {W w' : World} {o : Obj} (hg : g = W.heap.size) (ho : w'.heap[g]? = some o) (hb : Below W.heap.size W w') (hT : t ≤ W.heap.size) : ∃ a b, t ≤ a ∧ a ≤ b ∧ b ≤ w'.heap.size ∧ a ≤ g ∧ g < b :=
 ⟨W.heap.size, w'.heap.size, hT, hb.size, zbh _, by omega, (Array.getElem?_eq_some_iff.1 ho).1⟩
theorem laws_FnExactDue.C_len {w : World} {A : Option Addr} {n m : Nat} {xs : List S34} (e : n = m) (h : Kd.C k34 w A n xs) : Kd.C k34 w A m xs := e ▸ h
theorem laws_FnExactDue.C_lenR {w : World} {A : Option Addr} {n m : Nat} {xs : List Int} (e : n = m) (h : Kd.C (Kd.int .u8) w A n xs) : Kd.C (Kd.int .u8) w A m xs := e ▸ h
def laws_FnExactDue.f (k : Nat) (l0 : List (S31)) (a1 : Int) : Option Bool := (laws_szItemS.f k l0 1048576).bind fun s => if s < 0 then some true else (laws_toItemS.f k l0).bind fun x => (spec_Due.f k x a1).bind fun d => (impl_Due.f k x a1).bind fun e => (laws_eqItemS.f k e d).bind fun b1 => (laws_eqItemS.f k x x).bind fun b2 => (laws_markItemS.f k x 1).bind fun p => (laws_markItemS.f k e 1).bind fun q => (laws_heldItemS.f k q.2 1).bind fun r => if b1 = true ∧ b2 = true ∧ 0 ≤ p.1 ∧ r = q.1 ∧ 0 ≤ r then some true else none
theorem laws_FnExactDue.mono : ∀ a0 a1 k, LeO (laws_FnExactDue.f k a0 a1) (laws_FnExactDue.f (k + 1) a0 a1) := by
 intro a0 a1 k
 unfold laws_FnExactDue.f
 repeat' first
   | (with_reducible exact laws_szItemS.mono _ _ _)
   | (with_reducible exact laws_toItemS.mono _ _)
   | (with_reducible exact spec_Due.mono _ _ _)
   | (with_reducible exact impl_Due.mono _ _ _)
   | (with_reducible exact laws_eqItemS.mono _ _ _)
   | (with_reducible exact laws_markItemS.mono _ _ _)
   | (with_reducible exact laws_heldItemS.mono _ _ _)
   | (with_reducible exact zcl _)
   | (with_reducible exact zcw _)
   | (with_reducible refine zdb ?_ ?_)
   | (with_reducible refine zcm ?_ (fun _ => ?_))
set_option maxHeartbeats 8000000 in
set_option maxRecDepth 100000 in
theorem laws_FnExactDue.calls (k : Nat) (A0 : Option Addr) (c0 : Nat) (l0 : List (S31)) (a1 : Int) (r : Bool) (w : World) (hr0 : Kd.C k31 w A0 l0.length l0) (hc0 : l0.length ≤ c0) (h : laws_FnExactDue.f k l0 a1 = some r) :
  Calls Try.prog 7 #[.slice A0 l0.length c0, .int .i64 a1] w fun e w' => e = .returned (.bool r) ∧ Below w.heap.size w w' := by
 have HR0 := Aside0.mk hr0
 have HC0 := Aside0.mk hc0
 clear hr0 hc0
 have HB := Aside0.mk (zbq w.heap.size w)
 have HT := Aside0.mk (zbh w.heap.size)
 unfold laws_FnExactDue.f at h
 replace h := zak.1 h
 obtain ⟨s, hs, h⟩ := h
 have FS := Aside0.mk hs
 clear hs
 by_cases c1 : s < 0
 ·rw [if_pos c1] at h
  obtain rfl := Option.some.inj h
  have d1 : decide (s < 0) = true := zas c1
  clear c1 h
  go_enter Try.func7, Try.ntmps7
  go_wp2_with (first | ((with_reducible refine zbt (f := 18) rfl ?_); refine goesL_ (some 15) rfl rfl Try.func18 (by kernel_rfl) rfl #[.slice A0 l0.length c0, .int .i64 1048576] rfl (by (try simp only [zaz, zbd, zbg]); first | done | rfl) ?_; (with_reducible refine (laws_szItemS.calls k _ _ l0 1048576 s _ (zbe HR0.out HB.out) HC0.out FS.out).mono ?_); rintro e w_ ⟨rfl, hb_⟩; refine ⟨_, rfl, ?_⟩; have nt_ := Aside0.mk (zdp HT.out hb_.size); have nb_ := Aside0.mk (zai HB.out hb_); clear HB HT; have HB := nb_; have HT := nt_; clear nb_ nt_ hb_))
  go_ret
  exact ⟨rfl, HB.out⟩
 ·rw [if_neg c1] at h
  have d1 : decide (s < 0) = false := zbf c1
  clear c1
  obtain ⟨lx, hx, h⟩ := zak.1 h
  obtain ⟨ld, hd, h⟩ := zak.1 h
  obtain ⟨le, he, h⟩ := zak.1 h
  obtain ⟨b1, h1, h⟩ := zak.1 h
  obtain ⟨b2, h2, h⟩ := zak.1 h
  obtain ⟨⟨p, lp⟩, hp, h⟩ := zak.1 h
  obtain ⟨⟨q, lq⟩, hq, h⟩ := zak.1 h
  obtain ⟨z, hz, h⟩ := zak.1 h
  by_cases c : b1 = true ∧ b2 = true ∧ 0 ≤ p ∧ z = q ∧ 0 ≤ z
  ·rw [if_pos c] at h
   obtain rfl := Option.some.inj h
   obtain ⟨rfl, rfl, hp0, rfl, hz0⟩ := c
   have d2 : decide (p < 0) = false := zbf (by omega)
   have d3 : decide (z < 0) = false := zbf (by omega)
   have FX := Aside0.mk hx
   have FD := Aside0.mk hd
   have FE := Aside0.mk he
   have F1 := Aside0.mk h1
   have F2 := Aside0.mk h2
   have FP := Aside0.mk hp
   have FQ := Aside0.mk hq
   have FH := Aside0.mk hz
   clear hx hd he h1 h2 hp hq hz h hp0 hz0
   go_enter Try.func7, Try.ntmps7
   go_wp2_with (first | ((with_reducible refine zbt (f := 18) rfl ?_); refine goesL_ (some 15) rfl rfl Try.func18 (by kernel_rfl) rfl #[.slice A0 l0.length c0, .int .i64 1048576] rfl (by (try simp only [zaz, zbd, zbg]); first | done | rfl) ?_; (with_reducible refine (laws_szItemS.calls k _ _ l0 1048576 s _ (zbe HR0.out HB.out) HC0.out FS.out).mono ?_); rintro e w_ ⟨rfl, hb_⟩; refine ⟨_, rfl, ?_⟩; have nt_ := Aside0.mk (zdp HT.out hb_.size); have nb_ := Aside0.mk (zai HB.out hb_); clear HB HT; have HB := nb_; have HT := nt_; clear nb_ nt_ hb_) | ((with_reducible refine zbt (f := 20) rfl ?_); refine goesL_ (some 19) rfl rfl Try.func20 (by kernel_rfl) rfl #[.slice A0 l0.length c0] rfl (by (try simp only [zaz, zbd, zbg]); first | done | rfl) ?_; (with_reducible refine (laws_toItemS.calls k _ _ l0 lx _ (zbe HR0.out HB.out) HC0.out FX.out).mono ?_); rintro e w_ ⟨v_, rfl, ho_, hb_⟩; refine ⟨_, rfl, ?_⟩; obtain ⟨bd0, bd1, o_, p_, q_, s0_⟩ := laws_FnExactDue.made_V ho_ hb_ HB.out.size HT.out; have nb_ := Aside0.mk (zai HB.out hb_); clear HB HT; have HB := nb_; have HT := Aside0.mk q_; have O0 := Aside0.mk o_; have O1 := Aside0.mk p_; clear nb_ o_ p_ q_ hb_; have HU := Aside0.mk s0_; clear s0_ ho_; obtain ⟨AU, cU, e_⟩ := Kd.V_slice HU.out; subst e_) | ((with_reducible refine zbt (f := 38) rfl ?_); refine goesL_ (some 21) rfl rfl Try.func38 (by kernel_rfl) rfl #[.slice AU lx.length cU, .int .i64 a1] rfl (by (try simp only [zaz, zbd, zbg]); first | done | rfl) ?_; (with_reducible refine (spec_Due.calls k _ _ lx a1 ld _ (zex HU.out).2.2 (zex HU.out).2.1 FD.out).mono ?_); rintro e w_ ⟨v_, rfl, ho_, hb_⟩; refine ⟨_, rfl, ?_⟩; obtain ⟨bd2, bd3, o_, p_, q_, s0_⟩ := laws_FnExactDue.made_V ho_ hb_ HB.out.size HT.out; have nb_ := Aside0.mk (zai HB.out hb_); clear HB HT; clear HU; have HB := nb_; have HT := Aside0.mk q_; have O2 := Aside0.mk o_; have O3 := Aside0.mk p_; clear nb_ o_ p_ q_ hb_; have HD := Aside0.mk s0_; clear s0_ ho_; obtain ⟨AD, cD, e_⟩ := Kd.V_slice HD.out; subst e_) | ((with_reducible refine zbt (f := 20) rfl ?_); refine goesL_ (some 23) rfl rfl Try.func20 (by kernel_rfl) rfl #[.slice A0 l0.length c0] rfl (by (try simp only [zaz, zbd, zbg]); first | done | rfl) ?_; (with_reducible refine (laws_toItemS.calls k _ _ l0 lx _ (zbe HR0.out HB.out) HC0.out FX.out).mono ?_); rintro e w_ ⟨v_, rfl, ho_, hb_⟩; refine ⟨_, rfl, ?_⟩; obtain ⟨bd4, bd5, o_, p_, q_, s0_⟩ := laws_FnExactDue.made_S ho_ hb_ HB.out.size HT.out; have nD_ := Aside0.mk (zfl HD.out hb_); have nb_ := Aside0.mk (zai HB.out hb_); clear HB HT; clear HD; have HD := nD_; clear nD_; have HB := nb_; have HT := Aside0.mk q_; have O4 := Aside0.mk o_; have O5 := Aside0.mk p_; clear nb_ o_ p_ q_ hb_; have HX := Aside0.mk s0_; clear s0_ ho_; obtain ⟨AX, cX, e_⟩ := Kd.S_slice HX.out; subst e_) | ((with_reducible refine zbt (f := 39) rfl ?_); refine goesL_ (some 26) rfl rfl Try.func39 (by kernel_rfl) rfl #[.slice AX lx.length cX, .int .i64 a1] rfl (by (try simp only [zaz, zbd, zbg]); first | done | rfl) ?_; (with_reducible refine (impl_Due.calls k _ _ lx a1 le _ (zco HX.out).2.2 (zco HX.out).2.1 FE.out).mono ?_); rintro e w_ ⟨v_, rfl, ho_, hb_⟩; refine ⟨_, rfl, ?_⟩; obtain ⟨bd6, bd7, o_, p_, q_, s0_⟩ := laws_FnExactDue.made_S ho_ hb_ HB.out.size HT.out; have nD_ := Aside0.mk (zfl HD.out hb_); have nX_ := Aside0.mk (zda HX.out hb_); have nb_ := Aside0.mk (zai HB.out hb_); clear HB HT; clear HD HX; have HD := nD_; clear nD_; have HX := nX_; clear nX_; have HB := nb_; have HT := Aside0.mk q_; have O6 := Aside0.mk o_; have O7 := Aside0.mk p_; clear nb_ o_ p_ q_ hb_; have HE := Aside0.mk s0_; clear s0_ ho_; obtain ⟨AE, cE, e_⟩ := Kd.S_slice HE.out; subst e_) | ((with_reducible refine zbt (f := 22) rfl ?_); refine goesL_ (some 29) rfl rfl Try.func22 (by kernel_rfl) rfl #[.slice AE le.length cE, .slice AD ld.length cD] rfl (by (try simp only [zaz, zbd, zbg]); first | done | rfl) ?_; (with_reducible refine (laws_eqItemS.calls k _ _ le _ _ ld true _ (zco HE.out).2.2 (zco HE.out).2.1 (zex HD.out).2.2 (zex HD.out).2.1 F1.out).mono ?_); rintro e w_ ⟨rfl, hb_⟩; refine ⟨_, rfl, ?_⟩; have nD_ := Aside0.mk (zfl HD.out hb_); have nX_ := Aside0.mk (zda HX.out hb_); have nE_ := Aside0.mk (zda HE.out hb_); have nt_ := Aside0.mk (zdp HT.out hb_.size); have nb_ := Aside0.mk (zai HB.out hb_); clear HB HT; clear HD HX HE; have HD := nD_; clear nD_; have HX := nX_; clear nX_; have HE := nE_; clear nE_; have HB := nb_; have HT := nt_; clear nb_ nt_ hb_) | ((with_reducible refine zbt (f := 20) rfl ?_); refine goesL_ (some 33) rfl rfl Try.func20 (by kernel_rfl) rfl #[.slice A0 l0.length c0] rfl (by (try simp only [zaz, zbd, zbg]); first | done | rfl) ?_; (with_reducible refine (laws_toItemS.calls k _ _ l0 lx _ (zbe HR0.out HB.out) HC0.out FX.out).mono ?_); rintro e w_ ⟨v_, rfl, ho_, hb_⟩; refine ⟨_, rfl, ?_⟩; obtain ⟨bd8, bd9, o_, p_, q_, s0_⟩ := laws_FnExactDue.made_V ho_ hb_ HB.out.size HT.out; have nD_ := Aside0.mk (zfl HD.out hb_); have nX_ := Aside0.mk (zda HX.out hb_); have nE_ := Aside0.mk (zda HE.out hb_); have nb_ := Aside0.mk (zai HB.out hb_); clear HB HT; clear HD HX HE; have HD := nD_; clear nD_; have HX := nX_; clear nX_; have HE := nE_; clear nE_; have HB := nb_; have HT := Aside0.mk q_; have O8 := Aside0.mk o_; have O9 := Aside0.mk p_; clear nb_ o_ p_ q_ hb_; have HY := Aside0.mk s0_; clear s0_ ho_; obtain ⟨AY, cY, e_⟩ := Kd.V_slice HY.out; subst e_) | ((with_reducible refine zbt (f := 22) rfl ?_); refine goesL_ (some 34) rfl rfl Try.func22 (by kernel_rfl) rfl #[.slice AX lx.length cX, .slice AY lx.length cY] rfl (by (try simp only [zaz, zbd, zbg]); first | done | rfl) ?_; (with_reducible refine (laws_eqItemS.calls k _ _ lx _ _ lx true _ (zco HX.out).2.2 (zco HX.out).2.1 (zex HY.out).2.2 (zex HY.out).2.1 F2.out).mono ?_); rintro e w_ ⟨rfl, hb_⟩; refine ⟨_, rfl, ?_⟩; have nD_ := Aside0.mk (zfl HD.out hb_); have nX_ := Aside0.mk (zda HX.out hb_); have nE_ := Aside0.mk (zda HE.out hb_); have nt_ := Aside0.mk (zdp HT.out hb_.size); have nb_ := Aside0.mk (zai HB.out hb_); clear HB HT; clear HD HX HE HY; have HD := nD_; clear nD_; have HX := nX_; clear nX_; have HE := nE_; clear nE_; have HB := nb_; have HT := nt_; clear nb_ nt_ hb_) | ((with_reducible refine zbt (f := 40) rfl ?_); refine goesL_ (some 38) rfl rfl Try.func40 (by kernel_rfl) rfl #[.slice AX lx.length cX, .int .i64 1] rfl (by (try simp only [zaz, zbd, zbg]); first | done | rfl) ?_; (with_reducible refine (laws_markItemS.calls k (fun k_ => (bd4 ≤ k_ ∧ k_ < bd5) ∧ True) (.slice AX lx.length cX) lx 1 p lp w _ HB.out HX.out FP.out).mono ?_); rintro e w_ ⟨rfl, hs_, hb_, hk_⟩; refine ⟨_, rfl, ?_⟩; have nD_ := Aside0.mk (Kd.V_kept HD.out hk_ (fun k_ h_ h2_ => by first | exact absurd (h2_).2 (h_).2 | exact absurd (h_).2 (h2_).2 | (have o0_ := O0.out; have o1_ := O1.out; have o2_ := O2.out; have o3_ := O3.out; have o4_ := O4.out; have o5_ := O5.out; have o6_ := O6.out; have o7_ := O7.out; have o8_ := O8.out; have o9_ := O9.out; have ot_ := HT.out; obtain ⟨⟨h3_, h4_⟩, _⟩ := h_; obtain ⟨⟨h5_, h6_⟩, _⟩ := h2_; omega))); have nE_ := Aside0.mk (Kd.S_kept HE.out hk_ (fun k_ h_ h2_ => by first | exact absurd (h2_).2 (h_).2 | exact absurd (h_).2 (h2_).2 | (have o0_ := O0.out; have o1_ := O1.out; have o2_ := O2.out; have o3_ := O3.out; have o4_ := O4.out; have o5_ := O5.out; have o6_ := O6.out; have o7_ := O7.out; have o8_ := O8.out; have o9_ := O9.out; have ot_ := HT.out; obtain ⟨⟨h3_, h4_⟩, _⟩ := h_; obtain ⟨⟨h5_, h6_⟩, _⟩ := h2_; omega))); have nt_ := Aside0.mk (zdp HT.out hk_.1); have nb_ := Aside0.mk hb_; clear HB HT; clear HD HX HE; have HD := nD_; clear nD_; have HE := nE_; clear nE_; have HB := nb_; have HT := nt_; clear nb_ nt_ hs_ hb_ hk_) | (go_at_call 22; (with_reducible refine (laws_eqItemS.calls k _ _ le _ _ ld true _ (zco HE.out).2.2 (zco HE.out).2.1 (zex HD.out).2.2 (zex HD.out).2.1 F1.out).mono ?_); rintro e w_ ⟨rfl, hb_⟩; have nD_ := Aside0.mk (zfl HD.out hb_); have nE_ := Aside0.mk (zda HE.out hb_); have nt_ := Aside0.mk (zdp HT.out hb_.size); have nb_ := Aside0.mk (zai HB.out hb_); clear HB HT; clear HD HE; have HD := nD_; clear nD_; have HE := nE_; clear nE_; have HB := nb_; have HT := nt_; clear nb_ nt_ hb_) | ((with_reducible refine zbt (f := 40) rfl ?_); refine goesL_ (some 49) rfl rfl Try.func40 (by kernel_rfl) rfl #[.slice AE le.length cE, .int .i64 1] rfl (by (try simp only [zaz, zbd, zbg]); first | done | rfl) ?_; (with_reducible refine (laws_markItemS.calls k (fun k_ => (bd6 ≤ k_ ∧ k_ < bd7) ∧ True) (.slice AE le.length cE) le 1 z lq w _ HB.out HE.out FQ.out).mono ?_); rintro e w_ ⟨rfl, hs_, hb_, hk_⟩; refine ⟨_, rfl, ?_⟩; have nD_ := Aside0.mk (Kd.V_kept HD.out hk_ (fun k_ h_ h2_ => by first | exact absurd (h2_).2 (h_).2 | exact absurd (h_).2 (h2_).2 | (have o0_ := O0.out; have o1_ := O1.out; have o2_ := O2.out; have o3_ := O3.out; have o4_ := O4.out; have o5_ := O5.out; have o6_ := O6.out; have o7_ := O7.out; have o8_ := O8.out; have o9_ := O9.out; have ot_ := HT.out; obtain ⟨⟨h3_, h4_⟩, _⟩ := h_; obtain ⟨⟨h5_, h6_⟩, _⟩ := h2_; omega))); have nE_ := Aside0.mk (hs_); have nt_ := Aside0.mk (zdp HT.out hk_.1); have nb_ := Aside0.mk hb_; clear HB HT; clear HD HE; have HD := nD_; clear nD_; have HE := nE_; clear nE_; have HB := nb_; have HT := nt_; clear nb_ nt_ hs_ hb_ hk_; have EE := Aside0.mk (zco HE.out).1) | ((with_reducible refine zbt (f := 41) rfl ?_); refine goesL_ (some 52) rfl rfl Try.func41 (by kernel_rfl) rfl #[.slice AE lq.length cE, .int .i64 1] rfl (by (try simp only [zaz, zbd, zbg]); first | done | rfl | (rw [EE.out] <;> rfl) | (rw [← EE.out] <;> rfl)) ?_; (with_reducible refine (laws_heldItemS.calls k _ _ lq 1 z _ (laws_FnExactDue.C_len (by rw [← EE.out]) (zco HE.out).2.2) (by rw [← EE.out]; exact (zco HE.out).2.1) FH.out).mono ?_); rintro e w_ ⟨rfl, hb_⟩; refine ⟨_, rfl, ?_⟩; have nD_ := Aside0.mk (zfl HD.out hb_); have nE_ := Aside0.mk (zda HE.out hb_); have nt_ := Aside0.mk (zdp HT.out hb_.size); have nb_ := Aside0.mk (zai HB.out hb_); clear HB HT; clear HD HE; have HD := nD_; clear nD_; have HE := nE_; clear nE_; have HB := nb_; have HT := nt_; clear nb_ nt_ hb_) | ((with_reducible refine zbt (f := 20) rfl ?_); refine goesL_ (some 59) rfl rfl Try.func20 (by kernel_rfl) rfl #[.slice A0 l0.length c0] rfl (by (try simp only [zaz, zbd, zbg]); first | done | rfl) ?_; (with_reducible refine (laws_toItemS.calls k _ _ l0 lx _ (zbe HR0.out HB.out) HC0.out FX.out).mono ?_); rintro e w_ ⟨v_, rfl, ho_, hb_⟩; refine ⟨_, rfl, ?_⟩; obtain ⟨bd10, bd11, o_, p_, q_, s0_⟩ := laws_FnExactDue.made_V ho_ hb_ HB.out.size HT.out; have nD_ := Aside0.mk (zfl HD.out hb_); have nE_ := Aside0.mk (zda HE.out hb_); have nb_ := Aside0.mk (zai HB.out hb_); clear HB HT; clear HD HE; have HD := nD_; clear nD_; have HE := nE_; clear nE_; have HB := nb_; have HT := Aside0.mk q_; have O10 := Aside0.mk o_; have O11 := Aside0.mk p_; clear nb_ o_ p_ q_ hb_; have HZ := Aside0.mk s0_; clear s0_ ho_; obtain ⟨AZ, cZ, e_⟩ := Kd.V_slice HZ.out; subst e_) | ((with_reducible refine zbt (f := 39) rfl ?_); refine goesL_ (some 61) rfl rfl Try.func39 (by kernel_rfl) rfl #[.slice AZ lx.length cZ, .int .i64 a1] rfl (by (try simp only [zaz, zbd, zbg]); first | done | rfl) ?_; (with_reducible refine (impl_Due.calls k _ _ lx a1 le _ (zex HZ.out).2.2 (zex HZ.out).2.1 FE.out).mono ?_); rintro e w_ ⟨v_, rfl, ho_, hb_⟩; refine ⟨_, rfl, ?_⟩; obtain ⟨bd12, bd13, o_, p_, q_, s0_⟩ := laws_FnExactDue.made_V ho_ hb_ HB.out.size HT.out; have nD_ := Aside0.mk (zfl HD.out hb_); have nE_ := Aside0.mk (zda HE.out hb_); have nb_ := Aside0.mk (zai HB.out hb_); clear HB HT; clear HD HE HZ; have HD := nD_; clear nD_; have HE := nE_; clear nE_; have HB := nb_; have HT := Aside0.mk q_; have O12 := Aside0.mk o_; have O13 := Aside0.mk p_; clear nb_ o_ p_ q_ hb_; have HV := Aside0.mk s0_; clear s0_ ho_; obtain ⟨AV, cV, e_⟩ := Kd.V_slice HV.out; subst e_) | ((with_reducible refine zbt (f := 22) rfl ?_); refine goesL_ (some 64) rfl rfl Try.func22 (by kernel_rfl) rfl #[.slice AV le.length cV, .slice AD ld.length cD] rfl (by (try simp only [zaz, zbd, zbg]); first | done | rfl) ?_; (with_reducible refine (laws_eqItemS.calls k _ _ le _ _ ld true _ (zex HV.out).2.2 (zex HV.out).2.1 (zex HD.out).2.2 (zex HD.out).2.1 F1.out).mono ?_); rintro e w_ ⟨rfl, hb_⟩; refine ⟨_, rfl, ?_⟩; have nD_ := Aside0.mk (zfl HD.out hb_); have nE_ := Aside0.mk (zda HE.out hb_); have nV_ := Aside0.mk (zfl HV.out hb_); have nt_ := Aside0.mk (zdp HT.out hb_.size); have nb_ := Aside0.mk (zai HB.out hb_); clear HB HT; clear HD HE HV; have HD := nD_; clear nD_; have HE := nE_; clear nE_; have HV := nV_; clear nV_; have HB := nb_; have HT := nt_; clear nb_ nt_ hb_) | ((with_reducible refine zbt (f := 41) rfl ?_); refine goesL_ (some 68) rfl rfl Try.func41 (by kernel_rfl) rfl #[.slice AE lq.length cE, .int .i64 1] rfl (by (try simp only [zaz, zbd, zbg]); first | done | rfl | (rw [EE.out] <;> rfl) | (rw [← EE.out] <;> rfl)) ?_; (with_reducible refine (laws_heldItemS.calls k _ _ lq 1 z _ (laws_FnExactDue.C_len (by rw [← EE.out]) (zco HE.out).2.2) (by rw [← EE.out]; exact (zco HE.out).2.1) FH.out).mono ?_); rintro e w_ ⟨rfl, hb_⟩; refine ⟨_, rfl, ?_⟩; have nD_ := Aside0.mk (zfl HD.out hb_); have nE_ := Aside0.mk (zda HE.out hb_); have nV_ := Aside0.mk (zfl HV.out hb_); have nt_ := Aside0.mk (zdp HT.out hb_.size); have nb_ := Aside0.mk (zai HB.out hb_); clear HB HT; clear HD HE HV; have HD := nD_; clear nD_; have HE := nE_; clear nE_; have HV := nV_; clear nV_; have HB := nb_; have HT := nt_; clear nb_ nt_ hb_))
   go_ret
   exact ⟨rfl, HB.out⟩
  ·rw [if_neg c] at h
   cases h
end Go.Proofs.Ytlalkldjpniakaa.P
-- Written by a program of this session (wip/drive.py) over the kit's print.
namespace Go.Proofs.Ytlalkldjpniakaa.P
open Go.RowKit Go.Proofs.YtlalkldjpniakaaW.PrintWords
def good31 (x : S31) : Prop := x.f0.size ≤ maxLen ∧ (Lit.int .i64 x.f1).wf = true ∧ (Lit.int .i64 x.f2).wf = true ∧ (x.f3.length ≤ maxLen ∧ ∀ y_ ∈ x.f3, (Lit.int .u8 y_).wf = true)
/-- The one pure statement of laws_FnExactDue. -/
def laws_FnExactDue.Pure : Prop := ∀ (l0 : List (S31)) (a1 : Int), (l0.length ≤ maxLen ∧ ∀ y_ ∈ l0, good31 y_) → (Lit.int .i64 a1).wf = true → ∃ k, laws_FnExactDue.f k l0 a1 = some true
end Go.Proofs.Ytlalkldjpniakaa.P
/- FnExactDue: of every queue and time both answers are one, nothing of the queue is changed, and no two calls share what is answered. -/
namespace Go.Proofs.Ytlalkldjpniakaa.Pure
open Go.RowKit Go.Proofs.Ytlalkldjpniakaa.P Go.Proofs.Ytlalkldjpniakaa.B Go.Proofs.YtlalkldjpniakaaW.PrintWords Go.Proofs.YtlalkldjpniakaaW.PrintLast Go.Proofs.YtlalkldjpniakaaW.PrintMore
theorem FnExactDue : laws_FnExactDue.Pure := by
  intro l n hl _
  obtain ⟨hl, hg⟩ := hl
  obtain ⟨r, h0⟩ : ∃ r, (∀ k, l.length < k → laws_szItemS.f k l 1048576 = some r) ∧ (¬ r < 0 → l.length ≤ 1048576 ∧ ∀ y ∈ l, fits y) := by
    obtain ⟨r, hr, hf⟩ := szItemS l 1048576 hl (fun y hy => ⟨(hg y hy).1, (hg y hy).2.2.2.1⟩) (by omega) (by omega) (l.length + 1) (by omega)
    refine ⟨r, fun k hk => ?_, hf⟩
    exact at_rounds (g := fun k => laws_szItemS.f k l 1048576) (fun k => laws_szItemS.mono l 1048576 k) (show l.length + 1 ≤ k by omega) hr
  refine (Ev.rounds ?_)
  unfold laws_FnExactDue.f
  refine evBind (a := r) (evOf _ h0.1) ?_
  by_cases h1 : r < 0
  · exact evPos h1 (evConst _)
  · obtain ⟨h2, h3⟩ := h0.2 h1
    have hm : (l.map it).length = l.length := List.length_map it
    have hs : ∀ y ∈ l.map it, small y := fun y hy => by obtain ⟨x, hx, rfl⟩ := List.mem_map.1 hy; have := (h3 x hx).1; have := (h3 x hx).2; exact ⟨by show x.f0.size ≤ _; omega, by show x.f3.length ≤ _; omega⟩
    have hf : ∀ y ∈ l.map it, y.f3.length ≤ 1048576 := fun y hy => by obtain ⟨x, hx, rfl⟩ := List.mem_map.1 hy; exact (h3 x hx).2
    have ht : Ev (fun k => laws_toItemS.f k l) (l.map it) := evOf 2097152 fun k hk => toItemS l h2 h3 k hk
    have hdl : (dueL n (l.map it)).length ≤ (l.map it).length := List.length_filter_le _ _
    have hdf : ∀ y ∈ dueL n (l.map it), y.f3.length ≤ 1048576 := fun y hy => hf y (List.mem_filter.1 hy).1
    obtain ⟨p, lp, p1, _, p2, _⟩ := markItemS (l.map it) 1 (by omega) (by omega) (by omega) hf
    obtain ⟨q, lq, q1, _, q2, q3⟩ := markItemS (dueL n (l.map it)) 1 (by omega) (by omega) (by omega) hdf
    have he : ∀ L : List S34, L.length ≤ 1048576 → (∀ y ∈ L, y.f3.length ≤ 1048576) → Ev (fun k => laws_eqItemS.f k L L) true := fun L hL hy => evOf 2097152 fun k hk => eqItemS_same L hL hy k hk
    refine evNeg h1 (evBind ht (evBind (specDue n _ hs (by omega)) (evBind (implDue n _ hs (by omega)) (evBind (he _ (by omega) hdf) (evBind (he _ (by omega) hf) (evBind p2 (evBind q2 (evBind q3 ?_))))))))
    exact evPos ⟨rfl, rfl, by show 0 ≤ p; omega, rfl, by omega⟩ (evConst _)
end Go.Proofs.Ytlalkldjpniakaa.Pure
