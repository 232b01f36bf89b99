import Derived.Test.Ytlalkldjpniakaapm20
namespace Go.Proofs.Ytlalkldjpniakaa.P
open Go.RowKit Go.Proofs.YtlalkldjpniakaaW.PrintWords Go.Proofs.YtlalkldjpniakaaW.PrintLast Go.Proofs.YtlalkldjpniakaaW.PrintMore
attribute [local go_sem] zcm zcn zdi zdj zbz zca zco zcp   -- for this text's walks alone
set_option linter.unusedVariables false
set_option linter.unusedSimpArgs false
set_option maxHeartbeats 8000000
set_option maxRecDepth 100000

theorem laws_FnExactPlay.made_S {t : Nat} {w W w' : World} {v : Value} {r : List S34} {ok : Nat → Prop} (ho : Kd.S k34 34 w' W.heap.size ok v r) (hb : Below W.heap.size W w') (hB : w.heap.size ≤ W.heap.size) (hT : t ≤ W.heap.size) :
  ∃ a b, t ≤ a ∧ a ≤ b ∧ b ≤ w'.heap.size ∧ Kd.S k34 34 w' w.heap.size (fun k_ => (a ≤ k_ ∧ k_ < b) ∧ True) v r :=
 ⟨W.heap.size, w'.heap.size, hT, hb.size, zaf _, zeq (zcs (zfq ho) (fun _ h => ⟨⟨h.2.1, h.2.2.1⟩, trivial⟩)) hB⟩
theorem laws_FnExactPlay.made_V {t : Nat} {w W w' : World} {v : Value} {r : List S34} {ok : Nat → Prop} (ho : Kd.S k34 34 w' W.heap.size ok v r) (hb : Below W.heap.size W w') (hB : w.heap.size ≤ W.heap.size) (hT : t ≤ W.heap.size) :
  ∃ a b, t ≤ a ∧ a ≤ b ∧ b ≤ w'.heap.size ∧ Kd.V k34 34 w' w.heap.size (fun k_ => (a ≤ k_ ∧ k_ < b) ∧ True) v r :=
 ⟨W.heap.size, w'.heap.size, hT, hb.size, zaf _, Kd.S_V (zcs (zfq ho) (fun _ h => ⟨⟨h.2.1, h.2.2.1⟩, trivial⟩))⟩
theorem laws_FnExactPlay.made_R {t : Nat} {w W w' : World} {v : Value} {r : List Int} {ok : Nat → Prop} (ho : Kd.R (Kd.int .u8) 5 w' W.heap.size ok v r) (hb : Below W.heap.size W w') (hB : w.heap.size ≤ W.heap.size) (hT : t ≤ W.heap.size) :
  ∃ a b, t ≤ a ∧ a ≤ b ∧ b ≤ w'.heap.size ∧ Kd.R (Kd.int .u8) 5 w' w.heap.size (fun k_ => (a ≤ k_ ∧ k_ < b) ∧ True) v r :=
 ⟨W.heap.size, w'.heap.size, hT, hb.size, zaf _, zaw (zak (Kd.R_bound ho) (fun _ h => ⟨⟨h.2.1, h.2.2.1⟩, trivial⟩)) hB⟩
theorem laws_FnExactPlay.made_RS {t : Nat} {w W w' : World} {u v : Value} {q : List Int} {r : List S34} {ok : Nat → Prop} (ho1 : Kd.R (Kd.int .u8) 5 w' W.heap.size ok u q) (ho : Kd.S k34 34 w' W.heap.size (fun k_ => some k_ ≠ u.ownBlock) v r) (hb : Below W.heap.size W w') (hB : w.heap.size ≤ W.heap.size) (hT : t ≤ W.heap.size) :
  ∃ a b, t ≤ a ∧ a ≤ b ∧ b ≤ w'.heap.size ∧ Kd.R (Kd.int .u8) 5 w' w.heap.size (fun k_ => (a ≤ k_ ∧ k_ < b) ∧ some k_ = u.ownBlock) u q ∧ Kd.S k34 34 w' w.heap.size (fun k_ => (a ≤ k_ ∧ k_ < b) ∧ some k_ ≠ u.ownBlock) v r :=
 ⟨W.heap.size, w'.heap.size, hT, hb.size, zaf _, zaw (zak (Kd.R_bound (zeu rfl ho1)) (fun _ h => ⟨⟨h.2.1, h.2.2.1⟩, h.1⟩)) hB, zeq (zcs (zfq ho) (fun _ h => ⟨⟨h.2.1, h.2.2.1⟩, h.1⟩)) hB⟩
theorem laws_FnExactPlay.made_RV {t : Nat} {w W w' : World} {u v : Value} {q : List Int} {r : List S34} {ok : Nat → Prop} (ho1 : Kd.R (Kd.int .u8) 5 w' W.heap.size ok u q) (ho : Kd.N k34 34 w' W.heap.size (fun k_ => (W.heap.size ≤ k_) ∧ some k_ ≠ u.ownBlock) v r) (hb : Below W.heap.size W w') (hB : w.heap.size ≤ W.heap.size) (hT : t ≤ W.heap.size) :
  ∃ a b, t ≤ a ∧ a ≤ b ∧ b ≤ w'.heap.size ∧ Kd.R (Kd.int .u8) 5 w' w.heap.size (fun k_ => (a ≤ k_ ∧ k_ < b) ∧ True) u q ∧ Kd.V k34 34 w' w.heap.size (fun k_ => (a ≤ k_ ∧ k_ < b) ∧ True) v r :=
 ⟨W.heap.size, w'.heap.size, hT, hb.size, zaf _, zaw (zak (Kd.R_bound ho1) (fun _ h => ⟨⟨h.2.1, h.2.2.1⟩, trivial⟩)) hB, Kd.N_V (zgb (Kd.N_bound ho) (fun _ h => ⟨⟨h.1.1, h.2⟩, trivial⟩))⟩
theorem laws_FnExactPlay.made_B {t g : Nat} {W w' : World} {o : Obj} (hg : g = W.heap.size) (ho : w'.heap[g]? = some o) (hb : Below W.heap.size W w') (hT : t ≤ W.heap.size) : ∃ a b, t ≤ a ∧ a ≤ b ∧ b ≤ w'.heap.size ∧ a ≤ g ∧ g < b :=
 ⟨W.heap.size, w'.heap.size, hT, hb.size, zaf _, by omega, (Array.getElem?_eq_some_iff.1 ho).1⟩
theorem laws_FnExactPlay.C_len {w : World} {A : Option Addr} {n m : Nat} {xs : List S34} (e : n = m) (h : Kd.C k34 w A n xs) : Kd.C k34 w A m xs := e ▸ h
theorem laws_FnExactPlay.C_lenR {w : World} {A : Option Addr} {n m : Nat} {xs : List Int} (e : n = m) (h : Kd.C (Kd.int .u8) w A n xs) : Kd.C (Kd.int .u8) w A m xs := e ▸ h
theorem laws_FnExactPlay.made_W {t : Nat} {w W w' : World} {v : Value} {r : List S34} (ho : Kd.V k34 34 w' W.heap.size (fun k_ => W.heap.size ≤ k_) v r) (hb : Below W.heap.size W w') (hB : w.heap.size ≤ W.heap.size) (hT : t ≤ W.heap.size) :
  ∃ a b, t ≤ a ∧ a ≤ b ∧ b ≤ w'.heap.size ∧ Kd.V k34 34 w' w.heap.size (fun k_ => (a ≤ k_ ∧ k_ < b) ∧ True) v r :=
 ⟨W.heap.size, w'.heap.size, hT, hb.size, zaf _, zcw (Kd.V_bound ho) (fun _ h => ⟨⟨h.1, h.2⟩, trivial⟩)⟩
def laws_FnExactPlay.f (k : Nat) (l0 : List Int) : Option Bool := if (l0.length : Int) > 1048576 then some true else (laws_toByteS.f k l0).bind fun x => (spec_Play.f k x).bind fun d => (impl_Play.f k x).bind fun e => (laws_eqItemS.f k e.1 d.1).bind fun b1 => (laws_eqByteS.f k x x).bind fun b2 => (laws_markByteS.f k x 1).bind fun p => (laws_markItemS.f k e.1 1).bind fun q => (laws_heldItemS.f k q.2 1).bind fun r => if b1 = true ∧ b2 = true ∧ e.2.1 = d.2.1 ∧ e.2.2 = d.2.2 ∧ 0 ≤ p.1 ∧ r = q.1 ∧ 0 ≤ r then some true else none
theorem laws_FnExactPlay.mono : ∀ a0 k, LeO (laws_FnExactPlay.f k a0) (laws_FnExactPlay.f (k + 1) a0) := by
 intro a0 k
 unfold laws_FnExactPlay.f
 have m0 := @laws_toByteS.mono
 have m1 := @spec_Play.mono
 have m2 := @impl_Play.mono
 have m3 := @laws_eqItemS.mono
 have m4 := @laws_eqByteS.mono
 have m5 := @laws_markByteS.mono
 have m6 := @laws_markItemS.mono
 have m7 := @laws_heldItemS.mono
 exact mt
theorem laws_FnExactPlay.wk {P : Prop} (h : P := by
 go_enter Try.func14, Try.ntmps14
 go_wp2_with (first | (refine jgc 55 ?_; refine jgs 21 Try.func55 #[.slice A0 l0.length c0] ?_; (with_reducible refine (laws_toByteS.calls k _ _ l0 lx _ (zbb HR0.out HB.out) HC0.out FX.out).mono ?_); rintro e w_ ⟨v_, rfl, ho_, hb_⟩; refine ⟨_, rfl, ?_⟩; obtain ⟨bd0, bd1, o_, p_, q_, s0_⟩ := laws_FnExactPlay.made_R ho_ hb_ HB.out.size HT.out; have nb_ := Aside0.mk (zad HB.out hb_); clear HB HT; have HB := nb_; have HT := Aside0.mk q_; have O0 := Aside0.mk o_; have O1 := Aside0.mk p_; clear nb_ o_ p_ q_ hb_; have HU := Aside0.mk s0_; clear s0_ ho_; obtain ⟨AU, cU, e_⟩ := zbg HU.out; subst e_) | (refine jgc 69 ?_; refine jgs 22 Try.func69 #[.slice AU lx.length cU] ?_; (with_reducible refine (spec_Play.calls k _ _ lx ld d2 d3 _ (zbq HU.out).2.2 (zbq HU.out).2.1 FD.out).mono ?_); rintro e w_ ⟨v_, rfl, ho_, hb_⟩; refine ⟨_, rfl, ?_⟩; obtain ⟨bd2, bd3, o_, p_, q_, s0_⟩ := laws_FnExactPlay.made_W ho_ hb_ HB.out.size HT.out; have nb_ := Aside0.mk (zad HB.out hb_); clear HB HT; clear HU; have HB := nb_; have HT := Aside0.mk q_; have O2 := Aside0.mk o_; have O3 := Aside0.mk p_; clear nb_ o_ p_ q_ hb_; have HD := Aside0.mk s0_; clear s0_ ho_; obtain ⟨AD, cD, e_⟩ := Kd.V_slice HD.out; subst e_) | (refine jgc 55 ?_; refine jgs 27 Try.func55 #[.slice A0 l0.length c0] ?_; (with_reducible refine (laws_toByteS.calls k _ _ l0 lx _ (zbb HR0.out HB.out) HC0.out FX.out).mono ?_); rintro e w_ ⟨v_, rfl, ho_, hb_⟩; refine ⟨_, rfl, ?_⟩; obtain ⟨bd4, bd5, o_, p_, q_, s0_⟩ := laws_FnExactPlay.made_R ho_ hb_ HB.out.size HT.out; have nD_ := Aside0.mk (zez HD.out hb_); have nb_ := Aside0.mk (zad HB.out hb_); clear HB HT; clear HD; have HD := nD_; clear nD_; have HB := nb_; have HT := Aside0.mk q_; have O4 := Aside0.mk o_; have O5 := Aside0.mk p_; clear nb_ o_ p_ q_ hb_; have HX := Aside0.mk s0_; clear s0_ ho_; obtain ⟨AX, cX, e_⟩ := zbg HX.out; subst e_) | (refine jgc 70 ?_; refine jgs 30 Try.func70 #[.slice AX lx.length cX] ?_; (with_reducible refine (impl_Play.calls k _ _ lx le d2 d3 _ (zbq HX.out).2.2 (zbq HX.out).2.1 FE.out).mono ?_); rintro e w_ ⟨v_, rfl, ho_, hb_⟩; refine ⟨_, rfl, ?_⟩; obtain ⟨bd6, bd7, o_, p_, q_, s0_⟩ := laws_FnExactPlay.made_S ho_ hb_ HB.out.size HT.out; have nD_ := Aside0.mk (zez HD.out hb_); have nX_ := Aside0.mk (zdz HX.out hb_); have nb_ := Aside0.mk (zad HB.out hb_); clear HB HT; clear HD HX; have HD := nD_; clear nD_; have HX := nX_; clear nX_; have HB := nb_; have HT := Aside0.mk q_; have O6 := Aside0.mk o_; have O7 := Aside0.mk p_; clear nb_ o_ p_ q_ hb_; have HE := Aside0.mk s0_; clear s0_ ho_; obtain ⟨AE, cE, e_⟩ := Kd.S_slice HE.out; subst e_) | (refine jgc 22 ?_; refine jgs 36 Try.func22 #[.slice AE le.length cE, .slice AD ld.length cD] ?_; (with_reducible refine (laws_eqItemS.calls k _ _ le _ _ ld true _ (zcu HE.out).2.2 (zcu HE.out).2.1 (zfl HD.out).2.2 (zfl HD.out).2.1 F1.out).mono ?_); rintro e w_ ⟨rfl, hb_⟩; refine ⟨_, rfl, ?_⟩; have nD_ := Aside0.mk (zez HD.out hb_); have nX_ := Aside0.mk (zdz HX.out hb_); have nE_ := Aside0.mk (zdn HE.out hb_); have nt_ := Aside0.mk (zdd HT.out hb_.size); have nb_ := Aside0.mk (zad HB.out hb_); clear HB HT; clear HD HX HE; have HD := nD_; clear nD_; have HX := nX_; clear nX_; have HE := nE_; clear nE_; have HB := nb_; have HT := nt_; clear nb_ nt_ hb_) | (refine jgc 55 ?_; refine jgs 50 Try.func55 #[.slice A0 l0.length c0] ?_; (with_reducible refine (laws_toByteS.calls k _ _ l0 lx _ (zbb HR0.out HB.out) HC0.out FX.out).mono ?_); rintro e w_ ⟨v_, rfl, ho_, hb_⟩; refine ⟨_, rfl, ?_⟩; obtain ⟨bd8, bd9, o_, p_, q_, s0_⟩ := laws_FnExactPlay.made_R ho_ hb_ HB.out.size HT.out; have nD_ := Aside0.mk (zez HD.out hb_); have nX_ := Aside0.mk (zdz HX.out hb_); have nE_ := Aside0.mk (zdn HE.out hb_); have nb_ := Aside0.mk (zad HB.out hb_); clear HB HT; clear HD HX HE; have HD := nD_; clear nD_; have HX := nX_; clear nX_; have HE := nE_; clear nE_; have HB := nb_; have HT := Aside0.mk q_; have O8 := Aside0.mk o_; have O9 := Aside0.mk p_; clear nb_ o_ p_ q_ hb_; have HY := Aside0.mk s0_; clear s0_ ho_; obtain ⟨AY, cY, e_⟩ := zbg HY.out; subst e_) | (refine jgc 50 ?_; refine jgs 51 Try.func50 #[.slice AX lx.length cX, .slice AY lx.length cY] ?_; (with_reducible refine (laws_eqByteS.calls k _ _ lx _ _ lx true _ (zbq HX.out).2.2 (zbq HX.out).2.1 (zbq HY.out).2.2 (zbq HY.out).2.1 F2.out).mono ?_); rintro e w_ ⟨rfl, hb_⟩; refine ⟨_, rfl, ?_⟩; replace hb_ := Drawn0.below hb_; have nD_ := Aside0.mk (zez HD.out hb_); have nX_ := Aside0.mk (zdz HX.out hb_); have nE_ := Aside0.mk (zdn HE.out hb_); have nt_ := Aside0.mk (zdd HT.out hb_.size); have nb_ := Aside0.mk (zad HB.out hb_); clear HB HT; clear HD HX HE HY; have HD := nD_; clear nD_; have HX := nX_; clear nX_; have HE := nE_; clear nE_; have HB := nb_; have HT := nt_; clear nb_ nt_ hb_) | (refine jgc 52 ?_; refine jgs 55 Try.func52 #[.slice AX lx.length cX, .int .i64 1] ?_; (with_reducible refine (laws_markByteS.calls k (fun k_ => (bd4 ≤ k_ ∧ k_ < bd5) ∧ True) (.slice AX lx.length cX) lx 1 p lp w _ HB.out HX.out FP.out).mono ?_); rintro e w_ ⟨rfl, hs_, hb_, hk_⟩; refine ⟨_, rfl, ?_⟩; have nD_ := Aside0.mk (Kd.V_kept HD.out hk_ (fun k_ h_ h2_ => by first | exact absurd (h2_).2 (h_).2 | exact absurd (h_).2 (h2_).2 | (have o0_ := O0.out; have o1_ := O1.out; have o2_ := O2.out; have o3_ := O3.out; have o4_ := O4.out; have o5_ := O5.out; have o6_ := O6.out; have o7_ := O7.out; have o8_ := O8.out; have o9_ := O9.out; have ot_ := HT.out; obtain ⟨⟨h3_, h4_⟩, _⟩ := h_; obtain ⟨⟨h5_, h6_⟩, _⟩ := h2_; omega))); have nE_ := Aside0.mk (Kd.S_kept HE.out hk_ (fun k_ h_ h2_ => by first | exact absurd (h2_).2 (h_).2 | exact absurd (h_).2 (h2_).2 | (have o0_ := O0.out; have o1_ := O1.out; have o2_ := O2.out; have o3_ := O3.out; have o4_ := O4.out; have o5_ := O5.out; have o6_ := O6.out; have o7_ := O7.out; have o8_ := O8.out; have o9_ := O9.out; have ot_ := HT.out; obtain ⟨⟨h3_, h4_⟩, _⟩ := h_; obtain ⟨⟨h5_, h6_⟩, _⟩ := h2_; omega))); have nt_ := Aside0.mk (zdd HT.out hk_.1); have nb_ := Aside0.mk hb_; clear HB HT; clear HD HX HE; have HD := nD_; clear nD_; have HE := nE_; clear nE_; have HB := nb_; have HT := nt_; clear nb_ nt_ hs_ hb_ hk_) | (go_at_call 22; (with_reducible refine (laws_eqItemS.calls k _ _ le _ _ ld true _ (zcu HE.out).2.2 (zcu HE.out).2.1 (zfl HD.out).2.2 (zfl HD.out).2.1 F1.out).mono ?_); rintro e w_ ⟨rfl, hb_⟩; have nD_ := Aside0.mk (zez HD.out hb_); have nE_ := Aside0.mk (zdn HE.out hb_); have nt_ := Aside0.mk (zdd HT.out hb_.size); have nb_ := Aside0.mk (zad HB.out hb_); clear HB HT; clear HD HE; have HD := nD_; clear nD_; have HE := nE_; clear nE_; have HB := nb_; have HT := nt_; clear nb_ nt_ hb_) | (refine jgc 40 ?_; refine jgs 76 Try.func40 #[.slice AE le.length cE, .int .i64 1] ?_; (with_reducible refine (laws_markItemS.calls k (fun k_ => (bd6 ≤ k_ ∧ k_ < bd7) ∧ True) (.slice AE le.length cE) le 1 z lq w _ HB.out HE.out FQ.out).mono ?_); rintro e w_ ⟨rfl, hs_, hb_, hk_⟩; refine ⟨_, rfl, ?_⟩; have nD_ := Aside0.mk (Kd.V_kept HD.out hk_ (fun k_ h_ h2_ => by first | exact absurd (h2_).2 (h_).2 | exact absurd (h_).2 (h2_).2 | (have o0_ := O0.out; have o1_ := O1.out; have o2_ := O2.out; have o3_ := O3.out; have o4_ := O4.out; have o5_ := O5.out; have o6_ := O6.out; have o7_ := O7.out; have o8_ := O8.out; have o9_ := O9.out; have ot_ := HT.out; obtain ⟨⟨h3_, h4_⟩, _⟩ := h_; obtain ⟨⟨h5_, h6_⟩, _⟩ := h2_; omega))); have nE_ := Aside0.mk (hs_); have nt_ := Aside0.mk (zdd HT.out hk_.1); have nb_ := Aside0.mk hb_; clear HB HT; clear HD HE; have HD := nD_; clear nD_; have HE := nE_; clear nE_; have HB := nb_; have HT := nt_; clear nb_ nt_ hs_ hb_ hk_; have EE := Aside0.mk (zcu HE.out).1) | (refine jgc 41 ?_; refine goesL_ (some 79) rfl rfl Try.func41 (by kernel_rfl) rfl #[.slice AE lq.length cE, .int .i64 1] rfl (by (try simp only [zdu, zeo, zey]); first | done | rfl | (rw [EE.out] <;> rfl) | (rw [← EE.out] <;> rfl)) ?_; (with_reducible refine (laws_heldItemS.calls k _ _ lq 1 z _ (laws_FnExactPlay.C_len (by rw [← EE.out]) (zcu HE.out).2.2) (by rw [← EE.out]; exact (zcu HE.out).2.1) FH.out).mono ?_); rintro e w_ ⟨rfl, hb_⟩; refine ⟨_, rfl, ?_⟩; have nD_ := Aside0.mk (zez HD.out hb_); have nE_ := Aside0.mk (zdn HE.out hb_); have nt_ := Aside0.mk (zdd HT.out hb_.size); have nb_ := Aside0.mk (zad HB.out hb_); clear HB HT; clear HD HE; have HD := nD_; clear nD_; have HE := nE_; clear nE_; have HB := nb_; have HT := nt_; clear nb_ nt_ hb_) | (refine jgc 55 ?_; refine jgs 87 Try.func55 #[.slice A0 l0.length c0] ?_; (with_reducible refine (laws_toByteS.calls k _ _ l0 lx _ (zbb HR0.out HB.out) HC0.out FX.out).mono ?_); rintro e w_ ⟨v_, rfl, ho_, hb_⟩; refine ⟨_, rfl, ?_⟩; obtain ⟨bd10, bd11, o_, p_, q_, s0_⟩ := laws_FnExactPlay.made_R ho_ hb_ HB.out.size HT.out; have nD_ := Aside0.mk (zez HD.out hb_); have nE_ := Aside0.mk (zdn HE.out hb_); have nb_ := Aside0.mk (zad HB.out hb_); clear HB HT; clear HD HE; have HD := nD_; clear nD_; have HE := nE_; clear nE_; have HB := nb_; have HT := Aside0.mk q_; have O10 := Aside0.mk o_; have O11 := Aside0.mk p_; clear nb_ o_ p_ q_ hb_; have HZ := Aside0.mk s0_; clear s0_ ho_; obtain ⟨AZ, cZ, e_⟩ := zbg HZ.out; subst e_) | (refine jgc 70 ?_; refine jgs 88 Try.func70 #[.slice AZ lx.length cZ] ?_; (with_reducible refine (impl_Play.calls k _ _ lx le d2 d3 _ (zbq HZ.out).2.2 (zbq HZ.out).2.1 FE.out).mono ?_); rintro e w_ ⟨v_, rfl, ho_, hb_⟩; refine ⟨_, rfl, ?_⟩; obtain ⟨bd12, bd13, o_, p_, q_, s0_⟩ := laws_FnExactPlay.made_S ho_ hb_ HB.out.size HT.out; have nD_ := Aside0.mk (zez HD.out hb_); have nE_ := Aside0.mk (zdn HE.out hb_); have nb_ := Aside0.mk (zad HB.out hb_); clear HB HT; clear HD HE HZ; have HD := nD_; clear nD_; have HE := nE_; clear nE_; have HB := nb_; have HT := Aside0.mk q_; have O12 := Aside0.mk o_; have O13 := Aside0.mk p_; clear nb_ o_ p_ q_ hb_; have HV := Aside0.mk s0_; clear s0_ ho_; obtain ⟨AV, cV, e_⟩ := Kd.S_slice HV.out; subst e_) | (refine jgc 22 ?_; refine jgs 94 Try.func22 #[.slice AV le.length cV, .slice AD ld.length cD] ?_; (with_reducible refine (laws_eqItemS.calls k _ _ le _ _ ld true _ (zcu HV.out).2.2 (zcu HV.out).2.1 (zfl HD.out).2.2 (zfl HD.out).2.1 F1.out).mono ?_); rintro e w_ ⟨rfl, hb_⟩; refine ⟨_, rfl, ?_⟩; have nD_ := Aside0.mk (zez HD.out hb_); have nE_ := Aside0.mk (zdn HE.out hb_); have nV_ := Aside0.mk (zdn HV.out hb_); have nt_ := Aside0.mk (zdd HT.out hb_.size); have nb_ := Aside0.mk (zad HB.out hb_); clear HB HT; clear HD HE HV; have HD := nD_; clear nD_; have HE := nE_; clear nE_; have HV := nV_; clear nV_; have HB := nb_; have HT := nt_; clear nb_ nt_ hb_) | (refine jgc 41 ?_; refine goesL_ (some 108) rfl rfl Try.func41 (by kernel_rfl) rfl #[.slice AE lq.length cE, .int .i64 1] rfl (by (try simp only [zdu, zeo, zey]); first | done | rfl | (rw [EE.out] <;> rfl) | (rw [← EE.out] <;> rfl)) ?_; (with_reducible refine (laws_heldItemS.calls k _ _ lq 1 z _ (laws_FnExactPlay.C_len (by rw [← EE.out]) (zcu HE.out).2.2) (by rw [← EE.out]; exact (zcu HE.out).2.1) FH.out).mono ?_); rintro e w_ ⟨rfl, hb_⟩; refine ⟨_, rfl, ?_⟩; have nD_ := Aside0.mk (zez HD.out hb_); have nE_ := Aside0.mk (zdn HE.out hb_); have nV_ := Aside0.mk (zdn HV.out hb_); have nt_ := Aside0.mk (zdd HT.out hb_.size); have nb_ := Aside0.mk (zad HB.out hb_); clear HB HT; clear HD HE HV; have HD := nD_; clear nD_; have HE := nE_; clear nE_; have HV := nV_; clear nV_; have HB := nb_; have HT := nt_; clear nb_ nt_ hb_))
 go_ret
 exact ⟨rfl, HB.out⟩) : P := h
theorem laws_FnExactPlay.calls (k : Nat) (A0 : Option Addr) (c0 : Nat) (l0 : List Int) (r : Bool) (w : World) (hr0 : Kd.C (Kd.int .u8) w A0 l0.length l0) (hc0 : l0.length ≤ c0) (h : laws_FnExactPlay.f k l0 = some r) :
  Calls Try.prog 14 #[.slice A0 l0.length c0] w fun e w' => e = .returned (.bool r) ∧ Below w.heap.size w w' := by
 have HR0 := Aside0.mk hr0
 have HC0 := Aside0.mk hc0
 clear hr0 hc0
 have HB := Aside0.mk (zbj w.heap.size w)
 have HT := Aside0.mk (zaf w.heap.size)
 have hu34 := Try.underlying34
 unfold laws_FnExactPlay.f at h
 by_cases c0_ : (l0.length : Int) > 1048576
 ·rw [if_pos c0_] at h
  obtain rfl := Option.some.inj h
  have d0 : decide ((l0.length : Int) > 1048576) = true := zae c0_
  clear c0_ h
  exact laws_FnExactPlay.wk
 rw [if_neg c0_] at h
 have d0 : decide ((l0.length : Int) > 1048576) = false := zas c0_
 clear c0_
 obtain ⟨lx, hx, h⟩ := zbi.1 h
 obtain ⟨⟨ld, d2, d3⟩, hd, h⟩ := zbi.1 h
 obtain ⟨⟨le, e2, e3⟩, he, h⟩ := zbi.1 h
 obtain ⟨b1, h1, h⟩ := zbi.1 h
 obtain ⟨b2, h2, h⟩ := zbi.1 h
 obtain ⟨⟨p, lp⟩, hp, h⟩ := zbi.1 h
 obtain ⟨⟨q, lq⟩, hq, h⟩ := zbi.1 h
 obtain ⟨z, hz, h⟩ := zbi.1 h
 by_cases c : b1 = true ∧ b2 = true ∧ e2 = d2 ∧ e3 = d3 ∧ 0 ≤ p ∧ z = q ∧ 0 ≤ z
 ·rw [if_pos c] at h
  obtain rfl := Option.some.inj h
  obtain ⟨rfl, rfl, x2_, x3_, hp0, rfl, hz0⟩ := c
  obtain rfl := x2_.symm
  obtain rfl := x3_.symm
  have d2_ : decide (p < 0) = false := zas (by omega)
  have d3_ : decide (z < 0) = false := zas (by omega)
  have FX := Aside0.mk hx
  have FD := Aside0.mk hd
  have FE := Aside0.mk he
  have F1 := Aside0.mk h1
  have F2 := Aside0.mk h2
  have FP := Aside0.mk hp
  have FQ := Aside0.mk hq
  have FH := Aside0.mk hz
  clear hx hd he h1 h2 hp hq hz h hp0 hz0
  exact laws_FnExactPlay.wk
 ·rw [if_neg c] at h
  cases h
end Go.Proofs.Ytlalkldjpniakaa.P
-- Written by a program of this session (wip/drive.py) over the kit's print.
namespace Go.Proofs.Ytlalkldjpniakaa.P
open Go.RowKit Go.Proofs.YtlalkldjpniakaaW.PrintWords
/-- The one pure statement of laws_FnExactPlay. -/
def laws_FnExactPlay.Pure : Prop := ∀ (l0 : List Int), (l0.length ≤ maxLen ∧ ∀ y_ ∈ l0, (Lit.int .u8 y_).wf = true) → ∃ k, laws_FnExactPlay.f k l0 = some true
end Go.Proofs.Ytlalkldjpniakaa.P
/- FnExactPlay: of every list of bytes both answers are one; the list is not changed, and no two calls share what is answered. -/
namespace Go.Proofs.Ytlalkldjpniakaa.Pure
open Go.RowKit Go.Proofs.Ytlalkldjpniakaa.P Go.Proofs.Ytlalkldjpniakaa.B Go.Proofs.YtlalkldjpniakaaW.PrintWords Go.Proofs.YtlalkldjpniakaaW.PrintLast Go.Proofs.YtlalkldjpniakaaW.PrintMore
theorem FnExactPlay : laws_FnExactPlay.Pure := by
  intro l ⟨_, hw⟩
  have hw8 := wf8 hw
  refine Ev.rounds ?_
  unfold laws_FnExactPlay.f
  by_cases h0 : (l.length : Int) > 1048576
  · exact evPos h0 (evConst _)
  obtain ⟨⟨Q, u, z⟩, p1, p2, hQ⟩ := play l (by omega) hw8
  replace hQ : qOk Q := hQ
  have hf : ∀ x ∈ Q, x.f3.length ≤ 1048576 := fun x hx => (hQ.2 x hx).2
  obtain ⟨m, lq, m1, _, m2, m3⟩ := markItemS Q 1 (by omega) (by omega) (by have := hQ.1; omega) hf
  refine evNeg h0 (evBind (evOf l.length fun k hk => toByteS l (by omega) k hk) (evBind p1 (evBind p2 (evBind (a := true) (evOf 2097152 fun k hk => eqItemS_same Q hQ.1 hf k hk) (evBind (a := true) (evOf l.length fun k hk => eqByteS_same l (by omega) k hk) (evBind (a := (1 + (l.length : Int), marks l.length 1)) (evOf l.length fun k hk => markByteS l 1 (by omega) (by omega) (by omega) k hk) (evBind m2 (evBind m3 ?_))))))))
  exact evPos ⟨rfl, rfl, rfl, rfl, by show 0 ≤ 1 + (l.length : Int); omega, rfl, by omega⟩ (evConst _)
end Go.Proofs.Ytlalkldjpniakaa.Pure
