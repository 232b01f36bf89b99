import Derived.Test.Ytienlgcjohpphaake30
import Derived.Test.Ytienlgcjohpphaake32
namespace Go.Proofs.Ytienlgcjohpphaa.P
open Go.RowKit Go.Proofs.YtienlgcjohpphaaW.PrintWords Go.Proofs.YtienlgcjohpphaaW.PrintLast Go.Proofs.YtienlgcjohpphaaW.PrintMore
attribute [local go_sem] zbz zca zcn zco zbt zbu zcb zcc   -- for this text's walks alone
set_option linter.unusedVariables false
set_option linter.unusedSimpArgs false
set_option maxHeartbeats 8000000
set_option maxRecDepth 100000

def impl_Mac.t (k : Nat) (y l1 : List Int) : Option (List Int) := (if y.length ≤ 64 then ((impl_joined.f [y, List.replicate (64 - y.length) 0]).bind fun z => (impl_xorAll.f k z 92).bind fun o => (impl_xorAll.f k z 54).bind fun i => (impl_joined.f [i, l1]).bind fun j => (impl_Hash.f k j).bind fun g => (impl_joined.f [o, g]).bind fun q => impl_Hash.f k q) else none)
def impl_Mac.f (k : Nat) (l0 : List Int) (l1 : List Int) : Option (List Int) := if (l1.length : Int) > 3936 then some [] else if (l0.length : Int) > 3936 then some [] else if (l0.length : Int) > 64 then (impl_Hash.f k l0).bind fun y => impl_Mac.t k y l1 else impl_Mac.t k l0 l1
theorem impl_Mac.monoT : ∀ a0 a1 k, LeO (impl_Mac.t k a0 a1) (impl_Mac.t (k + 1) a0 a1) := by
 intro a0 a1 k
 unfold impl_Mac.t
 have m0 := @impl_Hash.mono
 have m1 := @impl_xorAll.mono
 exact mt
theorem impl_Mac.mono : ∀ a0 a1 k, LeO (impl_Mac.f k a0 a1) (impl_Mac.f (k + 1) a0 a1) := by
 intro a0 a1 k
 unfold impl_Mac.f
 repeat' first
   | (with_reducible exact impl_Hash.mono _ _)
   | (with_reducible exact impl_Mac.monoT _ _ _)
   | (with_reducible exact LeO.refl _)
   | (with_reducible refine LeO.ite ?_ ?_)
   | (with_reducible refine LeO.bind ?_ (fun _ => ?_))
theorem impl_Mac.wk {P : Prop} (h : P := by
 go_enter Try.func38, Try.ntmps38
 go_wp2_with (first | (refine jgc 25 ?_; refine jgs 19 Try.func25 #[.slice AA lA.length cA] ?_; (with_reducible refine (impl_Hash.calls k _ _ lA lK _ ?side1 ?side2 AHK.out).mono ?_); (case side1 => exact (zbo (pV HVA.out)).2.2); (case side2 => exact (zbo HVA.out).2.1); rintro e w_ ⟨v_, rfl, ho_, hb⟩; refine ⟨_, rfl, ?_⟩; obtain ⟨AK, cK, e_⟩ := zax ho_; subst e_; have mn_ := Aside0.mk (show Kd.V (Kd.int .u8) 5 _ w.heap.size (fun _ => True) _ _ from zeb (zad ho_).2.1 (zdd (Kd.R_F ho_) (fun _ _ => trivial))); have mB_ := Aside0.mk (zde (pV HVB.out) hb); have mb_ := Aside0.mk (zao bq hb); clear HVA HVB HB; have HVB := mB_; clear mB_; have HVK := mn_; have HB := mb_; clear mn_ mb_; clear ho_ hb) | (refine jgd 24 ?_; refine Kd.R_make (Kd.int .u8) _ 5 rfl (N := 24) rfl 23 _ _ rfl (m : Int) rfl rfl Try.underlying23 (.int .u8 0) 1 info5 rfl (by decide) (by omega) 0 (ok := fun _ => True) (okp := fun _ => True) rfl (fun _ hk => hk) trivial (by omega) (by omega) (zbj _ _) (zaw _) ?_; intro v_ w_ ho_ hb hg_ hnew_; clear hg_ hnew_; rw [← NyZ.out] at ho_; obtain ⟨AZ, cZ, e_⟩ := zax ho_; subst e_; have mn_ := Aside0.mk (show Kd.V (Kd.int .u8) 5 _ w.heap.size (fun _ => True) _ _ from zeb (zad ho_).2.1 (zdd (Kd.R_F ho_) (fun _ _ => trivial))); have mB_ := Aside0.mk (zde (pV HVB.out) hb); have mK_ := Aside0.mk (zde (pV HVK.out) hb); have mb_ := Aside0.mk (zao bq hb); clear HVB HVK HB; have HVB := mB_; clear mB_; have HVK := mK_; clear mK_; have HVZ := mn_; have HB := mb_; clear mn_ mb_; clear ho_ hb) | (refine jgd 25 ?_; refine Kd.N_lit (Kd.slice 5 (Kd.int .u8)) _ 23 ?hg (N' := 25) ?hd (xs := ([lK, lZ] : List (List Int))) (inner := [.slice AK lK.length cK, .slice AZ lZ.length cZ]) (ok := (fun _ => True)) (okp := (fun _ => True)) ?hr ?hp (fun _ hk => hk) trivial (zbj _ _) (zaw _) (by simp) ?_; (case hd => rfl); (case hg => rfl); (case hr => first | (go_simp; done) | (go_simp; rfl)); (case hp => exact (zam (show Kd.FK (Kd.slice 5 (Kd.int .u8)) _ _ lK [.slice AK lK.length cK] from (zcw (zbo HVK.out).2.1 (Kd.V_F HVK.out))) (zam (show Kd.FK (Kd.slice 5 (Kd.int .u8)) _ _ lZ [.slice AZ lZ.length cZ] from (zcw (zbo HVZ.out).2.1 (Kd.V_F HVZ.out))) (zdu _ _)))); intro v_ w_ ho_ hb hg_ hnew_; have xb_ := below_ofs bq hb; clear hg_ hnew_; (first | rw [← Ny1.out] at ho_ | (simp only [Int.reduceToNat] at ho_; rw [← Ny1.out] at ho_)); have mn_ := Aside0.mk (Kd.N_lower ho_ (zaf xb_)); have mB_ := Aside0.mk (zde (pV HVB.out) hb); have mb_ := Aside0.mk (zao xb_ hb); clear HVB HVK HVZ HB; have HVB := mB_; clear mB_; have HN := mn_; have HB := mb_; clear mn_ mb_; clear xb_ hb ho_; obtain ⟨AN, cN, eN⟩ := Kd.N_slice HN.out; subst eN) | (refine jgc 79 ?_; refine jgs 26 Try.func79 #[.slice AN y1.length cN] ?_; (with_reducible refine (impl_joined.calls _ _ y1 lS _ ?side1 ?side2 AJ1.out).mono ?_); (case side1 => repeat (first | exact (zdy HN.out).2.2 | (with_reducible first | apply zba | apply zbb | apply zbf))); (case side2 => exact (zdy HN.out).2.1); clear HN; rintro e w_ ⟨v_, rfl, ho_, hb⟩; refine ⟨_, rfl, ?_⟩; obtain ⟨AS, cS, e_⟩ := zax ho_; subst e_; have mn_ := Aside0.mk (show Kd.V (Kd.int .u8) 5 _ w.heap.size (fun _ => True) _ _ from zeb (zad ho_).2.1 (zdd (Kd.R_F ho_) (fun _ _ => trivial))); have mB_ := Aside0.mk (zde (pV HVB.out) hb); have mb_ := Aside0.mk (zao bq hb); clear HVB HB; have HVB := mB_; clear mB_; have HVS := mn_; have HB := mb_; clear mn_ mb_; clear ho_ hb) | (refine jgc 88 ?_; refine jgs 28 Try.func88 #[.slice AS lS.length cS, .int .u8 92] ?_; (with_reducible refine (impl_xorAll.calls k _ _ lS 92 lO _ ?side1 ?side2 AX1.out).mono ?_); (case side1 => exact (zbo (pV HVS.out)).2.2); (case side2 => exact (zbo HVS.out).2.1); rintro e w_ ⟨v_, rfl, ho_, hb⟩; refine ⟨_, rfl, ?_⟩; obtain ⟨AO, cO, e_⟩ := zax ho_; subst e_; have mn_ := Aside0.mk (show Kd.V (Kd.int .u8) 5 _ w.heap.size (fun _ => True) _ _ from zeb (zad ho_).2.1 (zdd (Kd.R_F ho_) (fun _ _ => trivial))); have mB_ := Aside0.mk (zde (pV HVB.out) hb); have mS_ := Aside0.mk (zde (pV HVS.out) hb); have mb_ := Aside0.mk (zao bq hb); clear HVB HVS HB; have HVB := mB_; clear mB_; have HVS := mS_; clear mS_; have HVO := mn_; have HB := mb_; clear mn_ mb_; clear ho_ hb) | (refine jgc 88 ?_; refine jgs 30 Try.func88 #[.slice AS lS.length cS, .int .u8 54] ?_; (with_reducible refine (impl_xorAll.calls k _ _ lS 54 lI _ ?side1 ?side2 AX2.out).mono ?_); (case side1 => exact (zbo (pV HVS.out)).2.2); (case side2 => exact (zbo HVS.out).2.1); rintro e w_ ⟨v_, rfl, ho_, hb⟩; refine ⟨_, rfl, ?_⟩; obtain ⟨AI, cI, e_⟩ := zax ho_; subst e_; have mn_ := Aside0.mk (show Kd.V (Kd.int .u8) 5 _ w.heap.size (fun _ => True) _ _ from zeb (zad ho_).2.1 (zdd (Kd.R_F ho_) (fun _ _ => trivial))); have mB_ := Aside0.mk (zde (pV HVB.out) hb); have mO_ := Aside0.mk (zde (pV HVO.out) hb); have mb_ := Aside0.mk (zao bq hb); clear HVB HVS HVO HB; have HVB := mB_; clear mB_; have HVO := mO_; clear mO_; have HVI := mn_; have HB := mb_; clear mn_ mb_; clear ho_ hb) | (refine jgd 32 ?_; refine Kd.N_lit (Kd.slice 5 (Kd.int .u8)) _ 23 ?hg (N' := 32) ?hd (xs := ([lI, lB] : List (List Int))) (inner := [.slice AI lI.length cI, .slice AB lB.length cB]) (ok := (fun _ => True)) (okp := (fun _ => True)) ?hr ?hp (fun _ hk => hk) trivial (zbj _ _) (zaw _) (by simp) ?_; (case hd => rfl); (case hg => rfl); (case hr => first | (go_simp; done) | (go_simp; rfl)); (case hp => exact (zam (show Kd.FK (Kd.slice 5 (Kd.int .u8)) _ _ lI [.slice AI lI.length cI] from (zcw (zbo HVI.out).2.1 (Kd.V_F HVI.out))) (zam (show Kd.FK (Kd.slice 5 (Kd.int .u8)) _ _ lB [.slice AB lB.length cB] from (zcw (zbo HVB.out).2.1 (Kd.V_F HVB.out))) (zdu _ _)))); intro v_ w_ ho_ hb hg_ hnew_; have xb_ := below_ofs bq hb; clear hg_ hnew_; (first | rw [← Ny2.out] at ho_ | (simp only [Int.reduceToNat] at ho_; rw [← Ny2.out] at ho_)); have mn_ := Aside0.mk (Kd.N_lower ho_ (zaf xb_)); have mO_ := Aside0.mk (zde (pV HVO.out) hb); have mb_ := Aside0.mk (zao xb_ hb); clear HVB HVO HVI HB; have HVO := mO_; clear mO_; have HN := mn_; have HB := mb_; clear mn_ mb_; clear xb_ hb ho_; obtain ⟨AN, cN, eN⟩ := Kd.N_slice HN.out; subst eN) | (refine jgc 79 ?_; refine jgs 33 Try.func79 #[.slice AN y2.length cN] ?_; (with_reducible refine (impl_joined.calls _ _ y2 lU _ ?side1 ?side2 AJ2.out).mono ?_); (case side1 => repeat (first | exact (zdy HN.out).2.2 | (with_reducible first | apply zba | apply zbb | apply zbf))); (case side2 => exact (zdy HN.out).2.1); clear HN; rintro e w_ ⟨v_, rfl, ho_, hb⟩; refine ⟨_, rfl, ?_⟩; obtain ⟨AU, cU, e_⟩ := zax ho_; subst e_; have mn_ := Aside0.mk (show Kd.V (Kd.int .u8) 5 _ w.heap.size (fun _ => True) _ _ from zeb (zad ho_).2.1 (zdd (Kd.R_F ho_) (fun _ _ => trivial))); have mO_ := Aside0.mk (zde (pV HVO.out) hb); have mb_ := Aside0.mk (zao bq hb); clear HVO HB; have HVO := mO_; clear mO_; have HVU := mn_; have HB := mb_; clear mn_ mb_; clear ho_ hb) | (refine jgc 25 ?_; refine jgs 34 Try.func25 #[.slice AU lU.length cU] ?_; (with_reducible refine (impl_Hash.calls k _ _ lU lV _ ?side1 ?side2 AH1.out).mono ?_); (case side1 => exact (zbo (pV HVU.out)).2.2); (case side2 => exact (zbo HVU.out).2.1); rintro e w_ ⟨v_, rfl, ho_, hb⟩; refine ⟨_, rfl, ?_⟩; obtain ⟨AV, cV, e_⟩ := zax ho_; subst e_; have mn_ := Aside0.mk (show Kd.V (Kd.int .u8) 5 _ w.heap.size (fun _ => True) _ _ from zeb (zad ho_).2.1 (zdd (Kd.R_F ho_) (fun _ _ => trivial))); have mO_ := Aside0.mk (zde (pV HVO.out) hb); have mb_ := Aside0.mk (zao bq hb); clear HVO HVU HB; have HVO := mO_; clear mO_; have HVV := mn_; have HB := mb_; clear mn_ mb_; clear ho_ hb) | (refine jgd 35 ?_; refine Kd.N_lit (Kd.slice 5 (Kd.int .u8)) _ 23 ?hg (N' := 35) ?hd (xs := ([lO, lV] : List (List Int))) (inner := [.slice AO lO.length cO, .slice AV lV.length cV]) (ok := (fun _ => True)) (okp := (fun _ => True)) ?hr ?hp (fun _ hk => hk) trivial (zbj _ _) (zaw _) (by simp) ?_; (case hd => rfl); (case hg => rfl); (case hr => first | (go_simp; done) | (go_simp; rfl)); (case hp => exact (zam (show Kd.FK (Kd.slice 5 (Kd.int .u8)) _ _ lO [.slice AO lO.length cO] from (zcw (zbo HVO.out).2.1 (Kd.V_F HVO.out))) (zam (show Kd.FK (Kd.slice 5 (Kd.int .u8)) _ _ lV [.slice AV lV.length cV] from (zcw (zbo HVV.out).2.1 (Kd.V_F HVV.out))) (zdu _ _)))); intro v_ w_ ho_ hb hg_ hnew_; have xb_ := below_ofs bq hb; clear hg_ hnew_; (first | rw [← Ny3.out] at ho_ | (simp only [Int.reduceToNat] at ho_; rw [← Ny3.out] at ho_)); have mn_ := Aside0.mk (Kd.N_lower ho_ (zaf xb_)); have mb_ := Aside0.mk (zao xb_ hb); clear HVO HVV HB; have HN := mn_; have HB := mb_; clear mn_ mb_; clear xb_ hb ho_; obtain ⟨AN, cN, eN⟩ := Kd.N_slice HN.out; subst eN) | (refine jgc 79 ?_; refine jgs 36 Try.func79 #[.slice AN y3.length cN] ?_; (with_reducible refine (impl_joined.calls _ _ y3 lT _ ?side1 ?side2 AJ3.out).mono ?_); (case side1 => repeat (first | exact (zdy HN.out).2.2 | (with_reducible first | apply zba | apply zbb | apply zbf))); (case side2 => exact (zdy HN.out).2.1); clear HN; rintro e w_ ⟨v_, rfl, ho_, hb⟩; refine ⟨_, rfl, ?_⟩; obtain ⟨AT, cT, e_⟩ := zax ho_; subst e_; have mn_ := Aside0.mk (show Kd.V (Kd.int .u8) 5 _ w.heap.size (fun _ => True) _ _ from zeb (zad ho_).2.1 (zdd (Kd.R_F ho_) (fun _ _ => trivial))); have mb_ := Aside0.mk (zao bq hb); clear HB; have HVT := mn_; have HB := mb_; clear mn_ mb_; clear ho_ hb) | (refine jgc 25 ?_; refine jgs 37 Try.func25 #[.slice AT lT.length cT] ?_; (with_reducible refine (impl_Hash.calls k _ _ lT r _ ?side1 ?side2 AH2.out).mono ?_); (case side1 => exact (zbo (pV HVT.out)).2.2); (case side2 => exact (zbo HVT.out).2.1); rintro e w_ ⟨v_, rfl, ho_, hb⟩; refine ⟨_, rfl, ?_⟩; have mn_ := Aside0.mk (zas ho_ (zaf bq)); have mb_ := Aside0.mk (zao bq hb); clear HB; have HR := mn_; have HB := mb_; clear mn_ mb_; clear ho_ hb) | (refine jgd 24 ?_; refine Kd.R_make (Kd.int .u8) _ 5 rfl (N := 24) rfl 23 _ _ rfl (m : Int) rfl rfl Try.underlying23 (.int .u8 0) 1 info5 rfl (by decide) (by omega) 0 (ok := fun _ => True) (okp := fun _ => True) rfl (fun _ hk => hk) trivial (by omega) (by omega) (zbj _ _) (zaw _) ?_; intro v_ w_ ho_ hb hg_ hnew_; clear hg_ hnew_; rw [← NyZ.out] at ho_; obtain ⟨AZ, cZ, e_⟩ := zax ho_; subst e_; have mn_ := Aside0.mk (show Kd.V (Kd.int .u8) 5 _ w.heap.size (fun _ => True) _ _ from zeb (zad ho_).2.1 (zdd (Kd.R_F ho_) (fun _ _ => trivial))); have mA_ := Aside0.mk (zde (pV HVA.out) hb); have mB_ := Aside0.mk (zde (pV HVB.out) hb); have mb_ := Aside0.mk (zao bq hb); clear HVA HVB HB; have HVA := mA_; clear mA_; have HVB := mB_; clear mB_; have HVZ := mn_; have HB := mb_; clear mn_ mb_; clear ho_ hb) | (refine jgd 25 ?_; refine Kd.N_lit (Kd.slice 5 (Kd.int .u8)) _ 23 ?hg (N' := 25) ?hd (xs := ([lA, lZ] : List (List Int))) (inner := [.slice AA lA.length cA, .slice AZ lZ.length cZ]) (ok := (fun _ => True)) (okp := (fun _ => True)) ?hr ?hp (fun _ hk => hk) trivial (zbj _ _) (zaw _) (by simp) ?_; (case hd => rfl); (case hg => rfl); (case hr => first | (go_simp; done) | (go_simp; rfl)); (case hp => exact (zam (show Kd.FK (Kd.slice 5 (Kd.int .u8)) _ _ lA [.slice AA lA.length cA] from (zcw (zbo HVA.out).2.1 (Kd.V_F HVA.out))) (zam (show Kd.FK (Kd.slice 5 (Kd.int .u8)) _ _ lZ [.slice AZ lZ.length cZ] from (zcw (zbo HVZ.out).2.1 (Kd.V_F HVZ.out))) (zdu _ _)))); intro v_ w_ ho_ hb hg_ hnew_; have xb_ := below_ofs bq hb; clear hg_ hnew_; (first | rw [← Ny1.out] at ho_ | (simp only [Int.reduceToNat] at ho_; rw [← Ny1.out] at ho_)); have mn_ := Aside0.mk (Kd.N_lower ho_ (zaf xb_)); have mB_ := Aside0.mk (zde (pV HVB.out) hb); have mb_ := Aside0.mk (zao xb_ hb); clear HVA HVB HVZ HB; have HVB := mB_; clear mB_; have HN := mn_; have HB := mb_; clear mn_ mb_; clear xb_ hb ho_; obtain ⟨AN, cN, eN⟩ := Kd.N_slice HN.out; subst eN))
 go_ret
 first | (exact ⟨_, rfl, by (with_reducible repeat (first | apply zau | apply zav | apply zaq)); exact HR.out, bq⟩) | (exact ⟨_, rfl, Kd.R_nil _ _ _ _ _, zbj _ _⟩)) : P := h
theorem impl_Mac.calls (k : Nat) (AA : Option Addr) (cA : Nat) (lA : List Int) (AB : Option Addr) (cB : Nat) (lB : List Int) (r : List Int) (w : World) (hr0 : Kd.C (Kd.int .u8) w AA lA.length lA) (hc0 : lA.length ≤ cA) (hr1 : Kd.C (Kd.int .u8) w AB lB.length lB) (hc1 : lB.length ≤ cB) (h : impl_Mac.f k lA lB = some r) :
  Calls Try.prog 38 #[.slice AA lA.length cA, .slice AB lB.length cB] w fun e w' => ∃ v0_ : Value, e = .returned (v0_) ∧ Kd.R (Kd.int .u8) 5 w' w.heap.size (fun _ => True) v0_ r ∧ Below w.heap.size w w' := by
 have HB := Aside0.mk (zbj w.heap.size w)
 unfold impl_Mac.f at h
 by_cases q1 : (lB.length : Int) > 3936
 ·rw [if_pos q1] at h
  obtain rfl := Option.some.inj h
  exact impl_Mac.wk
 rw [if_neg q1] at h
 by_cases c2 : (lA.length : Int) > 3936
 ·rw [if_pos c2] at h
  obtain rfl := Option.some.inj h
  exact impl_Mac.wk
 rw [if_neg c2] at h
 have HVA : Aside0 (Kd.V (Kd.int .u8) 5 w w.heap.size (fun _ => True) (.slice AA lA.length cA) lA) := ⟨zeb hc0 (zdd (Kd.C_F (Kd.heap_int .u8) hr0) (fun _ _ => trivial))⟩
 have HVB : Aside0 (Kd.V (Kd.int .u8) 5 w w.heap.size (fun _ => True) (.slice AB lB.length cB) lB) := ⟨zeb hc1 (zdd (Kd.C_F (Kd.heap_int .u8) hr1) (fun _ _ => trivial))⟩
 clear hr0 hc0 hr1 hc1
 by_cases c3 : (lA.length : Int) > 64
 ·rw [if_pos c3] at h
  obtain ⟨lK, A_, H⟩ := zbk.mp h
  have AHK := Aside0.mk A_
  clear A_ h
  unfold impl_Mac.t at H
  by_cases c4 : lK.length ≤ 64
  ·rw [if_pos c4] at H
   obtain ⟨m, hm⟩ : ∃ m : Nat, 64 - lK.length = m := ⟨_, rfl⟩
   have hmi : (64 : Int) - (lK.length : Int) = (m : Int) := by omega
   have hmw : IntKind.i64.wrap (m : Int) = (m : Int) := by rw [IntKind.wrap_i64]; omega
   have hm64 : m ≤ 64 := by omega
   have hm0 : (0 : Int) ≤ (m : Int) := by omega
   rw [hm] at H
   obtain ⟨lZ, hZ⟩ : ∃ y_ : List Int, y_ = List.replicate ((m : Int)).toNat 0 := ⟨_, rfl⟩
   rw [show List.replicate m (0 : Int) = lZ from by rw [hZ]; rfl] at H
   have NyZ := Aside0.mk hZ
   clear hZ hm
   obtain ⟨y1, hy_⟩ : ∃ y_ : List (List Int), y_ = (([lK, lZ] : List (List Int))) := ⟨_, rfl⟩
   rw [← hy_] at H
   have Ny1 := Aside0.mk hy_
   clear hy_
   replace H := zbk.mp H
   obtain ⟨lS, A_, H⟩ := H
   have AJ1 := Aside0.mk A_
   clear A_
   replace H := zbk.mp H
   obtain ⟨lO, A_, H⟩ := H
   have AX1 := Aside0.mk A_
   clear A_
   replace H := zbk.mp H
   obtain ⟨lI, A_, H⟩ := H
   have AX2 := Aside0.mk A_
   clear A_
   obtain ⟨y2, hy_⟩ : ∃ y_ : List (List Int), y_ = (([lI, lB] : List (List Int))) := ⟨_, rfl⟩
   rw [← hy_] at H
   have Ny2 := Aside0.mk hy_
   clear hy_
   replace H := zbk.mp H
   obtain ⟨lU, A_, H⟩ := H
   have AJ2 := Aside0.mk A_
   clear A_
   replace H := zbk.mp H
   obtain ⟨lV, A_, H⟩ := H
   have AH1 := Aside0.mk A_
   clear A_
   obtain ⟨y3, hy_⟩ : ∃ y_ : List (List Int), y_ = (([lO, lV] : List (List Int))) := ⟨_, rfl⟩
   rw [← hy_] at H
   have Ny3 := Aside0.mk hy_
   clear hy_
   replace H := zbk.mp H
   obtain ⟨lT, A_, H⟩ := H
   have AJ3 := Aside0.mk A_
   clear A_
   have AH2 := Aside0.mk H
   clear H
   exact impl_Mac.wk
  ·rw [if_neg c4] at H; cases H
 ·rw [if_neg c3] at h
  have H := h
  clear h
  unfold impl_Mac.t at H
  by_cases c4 : lA.length ≤ 64
  ·rw [if_pos c4] at H
   obtain ⟨m, hm⟩ : ∃ m : Nat, 64 - lA.length = m := ⟨_, rfl⟩
   have hmi : (64 : Int) - (lA.length : Int) = (m : Int) := by omega
   have hmw : IntKind.i64.wrap (m : Int) = (m : Int) := by rw [IntKind.wrap_i64]; omega
   have hm64 : m ≤ 64 := by omega
   have hm0 : (0 : Int) ≤ (m : Int) := by omega
   rw [hm] at H
   obtain ⟨lZ, hZ⟩ : ∃ y_ : List Int, y_ = List.replicate ((m : Int)).toNat 0 := ⟨_, rfl⟩
   rw [show List.replicate m (0 : Int) = lZ from by rw [hZ]; rfl] at H
   have NyZ := Aside0.mk hZ
   clear hZ hm
   obtain ⟨y1, hy_⟩ : ∃ y_ : List (List Int), y_ = (([lA, lZ] : List (List Int))) := ⟨_, rfl⟩
   rw [← hy_] at H
   have Ny1 := Aside0.mk hy_
   clear hy_
   replace H := zbk.mp H
   obtain ⟨lS, A_, H⟩ := H
   have AJ1 := Aside0.mk A_
   clear A_
   replace H := zbk.mp H
   obtain ⟨lO, A_, H⟩ := H
   have AX1 := Aside0.mk A_
   clear A_
   replace H := zbk.mp H
   obtain ⟨lI, A_, H⟩ := H
   have AX2 := Aside0.mk A_
   clear A_
   obtain ⟨y2, hy_⟩ : ∃ y_ : List (List Int), y_ = (([lI, lB] : List (List Int))) := ⟨_, rfl⟩
   rw [← hy_] at H
   have Ny2 := Aside0.mk hy_
   clear hy_
   replace H := zbk.mp H
   obtain ⟨lU, A_, H⟩ := H
   have AJ2 := Aside0.mk A_
   clear A_
   replace H := zbk.mp H
   obtain ⟨lV, A_, H⟩ := H
   have AH1 := Aside0.mk A_
   clear A_
   obtain ⟨y3, hy_⟩ : ∃ y_ : List (List Int), y_ = (([lO, lV] : List (List Int))) := ⟨_, rfl⟩
   rw [← hy_] at H
   have Ny3 := Aside0.mk hy_
   clear hy_
   replace H := zbk.mp H
   obtain ⟨lT, A_, H⟩ := H
   have AJ3 := Aside0.mk A_
   clear A_
   have AH2 := Aside0.mk H
   clear H
   exact impl_Mac.wk
  ·rw [if_neg c4] at H; cases H
end Go.Proofs.Ytienlgcjohpphaa.P
