import Derived.Test.Ytlalkldjpniakaaqm14
import Derived.Test.Ytlalkldjpniakaaqm15
namespace Go.Proofs.Ytlalkldjpniakaa.P
open Go.RowKit Go.Proofs.YtlalkldjpniakaaW.PrintWords Go.Proofs.YtlalkldjpniakaaW.PrintLast Go.Proofs.YtlalkldjpniakaaW.PrintMore
attribute [local go_sem] zcm zcn zdd zde zbw zbx zco zcp   -- for this text's walks alone
set_option linter.unusedVariables false
set_option linter.unusedSimpArgs false
set_option maxHeartbeats 8000000
set_option maxRecDepth 100000

def impl_LineBytes.j0 : Nat → List Int → Int → ByteArray → Int → Int → List Int → Option (List Int)
 | 0, _, _, _, _, _, _ => none
 | k + 1, x3, x556000, x556001, x556002, x556003, x556004 => (impl_Great.f k x556003 4).bind fun t570 => ((impl_Great.f k (x556004.length : Int) 2).bind fun t573 => ((impl_joined.f (([(([(x556000) % 256] : List Int)), x3, (([(x556002) % 256] : List Int)), t570, t573, x556004] : List (List Int)))).bind fun t579 => ((impl_Great.f k (t579.length : Int) 2).bind fun t582 => (if t579.length + t582.length < 140737488355328 then (some (t579 ++ t582)) else (none)))))
def impl_LineBytes.f (k : Nat) (a0_0 : Int) (a0_1 : ByteArray) (a0_2 : Int) (a0_3 : Int) (l0_4 : List Int) : Option (List Int) := (impl_LineOk.f k a0_0 a0_1 a0_2 a0_3 l0_4).bind fun t556 => (if t556 = true then (if 8 ≤ 281474976710656 then (if a0_0 = 3 then (impl_LineBytes.j0 k (List.replicate 8 0) a0_0 a0_1 a0_2 a0_3 l0_4) else ((impl_Unhex.f k a0_1).bind fun bt560 => (impl_LineBytes.j0 k bt560.1 a0_0 a0_1 a0_2 a0_3 l0_4))) else (none)) else (some ([] : List Int)))
theorem impl_LineBytes.mono_l : ∀ k, (∀ y0 y1 y2 y3 y4 y5, LeO (impl_LineBytes.j0 k y0 y1 y2 y3 y4 y5) (impl_LineBytes.j0 (k + 1) y0 y1 y2 y3 y4 y5))
 | 0 => fun _ _ _ _ _ _ r h => by simp [impl_LineBytes.j0] at h
 | k + 1 => by
  have ih0 := impl_LineBytes.mono_l k
  ·intro y0 y1 y2 y3 y4 y5
   unfold impl_LineBytes.j0
   have m0 := @impl_Great.mono
   have m1 := @impl_LineOk.mono
   have m2 := @impl_Unhex.mono
   exact mt
theorem impl_LineBytes.mono : ∀ a0 a1 a2 a3 a4 k, LeO (impl_LineBytes.f k a0 a1 a2 a3 a4) (impl_LineBytes.f (k + 1) a0 a1 a2 a3 a4) := by
 intro a0 a1 a2 a3 a4 k
 have ih0 := impl_LineBytes.mono_l k
 unfold impl_LineBytes.f
 have m0 := @impl_Great.mono
 have m1 := @impl_LineOk.mono
 have m2 := @impl_Unhex.mono
 exact mt
def impl_LineBytes.T6 : Bool × List (List Nat × List Nat) := (true, [([], []), ([0], [0]), ([1], [1]), ([2], [2]), ([], []), ([], []), ([5], [5]), ([6], [6]), ([7], [7]), ([], []), ([9], [9]), ([10], [10]), ([], []), ([12], [12]), ([13], [13]), ([14, 11], [14]), ([], []), ([16], [16]), ([3, 4, 8, 11, 15, 17], [3, 4, 8, 11, 15, 17]), ([18, 15], [18]), ([19, 19, 0, 1, 2, 3, 4, 5, 6, 7, 8, 9, 10, 11, 12, 13, 14, 15, 16, 17, 18, 19], [19])])
def impl_LineBytes.B6 : List Nat := [0, 1, 3, 7, 0, 0, 32, 96, 224, 0, 512, 1536, 0, 4096, 12288, 32256, 0, 65536, 262143, 524287, 1048575]
theorem impl_LineBytes.tab6 : rtab .any (opsOf Try.f49 6) = impl_LineBytes.T6 := by kernel_rfl
theorem impl_LineBytes.bits6 : waitsOk impl_LineBytes.T6.2 impl_LineBytes.B6 = true := by kernel_rfl
theorem impl_LineBytes.calls (k : Nat) (a0_0 : Int) (a0_1 : ByteArray) (a0_2 : Int) (a0_3 : Int) (P0_4_ : Nat → Prop) (A0_4 : Option Addr) (c0_4 : Nat) (l0_4 : List Int) (r : List Int) (w : World) (hs0_4 : Kd.V (Kd.int .u8) 5 w w.heap.size (fun k_ => P0_4_ k_) (.slice A0_4 l0_4.length c0_4) l0_4) (h : impl_LineBytes.f k a0_0 a0_1 a0_2 a0_3 l0_4 = some r) :
  Calls Try.prog 49 #[.agg #[.int .i64 a0_0, .string a0_1, .int .i64 a0_2, .int .i64 a0_3, .slice A0_4 l0_4.length c0_4]] w fun e w' => ∃ v0_ : Value, e = .returned (v0_) ∧ Kd.R (Kd.int .u8) 5 w' w.heap.size (fun k_ => (w.heap.size ≤ k_)) v0_ r ∧ Below w.heap.size w w' := by
 have hu48 := Try.underlying48
 have HO0_4 := Aside0.mk (show Kd.V (Kd.int .u8) 5 w w.heap.size (fun k_ => (P0_4_ k_ ∨ w.heap.size ≤ k_)) (.slice A0_4 l0_4.length c0_4) l0_4 from zfm hs0_4 (fun k_ hk => .inl hk))
 have HB := Aside0.mk (zbk w.heap.size w)
 have H : ((impl_LineOk.f k a0_0 a0_1 a0_2 a0_3 l0_4).bind fun t556 => (if t556 = true then (if 8 ≤ 281474976710656 then (if a0_0 = 3 then (impl_LineBytes.j0 k (List.replicate 8 0) a0_0 a0_1 a0_2 a0_3 l0_4) else ((impl_Unhex.f k a0_1).bind fun bt560 => (impl_LineBytes.j0 k bt560.1 a0_0 a0_1 a0_2 a0_3 l0_4))) else (none)) else (some ([] : List Int)))) = some r := h
 clear h
 obtain ⟨t556, A2, H⟩ := bnd H
 by_cases c3 : t556 = true
 ·subst c3
  rw [if_pos rfl] at H
  by_cases c4 : 8 ≤ 281474976710656
  ·rw [if_pos c4] at H
   have c4b0 := zbd c4
   have c4b1 := zae c4
   clear c4
   obtain ⟨y557, hy557⟩ : ∃ y_ : List Int, y_ = (List.replicate 8 0) := ⟨_, rfl⟩
   replace H : (if a0_0 = 3 then (impl_LineBytes.j0 k y557 a0_0 a0_1 a0_2 a0_3 l0_4) else ((impl_Unhex.f k a0_1).bind fun bt560 => (impl_LineBytes.j0 k bt560.1 a0_0 a0_1 a0_2 a0_3 l0_4))) = some r := jrw hy557 H
   have Ny557 := Aside0.mk hy557
   clear hy557
   have HC5 := Aside0.mk H
   clear H
   go_enter Try.func49, Try.ntmps49
   go_upto_if 11 with (first | (refine jgd 1 ?_; refine bx 1 (#[.int .i64 a0_0, .string a0_1, .int .i64 a0_2, .int .i64 a0_3, .slice A0_4 l0_4.length c0_4]) 48 ?_; intro gb555 hg w6 hbox hb; have xb_ := below_ofs bq hb; have n_ := jA5 (zgi (Kd.V_elderB (qV HO0_4.out) gb555 (zej hg.symm)) hb) (zab xb_ hb) (hbox) (ge0 hg xb_ : w.heap.size ≤ gb555) (ge0 hg xb_ : w.heap.size ≤ gb555); clear HO0_4 HB; obtain ⟨HO0_4, HB, BK555, GW555, GE555⟩ := n_; clear xb_ hb hbox hg; obtain ⟨hcz7_0, hcz7_1, hcz7_2, hcz7_3, hcz7_4, hfz7_0, hfz7_1, hfz7_2, hfz7_3, hfz7_4⟩ := cz5 BK555.out) | (refine jgc 36 ?_; refine jgs 6 Try.func36 #[.agg #[.int .i64 a0_0, .string a0_1, .int .i64 a0_2, .int .i64 a0_3, .slice A0_4 l0_4.length c0_4]] ?_; (with_reducible refine (impl_LineOk.calls k a0_0 a0_1 a0_2 a0_3 _ _ l0_4 true _ ?side1 ?side2 A2.out).mono ?_); (case side1 => repeat (first | exact (zfy HO0_4.out).2.2 | (with_reducible first | apply zcv | apply zdi | apply zdu))); (case side2 => exact (zfy HO0_4.out).2.1); rintro e w8 ⟨rfl, hb⟩; refine ⟨_, rfl, ?_⟩; have n_ := jA3 (zgi (qV HO0_4.out) hb) (jbb BK555.out hb) (zab (bs1 GE555.out) hb); clear HO0_4 BK555 HB; obtain ⟨HO0_4, BK555, HB⟩ := n_; (try clear hb); (try clear hb2); (try clear hk); (try clear hi)) | (refine jgd 8 ?_; refine Kd.R_make (Kd.int .u8) _ 5 rfl (N := 8) rfl 29 _ _ rfl 8 rfl rfl Try.underlying29 (.int .u8 0) 1 info5 rfl (by decide) (by omega) 0 (ok := fun _ => True) (okp := fun _ => True) rfl jmk trivial (by omega) (by omega) (zbk _ _) (zaf _) ?_; intro v558 w9 ho10 hb hg_ hnew_; clear hg_ hnew_; (first | rw [← Ny557.out] at ho10 | (simp only [Int.reduceToNat] at ho10; rw [← Ny557.out] at ho10)); have n_ := jA4 (zfo (qV HO0_4.out) (zbe ho10) hb) (zbc (Kd.R_newM (M := fun k_ => (w.heap.size ≤ k_)) ho10 (zak (bs1 GE555.out)) (fun k_ h_ => h_)) (zak (bs1 GE555.out))) (jbb BK555.out hb) (zab (bs1 GE555.out) hb); clear HO0_4 BK555 HB; obtain ⟨HO0_4, HO559, BK555, HB⟩ := n_; clear hb ho10; obtain ⟨hcz11_0, hcz11_1, hcz11_2, hcz11_3, hcz11_4, hfz11_0, hfz11_1, hfz11_2, hfz11_3, hfz11_4⟩ := cz5 BK555.out))
   (try simp only [Act.put, zal, zaw, zax])
   go_cut [3] (fun v3 wc => ∃ (kq : Nat) (x3_4 : List Int), Aside0 (impl_LineBytes.j0 kq x3_4 a0_0 a0_1 a0_2 a0_3 l0_4 = some r) ∧ Aside0 (kq ≤ k) ∧ Aside0 (Kd.R (Kd.int .u8) 5 wc w.heap.size (fun k_ => (w.heap.size ≤ k_)) v3 x3_4) ∧ Aside0 (Kd.V (Kd.int .u8) 5 wc w.heap.size (fun k_ => (P0_4_ k_ ∨ w.heap.size ≤ k_) ∧ some k_ ≠ (v3 : Value).ownBlock ∧ k_ ≠ gb555) (.slice A0_4 l0_4.length c0_4) l0_4) ∧ Aside0 (wc.heap[gb555]? = some (.cells #[.int .i64 a0_0, .string a0_1, .int .i64 a0_2, .int .i64 a0_3, (.slice A0_4 l0_4.length c0_4)] 48 (0, 0))) ∧ Aside0 (Below w.heap.size w wc))
   case first =>
    have H := HC5.out
    clear HC5
    by_cases c12 : a0_0 = 3
    ·rw [if_pos c12] at H
     have c12b0 := beqT c12
     have c12b1 := zau.mpr c12
     clear c12
     (first | rw [c12b0] | (simp only [i64_w, i32_w]; rw [c12b0]) | skip)
     have H' := Aside0.mk H
     clear H
     go_wp2
     go_meet
     case rel => exact ⟨_, (y557), H', ⟨by first | omega | exact zaf _⟩, ⟨by (with_reducible repeat (first | apply zbo | apply zbp | apply zbs)); exact zav HO559.out (fun _ hk => by first | exact hk.1 | (revert hk; (try simp only [and_imp]); intros; repeat' (first | assumption | apply zfj | exact .inr (by assumption))))⟩, ⟨by (with_reducible repeat (first | apply Kd.V_alloc | apply Kd.V_drewN | apply Kd.V_drew)); exact zfm HO0_4.out (fun _ hk => by first | exact ⟨hk.1.1, ⟨hk.2, hk.1.2⟩⟩ | (revert hk; (try simp only [and_imp]); intros; repeat' (first | assumption | apply zfj | exact .inr (by assumption))))⟩, ⟨pB BK555.out⟩, ⟨bs1 GE555.out⟩⟩
    ·rw [if_neg c12] at H
     have c12b0 := zao.mpr c12
     have c12b1 := zcs.mpr c12
     (first | rw [c12b0] | (simp only [i64_w, i32_w]; rw [c12b0]) | skip)
     obtain ⟨⟨t560, t561⟩, A13, H⟩ := bnd H
     try dsimp only at H
     have H' := Aside0.mk H
     clear H
     obtain ⟨hcz14_0, hcz14_1, hcz14_2, hcz14_3, hcz14_4, hfz14_0, hfz14_1, hfz14_2, hfz14_3, hfz14_4⟩ := cz5 BK555.out
     go_wp2_with (first | (refine jgc 108 ?_; refine jgs 15 Try.func108 #[.string a0_1] ?_; (with_reducible refine (impl_Unhex.calls k a0_1 t560 t561 _ A13.out).mono ?_); rintro e w15 ⟨v562, rfl, ho0, hb⟩; refine ⟨_, rfl, ?_⟩; have n_ := jA5 (zfo (qV HO0_4.out) (zbe ho0) hb) (zbr (qR HO559.out) (zbe ho0) hb) (zbc (zcz (Kd.R_newM (M := fun k_ => (w.heap.size ≤ k_)) ho0 (zak (bs1 GE555.out)) (fun k_ h_ => h_)) (zcd (qR HO559.out))) (zak (bs1 GE555.out))) (jbb BK555.out hb) (zab (bs1 GE555.out) hb); clear HO0_4 HO559 BK555 HB; obtain ⟨HO0_4, HO559, HO563, BK555, HB⟩ := n_; clear hb ho0))
     go_meet
     case rel => exact ⟨_, (t560), H', ⟨by first | omega | exact zaf _⟩, ⟨by (with_reducible repeat (first | apply zbo | apply zbp | apply zbs)); exact zav HO563.out (fun _ hk => by first | exact hk.1.1 | (revert hk; (try simp only [and_imp]); intros; repeat' (first | assumption | apply zfj | exact .inr (by assumption))))⟩, ⟨by (with_reducible repeat (first | apply Kd.V_alloc | apply Kd.V_drewN | apply Kd.V_drew)); exact zfm HO0_4.out (fun _ hk => by first | exact ⟨hk.1.1.1, ⟨hk.2, hk.1.1.2⟩⟩ | (revert hk; (try simp only [and_imp]); intros; repeat' (first | assumption | apply zfj | exact .inr (by assumption))))⟩, ⟨pB BK555.out⟩, ⟨bs1 GE555.out⟩⟩
   case rest =>
    clear HC5
    try clear c1
    try clear p2
    try clear c3
    try clear c4
    try clear c4b0
    try clear c4b1
    try clear c10
    try clear c12
    try clear c12b0
    try clear c12b1
    try clear hcz11_0
    try clear hcz11_1
    try clear hcz11_2
    try clear hcz11_3
    try clear hcz11_4
    try clear hcz14_0
    try clear hcz14_1
    try clear hcz14_2
    try clear hcz14_3
    try clear hcz14_4
    try clear hcz7_0
    try clear hcz7_1
    try clear hcz7_2
    try clear hcz7_3
    try clear hcz7_4
    try clear hfz11_0
    try clear hfz11_1
    try clear hfz11_2
    try clear hfz11_3
    try clear hfz11_4
    try clear hfz14_0
    try clear hfz14_1
    try clear hfz14_2
    try clear hfz14_3
    try clear hfz14_4
    try clear hfz7_0
    try clear hfz7_1
    try clear hfz7_2
    try clear hfz7_3
    try clear hfz7_4
    obtain ⟨kq, x3_4, HA, HJ4, HO_3, HO_556004, BK555, HB⟩ := hcut
    cases kq with
    | zero => exact absurd HA.out (by simp [impl_LineBytes.j0])
    | succ kj4 =>
     have H := HA.out
     clear HA
     simp only [impl_LineBytes.j0] at H
     obtain ⟨y564, hy564⟩ : ∃ y_ : List Int, y_ = (([(a0_0) % 256] : List Int)) := ⟨_, rfl⟩
     replace H : ((impl_Great.f kj4 a0_3 4).bind fun t570 => ((impl_Great.f kj4 (l0_4.length : Int) 2).bind fun t573 => ((impl_joined.f (([y564, x3_4, (([(a0_2) % 256] : List Int)), t570, t573, l0_4] : List (List Int)))).bind fun t579 => ((impl_Great.f kj4 (t579.length : Int) 2).bind fun t582 => (if t579.length + t582.length < 140737488355328 then (some (t579 ++ t582)) else (none)))))) = some r := jrw hy564 H
     have Ny564 := Aside0.mk hy564
     clear hy564
     obtain ⟨y567, hy567⟩ : ∃ y_ : List Int, y_ = (([(a0_2) % 256] : List Int)) := ⟨_, rfl⟩
     replace H : ((impl_Great.f kj4 a0_3 4).bind fun t570 => ((impl_Great.f kj4 (l0_4.length : Int) 2).bind fun t573 => ((impl_joined.f (([y564, x3_4, y567, t570, t573, l0_4] : List (List Int)))).bind fun t579 => ((impl_Great.f kj4 (t579.length : Int) 2).bind fun t582 => (if t579.length + t582.length < 140737488355328 then (some (t579 ++ t582)) else (none)))))) = some r := jrw hy567 H
     have Ny567 := Aside0.mk hy567
     clear hy567
     obtain ⟨t570, A16, H⟩ := bnd H
     obtain ⟨t573, A17, H⟩ := bnd H
     obtain ⟨y576, hy576⟩ : ∃ y_ : List (List Int), y_ = (([y564, x3_4, y567, t570, t573, l0_4] : List (List Int))) := ⟨_, rfl⟩
     replace H : ((impl_joined.f y576).bind fun t579 => ((impl_Great.f kj4 (t579.length : Int) 2).bind fun t582 => (if t579.length + t582.length < 140737488355328 then (some (t579 ++ t582)) else (none)))) = some r := jrw hy576 H
     have Ny576 := Aside0.mk hy576
     clear hy576
     obtain ⟨t579, A18, H⟩ := bnd H
     obtain ⟨t582, A19, H⟩ := bnd H
     by_cases c20 : t579.length + t582.length < 140737488355328
     ·rw [if_pos c20] at H
      have LMc20 := Aside0.mk c20
      clear c20
      obtain ⟨y585, hy585⟩ : ∃ y_ : List Int, y_ = (t579 ++ t582) := ⟨_, rfl⟩
      replace H : (some y585) = some r := jrw hy585 H
      have Ny585 := Aside0.mk hy585
      clear hy585
      obtain rfl := Option.some.inj H
      try go_wp2
      have n_ := jA4 (zbs HO_3.out) (Kd.V_drew HO_556004.out) (zbl BK555.out) (zev HB.out)
      clear HO_3 HO_556004 BK555 HB
      obtain ⟨HO_3, HO_556004, BK555, HB⟩ := n_
      refine start_ (n := 21) (S := fun w' => True) (ds := []) #[false, false, false, false, false, false, false, false, false, false, false, false, false, false, false, false, false, false, false, false, false] (by kernel_rfl) rfl rfl trivial (fun hHeld => ?_); refine zgf impl_LineBytes.tab6 impl_LineBytes.bits6 (fun HT_ HW_ => ?_)
      generalize wc.drew = w21 at HO_3 HO_556004 BK555 HB hHeld ⊢
      refine pu 0 18 HT_.out ?_
      refine pu 4 22 HT_.out ?_
      refine pu 5 23 HT_.out ?_
      refine pu 9 27 HT_.out ?_
      refine pu 12 30 HT_.out ?_
      refine pu 16 34 HT_.out ?_
      refine inv_at [1, 2, 3, 6, 7, 8, 10, 11, 13, 14, 15, 17, 18, 19, 20] (fun a0_ b a w' => ∃ (v565 : Value) (v568 : Value) (v571 : Value) (v574 : Value) (v577 : Value) (v580 : Value) (m20_ : Value), a = putSel a0_ b [(1, 19, .int .i64 a0_0), (2, 20, .int .u8 ((a0_0) % 256)), (3, 21, v565), (6, 24, .int .i64 a0_2), (7, 25, .int .u8 ((a0_2) % 256)), (8, 26, v568), (10, 28, .int .i64 a0_3), (11, 29, v571), (13, 31, .slice A0_4 l0_4.length c0_4), (14, 32, .int .i64 (l0_4.length : Int)), (15, 33, v574), (17, 35, .slice A0_4 l0_4.length c0_4), (18, 36, v577), (19, 37, v580), (20, 4, m20_)] ∧ (b 18 = false → Kd.R (Kd.int .u8) 5 w' w.heap.size (fun k_ => (w.heap.size ≤ k_)) u3 x3_4) ∧ (b 18 = false → Kd.V (Kd.int .u8) 5 w' w.heap.size (fun k_ => (P0_4_ k_ ∨ w.heap.size ≤ k_) ∧ some k_ ≠ (u3 : Value).ownBlock ∧ k_ ≠ gb555) (.slice A0_4 l0_4.length c0_4) l0_4) ∧ (w'.heap[gb555]? = some (.cells #[.int .i64 a0_0, .string a0_1, .int .i64 a0_2, .int .i64 a0_3, .slice A0_4 l0_4.length c0_4] 48 (0, 0))) ∧ (Below w.heap.size w w') ∧ (b 3 = true → b 18 = false → Kd.R (Kd.int .u8) 5 w' w.heap.size (fun k_ => (w.heap.size ≤ k_) ∧ some k_ ≠ (u3 : Value).ownBlock) v565 y564) ∧ (b 8 = true → b 18 = false → Kd.R (Kd.int .u8) 5 w' w.heap.size (fun k_ => (w.heap.size ≤ k_) ∧ some k_ ≠ (u3 : Value).ownBlock) v568 y567) ∧ (b 11 = true → b 18 = false → Kd.R (Kd.int .u8) 5 w' w.heap.size (fun k_ => (w.heap.size ≤ k_) ∧ some k_ ≠ (u3 : Value).ownBlock) v571 t570) ∧ (b 15 = true → b 18 = false → Kd.R (Kd.int .u8) 5 w' w.heap.size (fun k_ => (w.heap.size ≤ k_) ∧ some k_ ≠ (u3 : Value).ownBlock) v574 t573) ∧ (b 18 = true → Kd.N (Kd.slice 5 (Kd.int .u8)) 29 w' w.heap.size (fun k_ => (P0_4_ k_ ∨ w.heap.size ≤ k_) ∧ k_ ≠ gb555) v577 y576) ∧ (b 18 = true → Kd.V (Kd.int .u8) 5 w' w.heap.size (fun k_ => (P0_4_ k_ ∨ w.heap.size ≤ k_) ∧ k_ ≠ gb555) (.slice A0_4 l0_4.length c0_4) l0_4) ∧ (b 19 = true → Kd.R (Kd.int .u8) 5 w' w.heap.size (fun k_ => (w.heap.size ≤ k_)) v580 t579) ∧ (b 20 = true → (m20_ : Value) = v580)) HT_.out HW_.out (by kernel_rfl) (by kernel_rfl) ?_ ?_ ?_
      ·exact ⟨.bool false, .bool false, .bool false, .bool false, .bool false, .bool false, .bool false, by simp only [putSel, Bool.false_eq_true, if_false], fun _ => HO_3.out, fun _ => HO_556004.out, BK555.out, HB.out, fun h_ => absurd h_ (by decide), fun h_ => absurd h_ (by decide), fun h_ => absurd h_ (by decide), fun h_ => absurd h_ (by decide), fun h_ => absurd h_ (by decide), fun h_ => absurd h_ (by decide), fun h_ => absurd h_ (by decide), fun h_ => absurd h_ (by decide)⟩
      ·skip
       clear BK555 HB HO_3 HO_556004
       refine zfw ?_ ?_
       ·rintro b a w' ⟨v565, v568, v571, v574, v577, v580, m20_, ha, Q_HO_3, Q_HO_556004, Q_BK555, Q_HB, Q_HO566, Q_HO569, Q_HO572, Q_HO575, Q_HO578, Q_HO_556004_e18, Q_HO581, Q_X20_⟩ hb_ hon hoff
        refine ⟨_, rfl, fun K hK => ?_⟩
        have e18 : a.tmps[18]? = some (.pointer (some ⟨gb555, 0, none⟩)) := by rw [ha]; exact (putSel_off rfl).trans rfl
        replace ha := Aside0.mk ha
        have HO_3 := Aside0.mk (Q_HO_3 (hoff 18 (by kernel_rfl)))
        have HO_556004 := Aside0.mk (Q_HO_556004 (hoff 18 (by kernel_rfl)))
        have BK555 := Aside0.mk Q_BK555
        have HB := Aside0.mk Q_HB
        have hc0_ : w'.cell? ⟨gb555, 0, none⟩ = some (.int .i64 a0_0) := (zbf BK555.out 0).trans rfl
        have hc1_ : w'.cell? ⟨gb555, 1, none⟩ = some (.string a0_1) := (zbf BK555.out 1).trans rfl
        have hc2_ : w'.cell? ⟨gb555, 2, none⟩ = some (.int .i64 a0_2) := (zbf BK555.out 2).trans rfl
        have hc3_ : w'.cell? ⟨gb555, 3, none⟩ = some (.int .i64 a0_3) := (zbf BK555.out 3).trans rfl
        have hc4_ : w'.cell? ⟨gb555, 4, none⟩ = some (.slice A0_4 l0_4.length c0_4) := (zbf BK555.out 4).trans rfl
        refine value_ (w1 := w') (v := .int .i64 a0_0) (by rfl) rfl ?_ ?_
        ·go_simp
         (try simp only [i64_w])
         try rfl
        refine hK.out _ _ ⟨v565, v568, v571, v574, v577, v580, m20_, (by rw [ha.out]; exact zfx 0 hb_ rfl rfl rfl), Q_HO_3, Q_HO_556004, Q_BK555, Q_HB, jof (hoff 3), Q_HO569, Q_HO572, Q_HO575, jof (hoff 18), jof (hoff 18), jof (hoff 19), jof (hoff 20)⟩
       refine zfw ?_ ?_
       ·rintro b a w' ⟨v565, v568, v571, v574, v577, v580, m20_, ha, Q_HO_3, Q_HO_556004, Q_BK555, Q_HB, Q_HO566, Q_HO569, Q_HO572, Q_HO575, Q_HO578, Q_HO_556004_e18, Q_HO581, Q_X20_⟩ hb_ hon hoff
        refine ⟨_, rfl, fun K hK => ?_⟩
        have e19 : a.tmps[19]? = some (.int .i64 a0_0) := by rw [ha]; exact putSel_on (e := (1, 19, .int .i64 a0_0)) 0 rfl rfl (hon 1 (by kernel_rfl)) rfl
        replace ha := Aside0.mk ha
        have HO_3 := Aside0.mk (Q_HO_3 (hoff 18 (by kernel_rfl)))
        have HO_556004 := Aside0.mk (Q_HO_556004 (hoff 18 (by kernel_rfl)))
        have BK555 := Aside0.mk Q_BK555
        have HB := Aside0.mk Q_HB
        refine value_ (w1 := w') (v := .int .u8 ((a0_0) % 256)) (by rfl) rfl ?_ ?_
        ·go_simp
         (try simp only [i64_w])
         try rfl
        refine hK.out _ _ ⟨v565, v568, v571, v574, v577, v580, m20_, (by rw [ha.out]; exact zfx 1 hb_ rfl rfl rfl), Q_HO_3, Q_HO_556004, Q_BK555, Q_HB, jof (hoff 3), Q_HO569, Q_HO572, Q_HO575, jof (hoff 18), jof (hoff 18), jof (hoff 19), jof (hoff 20)⟩
       refine zfw ?_ ?_
       ·rintro b a w' ⟨v565, v568, v571, v574, v577, v580, m20_, ha, Q_HO_3, Q_HO_556004, Q_BK555, Q_HB, Q_HO566, Q_HO569, Q_HO572, Q_HO575, Q_HO578, Q_HO_556004_e18, Q_HO581, Q_X20_⟩ hb_ hon hoff
        refine ⟨_, rfl, fun K hK => ?_⟩
        have e20 : a.tmps[20]? = some (.int .u8 ((a0_0) % 256)) := by rw [ha]; exact putSel_on (e := (2, 20, .int .u8 ((a0_0) % 256))) 1 rfl rfl (hon 2 (by kernel_rfl)) rfl
        replace ha := Aside0.mk ha
        have HO_3 := Aside0.mk (Q_HO_3 (hoff 18 (by kernel_rfl)))
        have HO_556004 := Aside0.mk (Q_HO_556004 (hoff 18 (by kernel_rfl)))
        have BK555 := Aside0.mk Q_BK555
        have HB := Aside0.mk Q_HB
        refine Kd.R_lit_step (Kd.int .u8) _ 5 ?hg (N := 21) ?hd (xs := ([(a0_0) % 256] : List Int)) (inner := [.int .u8 ((a0_0) % 256)]) (ok := fun _ => True) (okp := fun _ => True) ?hr ?hp jmk trivial (zbk _ _) (zaf _) (by simp) ?_; (case hd => rfl); (case hg => rfl); (case hr => first | (go_simp; done) | (go_simp; rfl)); (case hp => exact (Reps.one (show Kd.M (Kd.int .u8) _ _ _ ((a0_0) % 256) [.int .u8 ((a0_0) % 256)] from rfl) (Reps.none _ _)))
        intro v565 w22 ho23 hb hg_ hnew_
        clear hg_ hnew_
        (first | rw [← Ny564.out] at ho23 | (simp only [Int.reduceToNat] at ho23; rw [← Ny564.out] at ho23))
        have n0_ := Aside0.mk (zbr (qR HO_3.out) (zbe ho23) hb)
        have n1_ := Aside0.mk (zfo (qV HO_556004.out) (zbe ho23) hb)
        have n2_ := Aside0.mk (zbc (zcz (Kd.R_newM (M := fun k_ => (w.heap.size ≤ k_)) ho23 (zak (bs1 GE555.out)) (fun k_ h_ => h_)) (zcd (qR HO_3.out))) (zak (bs1 GE555.out)))
        have n3_ := Aside0.mk (jbb BK555.out hb)
        have n4_ := Aside0.mk (zab (bs1 GE555.out) hb)
        have z_HO569 := fun (h0_ : b 8 = true) (h1_ : b 18 = false) => (show Kd.R (Kd.int .u8) 5 w22 w.heap.size (fun k_ => (w.heap.size ≤ k_) ∧ some k_ ≠ (u3 : Value).ownBlock) v568 y567 from zqR (zbr (pR (Q_HO569 h0_ h1_)) (zbe ho23) hb))
        have z_HO572 := fun (h0_ : b 11 = true) (h1_ : b 18 = false) => (show Kd.R (Kd.int .u8) 5 w22 w.heap.size (fun k_ => (w.heap.size ≤ k_) ∧ some k_ ≠ (u3 : Value).ownBlock) v571 t570 from zqR (zbr (pR (Q_HO572 h0_ h1_)) (zbe ho23) hb))
        have z_HO575 := fun (h0_ : b 15 = true) (h1_ : b 18 = false) => (show Kd.R (Kd.int .u8) 5 w22 w.heap.size (fun k_ => (w.heap.size ≤ k_) ∧ some k_ ≠ (u3 : Value).ownBlock) v574 t573 from zqR (zbr (pR (Q_HO575 h0_ h1_)) (zbe ho23) hb))
        clear HO_3
        clear HO_556004
        clear BK555
        clear HB
        have HO_3 := n0_
        have HO_556004 := n1_
        have HO566 := n2_
        have BK555 := n3_
        have HB := n4_
        clear n0_ n1_ n2_ n3_ n4_
        clear hb ho23
        refine hK.out _ _ ⟨v565, v568, v571, v574, v577, v580, m20_, (by rw [ha.out]; exact zfx 2 hb_ rfl rfl rfl), fun _ => (qR HO_3.out), fun _ => (mqV HO_556004.out), (pB BK555.out), (bs1 GE555.out), fun _ _ => (mqR HO566.out), z_HO569, z_HO572, z_HO575, jof (hoff 18), jof (hoff 18), jof (hoff 19), jof (hoff 20)⟩
       refine zfw ?_ ?_
       ·rintro b a w' ⟨v565, v568, v571, v574, v577, v580, m20_, ha, Q_HO_3, Q_HO_556004, Q_BK555, Q_HB, Q_HO566, Q_HO569, Q_HO572, Q_HO575, Q_HO578, Q_HO_556004_e18, Q_HO581, Q_X20_⟩ hb_ hon hoff
        refine ⟨_, rfl, fun K hK => ?_⟩
        have e23 : a.tmps[23]? = some (.pointer (some ⟨gb555, 2, none⟩)) := by rw [ha]; exact (putSel_off rfl).trans rfl
        replace ha := Aside0.mk ha
        have HO_3 := Aside0.mk (Q_HO_3 (hoff 18 (by kernel_rfl)))
        have HO_556004 := Aside0.mk (Q_HO_556004 (hoff 18 (by kernel_rfl)))
        have BK555 := Aside0.mk Q_BK555
        have HB := Aside0.mk Q_HB
        have hc0_ : w'.cell? ⟨gb555, 0, none⟩ = some (.int .i64 a0_0) := (zbf BK555.out 0).trans rfl
        have hc1_ : w'.cell? ⟨gb555, 1, none⟩ = some (.string a0_1) := (zbf BK555.out 1).trans rfl
        have hc2_ : w'.cell? ⟨gb555, 2, none⟩ = some (.int .i64 a0_2) := (zbf BK555.out 2).trans rfl
        have hc3_ : w'.cell? ⟨gb555, 3, none⟩ = some (.int .i64 a0_3) := (zbf BK555.out 3).trans rfl
        have hc4_ : w'.cell? ⟨gb555, 4, none⟩ = some (.slice A0_4 l0_4.length c0_4) := (zbf BK555.out 4).trans rfl
        refine value_ (w1 := w') (v := .int .i64 a0_2) (by rfl) rfl ?_ ?_
        ·go_simp
         (try simp only [i64_w])
         try rfl
        refine hK.out _ _ ⟨v565, v568, v571, v574, v577, v580, m20_, (by rw [ha.out]; exact zfx 3 hb_ rfl rfl rfl), Q_HO_3, Q_HO_556004, Q_BK555, Q_HB, Q_HO566, jof (hoff 8), Q_HO572, Q_HO575, jof (hoff 18), jof (hoff 18), jof (hoff 19), jof (hoff 20)⟩
       refine zfw ?_ ?_
       ·rintro b a w' ⟨v565, v568, v571, v574, v577, v580, m20_, ha, Q_HO_3, Q_HO_556004, Q_BK555, Q_HB, Q_HO566, Q_HO569, Q_HO572, Q_HO575, Q_HO578, Q_HO_556004_e18, Q_HO581, Q_X20_⟩ hb_ hon hoff
        refine ⟨_, rfl, fun K hK => ?_⟩
        have e24 : a.tmps[24]? = some (.int .i64 a0_2) := by rw [ha]; exact putSel_on (e := (6, 24, .int .i64 a0_2)) 3 rfl rfl (hon 6 (by kernel_rfl)) rfl
        replace ha := Aside0.mk ha
        have HO_3 := Aside0.mk (Q_HO_3 (hoff 18 (by kernel_rfl)))
        have HO_556004 := Aside0.mk (Q_HO_556004 (hoff 18 (by kernel_rfl)))
        have BK555 := Aside0.mk Q_BK555
        have HB := Aside0.mk Q_HB
        refine value_ (w1 := w') (v := .int .u8 ((a0_2) % 256)) (by rfl) rfl ?_ ?_
        ·go_simp
         (try simp only [i64_w])
         try rfl
        refine hK.out _ _ ⟨v565, v568, v571, v574, v577, v580, m20_, (by rw [ha.out]; exact zfx 4 hb_ rfl rfl rfl), Q_HO_3, Q_HO_556004, Q_BK555, Q_HB, Q_HO566, jof (hoff 8), Q_HO572, Q_HO575, jof (hoff 18), jof (hoff 18), jof (hoff 19), jof (hoff 20)⟩
       refine zfw ?_ ?_
       ·rintro b a w' ⟨v565, v568, v571, v574, v577, v580, m20_, ha, Q_HO_3, Q_HO_556004, Q_BK555, Q_HB, Q_HO566, Q_HO569, Q_HO572, Q_HO575, Q_HO578, Q_HO_556004_e18, Q_HO581, Q_X20_⟩ hb_ hon hoff
        refine ⟨_, rfl, fun K hK => ?_⟩
        have e25 : a.tmps[25]? = some (.int .u8 ((a0_2) % 256)) := by rw [ha]; exact putSel_on (e := (7, 25, .int .u8 ((a0_2) % 256))) 4 rfl rfl (hon 7 (by kernel_rfl)) rfl
        replace ha := Aside0.mk ha
        have HO_3 := Aside0.mk (Q_HO_3 (hoff 18 (by kernel_rfl)))
        have HO_556004 := Aside0.mk (Q_HO_556004 (hoff 18 (by kernel_rfl)))
        have BK555 := Aside0.mk Q_BK555
        have HB := Aside0.mk Q_HB
        refine Kd.R_lit_step (Kd.int .u8) _ 5 ?hg (N := 26) ?hd (xs := ([(a0_2) % 256] : List Int)) (inner := [.int .u8 ((a0_2) % 256)]) (ok := fun _ => True) (okp := fun _ => True) ?hr ?hp jmk trivial (zbk _ _) (zaf _) (by simp) ?_; (case hd => rfl); (case hg => rfl); (case hr => first | (go_simp; done) | (go_simp; rfl)); (case hp => exact (Reps.one (show Kd.M (Kd.int .u8) _ _ _ ((a0_2) % 256) [.int .u8 ((a0_2) % 256)] from rfl) (Reps.none _ _)))
        intro v568 w22 ho23 hb hg_ hnew_
        clear hg_ hnew_
        (first | rw [← Ny567.out] at ho23 | (simp only [Int.reduceToNat] at ho23; rw [← Ny567.out] at ho23))
        have n0_ := Aside0.mk (zbr (qR HO_3.out) (zbe ho23) hb)
        have n1_ := Aside0.mk (zfo (qV HO_556004.out) (zbe ho23) hb)
        have n2_ := Aside0.mk (zbc (zcz (Kd.R_newM (M := fun k_ => (w.heap.size ≤ k_)) ho23 (zak (bs1 GE555.out)) (fun k_ h_ => h_)) (zcd (qR HO_3.out))) (zak (bs1 GE555.out)))
        have n3_ := Aside0.mk (jbb BK555.out hb)
        have n4_ := Aside0.mk (zab (bs1 GE555.out) hb)
        have z_HO566 := fun (h0_ : b 3 = true) (h1_ : b 18 = false) => (show Kd.R (Kd.int .u8) 5 w22 w.heap.size (fun k_ => (w.heap.size ≤ k_) ∧ some k_ ≠ (u3 : Value).ownBlock) v565 y564 from zqR (zbr (pR (Q_HO566 h0_ h1_)) (zbe ho23) hb))
        have z_HO572 := fun (h0_ : b 11 = true) (h1_ : b 18 = false) => (show Kd.R (Kd.int .u8) 5 w22 w.heap.size (fun k_ => (w.heap.size ≤ k_) ∧ some k_ ≠ (u3 : Value).ownBlock) v571 t570 from zqR (zbr (pR (Q_HO572 h0_ h1_)) (zbe ho23) hb))
        have z_HO575 := fun (h0_ : b 15 = true) (h1_ : b 18 = false) => (show Kd.R (Kd.int .u8) 5 w22 w.heap.size (fun k_ => (w.heap.size ≤ k_) ∧ some k_ ≠ (u3 : Value).ownBlock) v574 t573 from zqR (zbr (pR (Q_HO575 h0_ h1_)) (zbe ho23) hb))
        clear HO_3
        clear HO_556004
        clear BK555
        clear HB
        have HO_3 := n0_
        have HO_556004 := n1_
        have HO569 := n2_
        have BK555 := n3_
        have HB := n4_
        clear n0_ n1_ n2_ n3_ n4_
        clear hb ho23
        refine hK.out _ _ ⟨v565, v568, v571, v574, v577, v580, m20_, (by rw [ha.out]; exact zfx 5 hb_ rfl rfl rfl), fun _ => (qR HO_3.out), fun _ => (mqV HO_556004.out), (pB BK555.out), (bs1 GE555.out), z_HO566, fun _ _ => (mqR HO569.out), z_HO572, z_HO575, jof (hoff 18), jof (hoff 18), jof (hoff 19), jof (hoff 20)⟩
       refine zfw ?_ ?_
       ·rintro b a w' ⟨v565, v568, v571, v574, v577, v580, m20_, ha, Q_HO_3, Q_HO_556004, Q_BK555, Q_HB, Q_HO566, Q_HO569, Q_HO572, Q_HO575, Q_HO578, Q_HO_556004_e18, Q_HO581, Q_X20_⟩ hb_ hon hoff
        refine ⟨_, rfl, fun K hK => ?_⟩
        have e27 : a.tmps[27]? = some (.pointer (some ⟨gb555, 3, none⟩)) := by rw [ha]; exact (putSel_off rfl).trans rfl
        replace ha := Aside0.mk ha
        have HO_3 := Aside0.mk (Q_HO_3 (hoff 18 (by kernel_rfl)))
        have HO_556004 := Aside0.mk (Q_HO_556004 (hoff 18 (by kernel_rfl)))
        have BK555 := Aside0.mk Q_BK555
        have HB := Aside0.mk Q_HB
        have hc0_ : w'.cell? ⟨gb555, 0, none⟩ = some (.int .i64 a0_0) := (zbf BK555.out 0).trans rfl
        have hc1_ : w'.cell? ⟨gb555, 1, none⟩ = some (.string a0_1) := (zbf BK555.out 1).trans rfl
        have hc2_ : w'.cell? ⟨gb555, 2, none⟩ = some (.int .i64 a0_2) := (zbf BK555.out 2).trans rfl
        have hc3_ : w'.cell? ⟨gb555, 3, none⟩ = some (.int .i64 a0_3) := (zbf BK555.out 3).trans rfl
        have hc4_ : w'.cell? ⟨gb555, 4, none⟩ = some (.slice A0_4 l0_4.length c0_4) := (zbf BK555.out 4).trans rfl
        refine value_ (w1 := w') (v := .int .i64 a0_3) (by rfl) rfl ?_ ?_
        ·go_simp
         (try simp only [i64_w])
         try rfl
        refine hK.out _ _ ⟨v565, v568, v571, v574, v577, v580, m20_, (by rw [ha.out]; exact zfx 6 hb_ rfl rfl rfl), Q_HO_3, Q_HO_556004, Q_BK555, Q_HB, Q_HO566, Q_HO569, jof (hoff 11), jof (hoff 15), jof (hoff 18), jof (hoff 18), jof (hoff 19), jof (hoff 20)⟩
       refine zfw ?_ ?_
       ·rintro b a w' ⟨v565, v568, v571, v574, v577, v580, m20_, ha, Q_HO_3, Q_HO_556004, Q_BK555, Q_HB, Q_HO566, Q_HO569, Q_HO572, Q_HO575, Q_HO578, Q_HO_556004_e18, Q_HO581, Q_X20_⟩ hb_ hon hoff
        refine ⟨_, rfl, fun K hK => ?_⟩
        have e28 : a.tmps[28]? = some (.int .i64 a0_3) := by rw [ha]; exact putSel_on (e := (10, 28, .int .i64 a0_3)) 6 rfl rfl (hon 10 (by kernel_rfl)) rfl
        replace ha := Aside0.mk ha
        have HO_3 := Aside0.mk (Q_HO_3 (hoff 18 (by kernel_rfl)))
        have HO_556004 := Aside0.mk (Q_HO_556004 (hoff 18 (by kernel_rfl)))
        have BK555 := Aside0.mk Q_BK555
        have HB := Aside0.mk Q_HB
        refine goes_ Try.func110 (by kernel_rfl) rfl #[.int .i64 a0_3, .int .i64 4] (by rfl) rfl rfl (by first | (simp only [zdw, zep, zew, Act.eval, Array.getD_eq_getD_getElem?, Option.getD_some, e28]; done) | (simp only [zdw, zep, zew, Act.eval, Array.getD_eq_getD_getElem?, Option.getD_some, e28]; rfl)) ?_
        with_reducible refine (impl_Great.calls kj4 a0_3 4 t570 _ A16.out).mono ?_
        rintro e w22 ⟨v571, rfl, ho0, hb⟩
        refine ⟨_, rfl, ?_⟩
        have n0_ := Aside0.mk (zbr (qR HO_3.out) (zbe ho0) hb)
        have n1_ := Aside0.mk (zfo (qV HO_556004.out) (zbe ho0) hb)
        have n2_ := Aside0.mk (zbc (zcz (Kd.R_newM (M := fun k_ => (w.heap.size ≤ k_)) ho0 (zak (bs1 GE555.out)) (fun k_ h_ => h_)) (zcd (qR HO_3.out))) (zak (bs1 GE555.out)))
        have n3_ := Aside0.mk (jbb BK555.out hb)
        have n4_ := Aside0.mk (zab (bs1 GE555.out) hb)
        have z_HO566 := fun (h0_ : b 3 = true) (h1_ : b 18 = false) => (show Kd.R (Kd.int .u8) 5 w22 w.heap.size (fun k_ => (w.heap.size ≤ k_) ∧ some k_ ≠ (u3 : Value).ownBlock) v565 y564 from zqR (zbr (pR (Q_HO566 h0_ h1_)) (zbe ho0) hb))
        have z_HO569 := fun (h0_ : b 8 = true) (h1_ : b 18 = false) => (show Kd.R (Kd.int .u8) 5 w22 w.heap.size (fun k_ => (w.heap.size ≤ k_) ∧ some k_ ≠ (u3 : Value).ownBlock) v568 y567 from zqR (zbr (pR (Q_HO569 h0_ h1_)) (zbe ho0) hb))
        clear HO_3
        clear HO_556004
        clear BK555
        clear HB
        have HO_3 := n0_
        have HO_556004 := n1_
        have HO572 := n2_
        have BK555 := n3_
        have HB := n4_
        clear n0_ n1_ n2_ n3_ n4_
        (try clear hb)
        (try clear hb2)
        (try clear hk)
        (try clear hi)
        (try clear ho0)
        refine hK.out _ _ ⟨v565, v568, v571, v574, v577, v580, m20_, (by rw [ha.out]; exact zfx 7 hb_ rfl rfl rfl), fun _ => (qR HO_3.out), fun _ => (mqV HO_556004.out), (pB BK555.out), (bs1 GE555.out), z_HO566, z_HO569, fun _ _ => (mqR HO572.out), jof (hoff 15), jof (hoff 18), jof (hoff 18), jof (hoff 19), jof (hoff 20)⟩
       refine zfw ?_ ?_
       ·rintro b a w' ⟨v565, v568, v571, v574, v577, v580, m20_, ha, Q_HO_3, Q_HO_556004, Q_BK555, Q_HB, Q_HO566, Q_HO569, Q_HO572, Q_HO575, Q_HO578, Q_HO_556004_e18, Q_HO581, Q_X20_⟩ hb_ hon hoff
        refine ⟨_, rfl, fun K hK => ?_⟩
        have e30 : a.tmps[30]? = some (.pointer (some ⟨gb555, 4, none⟩)) := by rw [ha]; exact (putSel_off rfl).trans rfl
        replace ha := Aside0.mk ha
        have HO_3 := Aside0.mk (Q_HO_3 (hoff 18 (by kernel_rfl)))
        have HO_556004 := Aside0.mk (Q_HO_556004 (hoff 18 (by kernel_rfl)))
        have BK555 := Aside0.mk Q_BK555
        have HB := Aside0.mk Q_HB
        have hc0_ : w'.cell? ⟨gb555, 0, none⟩ = some (.int .i64 a0_0) := (zbf BK555.out 0).trans rfl
        have hc1_ : w'.cell? ⟨gb555, 1, none⟩ = some (.string a0_1) := (zbf BK555.out 1).trans rfl
        have hc2_ : w'.cell? ⟨gb555, 2, none⟩ = some (.int .i64 a0_2) := (zbf BK555.out 2).trans rfl
        have hc3_ : w'.cell? ⟨gb555, 3, none⟩ = some (.int .i64 a0_3) := (zbf BK555.out 3).trans rfl
        have hc4_ : w'.cell? ⟨gb555, 4, none⟩ = some (.slice A0_4 l0_4.length c0_4) := (zbf BK555.out 4).trans rfl
        refine value_ (w1 := w') (v := .slice A0_4 l0_4.length c0_4) (by rfl) rfl ?_ ?_
        ·go_simp
         (try simp only [i64_w])
         try rfl
        refine hK.out _ _ ⟨v565, v568, v571, v574, v577, v580, m20_, (by rw [ha.out]; exact zfx 8 hb_ rfl rfl rfl), Q_HO_3, Q_HO_556004, Q_BK555, Q_HB, Q_HO566, Q_HO569, Q_HO572, jof (hoff 15), jof (hoff 18), jof (hoff 18), jof (hoff 19), jof (hoff 20)⟩
       refine zfw ?_ ?_
       ·rintro b a w' ⟨v565, v568, v571, v574, v577, v580, m20_, ha, Q_HO_3, Q_HO_556004, Q_BK555, Q_HB, Q_HO566, Q_HO569, Q_HO572, Q_HO575, Q_HO578, Q_HO_556004_e18, Q_HO581, Q_X20_⟩ hb_ hon hoff
        refine ⟨_, rfl, fun K hK => ?_⟩
        have e31 : a.tmps[31]? = some (.slice A0_4 l0_4.length c0_4) := by rw [ha]; exact putSel_on (e := (13, 31, .slice A0_4 l0_4.length c0_4)) 8 rfl rfl (hon 13 (by kernel_rfl)) rfl
        replace ha := Aside0.mk ha
        have HO_3 := Aside0.mk (Q_HO_3 (hoff 18 (by kernel_rfl)))
        have HO_556004 := Aside0.mk (Q_HO_556004 (hoff 18 (by kernel_rfl)))
        have BK555 := Aside0.mk Q_BK555
        have HB := Aside0.mk Q_HB
        refine value_ (w1 := w') (v := .int .i64 (l0_4.length : Int)) (by rfl) rfl ?_ ?_
        ·go_simp
         (try simp only [i64_w])
         try rfl
        refine hK.out _ _ ⟨v565, v568, v571, v574, v577, v580, m20_, (by rw [ha.out]; exact zfx 9 hb_ rfl rfl rfl), Q_HO_3, Q_HO_556004, Q_BK555, Q_HB, Q_HO566, Q_HO569, Q_HO572, jof (hoff 15), jof (hoff 18), jof (hoff 18), jof (hoff 19), jof (hoff 20)⟩
       refine zfw ?_ ?_
       ·rintro b a w' ⟨v565, v568, v571, v574, v577, v580, m20_, ha, Q_HO_3, Q_HO_556004, Q_BK555, Q_HB, Q_HO566, Q_HO569, Q_HO572, Q_HO575, Q_HO578, Q_HO_556004_e18, Q_HO581, Q_X20_⟩ hb_ hon hoff
        refine ⟨_, rfl, fun K hK => ?_⟩
        have e32 : a.tmps[32]? = some (.int .i64 (l0_4.length : Int)) := by rw [ha]; exact putSel_on (e := (14, 32, .int .i64 (l0_4.length : Int))) 9 rfl rfl (hon 14 (by kernel_rfl)) rfl
        replace ha := Aside0.mk ha
        have HO_3 := Aside0.mk (Q_HO_3 (hoff 18 (by kernel_rfl)))
        have HO_556004 := Aside0.mk (Q_HO_556004 (hoff 18 (by kernel_rfl)))
        have BK555 := Aside0.mk Q_BK555
        have HB := Aside0.mk Q_HB
        have HO572 := Aside0.mk (Q_HO572 (hon 11 (by kernel_rfl)) (hoff 18 (by kernel_rfl)))
        refine goes_ Try.func110 (by kernel_rfl) rfl #[.int .i64 (l0_4.length : Int), .int .i64 2] (by rfl) rfl rfl (by first | (simp only [zdw, zep, zew, Act.eval, Array.getD_eq_getD_getElem?, Option.getD_some, e32]; done) | (simp only [zdw, zep, zew, Act.eval, Array.getD_eq_getD_getElem?, Option.getD_some, e32]; rfl)) ?_
        with_reducible refine (impl_Great.calls kj4 (l0_4.length : Int) 2 t573 _ A17.out).mono ?_
        rintro e w24 ⟨v574, rfl, ho0, hb⟩
        refine ⟨_, rfl, ?_⟩
        have n0_ := Aside0.mk (zbr (qR HO_3.out) (zbe ho0) hb)
        have n1_ := Aside0.mk (zfo (qV HO_556004.out) (zbe ho0) hb)
        have n2_ := Aside0.mk (zbr (qR HO572.out) (zbe ho0) hb)
        have n3_ := Aside0.mk (zbc (zcz (zcz (Kd.R_newM (M := fun k_ => (w.heap.size ≤ k_)) ho0 (zak (bs1 GE555.out)) (fun k_ h_ => h_)) (zcd (qR HO_3.out))) (zcd (qR HO572.out))) (zak (bs1 GE555.out)))
        have n4_ := Aside0.mk (jbb BK555.out hb)
        have n5_ := Aside0.mk (zab (bs1 GE555.out) hb)
        have z_HO566 := fun (h0_ : b 3 = true) (h1_ : b 18 = false) => (show Kd.R (Kd.int .u8) 5 w24 w.heap.size (fun k_ => (w.heap.size ≤ k_) ∧ some k_ ≠ (u3 : Value).ownBlock) v565 y564 from zqR (zbr (pR (Q_HO566 h0_ h1_)) (zbe ho0) hb))
        have z_HO569 := fun (h0_ : b 8 = true) (h1_ : b 18 = false) => (show Kd.R (Kd.int .u8) 5 w24 w.heap.size (fun k_ => (w.heap.size ≤ k_) ∧ some k_ ≠ (u3 : Value).ownBlock) v568 y567 from zqR (zbr (pR (Q_HO569 h0_ h1_)) (zbe ho0) hb))
        clear HO_3
        clear HO_556004
        clear HO572
        clear BK555
        clear HB
        have HO_3 := n0_
        have HO_556004 := n1_
        have HO572 := n2_
        have HO575 := n3_
        have BK555 := n4_
        have HB := n5_
        clear n0_ n1_ n2_ n3_ n4_ n5_
        (try clear hb)
        (try clear hb2)
        (try clear hk)
        (try clear hi)
        (try clear ho0)
        refine hK.out _ _ ⟨v565, v568, v571, v574, v577, v580, m20_, (by rw [ha.out]; exact zfx 10 hb_ rfl rfl rfl), fun _ => (mqR HO_3.out), fun _ => (mqV HO_556004.out), (pB BK555.out), (bs1 GE555.out), z_HO566, z_HO569, fun _ _ => (mqR HO572.out), fun _ _ => (mqR HO575.out), jof (hoff 18), jof (hoff 18), jof (hoff 19), jof (hoff 20)⟩
       refine zfw ?_ ?_
       ·rintro b a w' ⟨v565, v568, v571, v574, v577, v580, m20_, ha, Q_HO_3, Q_HO_556004, Q_BK555, Q_HB, Q_HO566, Q_HO569, Q_HO572, Q_HO575, Q_HO578, Q_HO_556004_e18, Q_HO581, Q_X20_⟩ hb_ hon hoff
        refine ⟨_, rfl, fun K hK => ?_⟩
        have e34 : a.tmps[34]? = some (.pointer (some ⟨gb555, 4, none⟩)) := by rw [ha]; exact (putSel_off rfl).trans rfl
        replace ha := Aside0.mk ha
        have HO_3 := Aside0.mk (Q_HO_3 (hoff 18 (by kernel_rfl)))
        have HO_556004 := Aside0.mk (Q_HO_556004 (hoff 18 (by kernel_rfl)))
        have BK555 := Aside0.mk Q_BK555
        have HB := Aside0.mk Q_HB
        have hc0_ : w'.cell? ⟨gb555, 0, none⟩ = some (.int .i64 a0_0) := (zbf BK555.out 0).trans rfl
        have hc1_ : w'.cell? ⟨gb555, 1, none⟩ = some (.string a0_1) := (zbf BK555.out 1).trans rfl
        have hc2_ : w'.cell? ⟨gb555, 2, none⟩ = some (.int .i64 a0_2) := (zbf BK555.out 2).trans rfl
        have hc3_ : w'.cell? ⟨gb555, 3, none⟩ = some (.int .i64 a0_3) := (zbf BK555.out 3).trans rfl
        have hc4_ : w'.cell? ⟨gb555, 4, none⟩ = some (.slice A0_4 l0_4.length c0_4) := (zbf BK555.out 4).trans rfl
        refine value_ (w1 := w') (v := .slice A0_4 l0_4.length c0_4) (by rfl) rfl ?_ ?_
        ·go_simp
         (try simp only [i64_w])
         try rfl
        refine hK.out _ _ ⟨v565, v568, v571, v574, v577, v580, m20_, (by rw [ha.out]; exact zfx 11 hb_ rfl rfl rfl), Q_HO_3, Q_HO_556004, Q_BK555, Q_HB, Q_HO566, Q_HO569, Q_HO572, Q_HO575, jof (hoff 18), jof (hoff 18), jof (hoff 19), jof (hoff 20)⟩
       refine zfw ?_ ?_
       ·rintro b a w' ⟨v565, v568, v571, v574, v577, v580, m20_, ha, Q_HO_3, Q_HO_556004, Q_BK555, Q_HB, Q_HO566, Q_HO569, Q_HO572, Q_HO575, Q_HO578, Q_HO_556004_e18, Q_HO581, Q_X20_⟩ hb_ hon hoff
        refine ⟨_, rfl, fun K hK => ?_⟩
        have e21 : a.tmps[21]? = some (v565) := by rw [ha]; exact putSel_on (e := (3, 21, v565)) 2 rfl rfl (hon 3 (by kernel_rfl)) rfl
        have e22 : a.tmps[22]? = some u3 := by rw [ha]; exact (putSel_off rfl).trans rfl
        have e26 : a.tmps[26]? = some (v568) := by rw [ha]; exact putSel_on (e := (8, 26, v568)) 5 rfl rfl (hon 8 (by kernel_rfl)) rfl
        have e29 : a.tmps[29]? = some (v571) := by rw [ha]; exact putSel_on (e := (11, 29, v571)) 7 rfl rfl (hon 11 (by kernel_rfl)) rfl
        have e33 : a.tmps[33]? = some (v574) := by rw [ha]; exact putSel_on (e := (15, 33, v574)) 10 rfl rfl (hon 15 (by kernel_rfl)) rfl
        have e35 : a.tmps[35]? = some (.slice A0_4 l0_4.length c0_4) := by rw [ha]; exact putSel_on (e := (17, 35, .slice A0_4 l0_4.length c0_4)) 11 rfl rfl (hon 17 (by kernel_rfl)) rfl
        replace ha := Aside0.mk ha
        have HO_3 := Aside0.mk (Q_HO_3 hb_)
        have HO_556004 := Aside0.mk (Q_HO_556004 hb_)
        have BK555 := Aside0.mk Q_BK555
        have HB := Aside0.mk Q_HB
        have HO566 := Aside0.mk (Q_HO566 (hon 3 (by kernel_rfl)) hb_)
        have HO569 := Aside0.mk (Q_HO569 (hon 8 (by kernel_rfl)) hb_)
        have HO572 := Aside0.mk (Q_HO572 (hon 11 (by kernel_rfl)) hb_)
        have HO575 := Aside0.mk (Q_HO575 (hon 15 (by kernel_rfl)) hb_)
        obtain ⟨Ao29, co29, eo29⟩ := zbm HO566.out
        (first | subst eo29 | (injection eo29 with f1_ f2_ f3_; have f4_ := f1_.symm; have f5_ := f3_.symm; clear f1_ f2_ f3_; subst f4_; subst f5_))
        obtain ⟨Ao30, co30, eo30⟩ := zbm HO_3.out
        (first | subst eo30 | (injection eo30 with f1_ f2_ f3_; have f4_ := f1_.symm; have f5_ := f3_.symm; clear f1_ f2_ f3_; subst f4_; subst f5_))
        obtain ⟨Ao31, co31, eo31⟩ := zbm HO569.out
        (first | subst eo31 | (injection eo31 with f1_ f2_ f3_; have f4_ := f1_.symm; have f5_ := f3_.symm; clear f1_ f2_ f3_; subst f4_; subst f5_))
        obtain ⟨Ao32, co32, eo32⟩ := zbm HO572.out
        (first | subst eo32 | (injection eo32 with f1_ f2_ f3_; have f4_ := f1_.symm; have f5_ := f3_.symm; clear f1_ f2_ f3_; subst f4_; subst f5_))
        obtain ⟨Ao33, co33, eo33⟩ := zbm HO575.out
        (first | subst eo33 | (injection eo33 with f1_ f2_ f3_; have f4_ := f1_.symm; have f5_ := f3_.symm; clear f1_ f2_ f3_; subst f4_; subst f5_))
        refine Kd.N_lit_step (Kd.slice 5 (Kd.int .u8)) _ 29 ?hg (N' := 36) ?hd (xs := ([y564, x3_4, y567, t570, t573, l0_4] : List (List Int))) (inner := [.slice Ao29 y564.length co29, .slice Ao30 x3_4.length co30, .slice Ao31 y567.length co31, .slice Ao32 t570.length co32, .slice Ao33 t573.length co33, .slice A0_4 l0_4.length c0_4]) (ok := (fun k_ => (P0_4_ k_ ∨ w.heap.size ≤ k_) ∧ k_ ≠ gb555)) (okp := (fun k_ => (P0_4_ k_ ∨ w.heap.size ≤ k_) ∧ k_ ≠ gb555)) ?hr ?hp jmk ((show ∀ k_, w'.heap.size ≤ k_ → (fun k_ => (P0_4_ k_ ∨ w.heap.size ≤ k_) ∧ k_ ≠ gb555) k_ from fun k_ hk => ⟨(.inr (zeb (zak (bs1 GE555.out)) hk)), zey (pB BK555.out) k_ hk⟩) _ (zaf _)) (zbk _ _) (zaf _) (by simp) ?_; (case hd => rfl); (case hg => rfl); (case hr => first | (go_simp; done) | (go_simp; rfl)); (case hp => exact (Reps.one (show Kd.FK (Kd.slice 5 (Kd.int .u8)) _ _ y564 [.slice Ao29 y564.length co29] from (Kd.FK_slice_mk (zbq (zav (ok' := (fun k_ => (P0_4_ k_ ∨ w.heap.size ≤ k_) ∧ k_ ≠ gb555)) (zcb (HO566.out) BK555.out (by decide)) (fun k_ hk => by first | exact ⟨(.inr (hk.1.1)), hk.2⟩ | (revert hk; (try simp only [and_imp]); intros; repeat' (first | assumption | apply zfj | exact .inr (by assumption)))))).2.1 (Kd.R_F (zav (ok' := (fun k_ => (P0_4_ k_ ∨ w.heap.size ≤ k_) ∧ k_ ≠ gb555)) (zcb (HO566.out) BK555.out (by decide)) (fun k_ hk => by first | exact ⟨(.inr (hk.1.1)), hk.2⟩ | (revert hk; (try simp only [and_imp]); intros; repeat' (first | assumption | apply zfj | exact .inr (by assumption)))))))) (Reps.one (show Kd.FK (Kd.slice 5 (Kd.int .u8)) _ _ x3_4 [.slice Ao30 x3_4.length co30] from (Kd.FK_slice_mk (zbq (zav (ok' := (fun k_ => (P0_4_ k_ ∨ w.heap.size ≤ k_) ∧ k_ ≠ gb555)) (zcb (HO_3.out) BK555.out (by decide)) (fun k_ hk => by first | exact ⟨(.inr (hk.1.1)), hk.2⟩ | (revert hk; (try simp only [and_imp]); intros; repeat' (first | assumption | apply zfj | exact .inr (by assumption)))))).2.1 (Kd.R_F (zav (ok' := (fun k_ => (P0_4_ k_ ∨ w.heap.size ≤ k_) ∧ k_ ≠ gb555)) (zcb (HO_3.out) BK555.out (by decide)) (fun k_ hk => by first | exact ⟨(.inr (hk.1.1)), hk.2⟩ | (revert hk; (try simp only [and_imp]); intros; repeat' (first | assumption | apply zfj | exact .inr (by assumption)))))))) (Reps.one (show Kd.FK (Kd.slice 5 (Kd.int .u8)) _ _ y567 [.slice Ao31 y567.length co31] from (Kd.FK_slice_mk (zbq (zav (ok' := (fun k_ => (P0_4_ k_ ∨ w.heap.size ≤ k_) ∧ k_ ≠ gb555)) (zcb (HO569.out) BK555.out (by decide)) (fun k_ hk => by first | exact ⟨(.inr (hk.1.1)), hk.2⟩ | (revert hk; (try simp only [and_imp]); intros; repeat' (first | assumption | apply zfj | exact .inr (by assumption)))))).2.1 (Kd.R_F (zav (ok' := (fun k_ => (P0_4_ k_ ∨ w.heap.size ≤ k_) ∧ k_ ≠ gb555)) (zcb (HO569.out) BK555.out (by decide)) (fun k_ hk => by first | exact ⟨(.inr (hk.1.1)), hk.2⟩ | (revert hk; (try simp only [and_imp]); intros; repeat' (first | assumption | apply zfj | exact .inr (by assumption)))))))) (Reps.one (show Kd.FK (Kd.slice 5 (Kd.int .u8)) _ _ t570 [.slice Ao32 t570.length co32] from (Kd.FK_slice_mk (zbq (zav (ok' := (fun k_ => (P0_4_ k_ ∨ w.heap.size ≤ k_) ∧ k_ ≠ gb555)) (zcb (HO572.out) BK555.out (by decide)) (fun k_ hk => by first | exact ⟨(.inr (hk.1.1)), hk.2⟩ | (revert hk; (try simp only [and_imp]); intros; repeat' (first | assumption | apply zfj | exact .inr (by assumption)))))).2.1 (Kd.R_F (zav (ok' := (fun k_ => (P0_4_ k_ ∨ w.heap.size ≤ k_) ∧ k_ ≠ gb555)) (zcb (HO572.out) BK555.out (by decide)) (fun k_ hk => by first | exact ⟨(.inr (hk.1.1)), hk.2⟩ | (revert hk; (try simp only [and_imp]); intros; repeat' (first | assumption | apply zfj | exact .inr (by assumption)))))))) (Reps.one (show Kd.FK (Kd.slice 5 (Kd.int .u8)) _ _ t573 [.slice Ao33 t573.length co33] from (Kd.FK_slice_mk (zbq (zav (ok' := (fun k_ => (P0_4_ k_ ∨ w.heap.size ≤ k_) ∧ k_ ≠ gb555)) (zcb (HO575.out) BK555.out (by decide)) (fun k_ hk => by first | exact ⟨(.inr (hk.1.1)), hk.2⟩ | (revert hk; (try simp only [and_imp]); intros; repeat' (first | assumption | apply zfj | exact .inr (by assumption)))))).2.1 (Kd.R_F (zav (ok' := (fun k_ => (P0_4_ k_ ∨ w.heap.size ≤ k_) ∧ k_ ≠ gb555)) (zcb (HO575.out) BK555.out (by decide)) (fun k_ hk => by first | exact ⟨(.inr (hk.1.1)), hk.2⟩ | (revert hk; (try simp only [and_imp]); intros; repeat' (first | assumption | apply zfj | exact .inr (by assumption)))))))) (Reps.one (show Kd.FK (Kd.slice 5 (Kd.int .u8)) _ _ l0_4 [.slice A0_4 l0_4.length c0_4] from (Kd.FK_slice_mk (zfy (zfm (ok' := (fun k_ => (P0_4_ k_ ∨ w.heap.size ≤ k_) ∧ k_ ≠ gb555)) (HO_556004.out) (fun k_ hk => by first | exact ⟨hk.1, hk.2.2.2.2.2.2⟩ | (revert hk; (try simp only [and_imp]); intros; repeat' (first | assumption | apply zfj | exact .inr (by assumption)))))).2.1 (Kd.V_F (zfm (ok' := (fun k_ => (P0_4_ k_ ∨ w.heap.size ≤ k_) ∧ k_ ≠ gb555)) (HO_556004.out) (fun k_ hk => by first | exact ⟨hk.1, hk.2.2.2.2.2.2⟩ | (revert hk; (try simp only [and_imp]); intros; repeat' (first | assumption | apply zfj | exact .inr (by assumption)))))))) (Reps.none _ _))))))))
        intro v577 w34 ho35 hb hg_ hnew_
        clear hg_ hnew_
        (first | rw [← Ny576.out] at ho35 | (simp only [Int.reduceToNat] at ho35; rw [← Ny576.out] at ho35))
        have n_ := jA4 (zfo (qV HO_556004.out) (Kd.N_base ho35) hb) (Kd.N_lower ho35 (zak (bs1 GE555.out))) (jbb BK555.out hb) (zab (bs1 GE555.out) hb)
        clear HO_556004 BK555 HB HO566 HO569 HO572 HO575 HO_3
        obtain ⟨HO_556004, HO578, BK555, HB⟩ := n_
        clear hb ho35
        refine hK.out _ _ ⟨.slice Ao29 y564.length co29, .slice Ao31 y567.length co31, .slice Ao32 t570.length co32, .slice Ao33 t573.length co33, v577, v580, m20_, (by rw [ha.out]; exact zfx 12 hb_ rfl rfl rfl), jou (up_self b 18), jou (up_self b 18), (pB BK555.out), (bs1 GE555.out), jo3 (up_self b 18), jo3 (up_self b 18), jo3 (up_self b 18), jo3 (up_self b 18), fun _ => (pN HO578.out), fun _ => (mqV HO_556004.out), jof (hoff 19), jof (hoff 20)⟩
       refine zfw ?_ ?_
       ·rintro b a w' ⟨v565, v568, v571, v574, v577, v580, m20_, ha, Q_HO_3, Q_HO_556004, Q_BK555, Q_HB, Q_HO566, Q_HO569, Q_HO572, Q_HO575, Q_HO578, Q_HO_556004_e18, Q_HO581, Q_X20_⟩ hb_ hon hoff
        refine ⟨_, rfl, fun K hK => ?_⟩
        have e36 : a.tmps[36]? = some (v577) := by rw [ha]; exact putSel_on (e := (18, 36, v577)) 12 rfl rfl (hon 18 (by kernel_rfl)) rfl
        replace ha := Aside0.mk ha
        have BK555 := Aside0.mk Q_BK555
        have HB := Aside0.mk Q_HB
        have HO578 := Aside0.mk (Q_HO578 (hon 18 (by kernel_rfl)))
        have HO_556004 := Aside0.mk (Q_HO_556004_e18 (hon 18 (by kernel_rfl)))
        obtain ⟨Ao36, co36, eo36⟩ := Kd.N_slice HO578.out
        (first | subst eo36 | (injection eo36 with f1_ f2_ f3_; have f4_ := f1_.symm; have f5_ := f3_.symm; clear f1_ f2_ f3_; subst f4_; subst f5_))
        refine goes_ Try.func109 (by kernel_rfl) rfl #[.slice Ao36 y576.length co36] (by rfl) rfl rfl (by first | (simp only [zdw, zep, zew, Act.eval, Array.getD_eq_getD_getElem?, Option.getD_some, e36]; done) | (simp only [zdw, zep, zew, Act.eval, Array.getD_eq_getD_getElem?, Option.getD_some, e36]; rfl)) ?_
        with_reducible refine (impl_joined.calls _ _ y576 t579 _ ?side1 ?side2 A18.out).mono ?_
        (case side1 => repeat (first | exact (Kd.N_reads' HO578.out).2.2 | (with_reducible refine zcv ?_ _) | (with_reducible refine zdi ?_ _) | (with_reducible refine zdu ?_)))
        (case side2 => exact (Kd.N_reads' HO578.out).2.1)
        rintro e w37 ⟨v580, rfl, ho0, hb⟩
        refine ⟨_, rfl, ?_⟩
        have n_ := jA5 (zfo (qV HO_556004.out) (zbe ho0) hb) (Kd.N_elder' (pN HO578.out) (zbe ho0) hb) (zbc (Kd.R_newM (M := fun k_ => (w.heap.size ≤ k_)) ho0 (zak (bs1 GE555.out)) (fun k_ h_ => h_)) (zak (bs1 GE555.out))) (jbb BK555.out hb) (zab (bs1 GE555.out) hb)
        clear HO_556004 HO578 BK555 HB
        obtain ⟨HO_556004, HO578, HO581, BK555, HB⟩ := n_
        (try clear hb)
        (try clear hb2)
        (try clear hk)
        (try clear hi)
        (try clear ho0)
        refine hK.out _ _ ⟨v565, v568, v571, v574, .slice Ao36 y576.length co36, v580, m20_, (by rw [ha.out]; exact zfx 13 hb_ rfl rfl rfl), jof (hon 18), jof (hon 18), (pB BK555.out), (bs1 GE555.out), jo2 (hon 18), jo2 (hon 18), jo2 (hon 18), jo2 (hon 18), fun _ => (mqN HO578.out), fun _ => (mqV HO_556004.out), fun _ => (mqR HO581.out), jof (hoff 20)⟩
       refine zfw ?_ ?_
       ·rintro b a w' ⟨v565, v568, v571, v574, v577, v580, m20_, ha, Q_HO_3, Q_HO_556004, Q_BK555, Q_HB, Q_HO566, Q_HO569, Q_HO572, Q_HO575, Q_HO578, Q_HO_556004_e18, Q_HO581, Q_X20_⟩ hb_ hon hoff
        refine ⟨_, rfl, fun K hK => ?_⟩
        have e37 : a.tmps[37]? = some (v580) := by rw [ha]; exact putSel_on (e := (19, 37, v580)) 13 rfl rfl (hon 19 (by kernel_rfl)) rfl
        replace ha := Aside0.mk ha
        have BK555 := Aside0.mk Q_BK555
        have HB := Aside0.mk Q_HB
        have HO578 := Aside0.mk (Q_HO578 (hon 18 (by kernel_rfl)))
        have HO_556004 := Aside0.mk (Q_HO_556004_e18 (hon 18 (by kernel_rfl)))
        have HO581 := Aside0.mk (Q_HO581 (hon 19 (by kernel_rfl)))
        refine value_ (w1 := w') (v := v580) (by rfl) rfl ?_ ?_
        ·go_simp
         (try simp only [i64_w])
         try rfl
        refine hK.out _ _ ⟨v565, v568, v571, v574, v577, v580, (v580), (by rw [ha.out]; exact zfx 14 hb_ rfl rfl rfl), jof (hon 18), jof (hon 18), Q_BK555, Q_HB, jo2 (hon 18), jo2 (hon 18), jo2 (hon 18), jo2 (hon 18), Q_HO578, Q_HO_556004_e18, Q_HO581, fun _ => rfl⟩
       exact steps_nil
      rintro b a w37 hall ⟨v565, v568, v571, v574, v577, v580, m20_, ha, Q_HO_3, Q_HO_556004, Q_BK555, Q_HB, Q_HO566, Q_HO569, Q_HO572, Q_HO575, Q_HO578, Q_HO_556004_e18, Q_HO581, Q_X20_⟩
      clear BK555 HB HO_3 HO_556004
      have hb1_ := hall 1 (by kernel_rfl)
      have hb2_ := hall 2 (by kernel_rfl)
      have hb3_ := hall 3 (by kernel_rfl)
      have hb6_ := hall 6 (by kernel_rfl)
      have hb7_ := hall 7 (by kernel_rfl)
      have hb8_ := hall 8 (by kernel_rfl)
      have hb10_ := hall 10 (by kernel_rfl)
      have hb11_ := hall 11 (by kernel_rfl)
      have hb13_ := hall 13 (by kernel_rfl)
      have hb14_ := hall 14 (by kernel_rfl)
      have hb15_ := hall 15 (by kernel_rfl)
      have hb17_ := hall 17 (by kernel_rfl)
      have hb18_ := hall 18 (by kernel_rfl)
      have hb19_ := hall 19 (by kernel_rfl)
      have hb20_ := hall 20 (by kernel_rfl)
      subst ha
      obtain rfl := Q_X20_ hb20_
      simp only [putSel, hb1_, hb2_, hb3_, hb6_, hb7_, hb8_, hb10_, hb11_, hb13_, hb14_, hb15_, hb17_, hb18_, hb19_, hb20_, if_true, Act.put, zal, zaw, zax]
      clear Q_HO_3
      clear Q_HO_556004
      have BK555 := Aside0.mk Q_BK555
      clear Q_BK555
      have HB := Aside0.mk Q_HB
      clear Q_HB
      clear Q_HO566
      clear Q_HO569
      clear Q_HO572
      clear Q_HO575
      have HO578 := Aside0.mk (Q_HO578 hb18_)
      clear Q_HO578
      have HO_556004 := Aside0.mk (Q_HO_556004_e18 hb18_)
      clear Q_HO_556004_e18
      have HO581 := Aside0.mk (Q_HO581 hb19_)
      clear Q_HO581
      clear hall hb1_ hb2_ hb3_ hb6_ hb7_ hb8_ hb10_ hb11_ hb13_ hb14_ hb15_ hb17_ hb18_ hb19_ hb20_
      obtain ⟨Ao38, co38, eo38⟩ := zbm HO581.out
      subst eo38
      try go_wp2_with (first | (refine jgc 110 ?_; refine jgs 41 Try.func110 #[.int .i64 (t579.length : Int), .int .i64 2] ?_; (with_reducible refine (impl_Great.calls kj4 (t579.length : Int) 2 t582 _ A19.out).mono ?_); rintro e w39 ⟨v583, rfl, ho0, hb⟩; refine ⟨_, rfl, ?_⟩; have n_ := jA6 (zfo (qV HO_556004.out) (zbe ho0) hb) (Kd.N_elder' (pN HO578.out) (zbe ho0) hb) (zbr (qR HO581.out) (zbe ho0) hb) (zbc (zcz (Kd.R_newM (M := fun k_ => (w.heap.size ≤ k_)) ho0 (zak (bs1 GE555.out)) (fun k_ h_ => h_)) (zcd (qR HO581.out))) (zak (bs1 GE555.out))) (jbb BK555.out hb) (zab (bs1 GE555.out) hb); clear HO_556004 HO578 HO581 BK555 HB; obtain ⟨HO_556004, HO578, HO581, HO584, BK555, HB⟩ := n_; (try clear hb); (try clear hb2); (try clear hk); (try clear hi); (try clear ho0); obtain ⟨Ao41, co41, eo41⟩ := zbm HO584.out; subst eo41) | ((with_reducible refine zcc (b := .append) (xs := #[.tmp 38, .tmp 41]) rfl ?_); at_builtin; refine zef (Kd.int .u8) (w0 := w) w.heap.size rfl (.tmp 38) (.tmp 41) 29 5 (.int .u8 0) 1 rfl Try.underlying29 info5 rfl (by decide) (by omega) (.slice Ao38 t579.length co38) t579 t582 _ _ _ (fun k_ => (w.heap.size ≤ k_) ∧ some k_ ≠ (.slice Ao41 t582.length co41 : Value).ownBlock) (fun _ => False) rfl rfl ?aO ?aR (fun _ _ h => h) (fun _ h => h.elim) ?aF ?aB ?aS ?aL ?_; (case aR => repeat (first | exact (zbq HO584.out).2.2 | (with_reducible refine zcv ?_ _) | (with_reducible refine zdi ?_ _) | (with_reducible refine zdu ?_))); (case aB => exact (bs1 GE555.out)); (case aF => exact (fun k_ hk => by first | exact ⟨(zeb (zak (bs1 GE555.out)) hk), zdn (zcd (qR HO584.out)) k_ hk⟩ | (revert hk; (try simp only [and_imp]); intros; repeat' (first | assumption | apply zfj | exact .inr (by assumption))))); (case aO => exact (qR HO581.out)); (case aS => exact (zak (bs1 GE555.out))); (case aL => have := LMc20.out; omega); intro v586 w40 ho hb hg hat; rw [← Ny585.out] at ho; have n0_ := Aside0.mk (Kd.V_afterv (ok := (fun k_ => (P0_4_ k_ ∨ w.heap.size ≤ k_) ∧ some k_ ≠ (v577 : Value).ownBlock ∧ some k_ ≠ (.slice Ao41 t582.length co41 : Value).ownBlock ∧ k_ ≠ gb555)) (by (with_reducible repeat (first | apply Kd.V_alloc | apply Kd.V_drewN | apply Kd.V_drew)); exact zfm (Kd.V_old hs0_4 HB.out) (fun k_ hk => (by repeat' (first | apply zfj | exact .inl hk.1 | exact hk.1 | exact fun e_ => Nat.lt_irrefl _ (zck (Eq.subst (motive := fun q_ => q_ < w.heap.size) e_ hk.2) GE555.out) | exact fun e_ => Nat.lt_irrefl _ (zck hk.2 (zbe HO578.out _ e_.symm)) | exact fun e_ => Nat.lt_irrefl _ (zck hk.2 (Kd.N_base HO578.out _ e_.symm)) | exact fun e_ => Nat.lt_irrefl _ (zck hk.2 (zbe HO581.out _ e_.symm)) | exact fun e_ => Nat.lt_irrefl _ (zck hk.2 (Kd.N_base HO581.out _ e_.symm)) | exact fun e_ => Nat.lt_irrefl _ (zck hk.2 (zbe HO584.out _ e_.symm)) | exact fun e_ => Nat.lt_irrefl _ (zck hk.2 (Kd.N_base HO584.out _ e_.symm)) )))) hg hat); have n1_ := Aside0.mk (zei (pB BK555.out) hg (zfn HO581.out BK555.out (by decide))); have n2_ := Aside0.mk trivial; have n3_ := Aside0.mk (zdg (ok := (fun k_ => (w.heap.size ≤ k_))) (mqR HO584.out) hg hat); have n4_ := Aside0.mk (hb); have n5_ := Aside0.mk (ho); clear HO_556004; clear BK555; clear HO578; clear HO584; clear HB; clear HO581; have HO_556004 := n0_; have BK555 := n1_; have HO578 := n2_; have HO584 := n3_; have HB := n4_; have HO587 := n5_; clear n0_ n1_ n2_ n3_ n4_ n5_; clear ho hb hg hat))
      go_ret
      exact ⟨_, jex, by (with_reducible repeat (first | apply zbo | apply zbp | apply zbs)); exact zav HO587.out (fun _ hk => by first | exact hk.1 | (revert hk; (try simp only [and_imp]); intros; repeat' (first | assumption | apply zfj | exact .inr (by assumption)))), (bs1 GE555.out)⟩
     ·rw [if_neg c20] at H
      exact absurd H (by simp)
  ·rw [if_neg c4] at H
   exact absurd H (by simp)
 ·replace c3 := zbn.mpr c3
  subst c3
  rw [if_neg (show ¬ (false = true) by decide)] at H
  obtain rfl := Option.some.inj H
  go_enter Try.func49, Try.ntmps49
  go_wp2_with (first | (refine jgd 1 ?_; refine bx 1 (#[.int .i64 a0_0, .string a0_1, .int .i64 a0_2, .int .i64 a0_3, .slice A0_4 l0_4.length c0_4]) 48 ?_; intro gb555 hg w42 hbox hb; have xb_ := below_ofs bq hb; have n_ := jA5 (zgi (Kd.V_elderB (qV HO0_4.out) gb555 (zej hg.symm)) hb) (zab xb_ hb) (hbox) (ge0 hg xb_ : w.heap.size ≤ gb555) (ge0 hg xb_ : w.heap.size ≤ gb555); clear HO0_4 HB; obtain ⟨HO0_4, HB, BK555, GW555, GE555⟩ := n_; clear xb_ hb hbox hg; obtain ⟨hcz43_0, hcz43_1, hcz43_2, hcz43_3, hcz43_4, hfz43_0, hfz43_1, hfz43_2, hfz43_3, hfz43_4⟩ := cz5 BK555.out) | (refine jgc 36 ?_; refine jgs 6 Try.func36 #[.agg #[.int .i64 a0_0, .string a0_1, .int .i64 a0_2, .int .i64 a0_3, .slice A0_4 l0_4.length c0_4]] ?_; (with_reducible refine (impl_LineOk.calls k a0_0 a0_1 a0_2 a0_3 _ _ l0_4 false _ ?side1 ?side2 A2.out).mono ?_); (case side1 => repeat (first | exact (zfy HO0_4.out).2.2 | (with_reducible first | apply zcv | apply zdi | apply zdu))); (case side2 => exact (zfy HO0_4.out).2.1); rintro e w44 ⟨rfl, hb⟩; refine ⟨_, rfl, ?_⟩; have n_ := jA3 (zgi (qV HO0_4.out) hb) (jbb BK555.out hb) (zab (bs1 GE555.out) hb); clear HO0_4 BK555 HB; obtain ⟨HO0_4, BK555, HB⟩ := n_; (try clear hb); (try clear hb2); (try clear hk); (try clear hi)))
  go_ret
  exact ⟨_, jex, by first | exact zfz _ _ _ _ _ | exact Kd.N_nil _ _ _ _ _ | exact Kd.V_nil _ _ _ _ _ | exact Kd.Q_nil _ _ _ _ _ | exact Kd.S_nil _ _ _ _ _, (bs1 GE555.out)⟩
def bytes_Equal.f (l0 : List Int) (l1 : List Int) : Option (Bool) := some ((strOfNums l0).toList == (strOfNums l1).toList)
theorem bytes_Equal.calls (A0 : Option Addr) (c0 : Nat) (l0 : List Int) (A1 : Option Addr) (c1 : Nat) (l1 : List Int) (r : Bool) (w : World) (hr0 : Kd.C (Kd.int .u8) w A0 l0.length l0) (hc0 : l0.length ≤ c0) (hr1 : Kd.C (Kd.int .u8) w A1 l1.length l1) (hc1 : l1.length ≤ c1) (h : bytes_Equal.f l0 l1 = some r) :
  Calls Try.prog 127 #[.slice A0 l0.length c0, .slice A1 l1.length c1] w fun e w' => e = .returned (.bool r) ∧ Drawn0 w w' := by
 have HR0 := Aside0.mk hr0
 have HC0 := Aside0.mk hc0
 clear hr0 hc0
 have HR1 := Aside0.mk hr1
 have HC1 := Aside0.mk hc1
 clear hr1 hc1
 have H : (some ((strOfNums l0).toList == (strOfNums l1).toList)) = some r := h
 clear h
 obtain rfl := Option.some.inj H
 have hcv3 := Kd.C_string (P := Try.prog) (A := A0) (c := c0) Try.underlying29 Try.underlying5 Try.underlying9 HR0.out
 have hcv4 := Kd.C_string (P := Try.prog) (A := A1) (c := c1) Try.underlying29 Try.underlying5 Try.underlying9 HR1.out
 go_enter Try.func127, Try.ntmps127
 go_wp2
 go_ret
 exact ⟨by first | rfl | (simp; done) | (simp [*]; done), by repeat (first | exact Drawn0.refl _ | apply Drawn0.step)⟩
def impl_Same.f (l0 : List Int) (l1 : List Int) : Option (Bool) := (bytes_Equal.f l0 l1).bind fun t669 => (some t669)
theorem impl_Same.calls (A0 : Option Addr) (c0 : Nat) (l0 : List Int) (A1 : Option Addr) (c1 : Nat) (l1 : List Int) (r : Bool) (w : World) (hr0 : Kd.C (Kd.int .u8) w A0 l0.length l0) (hc0 : l0.length ≤ c0) (hr1 : Kd.C (Kd.int .u8) w A1 l1.length l1) (hc1 : l1.length ≤ c1) (h : impl_Same.f l0 l1 = some r) :
  Calls Try.prog 75 #[.slice A0 l0.length c0, .slice A1 l1.length c1] w fun e w' => e = .returned (.bool r) ∧ Drawn0 w w' := by
 have HR0 := Aside0.mk hr0
 have HC0 := Aside0.mk hc0
 clear hr0 hc0
 have HR1 := Aside0.mk hr1
 have HC1 := Aside0.mk hc1
 clear hr1 hc1
 have H : ((bytes_Equal.f l0 l1).bind fun t669 => (some t669)) = some r := h
 clear h
 obtain ⟨t669, A3, H⟩ := bnd H
 obtain rfl := Option.some.inj H
 go_enter Try.func75, Try.ntmps75
 go_wp2_with (first | (refine jgc 127 ?_; refine jgs 7 Try.func127 #[.slice A0 l0.length c0, .slice A1 l1.length c1] ?_; (with_reducible refine (bytes_Equal.calls _ _ l0 _ _ l1 t669 _ ?side1 ?side2 ?side3 ?side4 A3.out).mono ?_); (case side1 => repeat (first | exact HR0.out | (with_reducible first | apply zcv | apply zdi | apply zdu))); (case side2 => exact HC0.out); (case side3 => repeat (first | exact HR1.out | (with_reducible first | apply zcv | apply zdi | apply zdu))); (case side4 => exact HC1.out); rintro e w' ⟨rfl, ⟨nd, rfl⟩⟩; refine ⟨_, rfl, ?_⟩))
 go_ret
 exact ⟨by first | rfl | (simp; done) | (simp [*]; done), by repeat (first | exact Drawn0.refl _ | apply Drawn0.step)⟩
end Go.Proofs.Ytlalkldjpniakaa.P
