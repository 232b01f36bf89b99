import Derived.Test.Ytlalkldjpniakaaqm3
namespace Go.Proofs.Ytlalkldjpniakaa.P
open Go.RowKit Go.Proofs.YtlalkldjpniakaaW.PrintWords Go.Proofs.YtlalkldjpniakaaW.PrintLast Go.Proofs.YtlalkldjpniakaaW.PrintMore
attribute [local go_sem] zcm zcn zdd zde zbw zbx zco zcp   -- for this text's walks alone
set_option linter.unusedVariables false
set_option linter.unusedSimpArgs false
set_option maxHeartbeats 8000000
set_option maxRecDepth 100000

def laws_eqItem.f (k : Nat) (a0_0 : ByteArray) (a0_1 : Int) (a0_2 : Int) (l0_3 : List Int) (a1_0 : ByteArray) (a1_1 : Int) (a1_2 : Int) (l1_3 : List Int) : Option (Bool) := if a0_0.toList = a1_0.toList then (if a0_1 = a1_1 then (if a0_2 = a1_2 then ((laws_eqByteS.f k l0_3 l1_3).bind fun t135 => (if t135 = true then (some true) else (some false))) else (some false)) else (some false)) else (some false)
theorem laws_eqItem.mono : ∀ a0 a1 a2 a3 a4 a5 a6 a7 k, LeO (laws_eqItem.f k a0 a1 a2 a3 a4 a5 a6 a7) (laws_eqItem.f (k + 1) a0 a1 a2 a3 a4 a5 a6 a7) := by
 intro a0 a1 a2 a3 a4 a5 a6 a7 k
 unfold laws_eqItem.f
 have m0 := @laws_eqByteS.mono
 exact mt
theorem laws_eqItem.wk {P : Prop} (h : P := by
 go_enter Try.func27, Try.ntmps27
 go_wp2_with (first | (refine jgd 2 ?_; refine bx 2 (#[.string a0_0, .int .i64 a0_1, .int .i64 a0_2, .slice A0_3 l0_3.length c0_3]) 34 ?_; intro gb133 hg w_ hbox hb; have xb_ := below_ofs bq hb; have n_ := jA4 (zab xb_ hb) (hbox) (ge0 hg xb_ : w.heap.size ≤ gb133) (ge0 hg xb_ : w.heap.size ≤ gb133); clear HB; obtain ⟨HB, BK133, GW133, GE133⟩ := n_; clear xb_ hb hbox hg) | (refine jgd 3 ?_; refine bx 3 (#[.string a1_0, .int .i64 a1_1, .int .i64 a1_2, .slice A1_3 l1_3.length c1_3]) 34 ?_; intro gb134 hg w_ hbox hb; have n_ := jA7 (jbb BK133.out hb) (zab (bs1 GE133.out) hb) (hbox) (ge0 hg (bs1 GE133.out) : w.heap.size ≤ gb134) (ge0 hg (bs1 GE133.out) : w.heap.size ≤ gb134) (nl hg (pB BK133.out) : gb133 ≠ gb134) (ng hg (pB BK133.out) : gb134 ≠ gb133); clear BK133 HB; obtain ⟨BK133, HB, BK134, GW134, GE134, NB133_134, NB134_133⟩ := n_; clear hb hbox hg; have hnb_ := NB133_134.out; have hnc_ := NB134_133.out; obtain ⟨c0, c1, c2, c3, z0, z1, z2, z3⟩ := cz4 BK133.out; obtain ⟨c0, c1, c2, c3, z0, z1, z2, z3⟩ := cz4 BK134.out) | (refine jgc 50 ?_; refine jgs 24 Try.func50 #[.slice A0_3 l0_3.length c0_3, .slice A1_3 l1_3.length c1_3] ?_; (with_reducible refine (laws_eqByteS.calls k _ _ l0_3 _ _ l1_3 _ _ ?side1 ?side2 ?side3 ?side4 A6.out).mono ?_); (case side1 => exact jcs HR0_3.out); (case side2 => exact HC0_3.out); (case side3 => exact jcs HR1_3.out); (case side4 => exact HC1_3.out); rintro e w' ⟨rfl, ⟨nd, rfl⟩⟩; refine ⟨_, rfl, ?_⟩))
 go_ret
 exact ⟨jex, (bs2 GE133.out GE134.out)⟩) : P := h
theorem laws_eqItem.calls (k : Nat) (a0_0 : ByteArray) (a0_1 : Int) (a0_2 : Int) (A0_3 : Option Addr) (c0_3 : Nat) (l0_3 : List Int) (a1_0 : ByteArray) (a1_1 : Int) (a1_2 : Int) (A1_3 : Option Addr) (c1_3 : Nat) (l1_3 : List Int) (r : Bool) (w : World) (hr0_3 : Kd.C (Kd.int .u8) w A0_3 l0_3.length l0_3) (hc0_3 : l0_3.length ≤ c0_3) (hr1_3 : Kd.C (Kd.int .u8) w A1_3 l1_3.length l1_3) (hc1_3 : l1_3.length ≤ c1_3) (h : laws_eqItem.f k a0_0 a0_1 a0_2 l0_3 a1_0 a1_1 a1_2 l1_3 = some r) :
  Calls Try.prog 27 #[.agg #[.string a0_0, .int .i64 a0_1, .int .i64 a0_2, .slice A0_3 l0_3.length c0_3], .agg #[.string a1_0, .int .i64 a1_1, .int .i64 a1_2, .slice A1_3 l1_3.length c1_3]] w fun e w' => e = .returned (.bool r) ∧ Below w.heap.size w w' := by
 have hu34 := Try.underlying34
 have HR0_3 := Aside0.mk hr0_3
 have HC0_3 := Aside0.mk hc0_3
 clear hr0_3 hc0_3
 have HR1_3 := Aside0.mk hr1_3
 have HC1_3 := Aside0.mk hc1_3
 clear hr1_3 hc1_3
 have HB := Aside0.mk (zbk w.heap.size w)
 have H : (if a0_0.toList = a1_0.toList then (if a0_1 = a1_1 then (if a0_2 = a1_2 then ((laws_eqByteS.f k l0_3 l1_3).bind fun t135 => (if t135 = true then (some true) else (some false))) else (some false)) else (some false)) else (some false)) = some r := h
 clear h
 by_cases c3 : a0_0.toList = a1_0.toList
 ·rw [if_pos c3] at H
  have c3b0 := beqT c3
  have c3b1 := zau.mpr c3
  clear c3
  by_cases c4 : a0_1 = a1_1
  ·rw [if_pos c4] at H
   have c4b0 := beqT c4
   have c4b1 := zau.mpr c4
   clear c4
   by_cases c5 : a0_2 = a1_2
   ·rw [if_pos c5] at H
    have c5b0 := beqT c5
    have c5b1 := zau.mpr c5
    clear c5
    obtain ⟨t135, A6, H⟩ := bnd H
    by_cases c7 : t135 = true
    ·subst c7
     rw [if_pos rfl] at H
     obtain rfl := Option.some.inj H
     exact laws_eqItem.wk
    ·replace c7 := zbn.mpr c7
     subst c7
     rw [if_neg (show ¬ (false = true) by decide)] at H
     obtain rfl := Option.some.inj H
     exact laws_eqItem.wk
   ·rw [if_neg c5] at H
    have c5b0 := zao.mpr c5
    have c5b1 := zcs.mpr c5
    obtain rfl := Option.some.inj H
    exact laws_eqItem.wk
  ·rw [if_neg c4] at H
   have c4b0 := zao.mpr c4
   have c4b1 := zcs.mpr c4
   obtain rfl := Option.some.inj H
   exact laws_eqItem.wk
 ·rw [if_neg c3] at H
  have c3b0 := zao.mpr c3
  have c3b1 := zcs.mpr c3
  obtain rfl := Option.some.inj H
  exact laws_eqItem.wk
def laws_eqItemS.l0 : Nat → List (S34) → List (S34) → Int → Option (Bool)
 | 0, _, _, _ => none
 | k + 1, x0, x1, x5 => if x5 < (x0.length : Int) then (if 0 ≤ x5 then (if x5 < (x1.length : Int) then ((laws_eqItem.f k ((rd_T34 x0 x5).f0) ((rd_T34 x0 x5).f1) ((rd_T34 x0 x5).f2) ((rd_T34 x0 x5).f3) ((rd_T34 x1 x5).f0) ((rd_T34 x1 x5).f1) ((rd_T34 x1 x5).f2) ((rd_T34 x1 x5).f3)).bind fun t138 => (if t138 = true then (laws_eqItemS.l0 k x0 x1 (wrap64 (x5 + 1))) else (some false))) else (none)) else (none)) else (some true)
def laws_eqItemS.f (k : Nat) (l0 : List (S34)) (l1 : List (S34)) : Option (Bool) := if (l0.length : Int) = (l1.length : Int) then (laws_eqItemS.l0 k l0 l1 0) else (some false)
theorem laws_eqItemS.mono_l : ∀ k, (∀ y0 y1 y2, LeO (laws_eqItemS.l0 k y0 y1 y2) (laws_eqItemS.l0 (k + 1) y0 y1 y2))
 | 0 => fun _ _ _ r h => by simp [laws_eqItemS.l0] at h
 | k + 1 => by
  have ih0 := laws_eqItemS.mono_l k
  ·intro y0 y1 y2
   unfold laws_eqItemS.l0
   have m0 := @laws_eqItem.mono
   exact mt
theorem laws_eqItemS.mono : ∀ a0 a1 k, LeO (laws_eqItemS.f k a0 a1) (laws_eqItemS.f (k + 1) a0 a1) := by
 intro a0 a1 k
 have ih0 := laws_eqItemS.mono_l k
 unfold laws_eqItemS.f
 have m0 := @laws_eqItem.mono
 exact mt
def laws_eqItemS.T6 : Bool × List (List Nat × List Nat) := (true, [([], []), ([], []), ([0, 1], [0, 1]), ([2], [2]), ([], []), ([], []), ([4, 5], [4, 5]), ([6], [6]), ([3, 7], [3, 7]), ([8], [8])])
def laws_eqItemS.B6 : List Nat := [0, 0, 3, 7, 0, 0, 48, 112, 255, 511]
theorem laws_eqItemS.tab6 : rtab .any (opsOf Try.f22 6) = laws_eqItemS.T6 := by kernel_rfl
theorem laws_eqItemS.bits6 : waitsOk laws_eqItemS.T6.2 laws_eqItemS.B6 = true := by kernel_rfl
theorem laws_eqItemS.calls (k : Nat) (A0 : Option Addr) (c0 : Nat) (l0 : List (S34)) (A1 : Option Addr) (c1 : Nat) (l1 : List (S34)) (r : Bool) (w : World) (hr0 : Kd.C k34 w A0 l0.length l0) (hc0 : l0.length ≤ c0) (hr1 : Kd.C k34 w A1 l1.length l1) (hc1 : l1.length ≤ c1) (h : laws_eqItemS.f k l0 l1 = some r) :
  Calls Try.prog 22 #[.slice A0 l0.length c0, .slice A1 l1.length c1] w fun e w' => e = .returned (.bool r) ∧ Below w.heap.size w w' := by
 have hu34 := Try.underlying34
 have HR0 := Aside0.mk hr0
 have HC0 := Aside0.mk hc0
 clear hr0 hc0
 have HR1 := Aside0.mk hr1
 have HC1 := Aside0.mk hc1
 clear hr1 hc1
 have HB := Aside0.mk (zbk w.heap.size w)
 have H : (if (l0.length : Int) = (l1.length : Int) then (laws_eqItemS.l0 k l0 l1 0) else (some false)) = some r := h
 clear h
 by_cases c3 : (l0.length : Int) = (l1.length : Int)
 ·rw [if_pos c3] at H
  have c3b0 := beqT c3
  have c3b1 := zau.mpr c3
  have c3b2 : (l0.length == l1.length) = true := by first | simpa using c3 | (simp at c3 ⊢; omega)
  clear c3
  have H' := Aside0.mk H
  clear H
  go_enter Try.func22, Try.ntmps22
  go_wp2
  go_loopg [5] k (fun kq v5 w' => ∃ (x5_1 : Int), v5 = .int .i64 x5_1 ∧ Aside0 (laws_eqItemS.l0 kq l0 l1 x5_1 = some r) ∧ Aside0 (kq ≤ k) ∧ Aside0 (Below w.heap.size w w'))
  case atStart => exact ⟨(0), jer, H', ⟨zaf _⟩, ⟨bq⟩⟩
  case round =>
   clear H'
   try clear c1
   try clear c2
   try clear p2
   try clear c3
   try clear c3b0
   try clear c3b1
   try clear c3b2
   obtain ⟨x5_1, rfl, HA, HK1, HB⟩ := hrel
   cases gk with
   | zero => exact absurd HA.out (by simp [laws_eqItemS.l0])
   | succ k1 =>
    have H := HA.out
    clear HA
    simp only [laws_eqItemS.l0] at H
    by_cases c4 : x5_1 < (l0.length : Int)
    ·rw [if_pos c4] at H
     have c4b0 := zae c4
     clear c4
     by_cases c5 : 0 ≤ x5_1
     ·rw [if_pos c5] at H
      have c5b0 := zae c5
      clear c5
      by_cases c6 : x5_1 < (l1.length : Int)
      ·rw [if_pos c6] at H
       have c6b0 := zae c6
       clear c6
       obtain ⟨t138, A7, H⟩ := bnd H
       by_cases c8 : t138 = true
       ·subst c8
        rw [if_pos rfl] at H
        have H' := Aside0.mk H
        clear H
        try go_wp2
        replace HB := Aside0.mk (zev HB.out)
        obtain ⟨p136, q136, ad136, A136_3, c136_3, e136, hw136_0, hw136_1, hw136_2, hw136_3, hx136_0, hx136_1, hx136_2, hx136_3, HC136_3, HR136_3⟩ := jelw HR0.out HB.out x5_1
        cases e136
        obtain ⟨p137, q137, ad137, A137_3, c137_3, e137, hw137_0, hw137_1, hw137_2, hw137_3, hx137_0, hx137_1, hx137_2, hx137_3, HC137_3, HR137_3⟩ := jelw HR1.out HB.out x5_1
        cases e137
        refine start_ (n := 10) (S := fun w' => w'.cell? (ad136.add ((x5_1).toNat * 4)) = some (.string ((rd_T34 l0 x5_1).f0)) ∧ w'.cell? ⟨(ad136.add ((x5_1).toNat * 4)).block, (ad136.add ((x5_1).toNat * 4)).off + 1, none⟩ = some (.int .i64 ((rd_T34 l0 x5_1).f1)) ∧ w'.cell? ⟨(ad136.add ((x5_1).toNat * 4)).block, (ad136.add ((x5_1).toNat * 4)).off + 2, none⟩ = some (.int .i64 ((rd_T34 l0 x5_1).f2)) ∧ w'.cell? ⟨(ad136.add ((x5_1).toNat * 4)).block, (ad136.add ((x5_1).toNat * 4)).off + 3, none⟩ = some (.slice A136_3 ((rd_T34 l0 x5_1).f3).length c136_3) ∧ w'.cell? (ad137.add ((x5_1).toNat * 4)) = some (.string ((rd_T34 l1 x5_1).f0)) ∧ w'.cell? ⟨(ad137.add ((x5_1).toNat * 4)).block, (ad137.add ((x5_1).toNat * 4)).off + 1, none⟩ = some (.int .i64 ((rd_T34 l1 x5_1).f1)) ∧ w'.cell? ⟨(ad137.add ((x5_1).toNat * 4)).block, (ad137.add ((x5_1).toNat * 4)).off + 2, none⟩ = some (.int .i64 ((rd_T34 l1 x5_1).f2)) ∧ w'.cell? ⟨(ad137.add ((x5_1).toNat * 4)).block, (ad137.add ((x5_1).toNat * 4)).off + 3, none⟩ = some (.slice A137_3 ((rd_T34 l1 x5_1).f3).length c137_3)) (ds := []) #[false, false, false, false, false, false, false, false, false, false] (by kernel_rfl) rfl rfl ⟨(jcB HB.out hw136_0 :), (jcB HB.out hw136_1 :), (jcB HB.out hw136_2 :), (jcB HB.out hw136_3 :), (jcB HB.out hw137_0 :), (jcB HB.out hw137_1 :), (jcB HB.out hw137_2 :), (jcB HB.out hw137_3 :)⟩ (fun hHeld => ?_); refine zgf laws_eqItemS.tab6 laws_eqItemS.bits6 (fun HT_ HW_ => ?_)
        generalize wr.drew = w9 at HB HR136_3 HR137_3 hx136_0 hx136_1 hx136_2 hx136_3 hx137_0 hx137_1 hx137_2 hx137_3 hHeld ⊢
        refine pu 0 17 HT_.out ?_
        refine pu 1 18 HT_.out ?_
        refine pu 2 19 HT_.out ?_
        refine pu 4 21 HT_.out ?_
        refine pu 5 22 HT_.out ?_
        refine pu 6 23 HT_.out ?_
        refine tk 3 20 HT_.out HW_.out hHeld ?_
        refine tk 7 24 HT_.out HW_.out hHeld ?_
        refine one_ (i := 8) (N := some 25) #[true, true, true, true, true, true, true, true, true, false] rfl rfl (one_of HT_.out (by kernel_rfl)) (by decide) (fun K hK => ?_)
        refine goes_ Try.func27 (by kernel_rfl) rfl #[.agg #[.string ((rd_T34 l0 x5_1).f0), .int .i64 ((rd_T34 l0 x5_1).f1), .int .i64 ((rd_T34 l0 x5_1).f2), .slice A136_3 ((rd_T34 l0 x5_1).f3).length c136_3], .agg #[.string ((rd_T34 l1 x5_1).f0), .int .i64 ((rd_T34 l1 x5_1).f1), .int .i64 ((rd_T34 l1 x5_1).f2), .slice A137_3 ((rd_T34 l1 x5_1).f3).length c137_3]] (by rfl) rfl rfl jhl ?_
        with_reducible refine (laws_eqItem.calls k1 ((rd_T34 l0 x5_1).f0) ((rd_T34 l0 x5_1).f1) ((rd_T34 l0 x5_1).f2) _ _ ((rd_T34 l0 x5_1).f3) ((rd_T34 l1 x5_1).f0) ((rd_T34 l1 x5_1).f1) ((rd_T34 l1 x5_1).f2) _ _ ((rd_T34 l1 x5_1).f3) true _ ?side1 ?side2 ?side3 ?side4 A7.out).mono ?_
        (case side1 => exact jcs HR136_3.out)
        (case side2 => exact HC136_3.out)
        (case side3 => exact jcs HR137_3.out)
        (case side4 => exact HC137_3.out)
        rintro e w10 ⟨rfl, hb⟩
        refine ⟨_, rfl, ?_⟩
        replace HB := Aside0.mk (zab bq hb)
        (try clear hb)
        (try clear hb2)
        (try clear hk)
        (try clear hi)
        refine hK.out _ _ ⟨(jcB HB.out hw136_0 :), (jcB HB.out hw136_1 :), (jcB HB.out hw136_2 :), (jcB HB.out hw136_3 :), (jcB HB.out hw137_0 :), (jcB HB.out hw137_1 :), (jcB HB.out hw137_2 :), (jcB HB.out hw137_3 :)⟩ (fun hHeld => ?_)
        clear hK K
        refine norm_ (a' := ?_) ?_ ?_
        rotate_left
        ·show Act.put _ (some 25) _ = _
         simp only [Act.put, zal, zaw, zax, i64_w, i32_w]
         rfl
        refine pu 9 26 HT_.out ?_
        refine done_ (done_of HT_.out (by kernel_rfl)) ?_
        try go_wp2
        go_roundg k1
        case measure => have := HK1.out; omega
        case rel => exact ⟨(wrap64 (x5_1 + 1)), jer, H', ⟨by have := HK1.out; omega⟩, ⟨bq⟩⟩
       ·replace c8 := zbn.mpr c8
        subst c8
        rw [if_neg (show ¬ (false = true) by decide)] at H
        obtain rfl := Option.some.inj H
        try go_wp2
        replace HB := Aside0.mk (zev HB.out)
        obtain ⟨p136, q136, ad136, A136_3, c136_3, e136, hw136_0, hw136_1, hw136_2, hw136_3, hx136_0, hx136_1, hx136_2, hx136_3, HC136_3, HR136_3⟩ := jelw HR0.out HB.out x5_1
        cases e136
        obtain ⟨p137, q137, ad137, A137_3, c137_3, e137, hw137_0, hw137_1, hw137_2, hw137_3, hx137_0, hx137_1, hx137_2, hx137_3, HC137_3, HR137_3⟩ := jelw HR1.out HB.out x5_1
        cases e137
        refine start_ (n := 10) (S := fun w' => w'.cell? (ad136.add ((x5_1).toNat * 4)) = some (.string ((rd_T34 l0 x5_1).f0)) ∧ w'.cell? ⟨(ad136.add ((x5_1).toNat * 4)).block, (ad136.add ((x5_1).toNat * 4)).off + 1, none⟩ = some (.int .i64 ((rd_T34 l0 x5_1).f1)) ∧ w'.cell? ⟨(ad136.add ((x5_1).toNat * 4)).block, (ad136.add ((x5_1).toNat * 4)).off + 2, none⟩ = some (.int .i64 ((rd_T34 l0 x5_1).f2)) ∧ w'.cell? ⟨(ad136.add ((x5_1).toNat * 4)).block, (ad136.add ((x5_1).toNat * 4)).off + 3, none⟩ = some (.slice A136_3 ((rd_T34 l0 x5_1).f3).length c136_3) ∧ w'.cell? (ad137.add ((x5_1).toNat * 4)) = some (.string ((rd_T34 l1 x5_1).f0)) ∧ w'.cell? ⟨(ad137.add ((x5_1).toNat * 4)).block, (ad137.add ((x5_1).toNat * 4)).off + 1, none⟩ = some (.int .i64 ((rd_T34 l1 x5_1).f1)) ∧ w'.cell? ⟨(ad137.add ((x5_1).toNat * 4)).block, (ad137.add ((x5_1).toNat * 4)).off + 2, none⟩ = some (.int .i64 ((rd_T34 l1 x5_1).f2)) ∧ w'.cell? ⟨(ad137.add ((x5_1).toNat * 4)).block, (ad137.add ((x5_1).toNat * 4)).off + 3, none⟩ = some (.slice A137_3 ((rd_T34 l1 x5_1).f3).length c137_3)) (ds := []) #[false, false, false, false, false, false, false, false, false, false] (by kernel_rfl) rfl rfl ⟨(jcB HB.out hw136_0 :), (jcB HB.out hw136_1 :), (jcB HB.out hw136_2 :), (jcB HB.out hw136_3 :), (jcB HB.out hw137_0 :), (jcB HB.out hw137_1 :), (jcB HB.out hw137_2 :), (jcB HB.out hw137_3 :)⟩ (fun hHeld => ?_); refine zgf laws_eqItemS.tab6 laws_eqItemS.bits6 (fun HT_ HW_ => ?_)
        generalize wr.drew = w11 at HB HR136_3 HR137_3 hx136_0 hx136_1 hx136_2 hx136_3 hx137_0 hx137_1 hx137_2 hx137_3 hHeld ⊢
        refine pu 0 17 HT_.out ?_
        refine pu 1 18 HT_.out ?_
        refine pu 2 19 HT_.out ?_
        refine pu 4 21 HT_.out ?_
        refine pu 5 22 HT_.out ?_
        refine pu 6 23 HT_.out ?_
        refine tk 3 20 HT_.out HW_.out hHeld ?_
        refine tk 7 24 HT_.out HW_.out hHeld ?_
        refine one_ (i := 8) (N := some 25) #[true, true, true, true, true, true, true, true, true, false] rfl rfl (one_of HT_.out (by kernel_rfl)) (by decide) (fun K hK => ?_)
        refine goes_ Try.func27 (by kernel_rfl) rfl #[.agg #[.string ((rd_T34 l0 x5_1).f0), .int .i64 ((rd_T34 l0 x5_1).f1), .int .i64 ((rd_T34 l0 x5_1).f2), .slice A136_3 ((rd_T34 l0 x5_1).f3).length c136_3], .agg #[.string ((rd_T34 l1 x5_1).f0), .int .i64 ((rd_T34 l1 x5_1).f1), .int .i64 ((rd_T34 l1 x5_1).f2), .slice A137_3 ((rd_T34 l1 x5_1).f3).length c137_3]] (by rfl) rfl rfl jhl ?_
        with_reducible refine (laws_eqItem.calls k1 ((rd_T34 l0 x5_1).f0) ((rd_T34 l0 x5_1).f1) ((rd_T34 l0 x5_1).f2) _ _ ((rd_T34 l0 x5_1).f3) ((rd_T34 l1 x5_1).f0) ((rd_T34 l1 x5_1).f1) ((rd_T34 l1 x5_1).f2) _ _ ((rd_T34 l1 x5_1).f3) false _ ?side1 ?side2 ?side3 ?side4 A7.out).mono ?_
        (case side1 => exact jcs HR136_3.out)
        (case side2 => exact HC136_3.out)
        (case side3 => exact jcs HR137_3.out)
        (case side4 => exact HC137_3.out)
        rintro e w12 ⟨rfl, hb⟩
        refine ⟨_, rfl, ?_⟩
        replace HB := Aside0.mk (zab bq hb)
        (try clear hb)
        (try clear hb2)
        (try clear hk)
        (try clear hi)
        refine hK.out _ _ ⟨(jcB HB.out hw136_0 :), (jcB HB.out hw136_1 :), (jcB HB.out hw136_2 :), (jcB HB.out hw136_3 :), (jcB HB.out hw137_0 :), (jcB HB.out hw137_1 :), (jcB HB.out hw137_2 :), (jcB HB.out hw137_3 :)⟩ (fun hHeld => ?_)
        clear hK K
        refine norm_ (a' := ?_) ?_ ?_
        rotate_left
        ·show Act.put _ (some 25) _ = _
         simp only [Act.put, zal, zaw, zax, i64_w, i32_w]
         rfl
        refine pu 9 26 HT_.out ?_
        refine done_ (done_of HT_.out (by kernel_rfl)) ?_
        try go_wp2
        go_ret
        exact ⟨jex, bq⟩
      ·rw [if_neg c6] at H
       exact absurd H (by simp)
     ·rw [if_neg c5] at H
      exact absurd H (by simp)
    ·rw [if_neg c4] at H
     have c4b0 := zas c4
     clear c4
     obtain rfl := Option.some.inj H
     go_wp2
     go_ret
     exact ⟨jex, bq⟩
 ·rw [if_neg c3] at H
  have c3b0 := zao.mpr c3
  have c3b1 := zcs.mpr c3
  have c3b2 : (l0.length == l1.length) = false := by first | simpa using c3 | (simp at c3 ⊢; omega)
  obtain rfl := Option.some.inj H
  go_enter Try.func22, Try.ntmps22
  go_wp2
  go_ret
  exact ⟨jex, bq⟩
def laws_eqPost.f (k : Nat) (l0_0 : List (S34)) (a0_1 : Int) (l0_2 : List Int) (a0_3 : Int) (l1_0 : List (S34)) (a1_1 : Int) (l1_2 : List Int) (a1_3 : Int) : Option (Bool) := (laws_eqItemS.f k l0_0 l1_0).bind fun t222 => (if t222 = true then (if a0_1 = a1_1 then ((laws_eqByteS.f k l0_2 l1_2).bind fun t223 => (if t223 = true then (if a0_3 = a1_3 then (some true) else (some false)) else (some false))) else (some false)) else (some false))
theorem laws_eqPost.mono : ∀ a0 a1 a2 a3 a4 a5 a6 a7 k, LeO (laws_eqPost.f k a0 a1 a2 a3 a4 a5 a6 a7) (laws_eqPost.f (k + 1) a0 a1 a2 a3 a4 a5 a6 a7) := by
 intro a0 a1 a2 a3 a4 a5 a6 a7 k
 unfold laws_eqPost.f
 have m0 := @laws_eqByteS.mono
 have m1 := @laws_eqItemS.mono
 exact mt
theorem laws_eqPost.wk {P : Prop} (h : P := by
 go_enter Try.func30, Try.ntmps30
 go_wp2_with (first | (refine jgd 2 ?_; refine bx 2 (#[.slice A0_0 l0_0.length c0_0, .int .i64 a0_1, .slice A0_2 l0_2.length c0_2, .int .i64 a0_3]) 39 ?_; intro gb220 hg w_ hbox hb; have xb_ := below_ofs bq hb; have n_ := jA4 (zab xb_ hb) (hbox) (ge0 hg xb_ : w.heap.size ≤ gb220) (ge0 hg xb_ : w.heap.size ≤ gb220); clear HB; obtain ⟨HB, BK220, GW220, GE220⟩ := n_; clear xb_ hb hbox hg) | (refine jgd 3 ?_; refine bx 3 (#[.slice A1_0 l1_0.length c1_0, .int .i64 a1_1, .slice A1_2 l1_2.length c1_2, .int .i64 a1_3]) 39 ?_; intro gb221 hg w_ hbox hb; have n_ := jA7 (jbb BK220.out hb) (zab (bs1 GE220.out) hb) (hbox) (ge0 hg (bs1 GE220.out) : w.heap.size ≤ gb221) (ge0 hg (bs1 GE220.out) : w.heap.size ≤ gb221) (nl hg (pB BK220.out) : gb220 ≠ gb221) (ng hg (pB BK220.out) : gb221 ≠ gb220); clear BK220 HB; obtain ⟨BK220, HB, BK221, GW221, GE221, NB220_221, NB221_220⟩ := n_; clear hb hbox hg; have hnb_ := NB220_221.out; have hnc_ := NB221_220.out; obtain ⟨c0, c1, c2, c3, z0, z1, z2, z3⟩ := cz4 BK220.out; obtain ⟨c0, c1, c2, c3, z0, z1, z2, z3⟩ := cz4 BK221.out) | (refine jgc 22 ?_; refine jgs 9 Try.func22 #[.slice A0_0 l0_0.length c0_0, .slice A1_0 l1_0.length c1_0] ?_; (with_reducible refine (laws_eqItemS.calls k _ _ l0_0 _ _ l1_0 _ _ ?side1 ?side2 ?side3 ?side4 A3.out).mono ?_); (case side1 => exact jcs HR0_0.out); (case side2 => exact HC0_0.out); (case side3 => exact jcs HR1_0.out); (case side4 => exact HC1_0.out); rintro e w_ ⟨rfl, hb⟩; refine ⟨_, rfl, ?_⟩; have n_ := jA3 (jbb BK220.out hb) (jbb BK221.out hb) (zab (bs2 GE220.out GE221.out) hb); clear BK220 BK221 HB; obtain ⟨BK220, BK221, HB⟩ := n_; (try clear hb); (try clear hb2); (try clear hk); (try clear hi); obtain ⟨c0, c1, c2, c3, z0, z1, z2, z3⟩ := cz4 BK220.out; obtain ⟨c0, c1, c2, c3, z0, z1, z2, z3⟩ := cz4 BK221.out) | (refine jgc 50 ?_; refine jgs 20 Try.func50 #[.slice A0_2 l0_2.length c0_2, .slice A1_2 l1_2.length c1_2] ?_; (with_reducible refine (laws_eqByteS.calls k _ _ l0_2 _ _ l1_2 _ _ ?side1 ?side2 ?side3 ?side4 A6.out).mono ?_); (case side1 => exact jcs HR0_2.out); (case side2 => exact HC0_2.out); (case side3 => exact jcs HR1_2.out); (case side4 => exact HC1_2.out); rintro e w' ⟨rfl, ⟨nd, rfl⟩⟩; refine ⟨_, rfl, ?_⟩) | (refine jgc 50 ?_; refine jgs 20 Try.func50 #[.slice A0_2 l0_2.length c0_2, .slice A1_2 l1_2.length c1_2] ?_; (with_reducible refine (laws_eqByteS.calls k _ _ l0_2 _ _ l1_2 true _ ?side1 ?side2 ?side3 ?side4 A6.out).mono ?_); (case side1 => exact jcs HR0_2.out); (case side2 => exact HC0_2.out); (case side3 => exact jcs HR1_2.out); (case side4 => exact HC1_2.out); rintro e w' ⟨rfl, ⟨nd, rfl⟩⟩; refine ⟨_, rfl, ?_⟩))
 go_ret
 exact ⟨jex, (bs2 GE220.out GE221.out)⟩) : P := h
theorem laws_eqPost.calls (k : Nat) (A0_0 : Option Addr) (c0_0 : Nat) (l0_0 : List (S34)) (a0_1 : Int) (A0_2 : Option Addr) (c0_2 : Nat) (l0_2 : List Int) (a0_3 : Int) (A1_0 : Option Addr) (c1_0 : Nat) (l1_0 : List (S34)) (a1_1 : Int) (A1_2 : Option Addr) (c1_2 : Nat) (l1_2 : List Int) (a1_3 : Int) (r : Bool) (w : World) (hr0_0 : Kd.C k34 w A0_0 l0_0.length l0_0) (hc0_0 : l0_0.length ≤ c0_0) (hr0_2 : Kd.C (Kd.int .u8) w A0_2 l0_2.length l0_2) (hc0_2 : l0_2.length ≤ c0_2) (hr1_0 : Kd.C k34 w A1_0 l1_0.length l1_0) (hc1_0 : l1_0.length ≤ c1_0) (hr1_2 : Kd.C (Kd.int .u8) w A1_2 l1_2.length l1_2) (hc1_2 : l1_2.length ≤ c1_2) (h : laws_eqPost.f k l0_0 a0_1 l0_2 a0_3 l1_0 a1_1 l1_2 a1_3 = some r) :
  Calls Try.prog 30 #[.agg #[.slice A0_0 l0_0.length c0_0, .int .i64 a0_1, .slice A0_2 l0_2.length c0_2, .int .i64 a0_3], .agg #[.slice A1_0 l1_0.length c1_0, .int .i64 a1_1, .slice A1_2 l1_2.length c1_2, .int .i64 a1_3]] w fun e w' => e = .returned (.bool r) ∧ Below w.heap.size w w' := by
 have hu39 := Try.underlying39
 have HR0_0 := Aside0.mk hr0_0
 have HC0_0 := Aside0.mk hc0_0
 clear hr0_0 hc0_0
 have HR0_2 := Aside0.mk hr0_2
 have HC0_2 := Aside0.mk hc0_2
 clear hr0_2 hc0_2
 have HR1_0 := Aside0.mk hr1_0
 have HC1_0 := Aside0.mk hc1_0
 clear hr1_0 hc1_0
 have HR1_2 := Aside0.mk hr1_2
 have HC1_2 := Aside0.mk hc1_2
 clear hr1_2 hc1_2
 have HB := Aside0.mk (zbk w.heap.size w)
 have H : ((laws_eqItemS.f k l0_0 l1_0).bind fun t222 => (if t222 = true then (if a0_1 = a1_1 then ((laws_eqByteS.f k l0_2 l1_2).bind fun t223 => (if t223 = true then (if a0_3 = a1_3 then (some true) else (some false)) else (some false))) else (some false)) else (some false))) = some r := h
 clear h
 obtain ⟨t222, A3, H⟩ := bnd H
 by_cases c4 : t222 = true
 ·subst c4
  rw [if_pos rfl] at H
  by_cases c5 : a0_1 = a1_1
  ·rw [if_pos c5] at H
   have c5b0 := beqT c5
   have c5b1 := zau.mpr c5
   clear c5
   obtain ⟨t223, A6, H⟩ := bnd H
   by_cases c7 : t223 = true
   ·subst c7
    rw [if_pos rfl] at H
    by_cases c8 : a0_3 = a1_3
    ·rw [if_pos c8] at H
     have c8b0 := beqT c8
     have c8b1 := zau.mpr c8
     clear c8
     obtain rfl := Option.some.inj H
     exact laws_eqPost.wk
    ·rw [if_neg c8] at H
     have c8b0 := zao.mpr c8
     have c8b1 := zcs.mpr c8
     obtain rfl := Option.some.inj H
     exact laws_eqPost.wk
   ·replace c7 := zbn.mpr c7
    subst c7
    rw [if_neg (show ¬ (false = true) by decide)] at H
    obtain rfl := Option.some.inj H
    exact laws_eqPost.wk
  ·rw [if_neg c5] at H
   have c5b0 := zao.mpr c5
   have c5b1 := zcs.mpr c5
   obtain rfl := Option.some.inj H
   exact laws_eqPost.wk
 ·replace c4 := zbn.mpr c4
  subst c4
  rw [if_neg (show ¬ (false = true) by decide)] at H
  obtain rfl := Option.some.inj H
  exact laws_eqPost.wk
def laws_szByteS.f (l0 : List Int) (a1 : Int) : Option (Int) := if (wrap64 (a1 - (l0.length : Int))) < 0 then (some (-1)) else (some (wrap64 (a1 - (l0.length : Int))))
theorem laws_szByteS.wk {P : Prop} (h : P := by
 go_enter Try.func87, Try.ntmps87
 go_wp2
 go_ret
 exact ⟨by first | rfl | (simp; done) | (simp [*]; done), by repeat (first | exact Drawn0.refl _ | apply Drawn0.step)⟩) : P := h
theorem laws_szByteS.calls (A0 : Option Addr) (c0 : Nat) (l0 : List Int) (a1 : Int) (r : Int) (w : World) (hr0 : Kd.C (Kd.int .u8) w A0 l0.length l0) (hc0 : l0.length ≤ c0) (h : laws_szByteS.f l0 a1 = some r) :
  Calls Try.prog 87 #[.slice A0 l0.length c0, .int .i64 a1] w fun e w' => e = .returned (.int .i64 r) ∧ Drawn0 w w' := by
 have HR0 := Aside0.mk hr0
 have HC0 := Aside0.mk hc0
 clear hr0 hc0
 have H : (if (wrap64 (a1 - (l0.length : Int))) < 0 then (some (-1)) else (some (wrap64 (a1 - (l0.length : Int))))) = some r := h
 clear h
 by_cases c3 : (wrap64 (a1 - (l0.length : Int))) < 0
 ·rw [if_pos c3] at H
  have c3b0 := zae c3
  clear c3
  obtain rfl := Option.some.inj H
  exact laws_szByteS.wk
 ·rw [if_neg c3] at H
  have c3b0 := zas c3
  clear c3
  obtain rfl := Option.some.inj H
  exact laws_szByteS.wk
def laws_szItem.f (a0_0 : ByteArray) (a0_1 : Int) (a0_2 : Int) (l0_3 : List Int) (a1 : Int) : Option (Int) := if (wrap64 (a1 - (a0_0.size : Int))) < 0 then (some (-1)) else ((laws_szByteS.f l0_3 (wrap64 (a1 - (a0_0.size : Int)))).bind fun t102 => (if t102 < 0 then (some (-1)) else (some t102)))
theorem laws_szItem.wk {P : Prop} (h : P := by
 go_enter Try.func23, Try.ntmps23
 go_wp2_with (first | (refine jgd 2 ?_; refine bx 2 (#[.string a0_0, .int .i64 a0_1, .int .i64 a0_2, .slice A0_3 l0_3.length c0_3]) 31 ?_; intro gb101 hg w_ hbox hb; have xb_ := below_ofs bq hb; have n_ := jA4 (zab xb_ hb) (hbox) (ge0 hg xb_ : w.heap.size ≤ gb101) (ge0 hg xb_ : w.heap.size ≤ gb101); clear HB; obtain ⟨HB, BK101, GW101, GE101⟩ := n_; clear xb_ hb hbox hg; obtain ⟨c0, c1, c2, c3, z0, z1, z2, z3⟩ := cz4 BK101.out) | (refine jgc 87 ?_; refine jgs 15 Try.func87 #[.slice A0_3 l0_3.length c0_3, .int .i64 (wrap64 (a1 - (a0_0.size : Int)))] ?_; (with_reducible refine (laws_szByteS.calls _ _ l0_3 (wrap64 (a1 - (a0_0.size : Int))) t102 _ ?side1 ?side2 A6.out).mono ?_); (case side1 => exact jcs HR0_3.out); (case side2 => exact HC0_3.out); rintro e w' ⟨rfl, ⟨nd, rfl⟩⟩; refine ⟨_, rfl, ?_⟩))
 go_ret
 exact ⟨jex, (bs1 GE101.out)⟩) : P := h
theorem laws_szItem.calls (a0_0 : ByteArray) (a0_1 : Int) (a0_2 : Int) (A0_3 : Option Addr) (c0_3 : Nat) (l0_3 : List Int) (a1 : Int) (r : Int) (w : World) (hr0_3 : Kd.C (Kd.int .u8) w A0_3 l0_3.length l0_3) (hc0_3 : l0_3.length ≤ c0_3) (h : laws_szItem.f a0_0 a0_1 a0_2 l0_3 a1 = some r) :
  Calls Try.prog 23 #[.agg #[.string a0_0, .int .i64 a0_1, .int .i64 a0_2, .slice A0_3 l0_3.length c0_3], .int .i64 a1] w fun e w' => e = .returned (.int .i64 r) ∧ Below w.heap.size w w' := by
 have hu31 := Try.underlying31
 have HR0_3 := Aside0.mk hr0_3
 have HC0_3 := Aside0.mk hc0_3
 clear hr0_3 hc0_3
 have HB := Aside0.mk (zbk w.heap.size w)
 have H : (if (wrap64 (a1 - (a0_0.size : Int))) < 0 then (some (-1)) else ((laws_szByteS.f l0_3 (wrap64 (a1 - (a0_0.size : Int)))).bind fun t102 => (if t102 < 0 then (some (-1)) else (some t102)))) = some r := h
 clear h
 by_cases c3 : (wrap64 (a1 - (a0_0.size : Int))) < 0
 ·rw [if_pos c3] at H
  have c3b0 := zae c3
  clear c3
  obtain rfl := Option.some.inj H
  exact laws_szItem.wk
 ·rw [if_neg c3] at H
  have c3b0 := zas c3
  clear c3
  obtain ⟨t102, A6, H⟩ := bnd H
  by_cases c7 : t102 < 0
  ·rw [if_pos c7] at H
   have c7b0 := zae c7
   clear c7
   obtain rfl := Option.some.inj H
   exact laws_szItem.wk
  ·rw [if_neg c7] at H
   have c7b0 := zas c7
   clear c7
   obtain rfl := Option.some.inj H
   exact laws_szItem.wk
def laws_szItemS.l0 : Nat → List (S31) → Int → Int → Option (Int)
 | 0, _, _, _ => none
 | k + 1, x0, x1, x5 => if x5 < (x0.length : Int) then (if 0 ≤ x5 then ((laws_szItem.f ((rd_T31 x0 x5).f0) ((rd_T31 x0 x5).f1) ((rd_T31 x0 x5).f2) ((rd_T31 x0 x5).f3) x1).bind fun t104 => (if t104 < 0 then (some (-1)) else (laws_szItemS.l0 k x0 t104 (wrap64 (x5 + 1))))) else (none)) else (some x1)
def laws_szItemS.f (k : Nat) (l0 : List (S31)) (a1 : Int) : Option (Int) := if (wrap64 (a1 - (l0.length : Int))) < 0 then (some (-1)) else (laws_szItemS.l0 k l0 (wrap64 (a1 - (l0.length : Int))) 0)
theorem laws_szItemS.mono_l : ∀ k, (∀ y0 y1 y2, LeO (laws_szItemS.l0 k y0 y1 y2) (laws_szItemS.l0 (k + 1) y0 y1 y2))
 | 0 => fun _ _ _ r h => by simp [laws_szItemS.l0] at h
 | k + 1 => by
  have ih0 := laws_szItemS.mono_l k
  ·intro y0 y1 y2
   unfold laws_szItemS.l0
   exact mt
theorem laws_szItemS.mono : ∀ a0 a1 k, LeO (laws_szItemS.f k a0 a1) (laws_szItemS.f (k + 1) a0 a1) := by
 intro a0 a1 k
 have ih0 := laws_szItemS.mono_l k
 unfold laws_szItemS.f
 exact mt
theorem laws_szItemS.calls (k : Nat) (A0 : Option Addr) (c0 : Nat) (l0 : List (S31)) (a1 : Int) (r : Int) (w : World) (hr0 : Kd.C k31 w A0 l0.length l0) (hc0 : l0.length ≤ c0) (h : laws_szItemS.f k l0 a1 = some r) :
  Calls Try.prog 18 #[.slice A0 l0.length c0, .int .i64 a1] w fun e w' => e = .returned (.int .i64 r) ∧ Below w.heap.size w w' := by
 have hu31 := Try.underlying31
 have HR0 := Aside0.mk hr0
 have HC0 := Aside0.mk hc0
 clear hr0 hc0
 have HB := Aside0.mk (zbk w.heap.size w)
 have H : (if (wrap64 (a1 - (l0.length : Int))) < 0 then (some (-1)) else (laws_szItemS.l0 k l0 (wrap64 (a1 - (l0.length : Int))) 0)) = some r := h
 clear h
 by_cases c3 : (wrap64 (a1 - (l0.length : Int))) < 0
 ·rw [if_pos c3] at H
  have c3b0 := zae c3
  clear c3
  obtain rfl := Option.some.inj H
  go_enter Try.func18, Try.ntmps18
  go_wp2
  go_ret
  exact ⟨jex, bq⟩
 ·rw [if_neg c3] at H
  have c3b0 := zas c3
  clear c3
  have H' := Aside0.mk H
  clear H
  go_enter Try.func18, Try.ntmps18
  go_wp2
  go_loopg [1, 5] k (fun kq v1 v5 w' => ∃ (x1_1 : Int) (x5_1 : Int), v1 = .int .i64 x1_1 ∧ v5 = .int .i64 x5_1 ∧ Aside0 (laws_szItemS.l0 kq l0 x1_1 x5_1 = some r) ∧ Aside0 (kq ≤ k) ∧ Aside0 (Below w.heap.size w w'))
  case atStart => exact ⟨(wrap64 (a1 - (l0.length : Int))), (0), jer, jer, H', ⟨zaf _⟩, ⟨bq⟩⟩
  case round =>
   clear H'
   try clear c1
   try clear p2
   try clear c3
   try clear c3b0
   obtain ⟨x1_1, x5_1, rfl, rfl, HA, HK1, HB⟩ := hrel
   cases gk with
   | zero => exact absurd HA.out (by simp [laws_szItemS.l0])
   | succ k1 =>
    have H := HA.out
    clear HA
    simp only [laws_szItemS.l0] at H
    by_cases c4 : x5_1 < (l0.length : Int)
    ·rw [if_pos c4] at H
     have c4b0 := zae c4
     clear c4
     by_cases c5 : 0 ≤ x5_1
     ·rw [if_pos c5] at H
      have c5b0 := zae c5
      clear c5
      obtain ⟨t104, A6, H⟩ := bnd H
      by_cases c7 : t104 < 0
      ·rw [if_pos c7] at H
       have c7b0 := zae c7
       clear c7
       obtain rfl := Option.some.inj H
       have p103 : 0 ≤ (x5_1 : Int) := zac jab
       have q103 : x5_1 < (l0.length : Int) := zac jab
       obtain ⟨ad103, A103_3, c103_3, e103, hx103_0, hx103_1, hx103_2, hx103_3, hl103_3, hi103_3⟩ := at_T31 HR0.out x5_1 p103 q103
       cases e103
       replace hx103_0 := jcB HB.out hx103_0
       replace hx103_1 := jcB HB.out hx103_1
       replace hx103_2 := jcB HB.out hx103_2
       replace hx103_3 := jcB HB.out hx103_3
       have HR103_3 := Aside0.mk hi103_3
       have HC103_3 := Aside0.mk hl103_3
       clear hi103_3 hl103_3
       replace p103 := zbd p103
       replace q103 := zbd q103
       go_wp2_with (first | (refine jgc 23 ?_; refine jgs 23 Try.func23 #[.agg #[.string ((rd_T31 l0 x5_1).f0), .int .i64 ((rd_T31 l0 x5_1).f1), .int .i64 ((rd_T31 l0 x5_1).f2), .slice A103_3 ((rd_T31 l0 x5_1).f3).length c103_3], .int .i64 x1_1] ?_; (with_reducible refine (laws_szItem.calls ((rd_T31 l0 x5_1).f0) ((rd_T31 l0 x5_1).f1) ((rd_T31 l0 x5_1).f2) _ _ ((rd_T31 l0 x5_1).f3) x1_1 t104 _ ?side1 ?side2 A6.out).mono ?_); (case side1 => exact jcs HR103_3.out); (case side2 => exact HC103_3.out); rintro e w8 ⟨rfl, hb⟩; refine ⟨_, rfl, ?_⟩; replace HB := Aside0.mk (zab bq hb); (try clear hb); (try clear hb2); (try clear hk); (try clear hi)))
       go_ret
       exact ⟨jex, bq⟩
      ·rw [if_neg c7] at H
       have c7b0 := zas c7
       clear c7
       have H' := Aside0.mk H
       clear H
       have p103 : 0 ≤ (x5_1 : Int) := zac jab
       have q103 : x5_1 < (l0.length : Int) := zac jab
       obtain ⟨ad103, A103_3, c103_3, e103, hx103_0, hx103_1, hx103_2, hx103_3, hl103_3, hi103_3⟩ := at_T31 HR0.out x5_1 p103 q103
       cases e103
       replace hx103_0 := jcB HB.out hx103_0
       replace hx103_1 := jcB HB.out hx103_1
       replace hx103_2 := jcB HB.out hx103_2
       replace hx103_3 := jcB HB.out hx103_3
       have HR103_3 := Aside0.mk hi103_3
       have HC103_3 := Aside0.mk hl103_3
       clear hi103_3 hl103_3
       replace p103 := zbd p103
       replace q103 := zbd q103
       go_wp2_with (first | (refine jgc 23 ?_; refine jgs 23 Try.func23 #[.agg #[.string ((rd_T31 l0 x5_1).f0), .int .i64 ((rd_T31 l0 x5_1).f1), .int .i64 ((rd_T31 l0 x5_1).f2), .slice A103_3 ((rd_T31 l0 x5_1).f3).length c103_3], .int .i64 x1_1] ?_; (with_reducible refine (laws_szItem.calls ((rd_T31 l0 x5_1).f0) ((rd_T31 l0 x5_1).f1) ((rd_T31 l0 x5_1).f2) _ _ ((rd_T31 l0 x5_1).f3) x1_1 t104 _ ?side1 ?side2 A6.out).mono ?_); (case side1 => exact jcs HR103_3.out); (case side2 => exact HC103_3.out); rintro e w9 ⟨rfl, hb⟩; refine ⟨_, rfl, ?_⟩; replace HB := Aside0.mk (zab bq hb); (try clear hb); (try clear hb2); (try clear hk); (try clear hi)))
       go_roundg k1
       case measure => have := HK1.out; omega
       case rel => exact ⟨(t104), (wrap64 (x5_1 + 1)), jer, jer, H', ⟨by have := HK1.out; omega⟩, ⟨bq⟩⟩
     ·rw [if_neg c5] at H
      exact absurd H (by simp)
    ·rw [if_neg c4] at H
     have c4b0 := zas c4
     clear c4
     obtain rfl := Option.some.inj H
     go_wp2
     go_ret
     exact ⟨jex, bq⟩
def laws_szPost.f (k : Nat) (l0_0 : List (S31)) (a0_1 : Int) (l0_2 : List Int) (a0_3 : Int) (a1 : Int) : Option (Int) := (laws_szItemS.f k l0_0 a1).bind fun t1316 => (if t1316 < 0 then (some (-1)) else ((laws_szByteS.f l0_2 t1316).bind fun t1317 => (if t1317 < 0 then (some (-1)) else (some t1317))))
theorem laws_szPost.mono : ∀ a0 a1 a2 a3 a4 k, LeO (laws_szPost.f k a0 a1 a2 a3 a4) (laws_szPost.f (k + 1) a0 a1 a2 a3 a4) := by
 intro a0 a1 a2 a3 a4 k
 unfold laws_szPost.f
 have m0 := @laws_szItemS.mono
 exact mt
theorem laws_szPost.wk {P : Prop} (h : P := by
 go_enter Try.func77, Try.ntmps77
 go_wp2_with (first | (refine jgd 2 ?_; refine bx 2 (#[.slice A0_0 l0_0.length c0_0, .int .i64 a0_1, .slice A0_2 l0_2.length c0_2, .int .i64 a0_3]) 86 ?_; intro gb1315 hg w_ hbox hb; have xb_ := below_ofs bq hb; have n_ := jA4 (zab xb_ hb) (hbox) (ge0 hg xb_ : w.heap.size ≤ gb1315) (ge0 hg xb_ : w.heap.size ≤ gb1315); clear HB; obtain ⟨HB, BK1315, GW1315, GE1315⟩ := n_; clear xb_ hb hbox hg; obtain ⟨c0, c1, c2, c3, z0, z1, z2, z3⟩ := cz4 BK1315.out) | (refine jgc 18 ?_; refine jgs 8 Try.func18 #[.slice A0_0 l0_0.length c0_0, .int .i64 a1] ?_; (with_reducible refine (laws_szItemS.calls k _ _ l0_0 a1 t1316 _ ?side1 ?side2 A3.out).mono ?_); (case side1 => exact jcs HR0_0.out); (case side2 => exact HC0_0.out); rintro e w_ ⟨rfl, hb⟩; refine ⟨_, rfl, ?_⟩; have n_ := jA2 (jbb BK1315.out hb) (zab (bs1 GE1315.out) hb); clear BK1315 HB; obtain ⟨BK1315, HB⟩ := n_; (try clear hb); (try clear hb2); (try clear hk); (try clear hi); obtain ⟨c0, c1, c2, c3, z0, z1, z2, z3⟩ := cz4 BK1315.out) | (refine jgc 87 ?_; refine jgs 14 Try.func87 #[.slice A0_2 l0_2.length c0_2, .int .i64 t1316] ?_; (with_reducible refine (laws_szByteS.calls _ _ l0_2 t1316 t1317 _ ?side1 ?side2 A8.out).mono ?_); (case side1 => exact jcs HR0_2.out); (case side2 => exact HC0_2.out); rintro e w' ⟨rfl, ⟨nd, rfl⟩⟩; refine ⟨_, rfl, ?_⟩))
 go_ret
 exact ⟨jex, (bs1 GE1315.out)⟩) : P := h
theorem laws_szPost.calls (k : Nat) (A0_0 : Option Addr) (c0_0 : Nat) (l0_0 : List (S31)) (a0_1 : Int) (A0_2 : Option Addr) (c0_2 : Nat) (l0_2 : List Int) (a0_3 : Int) (a1 : Int) (r : Int) (w : World) (hr0_0 : Kd.C k31 w A0_0 l0_0.length l0_0) (hc0_0 : l0_0.length ≤ c0_0) (hr0_2 : Kd.C (Kd.int .u8) w A0_2 l0_2.length l0_2) (hc0_2 : l0_2.length ≤ c0_2) (h : laws_szPost.f k l0_0 a0_1 l0_2 a0_3 a1 = some r) :
  Calls Try.prog 77 #[.agg #[.slice A0_0 l0_0.length c0_0, .int .i64 a0_1, .slice A0_2 l0_2.length c0_2, .int .i64 a0_3], .int .i64 a1] w fun e w' => e = .returned (.int .i64 r) ∧ Below w.heap.size w w' := by
 have hu86 := Try.underlying86
 have HR0_0 := Aside0.mk hr0_0
 have HC0_0 := Aside0.mk hc0_0
 clear hr0_0 hc0_0
 have HR0_2 := Aside0.mk hr0_2
 have HC0_2 := Aside0.mk hc0_2
 clear hr0_2 hc0_2
 have HB := Aside0.mk (zbk w.heap.size w)
 have H : ((laws_szItemS.f k l0_0 a1).bind fun t1316 => (if t1316 < 0 then (some (-1)) else ((laws_szByteS.f l0_2 t1316).bind fun t1317 => (if t1317 < 0 then (some (-1)) else (some t1317))))) = some r := h
 clear h
 obtain ⟨t1316, A3, H⟩ := bnd H
 by_cases c4 : t1316 < 0
 ·rw [if_pos c4] at H
  have c4b0 := zae c4
  clear c4
  obtain rfl := Option.some.inj H
  exact laws_szPost.wk
 ·rw [if_neg c4] at H
  have c4b0 := zas c4
  clear c4
  obtain ⟨t1317, A8, H⟩ := bnd H
  by_cases c9 : t1317 < 0
  ·rw [if_pos c9] at H
   have c9b0 := zae c9
   clear c9
   obtain rfl := Option.some.inj H
   exact laws_szPost.wk
  ·rw [if_neg c9] at H
   have c9b0 := zas c9
   clear c9
   obtain rfl := Option.some.inj H
   exact laws_szPost.wk
def spec_l1In.f (a0 : Int) (a1 : Int) (a2 : Int) : Option (Bool) := if a0 ≥ a1 then (some (decide (a0 ≤ a2))) else (some false)
theorem spec_l1In.wk {P : Prop} (h : P := by
 go_enter Try.func89, Try.ntmps89
 go_wp2
 go_ret
 exact ⟨by first | rfl | (simp; done) | (simp [*]; done), by repeat (first | exact Drawn0.refl _ | apply Drawn0.step)⟩) : P := h
theorem spec_l1In.calls (a0 : Int) (a1 : Int) (a2 : Int) (r : Bool) (w : World) (h : spec_l1In.f a0 a1 a2 = some r) :
  Calls Try.prog 89 #[.int .i64 a0, .int .i64 a1, .int .i64 a2] w fun e w' => e = .returned (.bool r) ∧ Drawn0 w w' := by
 have H : (if a0 ≥ a1 then (some (decide (a0 ≤ a2))) else (some false)) = some r := h
 clear h
 by_cases c4 : a0 ≥ a1
 ·rw [if_pos c4] at H
  have c4b0 := zae c4
  clear c4
  obtain rfl := Option.some.inj H
  exact spec_l1In.wk
 ·rw [if_neg c4] at H
  have c4b0 := zas c4
  clear c4
  obtain rfl := Option.some.inj H
  exact spec_l1In.wk
def spec_l1Bit.f (a0 : Bool) : Option (Int) := if a0 = true then (some 1) else (some 0)
theorem spec_l1Bit.wk {P : Prop} (h : P := by
 go_enter Try.func86, Try.ntmps86
 go_wp2
 go_ret
 exact ⟨by first | rfl | (simp; done) | (simp [*]; done), by repeat (first | exact Drawn0.refl _ | apply Drawn0.step)⟩) : P := h
theorem spec_l1Bit.calls (a0 : Bool) (r : Int) (w : World) (h : spec_l1Bit.f a0 = some r) :
  Calls Try.prog 86 #[.bool a0] w fun e w' => e = .returned (.int .i64 r) ∧ Drawn0 w w' := by
 have H : (if a0 = true then (some 1) else (some 0)) = some r := h
 clear h
 by_cases c2 : a0 = true
 ·subst c2
  rw [if_pos rfl] at H
  obtain rfl := Option.some.inj H
  exact spec_l1Bit.wk
 ·replace c2 := zbn.mpr c2
  subst c2
  rw [if_neg (show ¬ (false = true) by decide)] at H
  obtain rfl := Option.some.inj H
  exact spec_l1Bit.wk
def spec_Of.l0 : Nat → List (S34) → ByteArray → Int → Int → Option (Int)
 | 0, _, _, _, _ => none
 | k + 1, x0, x1, x5, x6 => if x6 < (x0.length : Int) then (if 0 ≤ x6 then ((spec_l1Bit.f (((rd_T34 x0 x6).f0).toList == x1.toList)).bind fun t106 => (spec_Of.l0 k x0 x1 (wrap64 (x5 + t106)) (wrap64 (x6 + 1)))) else (none)) else (some x5)
def spec_Of.f (k : Nat) (l0 : List (S34)) (a1 : ByteArray) : Option (Int) := spec_Of.l0 k l0 a1 0 0
theorem spec_Of.mono_l : ∀ k, (∀ y0 y1 y2 y3, LeO (spec_Of.l0 k y0 y1 y2 y3) (spec_Of.l0 (k + 1) y0 y1 y2 y3))
 | 0 => fun _ _ _ _ r h => by simp [spec_Of.l0] at h
 | k + 1 => by
  have ih0 := spec_Of.mono_l k
  ·intro y0 y1 y2 y3
   unfold spec_Of.l0
   exact mt
theorem spec_Of.mono : ∀ a0 a1 k, LeO (spec_Of.f k a0 a1) (spec_Of.f (k + 1) a0 a1) := by
 intro a0 a1 k
 have ih0 := spec_Of.mono_l k
 unfold spec_Of.f
 exact mt
theorem spec_Of.calls (k : Nat) (A0 : Option Addr) (c0 : Nat) (l0 : List (S34)) (a1 : ByteArray) (r : Int) (w : World) (hr0 : Kd.C k34 w A0 l0.length l0) (hc0 : l0.length ≤ c0) (h : spec_Of.f k l0 a1 = some r) :
  Calls Try.prog 19 #[.slice A0 l0.length c0, .string a1] w fun e w' => e = .returned (.int .i64 r) ∧ Drawn0 w w' := by
 have HR0 := Aside0.mk hr0
 have HC0 := Aside0.mk hc0
 clear hr0 hc0
 have H : (spec_Of.l0 k l0 a1 0 0) = some r := h
 clear h
 have H' := Aside0.mk H
 clear H
 go_enter Try.func19, Try.ntmps19
 go_wp2
 go_loopg [5, 6] k (fun kq v5 v6 w' => ∃ (x5_1 : Int) (x6_1 : Int), v5 = .int .i64 x5_1 ∧ v6 = .int .i64 x6_1 ∧ Aside0 (spec_Of.l0 kq l0 a1 x5_1 x6_1 = some r) ∧ Aside0 (kq ≤ k) ∧ Drawn0 w w')
 case atStart => exact ⟨(0), (0), jer, jer, H', ⟨zaf _⟩, by repeat (first | exact Drawn0.refl _ | apply Drawn0.step)⟩
 case round =>
  clear H'
  try clear c1
  try clear p2
  obtain ⟨x5_1, x6_1, rfl, rfl, HA, HK1, ⟨m1, rfl⟩⟩ := hrel
  cases gk with
  | zero => exact absurd HA.out (by simp [spec_Of.l0])
  | succ k1 =>
   have H := HA.out
   clear HA
   simp only [spec_Of.l0] at H
   by_cases c3 : x6_1 < (l0.length : Int)
   ·rw [if_pos c3] at H
    have c3b0 := zae c3
    clear c3
    by_cases c4 : 0 ≤ x6_1
    ·rw [if_pos c4] at H
     have c4b0 := zae c4
     clear c4
     obtain ⟨t106, A5, H⟩ := bnd H
     have H' := Aside0.mk H
     clear H
     have p105 : 0 ≤ (x6_1 : Int) := zac jab
     have q105 : x6_1 < (l0.length : Int) := zac jab
     obtain ⟨ad105, A105_3, c105_3, e105, hx105_0, hx105_1, hx105_2, hx105_3, hl105_3, hi105_3⟩ := at_T34 HR0.out x6_1 p105 q105
     cases e105
     have HR105_3 := Aside0.mk hi105_3
     have HC105_3 := Aside0.mk hl105_3
     clear hi105_3 hl105_3
     replace p105 := zbd p105
     replace q105 := zbd q105
     go_wp2_with (first | (refine jgc 86 ?_; refine jgs 21 Try.func86 #[.bool (((rd_T34 l0 x6_1).f0).toList == a1.toList)] ?_; (with_reducible refine (spec_l1Bit.calls (((rd_T34 l0 x6_1).f0).toList == a1.toList) t106 _ A5.out).mono ?_); rintro e w' ⟨rfl, ⟨nd, rfl⟩⟩; refine ⟨_, rfl, ?_⟩))
     go_roundg k1
     case measure => have := HK1.out; omega
     case rel => exact ⟨(wrap64 (x5_1 + t106)), (wrap64 (x6_1 + 1)), jer, jer, H', ⟨by have := HK1.out; omega⟩, by repeat (first | exact Drawn0.refl _ | apply Drawn0.step)⟩
    ·rw [if_neg c4] at H
     exact absurd H (by simp)
   ·rw [if_neg c3] at H
    have c3b0 := zas c3
    clear c3
    obtain rfl := Option.some.inj H
    go_wp2
    go_ret
    exact ⟨by first | rfl | (simp; done) | (simp [*]; done), by repeat (first | exact Drawn0.refl _ | apply Drawn0.step)⟩
def spec_l1Sign.j0 : Nat → Int → Bool → Option (Int)
 | 0, _, _ => none
 | k + 1, x0, x3 => if x3 = true then (some (wrap64 ((wrap64 (x0)) - 48))) else (if x0 ≥ 97 then (if x0 ≤ 102 then (some (wrap64 ((wrap64 (x0)) - 87))) else (some (-1))) else (some (-1)))
def spec_l1Sign.f (k : Nat) (a0 : Int) : Option (Int) := if a0 ≥ 48 then (spec_l1Sign.j0 k a0 (decide (a0 ≤ 57))) else (spec_l1Sign.j0 k a0 false)
theorem spec_l1Sign.mono_l : ∀ k, (∀ y0 y1, LeO (spec_l1Sign.j0 k y0 y1) (spec_l1Sign.j0 (k + 1) y0 y1))
 | 0 => fun _ _ r h => by simp [spec_l1Sign.j0] at h
 | k + 1 => by
  have ih0 := spec_l1Sign.mono_l k
  ·intro y0 y1
   unfold spec_l1Sign.j0
   exact mt
theorem spec_l1Sign.mono : ∀ a0 k, LeO (spec_l1Sign.f k a0) (spec_l1Sign.f (k + 1) a0) := by
 intro a0 k
 have ih0 := spec_l1Sign.mono_l k
 unfold spec_l1Sign.f
 exact mt
theorem spec_l1Sign.calls (k : Nat) (a0 : Int) (r : Int) (w : World) (h : spec_l1Sign.f k a0 = some r) :
  Calls Try.prog 135 #[.int .u8 a0] w fun e w' => e = .returned (.int .i64 r) ∧ Drawn0 w w' := by
 have H : (if a0 ≥ 48 then (spec_l1Sign.j0 k a0 (decide (a0 ≤ 57))) else (spec_l1Sign.j0 k a0 false)) = some r := h
 clear h
 have HC2 := Aside0.mk H
 clear H
 go_enter Try.func135, Try.ntmps135
 go_upto_region 1 with (fail)
 go_cut [3] (fun v3 wc => ∃ (kq : Nat) (x3_1 : Bool), v3 = .bool x3_1 ∧ Aside0 (spec_l1Sign.j0 kq a0 x3_1 = some r) ∧ Aside0 (kq ≤ k) ∧ Drawn0 w wc)
 case first =>
  have H := HC2.out
  clear HC2
  by_cases c3 : a0 ≥ 48
  ·rw [if_pos c3] at H
   have c3b0 := zae c3
   clear c3
   (first | rw [c3b0] | (simp only [i64_w, i32_w]; rw [c3b0]) | skip)
   have H' := Aside0.mk H
   clear H
   go_wp2
   go_meet
   case rel => exact ⟨_, (decide (a0 ≤ 57)), jer, H', ⟨by first | omega | exact zaf _⟩, by repeat (first | exact Drawn0.refl _ | apply Drawn0.step)⟩
  ·rw [if_neg c3] at H
   have c3b0 := zas c3
   clear c3
   (first | rw [c3b0] | (simp only [i64_w, i32_w]; rw [c3b0]) | skip)
   have H' := Aside0.mk H
   clear H
   go_wp2
   go_meet
   case rel => exact ⟨_, (false), jer, H', ⟨by first | omega | exact zaf _⟩, by repeat (first | exact Drawn0.refl _ | apply Drawn0.step)⟩
 case rest =>
  clear HC2
  try clear c1
  try clear p2
  try clear c3
  try clear c3b0
  obtain ⟨kq, x3_1, rfl, HA, HJ1, ⟨mc1, rfl⟩⟩ := hcut
  cases kq with
  | zero => exact absurd HA.out (by simp [spec_l1Sign.j0])
  | succ kj1 =>
   have H := HA.out
   clear HA
   simp only [spec_l1Sign.j0] at H
   by_cases c4 : x3_1 = true
   ·subst c4
    rw [if_pos rfl] at H
    obtain rfl := Option.some.inj H
    go_wp2
    go_ret
    exact ⟨by first | rfl | (simp; done) | (simp [*]; done), by repeat (first | exact Drawn0.refl _ | apply Drawn0.step)⟩
   ·replace c4 := zbn.mpr c4
    subst c4
    rw [if_neg (show ¬ (false = true) by decide)] at H
    by_cases c5 : a0 ≥ 97
    ·rw [if_pos c5] at H
     have c5b0 := zae c5
     clear c5
     by_cases c6 : a0 ≤ 102
     ·rw [if_pos c6] at H
      have c6b0 := zae c6
      clear c6
      obtain rfl := Option.some.inj H
      go_wp2
      go_ret
      exact ⟨by first | rfl | (simp; done) | (simp [*]; done), by repeat (first | exact Drawn0.refl _ | apply Drawn0.step)⟩
     ·rw [if_neg c6] at H
      have c6b0 := zas c6
      clear c6
      obtain rfl := Option.some.inj H
      go_wp2
      go_ret
      exact ⟨by first | rfl | (simp; done) | (simp [*]; done), by repeat (first | exact Drawn0.refl _ | apply Drawn0.step)⟩
    ·rw [if_neg c5] at H
     have c5b0 := zas c5
     clear c5
     obtain rfl := Option.some.inj H
     go_wp2
     go_ret
     exact ⟨by first | rfl | (simp; done) | (simp [*]; done), by repeat (first | exact Drawn0.refl _ | apply Drawn0.step)⟩
def spec_Unhex.l0 : Nat → ByteArray → List Int → Int → Option (List Int × Bool)
 | 0, _, _, _ => none
 | k + 1, x0, x4, x5 => if (wrap64 (x5 + 1)) < (x0.size : Int) then (if 0 ≤ x5 then (if x5 < (x0.size : Int) then ((spec_l1Sign.f k (bt x0 x5)).bind fun t158 => (if 0 ≤ (wrap64 (x5 + 1)) then ((spec_l1Sign.f k (bt x0 (wrap64 (x5 + 1)))).bind fun t159 => (if t158 < 0 then (some ((([] : List Int)), false)) else (if t159 < 0 then (some ((([] : List Int)), false)) else (if x4.length < 140737488355328 then (spec_Unhex.l0 k x0 (x4 ++ [(wrap64 ((wrap64 (16 * t158)) + t159)) % 256]) (wrap64 (x5 + 2))) else (none))))) else (none))) else (none)) else (none)) else (if ((x0.size : Int) % 2) = 0 then (some (x4, true)) else (some ((([] : List Int)), false)))
def spec_Unhex.f (k : Nat) (a0 : ByteArray) : Option (List Int × Bool) := spec_Unhex.l0 k a0 (([] : List Int)) 0
theorem spec_Unhex.mono_l : ∀ k, (∀ y0 y1 y2, LeO (spec_Unhex.l0 k y0 y1 y2) (spec_Unhex.l0 (k + 1) y0 y1 y2))
 | 0 => fun _ _ _ r h => by simp [spec_Unhex.l0] at h
 | k + 1 => by
  have ih0 := spec_Unhex.mono_l k
  ·intro y0 y1 y2
   unfold spec_Unhex.l0
   have m0 := @spec_l1Sign.mono
   exact mt
theorem spec_Unhex.mono : ∀ a0 k, LeO (spec_Unhex.f k a0) (spec_Unhex.f (k + 1) a0) := by
 intro a0 k
 have ih0 := spec_Unhex.mono_l k
 unfold spec_Unhex.f
 have m0 := @spec_l1Sign.mono
 exact mt
theorem spec_Unhex.calls (k : Nat) (a0 : ByteArray) (r1 : List Int) (r2 : Bool) (w : World) (h : spec_Unhex.f k a0 = some (r1, r2)) :
  Calls Try.prog 106 #[.string a0] w fun e w' => ∃ v0_ : Value, e = .returned (.tuple #[v0_, .bool r2]) ∧ Kd.R (Kd.int .u8) 5 w' w.heap.size (fun _ => True) v0_ r1 ∧ Below w.heap.size w w' := by
 have HB := Aside0.mk (zbk w.heap.size w)
 have H : (spec_Unhex.l0 k a0 (([] : List Int)) 0) = some (r1, r2) := h
 clear h
 obtain ⟨y152, hy152⟩ : ∃ y_ : List Int, y_ = (([] : List Int)) := ⟨_, rfl⟩
 replace H : (spec_Unhex.l0 k a0 y152 0) = some (r1, r2) := jrw hy152 H
 have Ny152 := Aside0.mk hy152
 clear hy152
 have H' := Aside0.mk H
 clear H
 go_enter Try.func106, Try.ntmps106
 go_wp2_with (first | (refine jgd 8 ?_; refine jlt 8 (Kd.int .u8) 5 ?_; intro v153 w2 ho3 hb; have xb_ := below_ofs bq hb; (first | rw [← Ny152.out] at ho3 | (simp only [Int.reduceToNat] at ho3; rw [← Ny152.out] at ho3)); have n_ := jA2 (zbc ho3 (zak xb_)) (zab xb_ hb); clear HB; obtain ⟨HO154, HB⟩ := n_; clear xb_ hb ho3))
 go_loopg [4, 5] k (fun kq v4 v5 w' => ∃ (x4_1 : List Int) (x5_1 : Int), v5 = .int .i64 x5_1 ∧ Aside0 (spec_Unhex.l0 kq a0 x4_1 x5_1 = some (r1, r2)) ∧ Aside0 (kq ≤ k) ∧ Aside0 (Kd.R (Kd.int .u8) 5 w' w.heap.size (fun _ => True) v4 x4_1) ∧ Aside0 (Below w.heap.size w w'))
 case atStart => exact ⟨(y152), (0), jer, H', ⟨zaf _⟩, ⟨pR HO154.out⟩, ⟨bq⟩⟩
 case round =>
  clear H'
  try clear c1
  try clear p2
  obtain ⟨x4_1, x5_1, rfl, HA, HK1, HO_4, HB⟩ := hrel
  cases gk with
  | zero => exact absurd HA.out (by simp [spec_Unhex.l0])
  | succ k1 =>
   have H := HA.out
   clear HA
   simp only [spec_Unhex.l0] at H
   by_cases c4 : (wrap64 (x5_1 + 1)) < (a0.size : Int)
   ·rw [if_pos c4] at H
    have c4b0 := zae c4
    clear c4
    by_cases c5 : 0 ≤ x5_1
    ·rw [if_pos c5] at H
     have c5b0 := zae c5
     clear c5
     by_cases c6 : x5_1 < (a0.size : Int)
     ·rw [if_pos c6] at H
      have c6b0 := zae c6
      clear c6
      obtain ⟨t158, A8, H⟩ := bnd H
      obtain ⟨ji9, hji9⟩ : ∃ j_ : Int, (wrap64 (x5_1 + 1)) = j_ := ⟨_, rfl⟩
      replace H : (if 0 ≤ (ji9) then ((spec_l1Sign.f k1 (bt a0 (ji9))).bind fun t159 => (if t158 < 0 then (some ((([] : List Int)), false)) else (if t159 < 0 then (some ((([] : List Int)), false)) else (if x4_1.length < 140737488355328 then (spec_Unhex.l0 k1 a0 (x4_1 ++ [(wrap64 ((wrap64 (16 * t158)) + t159)) % 256]) (wrap64 (x5_1 + 2))) else (none))))) else (none)) = some (r1, r2) := by first | (rw [hji9] at H; exact H) | (simp only [hji9] at H ⊢; exact H)
      (try rw [hji9] at c4b0)
      (try rw [hji9] at A8)
      have hji9w : (IntKind.i64.wrap (x5_1 + 1)) = ji9 := (i64_w _).trans hji9
      by_cases c10 : 0 ≤ (ji9)
      ·rw [if_pos c10] at H
       have c10b0 := zae c10
       clear c10
       obtain ⟨t159, A12, H⟩ := bnd H
       by_cases c13 : t158 < 0
       ·rw [if_pos c13] at H
        have c13b0 := zae c13
        clear c13
        obtain ⟨y160, hy160⟩ : ∃ y_ : List Int, y_ = (([] : List Int)) := ⟨_, rfl⟩
        replace H : (some (y160, false)) = some (r1, r2) := jrw hy160 H
        have Ny160 := Aside0.mk hy160
        clear hy160
        simp only [zbz, zcj] at H
        obtain ⟨rfl, rfl⟩ := H
        have p7 : 0 ≤ (x5_1 : Int) := zac jab
        have q7 : x5_1 < (a0.size : Int) := zac jab
        have hx7 := bt_at a0 x5_1
        replace p7 := zbd p7
        replace q7 := zbd q7
        go_wp2_with (first | (go_at_call 135; (with_reducible refine (spec_l1Sign.calls k1 (bt a0 x5_1) t158 _ A8.out).mono ?_); rintro e w' ⟨rfl, ⟨nd, rfl⟩⟩; (try first | exact ⟨rfl, _, zam _ _ _⟩ | exact ⟨rfl, _, zee (zam _ _ _) (zed (World.drewN _) (zch _ _ _))⟩); have p11 : 0 ≤ ((ji9) : Int) := zac jab; have q11 : (ji9) < (a0.size : Int) := zac jab; have hx11 := bt_at a0 (ji9); replace p11 := zbd p11; replace q11 := zbd q11) | (go_at_call 135; (with_reducible refine (spec_l1Sign.calls k1 (bt a0 (ji9)) t159 _ A12.out).mono ?_); rintro e w' ⟨rfl, ⟨nd, rfl⟩⟩; (try first | exact ⟨rfl, _, zam _ _ _⟩ | exact ⟨rfl, _, zee (zam _ _ _) (zed (World.drewN _) (zch _ _ _))⟩)) | (refine jgd 31 ?_; refine jlt 31 (Kd.int .u8) 5 ?_; intro v161 w14 ho15 hb; have xb_ := below_ofs bq hb; (first | rw [← Ny160.out] at ho15 | (simp only [Int.reduceToNat] at ho15; rw [← Ny160.out] at ho15)); have qHO_4 := Kd.R_ofs (pR HO_4.out) hb; have n_ := jA3 (zbr qHO_4 (zbe ho15) hb) (zbc (zcz ho15 (zcd qHO_4)) (zak xb_)) (zab xb_ hb); clear qHO_4 HO_4 HB; obtain ⟨HO_4, HO162, HB⟩ := n_; clear xb_ hb ho15))
        repeat (go_quiet (first | (go_at_call 135; (with_reducible refine (spec_l1Sign.calls k1 (bt a0 x5_1) t158 _ A8.out).mono ?_); rintro e w' ⟨rfl, ⟨nd, rfl⟩⟩; (try first | exact ⟨rfl, _, zam _ _ _⟩ | exact ⟨rfl, _, zee (zam _ _ _) (zed (World.drewN _) (zch _ _ _))⟩); have p11 : 0 ≤ ((ji9) : Int) := zac jab; have q11 : (ji9) < (a0.size : Int) := zac jab; have hx11 := bt_at a0 (ji9); replace p11 := zbd p11; replace q11 := zbd q11) | (go_at_call 135; (with_reducible refine (spec_l1Sign.calls k1 (bt a0 (ji9)) t159 _ A12.out).mono ?_); rintro e w' ⟨rfl, ⟨nd, rfl⟩⟩; (try first | exact ⟨rfl, _, zam _ _ _⟩ | exact ⟨rfl, _, zee (zam _ _ _) (zed (World.drewN _) (zch _ _ _))⟩)) | (refine jgd 31 ?_; refine jlt 31 (Kd.int .u8) 5 ?_; intro v161 w14 ho15 hb; (first | rw [← Ny160.out] at ho15 | (simp only [Int.reduceToNat] at ho15; rw [← Ny160.out] at ho15)); have n_ := jA3 (zbr (pR HO_4.out) (zbe ho15) hb) (zbc (zcz ho15 (zcd (pR HO_4.out))) (zak bq)) (zab bq hb); clear HO_4 HB; obtain ⟨HO_4, HO162, HB⟩ := n_; clear hb ho15)); try go_wp2_with (first | (go_at_call 135; (with_reducible refine (spec_l1Sign.calls k1 (bt a0 x5_1) t158 _ A8.out).mono ?_); rintro e w' ⟨rfl, ⟨nd, rfl⟩⟩; (try first | exact ⟨rfl, _, zam _ _ _⟩ | exact ⟨rfl, _, zee (zam _ _ _) (zed (World.drewN _) (zch _ _ _))⟩); have p11 : 0 ≤ ((ji9) : Int) := zac jab; have q11 : (ji9) < (a0.size : Int) := zac jab; have hx11 := bt_at a0 (ji9); replace p11 := zbd p11; replace q11 := zbd q11) | (go_at_call 135; (with_reducible refine (spec_l1Sign.calls k1 (bt a0 (ji9)) t159 _ A12.out).mono ?_); rintro e w' ⟨rfl, ⟨nd, rfl⟩⟩; (try first | exact ⟨rfl, _, zam _ _ _⟩ | exact ⟨rfl, _, zee (zam _ _ _) (zed (World.drewN _) (zch _ _ _))⟩)) | (refine jgd 31 ?_; refine jlt 31 (Kd.int .u8) 5 ?_; intro v161 w14 ho15 hb; (first | rw [← Ny160.out] at ho15 | (simp only [Int.reduceToNat] at ho15; rw [← Ny160.out] at ho15)); have n_ := jA3 (zbr (pR HO_4.out) (zbe ho15) hb) (zbc (zcz ho15 (zcd (pR HO_4.out))) (zak bq)) (zab bq hb); clear HO_4 HB; obtain ⟨HO_4, HO162, HB⟩ := n_; clear hb ho15)))
        go_ret2
        exact ⟨_, by first | rfl | (simp [errW_none, errW_some] <;> rfl) | (simp only [← hji9]; first | rfl | (simp [errW_none, errW_some] <;> rfl)) | (simp [*, errW_none, errW_some] <;> rfl), tqR HO162.out, bq⟩
       ·rw [if_neg c13] at H
        have c13b0 := zas c13
        clear c13
        by_cases c16 : t159 < 0
        ·rw [if_pos c16] at H
         have c16b0 := zae c16
         clear c16
         obtain ⟨y163, hy163⟩ : ∃ y_ : List Int, y_ = (([] : List Int)) := ⟨_, rfl⟩
         replace H : (some (y163, false)) = some (r1, r2) := jrw hy163 H
         have Ny163 := Aside0.mk hy163
         clear hy163
         simp only [zbz, zcj] at H
         obtain ⟨rfl, rfl⟩ := H
         have p7 : 0 ≤ (x5_1 : Int) := zac jab
         have q7 : x5_1 < (a0.size : Int) := zac jab
         have hx7 := bt_at a0 x5_1
         replace p7 := zbd p7
         replace q7 := zbd q7
         go_wp2_with (first | (go_at_call 135; (with_reducible refine (spec_l1Sign.calls k1 (bt a0 x5_1) t158 _ A8.out).mono ?_); rintro e w' ⟨rfl, ⟨nd, rfl⟩⟩; (try first | exact ⟨rfl, _, zam _ _ _⟩ | exact ⟨rfl, _, zee (zam _ _ _) (zed (World.drewN _) (zch _ _ _))⟩); have p11 : 0 ≤ ((ji9) : Int) := zac jab; have q11 : (ji9) < (a0.size : Int) := zac jab; have hx11 := bt_at a0 (ji9); replace p11 := zbd p11; replace q11 := zbd q11) | (go_at_call 135; (with_reducible refine (spec_l1Sign.calls k1 (bt a0 (ji9)) t159 _ A12.out).mono ?_); rintro e w' ⟨rfl, ⟨nd, rfl⟩⟩; (try first | exact ⟨rfl, _, zam _ _ _⟩ | exact ⟨rfl, _, zee (zam _ _ _) (zed (World.drewN _) (zch _ _ _))⟩)) | (refine jgd 31 ?_; refine jlt 31 (Kd.int .u8) 5 ?_; intro v164 w17 ho18 hb; have xb_ := below_ofs bq hb; (first | rw [← Ny163.out] at ho18 | (simp only [Int.reduceToNat] at ho18; rw [← Ny163.out] at ho18)); have qHO_4 := Kd.R_ofs (pR HO_4.out) hb; have n_ := jA3 (zbr qHO_4 (zbe ho18) hb) (zbc (zcz ho18 (zcd qHO_4)) (zak xb_)) (zab xb_ hb); clear qHO_4 HO_4 HB; obtain ⟨HO_4, HO165, HB⟩ := n_; clear xb_ hb ho18))
         repeat (go_quiet (first | (go_at_call 135; (with_reducible refine (spec_l1Sign.calls k1 (bt a0 x5_1) t158 _ A8.out).mono ?_); rintro e w' ⟨rfl, ⟨nd, rfl⟩⟩; (try first | exact ⟨rfl, _, zam _ _ _⟩ | exact ⟨rfl, _, zee (zam _ _ _) (zed (World.drewN _) (zch _ _ _))⟩); have p11 : 0 ≤ ((ji9) : Int) := zac jab; have q11 : (ji9) < (a0.size : Int) := zac jab; have hx11 := bt_at a0 (ji9); replace p11 := zbd p11; replace q11 := zbd q11) | (go_at_call 135; (with_reducible refine (spec_l1Sign.calls k1 (bt a0 (ji9)) t159 _ A12.out).mono ?_); rintro e w' ⟨rfl, ⟨nd, rfl⟩⟩; (try first | exact ⟨rfl, _, zam _ _ _⟩ | exact ⟨rfl, _, zee (zam _ _ _) (zed (World.drewN _) (zch _ _ _))⟩)) | (refine jgd 31 ?_; refine jlt 31 (Kd.int .u8) 5 ?_; intro v164 w17 ho18 hb; (first | rw [← Ny163.out] at ho18 | (simp only [Int.reduceToNat] at ho18; rw [← Ny163.out] at ho18)); have n_ := jA3 (zbr (pR HO_4.out) (zbe ho18) hb) (zbc (zcz ho18 (zcd (pR HO_4.out))) (zak bq)) (zab bq hb); clear HO_4 HB; obtain ⟨HO_4, HO165, HB⟩ := n_; clear hb ho18)); try go_wp2_with (first | (go_at_call 135; (with_reducible refine (spec_l1Sign.calls k1 (bt a0 x5_1) t158 _ A8.out).mono ?_); rintro e w' ⟨rfl, ⟨nd, rfl⟩⟩; (try first | exact ⟨rfl, _, zam _ _ _⟩ | exact ⟨rfl, _, zee (zam _ _ _) (zed (World.drewN _) (zch _ _ _))⟩); have p11 : 0 ≤ ((ji9) : Int) := zac jab; have q11 : (ji9) < (a0.size : Int) := zac jab; have hx11 := bt_at a0 (ji9); replace p11 := zbd p11; replace q11 := zbd q11) | (go_at_call 135; (with_reducible refine (spec_l1Sign.calls k1 (bt a0 (ji9)) t159 _ A12.out).mono ?_); rintro e w' ⟨rfl, ⟨nd, rfl⟩⟩; (try first | exact ⟨rfl, _, zam _ _ _⟩ | exact ⟨rfl, _, zee (zam _ _ _) (zed (World.drewN _) (zch _ _ _))⟩)) | (refine jgd 31 ?_; refine jlt 31 (Kd.int .u8) 5 ?_; intro v164 w17 ho18 hb; (first | rw [← Ny163.out] at ho18 | (simp only [Int.reduceToNat] at ho18; rw [← Ny163.out] at ho18)); have n_ := jA3 (zbr (pR HO_4.out) (zbe ho18) hb) (zbc (zcz ho18 (zcd (pR HO_4.out))) (zak bq)) (zab bq hb); clear HO_4 HB; obtain ⟨HO_4, HO165, HB⟩ := n_; clear hb ho18)))
         go_ret2
         exact ⟨_, by first | rfl | (simp [errW_none, errW_some] <;> rfl) | (simp only [← hji9]; first | rfl | (simp [errW_none, errW_some] <;> rfl)) | (simp [*, errW_none, errW_some] <;> rfl), tqR HO165.out, bq⟩
        ·rw [if_neg c16] at H
         have c16b0 := zas c16
         clear c16
         by_cases c19 : x4_1.length < 140737488355328
         ·rw [if_pos c19] at H
          have LMc19 := Aside0.mk c19
          clear c19
          obtain ⟨y166, hy166⟩ : ∃ y_ : List Int, y_ = (x4_1 ++ [(wrap64 ((wrap64 (16 * t158)) + t159)) % 256]) := ⟨_, rfl⟩
          replace H : (spec_Unhex.l0 k1 a0 y166 (wrap64 (x5_1 + 2))) = some (r1, r2) := jrw hy166 H
          have Ny166 := Aside0.mk hy166
          clear hy166
          have H' := Aside0.mk H
          clear H
          have p7 : 0 ≤ (x5_1 : Int) := zac jab
          have q7 : x5_1 < (a0.size : Int) := zac jab
          have hx7 := bt_at a0 x5_1
          replace p7 := zbd p7
          replace q7 := zbd q7
          go_wp2_with (first | (go_at_call 135; (with_reducible refine (spec_l1Sign.calls k1 (bt a0 x5_1) t158 _ A8.out).mono ?_); rintro e w' ⟨rfl, ⟨nd, rfl⟩⟩; (try first | exact ⟨rfl, _, zam _ _ _⟩ | exact ⟨rfl, _, zee (zam _ _ _) (zed (World.drewN _) (zch _ _ _))⟩); have p11 : 0 ≤ ((ji9) : Int) := zac jab; have q11 : (ji9) < (a0.size : Int) := zac jab; have hx11 := bt_at a0 (ji9); replace p11 := zbd p11; replace q11 := zbd q11) | (go_at_call 135; (with_reducible refine (spec_l1Sign.calls k1 (bt a0 (ji9)) t159 _ A12.out).mono ?_); rintro e w' ⟨rfl, ⟨nd, rfl⟩⟩; (try first | exact ⟨rfl, _, zam _ _ _⟩ | exact ⟨rfl, _, zee (zam _ _ _) (zed (World.drewN _) (zch _ _ _))⟩)) | ((with_reducible refine zcc (b := .append) (xs := #[.tmp 32, .tmp 38]) rfl ?_); at_builtin; refine Kd.R_append (Kd.int .u8) (w0 := w) w.heap.size rfl (.tmp 32) (.tmp 38) 29 5 (.int .u8 0) 1 rfl Try.underlying29 info5 rfl (by decide) (by omega) u4 x4_1 ((wrap64 ((wrap64 (16 * t158)) + t159)) % 256) [.int .u8 ((wrap64 ((wrap64 (16 * t158)) + t159)) % 256)] (fun _ => True) (fun _ => False) rfl rfl ?aP (fun _ hk => hk.elim) ?aF ?aO ?aB ?aS ?aL ?_; (case aP => exact rfl); (case aB => exact bq); (case aF => exact (fun _ _ => trivial)); (case aO => exact (pR HO_4.out)); (case aS => exact (zak bq)); (case aL => have := LMc19.out; omega); intro v167 w20 ho hb hg hat; rw [← Ny166.out] at ho; have n_ := jA2 (hb) (ho); clear HB HO_4; obtain ⟨HB, HO168⟩ := n_; clear ho hb hg hat))
          repeat (go_quiet (first | (go_at_call 135; (with_reducible refine (spec_l1Sign.calls k1 (bt a0 x5_1) t158 _ A8.out).mono ?_); rintro e w' ⟨rfl, ⟨nd, rfl⟩⟩; (try first | exact ⟨rfl, _, zam _ _ _⟩ | exact ⟨rfl, _, zee (zam _ _ _) (zed (World.drewN _) (zch _ _ _))⟩); have p11 : 0 ≤ ((ji9) : Int) := zac jab; have q11 : (ji9) < (a0.size : Int) := zac jab; have hx11 := bt_at a0 (ji9); replace p11 := zbd p11; replace q11 := zbd q11) | (go_at_call 135; (with_reducible refine (spec_l1Sign.calls k1 (bt a0 (ji9)) t159 _ A12.out).mono ?_); rintro e w' ⟨rfl, ⟨nd, rfl⟩⟩; (try first | exact ⟨rfl, _, zam _ _ _⟩ | exact ⟨rfl, _, zee (zam _ _ _) (zed (World.drewN _) (zch _ _ _))⟩)) | ((with_reducible refine zcc (b := .append) (xs := #[.tmp 32, .tmp 38]) rfl ?_); at_builtin; refine Kd.R_append (Kd.int .u8) (w0 := w) w.heap.size rfl (.tmp 32) (.tmp 38) 29 5 (.int .u8 0) 1 rfl Try.underlying29 info5 rfl (by decide) (by omega) u4 x4_1 ((wrap64 ((wrap64 (16 * t158)) + t159)) % 256) [.int .u8 ((wrap64 ((wrap64 (16 * t158)) + t159)) % 256)] (fun _ => True) (fun _ => False) rfl rfl ?aP (fun _ hk => hk.elim) ?aF ?aO ?aB ?aS ?aL ?_; (case aP => exact rfl); (case aB => exact bq); (case aF => exact (fun _ _ => trivial)); (case aO => exact (pR HO_4.out)); (case aS => exact (zak bq)); (case aL => have := LMc19.out; omega); intro v167 w20 ho hb hg hat; rw [← Ny166.out] at ho; have n_ := jA2 (hb) (ho); clear HB HO_4; obtain ⟨HB, HO168⟩ := n_; clear ho hb hg hat)); try go_wp2_with (first | (go_at_call 135; (with_reducible refine (spec_l1Sign.calls k1 (bt a0 x5_1) t158 _ A8.out).mono ?_); rintro e w' ⟨rfl, ⟨nd, rfl⟩⟩; (try first | exact ⟨rfl, _, zam _ _ _⟩ | exact ⟨rfl, _, zee (zam _ _ _) (zed (World.drewN _) (zch _ _ _))⟩); have p11 : 0 ≤ ((ji9) : Int) := zac jab; have q11 : (ji9) < (a0.size : Int) := zac jab; have hx11 := bt_at a0 (ji9); replace p11 := zbd p11; replace q11 := zbd q11) | (go_at_call 135; (with_reducible refine (spec_l1Sign.calls k1 (bt a0 (ji9)) t159 _ A12.out).mono ?_); rintro e w' ⟨rfl, ⟨nd, rfl⟩⟩; (try first | exact ⟨rfl, _, zam _ _ _⟩ | exact ⟨rfl, _, zee (zam _ _ _) (zed (World.drewN _) (zch _ _ _))⟩)) | ((with_reducible refine zcc (b := .append) (xs := #[.tmp 32, .tmp 38]) rfl ?_); at_builtin; refine Kd.R_append (Kd.int .u8) (w0 := w) w.heap.size rfl (.tmp 32) (.tmp 38) 29 5 (.int .u8 0) 1 rfl Try.underlying29 info5 rfl (by decide) (by omega) u4 x4_1 ((wrap64 ((wrap64 (16 * t158)) + t159)) % 256) [.int .u8 ((wrap64 ((wrap64 (16 * t158)) + t159)) % 256)] (fun _ => True) (fun _ => False) rfl rfl ?aP (fun _ hk => hk.elim) ?aF ?aO ?aB ?aS ?aL ?_; (case aP => exact rfl); (case aB => exact bq); (case aF => exact (fun _ _ => trivial)); (case aO => exact (pR HO_4.out)); (case aS => exact (zak bq)); (case aL => have := LMc19.out; omega); intro v167 w20 ho hb hg hat; rw [← Ny166.out] at ho; have n_ := jA2 (hb) (ho); clear HB HO_4; obtain ⟨HB, HO168⟩ := n_; clear ho hb hg hat)))
          go_roundg k1
          case measure => have := HK1.out; omega
          case rel => exact ⟨(y166), (wrap64 (x5_1 + 2)), jer, H', ⟨by have := HK1.out; omega⟩, ⟨pR HO168.out⟩, ⟨bq⟩⟩
         ·rw [if_neg c19] at H
          exact absurd H (by simp)
      ·rw [if_neg c10] at H
       exact absurd H (by simp)
     ·rw [if_neg c6] at H
      exact absurd H (by simp)
    ·rw [if_neg c5] at H
     exact absurd H (by simp)
   ·rw [if_neg c4] at H
    have c4b0 := zas c4
    clear c4
    by_cases c21 : ((a0.size : Int) % 2) = 0
    ·rw [if_pos c21] at H
     have c21b0 := beqT c21
     have c21b1 := zau.mpr c21
     clear c21
     simp only [zbz, zcj] at H
     obtain ⟨rfl, rfl⟩ := H
     go_wp2
     go_ret2
     exact ⟨_, jex, by (with_reducible repeat (first | apply zbo | apply zbp | apply zbs)); exact HO_4.out, bq⟩
    ·rw [if_neg c21] at H
     have c21b0 := zao.mpr c21
     have c21b1 := zcs.mpr c21
     obtain ⟨y155, hy155⟩ : ∃ y_ : List Int, y_ = (([] : List Int)) := ⟨_, rfl⟩
     replace H : (some (y155, false)) = some (r1, r2) := jrw hy155 H
     have Ny155 := Aside0.mk hy155
     clear hy155
     simp only [zbz, zcj] at H
     obtain ⟨rfl, rfl⟩ := H
     go_wp2_with (first | (refine jgd 44 ?_; refine jlt 44 (Kd.int .u8) 5 ?_; intro v156 w22 ho23 hb; have xb_ := below_ofs bq hb; (first | rw [← Ny155.out] at ho23 | (simp only [Int.reduceToNat] at ho23; rw [← Ny155.out] at ho23)); have qHO_4 := Kd.R_ofs (pR HO_4.out) hb; have n_ := jA3 (zbr qHO_4 (zbe ho23) hb) (zbc (zcz ho23 (zcd qHO_4)) (zak xb_)) (zab xb_ hb); clear qHO_4 HO_4 HB; obtain ⟨HO_4, HO157, HB⟩ := n_; clear xb_ hb ho23))
     go_ret2
     exact ⟨_, jex, tqR HO157.out, bq⟩
def spec_l13Route.f (k : Nat) (a0 : ByteArray) : Option (Bool) := (spec_Unhex.f k a0).bind fun bt169 => (if bt169.2 = true then (some ((bt169.1.length : Int) == 8)) else (some false))
theorem spec_l13Route.mono : ∀ a0 k, LeO (spec_l13Route.f k a0) (spec_l13Route.f (k + 1) a0) := by
 intro a0 k
 unfold spec_l13Route.f
 have m0 := @spec_Unhex.mono
 exact mt
theorem spec_l13Route.wk {P : Prop} (h : P := by
 go_enter Try.func88, Try.ntmps88
 go_wp2_with (first | (refine jgc 106 ?_; refine jgs 7 Try.func106 #[.string a0] ?_; (with_reducible refine (spec_Unhex.calls k a0 t169 true _ A2.out).mono ?_); rintro e w_ ⟨v171, rfl, ho0, hb⟩; refine ⟨_, rfl, ?_⟩; have xb_ := below_ofs bq hb; have n_ := jA2 (zbc ho0 (zak xb_)) (zab xb_ hb); clear HB; obtain ⟨HO172, HB⟩ := n_; clear xb_ hb ho0; obtain ⟨Ao5, co5, eo5⟩ := zbm HO172.out; subst eo5) | (refine jgc 106 ?_; refine jgs 7 Try.func106 #[.string a0] ?_; (with_reducible refine (spec_Unhex.calls k a0 t169 false _ A2.out).mono ?_); rintro e w_ ⟨v171, rfl, ho0, hb⟩; refine ⟨_, rfl, ?_⟩; have xb_ := below_ofs bq hb; have n_ := jA2 (zbc ho0 (zak xb_)) (zab xb_ hb); clear HB; obtain ⟨HO172, HB⟩ := n_; clear xb_ hb ho0))
 go_ret
 exact ⟨jex, bq⟩) : P := h
theorem spec_l13Route.calls (k : Nat) (a0 : ByteArray) (r : Bool) (w : World) (h : spec_l13Route.f k a0 = some r) :
  Calls Try.prog 88 #[.string a0] w fun e w' => e = .returned (.bool r) ∧ Below w.heap.size w w' := by
 have HB := Aside0.mk (zbk w.heap.size w)
 have H : ((spec_Unhex.f k a0).bind fun bt169 => (if bt169.2 = true then (some ((bt169.1.length : Int) == 8)) else (some false))) = some r := h
 clear h
 obtain ⟨⟨t169, t170⟩, A2, H⟩ := bnd H
 try dsimp only at H
 by_cases c3 : t170 = true
 ·subst c3
  rw [if_pos rfl] at H
  obtain rfl := Option.some.inj H
  exact spec_l13Route.wk
 ·replace c3 := zbn.mpr c3
  subst c3
  rw [if_neg (show ¬ (false = true) by decide)] at H
  obtain rfl := Option.some.inj H
  exact spec_l13Route.wk
end Go.Proofs.Ytlalkldjpniakaa.P
