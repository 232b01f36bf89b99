import Derived.Test.Ytlalkldjpniakaapm3
namespace Go.Proofs.Ytlalkldjpniakaa.P
open Go.RowKit Go.Proofs.YtlalkldjpniakaaW.PrintWords Go.Proofs.YtlalkldjpniakaaW.PrintLast Go.Proofs.YtlalkldjpniakaaW.PrintMore
attribute [local go_sem] zcm zcn zdi zdj zbz zca zco zcp   -- for this text's walks alone
set_option linter.unusedVariables false
set_option linter.unusedSimpArgs false
set_option maxHeartbeats 8000000
set_option maxRecDepth 100000

def laws_eqItem.f (k : Nat) (a0_0 : ByteArray) (a0_1 : Int) (a0_2 : Int) (l0_3 : List Int) (a1_0 : ByteArray) (a1_1 : Int) (a1_2 : Int) (l1_3 : List Int) : Option (Bool) := if a0_0.toList = a1_0.toList then (if a0_1 = a1_1 then (if a0_2 = a1_2 then ((laws_eqByteS.f k l0_3 l1_3).bind fun t135 => (if t135 = true then (some true) else (some false))) else (some false)) else (some false)) else (some false)
theorem laws_eqItem.mono : ∀ a0 a1 a2 a3 a4 a5 a6 a7 k, LeO (laws_eqItem.f k a0 a1 a2 a3 a4 a5 a6 a7) (laws_eqItem.f (k + 1) a0 a1 a2 a3 a4 a5 a6 a7) := by
 intro a0 a1 a2 a3 a4 a5 a6 a7 k
 unfold laws_eqItem.f
 have m0 := @laws_eqByteS.mono
 exact mt
theorem laws_eqItem.wk {P : Prop} (h : P := by
 go_enter Try.func27, Try.ntmps27
 go_wp2_with (first | (refine jgd 2 ?_; refine bx 2 (#[.string a0_0, .int .i64 a0_1, .int .i64 a0_2, .slice A0_3 l0_3.length c0_3]) 34 ?_; intro gb133 hg w_ hbox hb; have xb_ := below_ofs bq hb; have n_ := jA4 (zad xb_ hb) (hbox) (ge0 hg xb_ : w.heap.size ≤ gb133) (ge0 hg xb_ : w.heap.size ≤ gb133); clear HB; obtain ⟨HB, BK133, GW133, GE133⟩ := n_; clear xb_ hb hbox hg) | (refine jgd 3 ?_; refine bx 3 (#[.string a1_0, .int .i64 a1_1, .int .i64 a1_2, .slice A1_3 l1_3.length c1_3]) 34 ?_; intro gb134 hg w_ hbox hb; have n_ := jA7 (jbb BK133.out hb) (zad (bs1 GE133.out) hb) (hbox) (ge0 hg (bs1 GE133.out) : w.heap.size ≤ gb134) (ge0 hg (bs1 GE133.out) : w.heap.size ≤ gb134) (nl hg (pB BK133.out) : gb133 ≠ gb134) (ng hg (pB BK133.out) : gb134 ≠ gb133); clear BK133 HB; obtain ⟨BK133, HB, BK134, GW134, GE134, NB133_134, NB134_133⟩ := n_; clear hb hbox hg; have hnb_ := NB133_134.out; have hnc_ := NB134_133.out; obtain ⟨c0, c1, c2, c3, z0, z1, z2, z3⟩ := cz4 BK133.out; obtain ⟨c0, c1, c2, c3, z0, z1, z2, z3⟩ := cz4 BK134.out) | (refine jgc 50 ?_; refine jgs 24 Try.func50 #[.slice A0_3 l0_3.length c0_3, .slice A1_3 l1_3.length c1_3] ?_; (with_reducible refine (laws_eqByteS.calls k _ _ l0_3 _ _ l1_3 _ _ ?side1 ?side2 ?side3 ?side4 A6.out).mono ?_); (case side1 => exact jcs HR0_3.out); (case side2 => exact HC0_3.out); (case side3 => exact jcs HR1_3.out); (case side4 => exact HC1_3.out); rintro e w' ⟨rfl, ⟨nd, rfl⟩⟩; refine ⟨_, rfl, ?_⟩))
 go_ret
 exact ⟨jex, (bs2 GE133.out GE134.out)⟩) : P := h
theorem laws_eqItem.calls (k : Nat) (a0_0 : ByteArray) (a0_1 : Int) (a0_2 : Int) (A0_3 : Option Addr) (c0_3 : Nat) (l0_3 : List Int) (a1_0 : ByteArray) (a1_1 : Int) (a1_2 : Int) (A1_3 : Option Addr) (c1_3 : Nat) (l1_3 : List Int) (r : Bool) (w : World) (hr0_3 : Kd.C (Kd.int .u8) w A0_3 l0_3.length l0_3) (hc0_3 : l0_3.length ≤ c0_3) (hr1_3 : Kd.C (Kd.int .u8) w A1_3 l1_3.length l1_3) (hc1_3 : l1_3.length ≤ c1_3) (h : laws_eqItem.f k a0_0 a0_1 a0_2 l0_3 a1_0 a1_1 a1_2 l1_3 = some r) :
  Calls Try.prog 27 #[.agg #[.string a0_0, .int .i64 a0_1, .int .i64 a0_2, .slice A0_3 l0_3.length c0_3], .agg #[.string a1_0, .int .i64 a1_1, .int .i64 a1_2, .slice A1_3 l1_3.length c1_3]] w fun e w' => e = .returned (.bool r) ∧ Below w.heap.size w w' := by
 have hu34 := Try.underlying34
 have HR0_3 := Aside0.mk hr0_3
 have HC0_3 := Aside0.mk hc0_3
 clear hr0_3 hc0_3
 have HR1_3 := Aside0.mk hr1_3
 have HC1_3 := Aside0.mk hc1_3
 clear hr1_3 hc1_3
 have HB := Aside0.mk (zbj w.heap.size w)
 have H : (if a0_0.toList = a1_0.toList then (if a0_1 = a1_1 then (if a0_2 = a1_2 then ((laws_eqByteS.f k l0_3 l1_3).bind fun t135 => (if t135 = true then (some true) else (some false))) else (some false)) else (some false)) else (some false)) = some r := h
 clear h
 by_cases c3 : a0_0.toList = a1_0.toList
 ·rw [if_pos c3] at H
  have c3b0 := beqT c3
  have c3b1 := zbe.mpr c3
  clear c3
  by_cases c4 : a0_1 = a1_1
  ·rw [if_pos c4] at H
   have c4b0 := beqT c4
   have c4b1 := zbe.mpr c4
   clear c4
   by_cases c5 : a0_2 = a1_2
   ·rw [if_pos c5] at H
    have c5b0 := beqT c5
    have c5b1 := zbe.mpr c5
    clear c5
    obtain ⟨t135, A6, H⟩ := bnd H
    by_cases c7 : t135 = true
    ·subst c7
     rw [if_pos rfl] at H
     obtain rfl := Option.some.inj H
     exact laws_eqItem.wk
    ·replace c7 := zcd.mpr c7
     subst c7
     rw [if_neg (show ¬ (false = true) by decide)] at H
     obtain rfl := Option.some.inj H
     exact laws_eqItem.wk
   ·rw [if_neg c5] at H
    have c5b0 := zax.mpr c5
    have c5b1 := zdb.mpr c5
    obtain rfl := Option.some.inj H
    exact laws_eqItem.wk
  ·rw [if_neg c4] at H
   have c4b0 := zax.mpr c4
   have c4b1 := zdb.mpr c4
   obtain rfl := Option.some.inj H
   exact laws_eqItem.wk
 ·rw [if_neg c3] at H
  have c3b0 := zax.mpr c3
  have c3b1 := zdb.mpr c3
  obtain rfl := Option.some.inj H
  exact laws_eqItem.wk
def laws_eqItemS.l0 : Nat → List (S34) → List (S34) → Int → Option (Bool)
 | 0, _, _, _ => none
 | k + 1, x0, x1, x5 => if x5 < (x0.length : Int) then (if 0 ≤ x5 then (if x5 < (x1.length : Int) then ((laws_eqItem.f k ((rd_T34 x0 x5).f0) ((rd_T34 x0 x5).f1) ((rd_T34 x0 x5).f2) ((rd_T34 x0 x5).f3) ((rd_T34 x1 x5).f0) ((rd_T34 x1 x5).f1) ((rd_T34 x1 x5).f2) ((rd_T34 x1 x5).f3)).bind fun t138 => (if t138 = true then (laws_eqItemS.l0 k x0 x1 (wrap64 (x5 + 1))) else (some false))) else (none)) else (none)) else (some true)
def laws_eqItemS.f (k : Nat) (l0 : List (S34)) (l1 : List (S34)) : Option (Bool) := if (l0.length : Int) = (l1.length : Int) then (laws_eqItemS.l0 k l0 l1 0) else (some false)
theorem laws_eqItemS.mono_l : ∀ k, (∀ y0 y1 y2, LeO (laws_eqItemS.l0 k y0 y1 y2) (laws_eqItemS.l0 (k + 1) y0 y1 y2))
 | 0 => fun _ _ _ r h => by simp [laws_eqItemS.l0] at h
 | k + 1 => by
  have ih0 := laws_eqItemS.mono_l k
  ·intro y0 y1 y2
   unfold laws_eqItemS.l0
   have m0 := @laws_eqItem.mono
   exact mt
theorem laws_eqItemS.mono : ∀ a0 a1 k, LeO (laws_eqItemS.f k a0 a1) (laws_eqItemS.f (k + 1) a0 a1) := by
 intro a0 a1 k
 have ih0 := laws_eqItemS.mono_l k
 unfold laws_eqItemS.f
 have m0 := @laws_eqItem.mono
 exact mt
def laws_eqItemS.T6 : Bool × List (List Nat × List Nat) := (true, [([], []), ([], []), ([0, 1], [0, 1]), ([2], [2]), ([], []), ([], []), ([4, 5], [4, 5]), ([6], [6]), ([3, 7], [3, 7]), ([8], [8])])
def laws_eqItemS.B6 : List Nat := [0, 0, 3, 7, 0, 0, 48, 112, 255, 511]
theorem laws_eqItemS.tab6 : rtab .any (opsOf Try.f22 6) = laws_eqItemS.T6 := by kernel_rfl
theorem laws_eqItemS.bits6 : waitsOk laws_eqItemS.T6.2 laws_eqItemS.B6 = true := by kernel_rfl
theorem laws_eqItemS.calls (k : Nat) (A0 : Option Addr) (c0 : Nat) (l0 : List (S34)) (A1 : Option Addr) (c1 : Nat) (l1 : List (S34)) (r : Bool) (w : World) (hr0 : Kd.C k34 w A0 l0.length l0) (hc0 : l0.length ≤ c0) (hr1 : Kd.C k34 w A1 l1.length l1) (hc1 : l1.length ≤ c1) (h : laws_eqItemS.f k l0 l1 = some r) :
  Calls Try.prog 22 #[.slice A0 l0.length c0, .slice A1 l1.length c1] w fun e w' => e = .returned (.bool r) ∧ Below w.heap.size w w' := by
 have hu34 := Try.underlying34
 have HR0 := Aside0.mk hr0
 have HC0 := Aside0.mk hc0
 clear hr0 hc0
 have HR1 := Aside0.mk hr1
 have HC1 := Aside0.mk hc1
 clear hr1 hc1
 have HB := Aside0.mk (zbj w.heap.size w)
 have H : (if (l0.length : Int) = (l1.length : Int) then (laws_eqItemS.l0 k l0 l1 0) else (some false)) = some r := h
 clear h
 by_cases c3 : (l0.length : Int) = (l1.length : Int)
 ·rw [if_pos c3] at H
  have c3b0 := beqT c3
  have c3b1 := zbe.mpr c3
  have c3b2 : (l0.length == l1.length) = true := by first | simpa using c3 | (simp at c3 ⊢; omega)
  clear c3
  have H' := Aside0.mk H
  clear H
  go_enter Try.func22, Try.ntmps22
  go_wp2
  go_loopg [5] k (fun kq v5 w' => ∃ (x5_1 : Int), v5 = .int .i64 x5_1 ∧ Aside0 (laws_eqItemS.l0 kq l0 l1 x5_1 = some r) ∧ Aside0 (kq ≤ k) ∧ Aside0 (Below w.heap.size w w'))
  case atStart => exact ⟨(0), jer, H', ⟨zaf _⟩, ⟨bq⟩⟩
  case round =>
   clear H'
   try clear c1
   try clear c2
   try clear p2
   try clear c3
   try clear c3b0
   try clear c3b1
   try clear c3b2
   obtain ⟨x5_1, rfl, HA, HK1, HB⟩ := hrel
   cases gk with
   | zero => exact absurd HA.out (by simp [laws_eqItemS.l0])
   | succ k1 =>
    have H := HA.out
    clear HA
    simp only [laws_eqItemS.l0] at H
    by_cases c4 : x5_1 < (l0.length : Int)
    ·rw [if_pos c4] at H
     have c4b0 := zae c4
     clear c4
     by_cases c5 : 0 ≤ x5_1
     ·rw [if_pos c5] at H
      have c5b0 := zae c5
      clear c5
      by_cases c6 : x5_1 < (l1.length : Int)
      ·rw [if_pos c6] at H
       have c6b0 := zae c6
       clear c6
       obtain ⟨t138, A7, H⟩ := bnd H
       by_cases c8 : t138 = true
       ·subst c8
        rw [if_pos rfl] at H
        have H' := Aside0.mk H
        clear H
        try go_wp2
        replace HB := Aside0.mk (zfj HB.out)
        obtain ⟨p136, q136, ad136, A136_3, c136_3, e136, hw136_0, hw136_1, hw136_2, hw136_3, hx136_0, hx136_1, hx136_2, hx136_3, HC136_3, HR136_3⟩ := jelw HR0.out HB.out x5_1
        cases e136
        obtain ⟨p137, q137, ad137, A137_3, c137_3, e137, hw137_0, hw137_1, hw137_2, hw137_3, hx137_0, hx137_1, hx137_2, hx137_3, HC137_3, HR137_3⟩ := jelw HR1.out HB.out x5_1
        cases e137
        refine start_ (n := 10) (S := fun w' => w'.cell? (ad136.add ((x5_1).toNat * 4)) = some (.string ((rd_T34 l0 x5_1).f0)) ∧ w'.cell? ⟨(ad136.add ((x5_1).toNat * 4)).block, (ad136.add ((x5_1).toNat * 4)).off + 1, none⟩ = some (.int .i64 ((rd_T34 l0 x5_1).f1)) ∧ w'.cell? ⟨(ad136.add ((x5_1).toNat * 4)).block, (ad136.add ((x5_1).toNat * 4)).off + 2, none⟩ = some (.int .i64 ((rd_T34 l0 x5_1).f2)) ∧ w'.cell? ⟨(ad136.add ((x5_1).toNat * 4)).block, (ad136.add ((x5_1).toNat * 4)).off + 3, none⟩ = some (.slice A136_3 ((rd_T34 l0 x5_1).f3).length c136_3) ∧ w'.cell? (ad137.add ((x5_1).toNat * 4)) = some (.string ((rd_T34 l1 x5_1).f0)) ∧ w'.cell? ⟨(ad137.add ((x5_1).toNat * 4)).block, (ad137.add ((x5_1).toNat * 4)).off + 1, none⟩ = some (.int .i64 ((rd_T34 l1 x5_1).f1)) ∧ w'.cell? ⟨(ad137.add ((x5_1).toNat * 4)).block, (ad137.add ((x5_1).toNat * 4)).off + 2, none⟩ = some (.int .i64 ((rd_T34 l1 x5_1).f2)) ∧ w'.cell? ⟨(ad137.add ((x5_1).toNat * 4)).block, (ad137.add ((x5_1).toNat * 4)).off + 3, none⟩ = some (.slice A137_3 ((rd_T34 l1 x5_1).f3).length c137_3)) (ds := []) #[false, false, false, false, false, false, false, false, false, false] (by kernel_rfl) rfl rfl ⟨(jcB HB.out hw136_0 :), (jcB HB.out hw136_1 :), (jcB HB.out hw136_2 :), (jcB HB.out hw136_3 :), (jcB HB.out hw137_0 :), (jcB HB.out hw137_1 :), (jcB HB.out hw137_2 :), (jcB HB.out hw137_3 :)⟩ (fun hHeld => ?_); refine zgm laws_eqItemS.tab6 laws_eqItemS.bits6 (fun HT_ HW_ => ?_)
        generalize wr.drew = w9 at HB HR136_3 HR137_3 hx136_0 hx136_1 hx136_2 hx136_3 hx137_0 hx137_1 hx137_2 hx137_3 hHeld ⊢
        refine pu 0 17 HT_.out ?_
        refine pu 1 18 HT_.out ?_
        refine pu 2 19 HT_.out ?_
        refine pu 4 21 HT_.out ?_
        refine pu 5 22 HT_.out ?_
        refine pu 6 23 HT_.out ?_
        refine tk 3 20 HT_.out HW_.out hHeld ?_
        refine tk 7 24 HT_.out HW_.out hHeld ?_
        refine one_ (i := 8) (N := some 25) #[true, true, true, true, true, true, true, true, true, false] rfl rfl (one_of HT_.out (by kernel_rfl)) (by decide) (fun K hK => ?_)
        refine goes_ Try.func27 (by kernel_rfl) rfl #[.agg #[.string ((rd_T34 l0 x5_1).f0), .int .i64 ((rd_T34 l0 x5_1).f1), .int .i64 ((rd_T34 l0 x5_1).f2), .slice A136_3 ((rd_T34 l0 x5_1).f3).length c136_3], .agg #[.string ((rd_T34 l1 x5_1).f0), .int .i64 ((rd_T34 l1 x5_1).f1), .int .i64 ((rd_T34 l1 x5_1).f2), .slice A137_3 ((rd_T34 l1 x5_1).f3).length c137_3]] (by rfl) rfl rfl jhl ?_
        with_reducible refine (laws_eqItem.calls k1 ((rd_T34 l0 x5_1).f0) ((rd_T34 l0 x5_1).f1) ((rd_T34 l0 x5_1).f2) _ _ ((rd_T34 l0 x5_1).f3) ((rd_T34 l1 x5_1).f0) ((rd_T34 l1 x5_1).f1) ((rd_T34 l1 x5_1).f2) _ _ ((rd_T34 l1 x5_1).f3) true _ ?side1 ?side2 ?side3 ?side4 A7.out).mono ?_
        (case side1 => exact jcs HR136_3.out)
        (case side2 => exact HC136_3.out)
        (case side3 => exact jcs HR137_3.out)
        (case side4 => exact HC137_3.out)
        rintro e w10 ⟨rfl, hb⟩
        refine ⟨_, rfl, ?_⟩
        replace HB := Aside0.mk (zad bq hb)
        (try clear hb)
        (try clear hb2)
        (try clear hk)
        (try clear hi)
        refine hK.out _ _ ⟨(jcB HB.out hw136_0 :), (jcB HB.out hw136_1 :), (jcB HB.out hw136_2 :), (jcB HB.out hw136_3 :), (jcB HB.out hw137_0 :), (jcB HB.out hw137_1 :), (jcB HB.out hw137_2 :), (jcB HB.out hw137_3 :)⟩ (fun hHeld => ?_)
        clear hK K
        refine norm_ (a' := ?_) ?_ ?_
        rotate_left
        ·show Act.put _ (some 25) _ = _
         simp only [Act.put, zao, zbc, zbd, i64_w, i32_w]
         rfl
        refine pu 9 26 HT_.out ?_
        refine done_ (done_of HT_.out (by kernel_rfl)) ?_
        try go_wp2
        go_roundg k1
        case measure => have := HK1.out; omega
        case rel => exact ⟨(wrap64 (x5_1 + 1)), jer, H', ⟨by have := HK1.out; omega⟩, ⟨bq⟩⟩
       ·replace c8 := zcd.mpr c8
        subst c8
        rw [if_neg (show ¬ (false = true) by decide)] at H
        obtain rfl := Option.some.inj H
        try go_wp2
        replace HB := Aside0.mk (zfj HB.out)
        obtain ⟨p136, q136, ad136, A136_3, c136_3, e136, hw136_0, hw136_1, hw136_2, hw136_3, hx136_0, hx136_1, hx136_2, hx136_3, HC136_3, HR136_3⟩ := jelw HR0.out HB.out x5_1
        cases e136
        obtain ⟨p137, q137, ad137, A137_3, c137_3, e137, hw137_0, hw137_1, hw137_2, hw137_3, hx137_0, hx137_1, hx137_2, hx137_3, HC137_3, HR137_3⟩ := jelw HR1.out HB.out x5_1
        cases e137
        refine start_ (n := 10) (S := fun w' => w'.cell? (ad136.add ((x5_1).toNat * 4)) = some (.string ((rd_T34 l0 x5_1).f0)) ∧ w'.cell? ⟨(ad136.add ((x5_1).toNat * 4)).block, (ad136.add ((x5_1).toNat * 4)).off + 1, none⟩ = some (.int .i64 ((rd_T34 l0 x5_1).f1)) ∧ w'.cell? ⟨(ad136.add ((x5_1).toNat * 4)).block, (ad136.add ((x5_1).toNat * 4)).off + 2, none⟩ = some (.int .i64 ((rd_T34 l0 x5_1).f2)) ∧ w'.cell? ⟨(ad136.add ((x5_1).toNat * 4)).block, (ad136.add ((x5_1).toNat * 4)).off + 3, none⟩ = some (.slice A136_3 ((rd_T34 l0 x5_1).f3).length c136_3) ∧ w'.cell? (ad137.add ((x5_1).toNat * 4)) = some (.string ((rd_T34 l1 x5_1).f0)) ∧ w'.cell? ⟨(ad137.add ((x5_1).toNat * 4)).block, (ad137.add ((x5_1).toNat * 4)).off + 1, none⟩ = some (.int .i64 ((rd_T34 l1 x5_1).f1)) ∧ w'.cell? ⟨(ad137.add ((x5_1).toNat * 4)).block, (ad137.add ((x5_1).toNat * 4)).off + 2, none⟩ = some (.int .i64 ((rd_T34 l1 x5_1).f2)) ∧ w'.cell? ⟨(ad137.add ((x5_1).toNat * 4)).block, (ad137.add ((x5_1).toNat * 4)).off + 3, none⟩ = some (.slice A137_3 ((rd_T34 l1 x5_1).f3).length c137_3)) (ds := []) #[false, false, false, false, false, false, false, false, false, false] (by kernel_rfl) rfl rfl ⟨(jcB HB.out hw136_0 :), (jcB HB.out hw136_1 :), (jcB HB.out hw136_2 :), (jcB HB.out hw136_3 :), (jcB HB.out hw137_0 :), (jcB HB.out hw137_1 :), (jcB HB.out hw137_2 :), (jcB HB.out hw137_3 :)⟩ (fun hHeld => ?_); refine zgm laws_eqItemS.tab6 laws_eqItemS.bits6 (fun HT_ HW_ => ?_)
        generalize wr.drew = w11 at HB HR136_3 HR137_3 hx136_0 hx136_1 hx136_2 hx136_3 hx137_0 hx137_1 hx137_2 hx137_3 hHeld ⊢
        refine pu 0 17 HT_.out ?_
        refine pu 1 18 HT_.out ?_
        refine pu 2 19 HT_.out ?_
        refine pu 4 21 HT_.out ?_
        refine pu 5 22 HT_.out ?_
        refine pu 6 23 HT_.out ?_
        refine tk 3 20 HT_.out HW_.out hHeld ?_
        refine tk 7 24 HT_.out HW_.out hHeld ?_
        refine one_ (i := 8) (N := some 25) #[true, true, true, true, true, true, true, true, true, false] rfl rfl (one_of HT_.out (by kernel_rfl)) (by decide) (fun K hK => ?_)
        refine goes_ Try.func27 (by kernel_rfl) rfl #[.agg #[.string ((rd_T34 l0 x5_1).f0), .int .i64 ((rd_T34 l0 x5_1).f1), .int .i64 ((rd_T34 l0 x5_1).f2), .slice A136_3 ((rd_T34 l0 x5_1).f3).length c136_3], .agg #[.string ((rd_T34 l1 x5_1).f0), .int .i64 ((rd_T34 l1 x5_1).f1), .int .i64 ((rd_T34 l1 x5_1).f2), .slice A137_3 ((rd_T34 l1 x5_1).f3).length c137_3]] (by rfl) rfl rfl jhl ?_
        with_reducible refine (laws_eqItem.calls k1 ((rd_T34 l0 x5_1).f0) ((rd_T34 l0 x5_1).f1) ((rd_T34 l0 x5_1).f2) _ _ ((rd_T34 l0 x5_1).f3) ((rd_T34 l1 x5_1).f0) ((rd_T34 l1 x5_1).f1) ((rd_T34 l1 x5_1).f2) _ _ ((rd_T34 l1 x5_1).f3) false _ ?side1 ?side2 ?side3 ?side4 A7.out).mono ?_
        (case side1 => exact jcs HR136_3.out)
        (case side2 => exact HC136_3.out)
        (case side3 => exact jcs HR137_3.out)
        (case side4 => exact HC137_3.out)
        rintro e w12 ⟨rfl, hb⟩
        refine ⟨_, rfl, ?_⟩
        replace HB := Aside0.mk (zad bq hb)
        (try clear hb)
        (try clear hb2)
        (try clear hk)
        (try clear hi)
        refine hK.out _ _ ⟨(jcB HB.out hw136_0 :), (jcB HB.out hw136_1 :), (jcB HB.out hw136_2 :), (jcB HB.out hw136_3 :), (jcB HB.out hw137_0 :), (jcB HB.out hw137_1 :), (jcB HB.out hw137_2 :), (jcB HB.out hw137_3 :)⟩ (fun hHeld => ?_)
        clear hK K
        refine norm_ (a' := ?_) ?_ ?_
        rotate_left
        ·show Act.put _ (some 25) _ = _
         simp only [Act.put, zao, zbc, zbd, i64_w, i32_w]
         rfl
        refine pu 9 26 HT_.out ?_
        refine done_ (done_of HT_.out (by kernel_rfl)) ?_
        try go_wp2
        go_ret
        exact ⟨jex, bq⟩
      ·rw [if_neg c6] at H
       exact absurd H (by simp)
     ·rw [if_neg c5] at H
      exact absurd H (by simp)
    ·rw [if_neg c4] at H
     have c4b0 := zas c4
     clear c4
     obtain rfl := Option.some.inj H
     go_wp2
     go_ret
     exact ⟨jex, bq⟩
 ·rw [if_neg c3] at H
  have c3b0 := zax.mpr c3
  have c3b1 := zdb.mpr c3
  have c3b2 : (l0.length == l1.length) = false := by first | simpa using c3 | (simp at c3 ⊢; omega)
  obtain rfl := Option.some.inj H
  go_enter Try.func22, Try.ntmps22
  go_wp2
  go_ret
  exact ⟨jex, bq⟩
def laws_markByteS.l0 : Nat → List Int → Int → Int → Option (Int × List Int)
 | 0, _, _, _ => none
 | k + 1, x0, x1, x5 => if x5 < (x0.length : Int) then (if 0 ≤ x5 then (laws_markByteS.l0 k (x0.set (x5 : Int).toNat ((x1) % 256)) (wrap64 (x1 + 1)) (wrap64 (x5 + 1))) else (none)) else (some (x1, x0))
def laws_markByteS.f (k : Nat) (l0 : List Int) (a1 : Int) : Option (Int × List Int) := laws_markByteS.l0 k l0 a1 0
theorem laws_markByteS.mono_l : ∀ k, (∀ y0 y1 y2, LeO (laws_markByteS.l0 k y0 y1 y2) (laws_markByteS.l0 (k + 1) y0 y1 y2))
 | 0 => fun _ _ _ r h => by simp [laws_markByteS.l0] at h
 | k + 1 => by
  have ih0 := laws_markByteS.mono_l k
  ·intro y0 y1 y2
   unfold laws_markByteS.l0
   exact mt
theorem laws_markByteS.mono : ∀ a0 a1 k, LeO (laws_markByteS.f k a0 a1) (laws_markByteS.f (k + 1) a0 a1) := by
 intro a0 a1 k
 have ih0 := laws_markByteS.mono_l k
 unfold laws_markByteS.f
 exact mt
theorem laws_markByteS.calls (k : Nat) (P0_ : Nat → Prop) (u9000_ : Value) (l0 : List Int) (a1 : Int) (r1 : Int) (r2 : List Int) (w0 w : World) (hB : Below w0.heap.size w0 w) (ho0 : Kd.R (Kd.int .u8) 5 w w0.heap.size P0_ u9000_ l0) (h : laws_markByteS.f k l0 a1 = some (r1, r2)) :
  Calls Try.prog 52 #[u9000_, .int .i64 a1] w fun e w' => e = .returned (.int .i64 r1) ∧ Kd.R (Kd.int .u8) 5 w' w0.heap.size (fun k_ => (P0_ k_ ∨ w.heap.size ≤ k_)) u9000_ r2 ∧ Below w0.heap.size w0 w' ∧ Kept w w' (fun k_ => P0_ k_) := by
 have HO0 := Aside0.mk (show Kd.R (Kd.int .u8) 5 w w0.heap.size (fun k_ => (P0_ k_ ∨ w.heap.size ≤ k_)) u9000_ l0 from zak ho0 (fun k_ hk => (.inl hk)))
 have HK := Aside0.mk (Kept.refl w (fun k_ => P0_ k_))
 have HW0 := Aside0.mk hB.size
 have HB := Aside0.mk hB
 clear hB
 have H : (laws_markByteS.l0 k l0 a1 0) = some (r1, r2) := h
 clear h
 have H' := Aside0.mk H
 clear H
 go_enter Try.func52, Try.ntmps52
 go_wp2
 go_loopg [1, 5] k (fun kq v1 v5 w' => ∃ (x0_1 : List Int) (x1_1 : Int) (x5_1 : Int), v1 = .int .i64 x1_1 ∧ v5 = .int .i64 x5_1 ∧ Aside0 (laws_markByteS.l0 kq x0_1 x1_1 x5_1 = some (r1, r2)) ∧ Aside0 (kq ≤ k) ∧ Aside0 (Kd.R (Kd.int .u8) 5 w' w0.heap.size (fun k_ => (P0_ k_ ∨ w.heap.size ≤ k_)) u9000_ x0_1) ∧ Aside0 (Kept w w' (fun k_ => P0_ k_)) ∧ Aside0 (Below w0.heap.size w0 w'))
 case atStart => exact ⟨(l0), (a1), (0), jer, jer, H', ⟨zaf _⟩, ⟨pR HO0.out⟩, ⟨by repeat (first | (with_reducible first | exact HK.out | apply Kept.alloc | apply Kept.drewN | apply Kept.drew) | exact HK.out)⟩, ⟨bq⟩⟩
 case round =>
  clear H'
  try clear p2
  obtain ⟨x0_1, x1_1, x5_1, rfl, rfl, HA, HK1, HO_0, HK, HB⟩ := hrel
  cases gk with
  | zero => exact absurd HA.out (by simp [laws_markByteS.l0])
  | succ k1 =>
   have H := HA.out
   clear HA
   simp only [laws_markByteS.l0] at H
   by_cases c3 : x5_1 < (x0_1.length : Int)
   ·rw [if_pos c3] at H
    have c3b0 := zae c3
    clear c3
    by_cases c4 : 0 ≤ x5_1
    ·rw [if_pos c4] at H
     have c4b0 := zae c4
     clear c4
     obtain ⟨y224, hy224⟩ : ∃ y_ : List Int, y_ = (x0_1.set (x5_1 : Int).toNat ((x1_1) % 256)) := ⟨_, rfl⟩
     replace H : (laws_markByteS.l0 k1 y224 (wrap64 (x1_1 + 1)) (wrap64 (x5_1 + 1))) = some (r1, r2) := jrw hy224 H
     have Ny224 := Aside0.mk hy224
     clear hy224
     have H' := Aside0.mk H
     clear H
     obtain ⟨Ao6, co6, eo6⟩ := zbg HO_0.out
     subst eo6
     have p5 : 0 ≤ (x5_1 : Int) := zaa jab
     have q5 : (x5_1 : Int) < ((x0_1.length : Int) : Int) := zaa jab
     obtain ⟨go5, co5, eo5, gb5, gl5, cl5, HG5⟩ := Kd.R_form HO_0.out (by omega)
     (first | cases eo5 | (injection eo5 with ea_ en_ ec_; (first | subst ea_ | (injection ea_ with ea_; subst ea_)); subst ec_; clear en_))
     have GB5 := Aside0.mk gb5
     have GG5 := Aside0.mk HG5
     clear gb5 gl5 HG5
     have HMgo5 := Aside0.mk (show (P0_ go5 ∨ w.heap.size ≤ go5) from (HO_0.out.1 _ rfl))
     obtain ⟨hx5_0, hf5_0⟩ := Kd.R_celln 0 HO_0.out (x5_1 : Int) p5 q5
     replace p5 := zay p5
     replace q5 := zay q5
     have HP7 := Kd.R_putg HO_0.out (x5_1 : Int) ((x1_1) % 256)
     go_wp2_with (first | ((with_reducible refine zdy (t := 5) (p := 16) rfl ?_); refine store_event (t := 5) (p := 16) (v := ?vo_w8) (w1 := (wr.setCell ⟨go5, (x5_1 : Int).toNat, none⟩ (.int .u8 ((x1_1) % 256)))) ?hg ?ho ?hn ?hr ?_; (case ho => rfl); (case hg => rfl); (case hn => rfl); (case hr => first | (go_simp; done) | (go_simp; rfl)); intro w8 hw; have hg : wr.grownBy w8 (some go5) := (by rw [hw]; exact HP7.2); have hp_ : Kd.R (Kd.int .u8) 5 w8 w0.heap.size (fun k_ => (P0_ k_ ∨ w.heap.size ≤ k_)) (.slice (some ⟨go5, 0, none⟩) x0_1.length co6) y224 := (by rw [hw, Ny224.out]; exact HP7.1); clear HP7; have n_ := jA3 (hp_) (by rw [hw]; exact below_set (HB.out) GB5.out : Below w0.heap.size w0 w8) (Kept.of_grown (S := (fun k_ => P0_ k_)) hg (by repeat (first | (with_reducible first | exact HK.out | apply Kept.alloc | apply Kept.drewN | apply Kept.drew) | exact HK.out)) (fun k_ e_ => (HO_0.out.1 k_ e_))); clear HO_0 HB HK; obtain ⟨HO_0, HB, HK⟩ := n_; clear hg hw hp_))
     go_roundg k1
     case measure => have := HK1.out; omega
     case rel => exact ⟨(y224), (wrap64 (x1_1 + 1)), (wrap64 (x5_1 + 1)), jer, jer, H', ⟨by have := HK1.out; omega⟩, ⟨pR HO_0.out⟩, ⟨by repeat (first | (with_reducible first | exact HK.out | apply Kept.alloc | apply Kept.drewN | apply Kept.drew) | exact HK.out)⟩, ⟨bq⟩⟩
    ·rw [if_neg c4] at H
     exact absurd H (by simp)
   ·rw [if_neg c3] at H
    have c3b0 := zas c3
    clear c3
    simp only [zbx, zcg] at H
    obtain ⟨rfl, rfl⟩ := H
    obtain ⟨Ao9, co9, eo9⟩ := zbg HO_0.out
    subst eo9
    go_wp2
    go_ret
    exact ⟨jex, by (with_reducible repeat (first | apply zap | apply zaq | apply zav)); exact HO_0.out, by repeat (first | (with_reducible first | exact HB.out | apply below_alloc | apply pw_below_drewN | apply zfj) | exact HB.out), by repeat (first | (with_reducible first | exact HK.out | apply Kept.alloc | apply Kept.drewN | apply Kept.drew) | exact HK.out)⟩
def laws_markText.l0 : Nat → Int → ByteArray → Option (ByteArray)
 | 0, _, _ => none
 | k + 1, x0, x3 => if x0 > 0 then ((some (([(wrap64 (48 + (Int.tmod x0 10))) % 256] : List Int) : List Int)).bind fun y225 => (if (strOfNums y225).size + x3.size ≤ 9223372036854775807 then (laws_markText.l0 k (wrap64 (Int.tdiv x0 10)) ((strOfNums y225) ++ x3)) else (none))) else (if 1 + x3.size ≤ 9223372036854775807 then (some ((⟨#[109]⟩ : ByteArray) ++ x3)) else (none))
def laws_markText.f (k : Nat) (a0 : Int) : Option (ByteArray) := if a0 ≤ 0 then (some (⟨#[109, 48]⟩ : ByteArray)) else (laws_markText.l0 k a0 (⟨#[]⟩ : ByteArray))
theorem laws_markText.mono_l : ∀ k, (∀ y0 y1, LeO (laws_markText.l0 k y0 y1) (laws_markText.l0 (k + 1) y0 y1))
 | 0 => fun _ _ r h => by simp [laws_markText.l0] at h
 | k + 1 => by
  have ih0 := laws_markText.mono_l k
  ·intro y0 y1
   unfold laws_markText.l0
   exact mt
theorem laws_markText.mono : ∀ a0 k, LeO (laws_markText.f k a0) (laws_markText.f (k + 1) a0) := by
 intro a0 k
 have ih0 := laws_markText.mono_l k
 unfold laws_markText.f
 exact mt
theorem laws_markText.calls (k : Nat) (a0 : Int) (r : ByteArray) (w : World) (h : laws_markText.f k a0 = some r) :
  Calls Try.prog 98 #[.int .i64 a0] w fun e w' => e = .returned (.string r) ∧ Below w.heap.size w w' := by
 have HB := Aside0.mk (zbj w.heap.size w)
 have H : (if a0 ≤ 0 then (some (⟨#[109, 48]⟩ : ByteArray)) else (laws_markText.l0 k a0 (⟨#[]⟩ : ByteArray))) = some r := h
 clear h
 by_cases c2 : a0 ≤ 0
 ·rw [if_pos c2] at H
  have c2b0 := zae c2
  clear c2
  obtain rfl := Option.some.inj H
  go_enter Try.func98, Try.ntmps98
  go_wp2
  go_ret
  exact ⟨jex, bq⟩
 ·rw [if_neg c2] at H
  have c2b0 := zas c2
  clear c2
  have H' := Aside0.mk H
  clear H
  go_enter Try.func98, Try.ntmps98
  go_wp2
  go_loopg [0, 3] k (fun kq v0 v3 w' => ∃ (x0_1 : Int) (x3_1 : ByteArray), v0 = .int .i64 x0_1 ∧ v3 = .string x3_1 ∧ Aside0 (laws_markText.l0 kq x0_1 x3_1 = some r) ∧ Aside0 (kq ≤ k) ∧ Aside0 (Below w.heap.size w w'))
  case atStart => exact ⟨(a0), ((⟨#[]⟩ : ByteArray)), jer, jer, H', ⟨zaf _⟩, ⟨bq⟩⟩
  case round =>
   clear H'
   try clear c2
   try clear c2b0
   try clear p2
   obtain ⟨x0_1, x3_1, rfl, rfl, HA, HK1, HB⟩ := hrel
   cases gk with
   | zero => exact absurd HA.out (by simp [laws_markText.l0])
   | succ k1 =>
    have H := HA.out
    clear HA
    simp only [laws_markText.l0] at H
    by_cases c3 : x0_1 > 0
    ·rw [if_pos c3] at H
     have c3b0 := zae c3
     clear c3
     obtain ⟨y225, hy225⟩ : ∃ y_ : List Int, y_ = (([(wrap64 (48 + (Int.tmod x0_1 10))) % 256] : List Int)) := ⟨_, rfl⟩
     replace H := bto hy225 H
     have Ny225 := Aside0.mk hy225
     clear hy225
     by_cases c4 : (strOfNums y225).size + x3_1.size ≤ 9223372036854775807
     ·rw [if_pos c4] at H
      have c4b0 := zay c4
      have c4b1 := zae c4
      try have c4b2 : (9223372036854775807 < (strOfNums y225).size + x3_1.size) = False := eq_false (Nat.not_lt.2 c4)
      have H' := Aside0.mk H
      clear H
      go_wp2_with (first | (refine jgd 12 ?_; refine Kd.R_lit (Kd.int .u8) _ 5 ?hg (N := 12) ?hd (xs := ([(wrap64 (48 + (Int.tmod x0_1 10))) % 256] : List Int)) (inner := [.int .u8 ((wrap64 (48 + (Int.tmod x0_1 10))) % 256)]) (ok := fun _ => True) (okp := fun _ => True) ?hr ?hp (fun _ hk => hk) trivial (zbj _ _) (zaf _) (by simp) ?_; (case hd => rfl); (case hg => rfl); (case hr => first | (go_simp; done) | (go_simp; rfl)); (case hp => exact (Reps.one (show Kd.M (Kd.int .u8) _ _ _ ((wrap64 (48 + (Int.tmod x0_1 10))) % 256) [.int .u8 ((wrap64 (48 + (Int.tmod x0_1 10))) % 256)] from rfl) (zgg _ _))); intro v226 w5 ho6 hb hg_ hnew_; have xb_ := below_ofs bq hb; clear hg_ hnew_; (first | rw [← Ny225.out] at ho6 | (simp only [Int.reduceToNat] at ho6; rw [← Ny225.out] at ho6)); have n_ := jA2 (zaw ho6 (zah xb_)) (zad xb_ hb); clear HB; obtain ⟨HO227, HB⟩ := n_; clear xb_ hb ho6; have hcv7 := own_string (P := Try.prog) Try.underlying29 Try.underlying5 Try.underlying9 (Kd.own_of_R HO227.out)))
      go_roundg k1
      case measure => have := HK1.out; omega
      case rel => exact ⟨(wrap64 (Int.tdiv x0_1 10)), ((strOfNums y225) ++ x3_1), jer, jer, H', ⟨by have := HK1.out; omega⟩, ⟨bq⟩⟩
     ·rw [if_neg c4] at H
      exact absurd H (by simp)
    ·rw [if_neg c3] at H
     have c3b0 := zas c3
     clear c3
     by_cases c8 : 1 + x3_1.size ≤ 9223372036854775807
     ·rw [if_pos c8] at H
      have c8b0 := zay c8
      have c8b1 := zae c8
      try have c8b2 : (9223372036854775807 < 1 + x3_1.size) = False := eq_false (Nat.not_lt.2 c8)
      obtain rfl := Option.some.inj H
      go_wp2
      go_ret
      exact ⟨jex, bq⟩
     ·rw [if_neg c8] at H
      exact absurd H (by simp)
def laws_markItemS.l0 : Nat → List S34 → Int → Int → Option (Int × List S34)
 | 0, _, _, _ => none
 | k + 1, xs, m, i => if i < (xs.length : Int) then (if 0 ≤ i then (laws_markText.f k m).bind fun t => (laws_markByteS.f k (rd_T34 xs i).f3 (wrap64 (wrap64 (wrap64 (m + 1) + 1) + 1))).bind fun b => laws_markItemS.l0 k (xs.set i.toNat ⟨t, wrap64 (m + 1), wrap64 (wrap64 (m + 1) + 1), b.2⟩) b.1 (wrap64 (i + 1)) else none) else some (m, xs)
def laws_markItemS.f (k : Nat) (l0 : List S34) (a1 : Int) : Option (Int × List S34) := laws_markItemS.l0 k l0 a1 0
theorem laws_markItemS.mono_l : ∀ k, (∀ y0 y1 y2, LeO (laws_markItemS.l0 k y0 y1 y2) (laws_markItemS.l0 (k + 1) y0 y1 y2))
 | 0 => fun _ _ _ r h => by simp [laws_markItemS.l0] at h
 | k + 1 => by
  have ih0 := laws_markItemS.mono_l k
  ·intro y0 y1 y2
   unfold laws_markItemS.l0
   have m0 := @laws_markText.mono
   have m1 := @laws_markByteS.mono
   exact mt
theorem laws_markItemS.mono : ∀ a0 a1 k, LeO (laws_markItemS.f k a0 a1) (laws_markItemS.f (k + 1) a0 a1) := by
 intro a0 a1 k
 unfold laws_markItemS.f
 exact laws_markItemS.mono_l k _ _ _
theorem laws_markItemS.put {ops : Array Oper} {rest : List Oper} {o : Oper} {a : Act} {Q : Exit → Act → World → Prop} {W : World} (t : TypeId) (hN : o.dst = none) (hgd : o.guard = none) (p x : Operand) (ho : o.op = .store t p x) {w0 : World} {g n cap o' : Nat} {ok : Nat → Prop} (i : Int) (j : Nat) (xs : List S34) (x' : S34) (u : Value)
  (haddr : a.eval p = .pointer (some ⟨g, o', none⟩)) (hoff : o' = i.toNat * 4 + j) (hx : a.eval x = u) (hu : u.cells.toList = [u]) (ht : (Try.prog.info? t).map (·.size) = some 1) (h1 : u.oneCell' = true)
  (HS : Kd.S k34 34 W w0.heap.size ok (.slice (some ⟨g, 0, none⟩) n cap) xs) (h0 : 0 ≤ i) (hi : i < n) (hj : j + 1 ≤ 4)
  (hx' : ∀ v3 : Value, ([.string (rd_T34 xs i).f0, .int .i64 (rd_T34 xs i).f1, .int .i64 (rd_T34 xs i).f2, v3] : List Value).take j ++ [u] ++ ([.string (rd_T34 xs i).f0, .int .i64 (rd_T34 xs i).f1, .int .i64 (rd_T34 xs i).f2, v3] : List Value).drop (j + [u].length) = [.string x'.f0, .int .i64 x'.f1, .int .i64 x'.f2, v3]) (hf : x'.f3 = (rd_T34 xs i).f3)
  (HB : Below w0.heap.size w0 W)
  (h : ∀ w1, Kd.S k34 34 w1 w0.heap.size ok (.slice (some ⟨g, 0, none⟩) n cap) (xs.set i.toNat x') → Below w0.heap.size w0 w1 → W.grownBy w1 (some g) → wpList Try.prog ops Q rest a w1) : wpList Try.prog ops Q (o :: rest) a W := by
 obtain ⟨oki, c, hcl, hM, hcc, hfr, hoki, hH⟩ := Kd.S_elem HS z34 i h0 hi
 obtain ⟨v3, hc, hR⟩ := k34_openM hM
 refine Kd.H_store k34 w0.heap.size hN hgd t p x ho 34 i j xs x' u [u] c ok oki oki haddr hoff hx hu ht (by intro q hq; rw [List.mem_singleton.1 hq]; exact h1) hH h0 hi hj ?_ (fun _ hk => hk) HB h
 rw [hc]
 have e := hx' v3
 unfold rd_T34 at e
 rw [e]
 refine zgf _ _ _ x' ?_
 rw [hf]
 exact hR
theorem laws_markItemS.lend {W : World} {b g n cap : Nat} {ok : Nat → Prop} {xs : List S34} (HS : Kd.S k34 34 W b ok (.slice (some ⟨g, 0, none⟩) n cap) xs) (i : Int) (h0 : 0 ≤ i) (hi : i < n) :
  ∃ (oki : Nat → Prop) (v3 : Value), W.cell? ⟨g, i.toNat * 4 + 3, none⟩ = some v3 ∧ Kd.R (Kd.int .u8) 5 W b oki v3 (rd_T34 xs i).f3 ∧ (∀ k, oki k → ok k ∧ k ≠ g) ∧
   ∀ W2 y, Kept W W2 oki → Kd.R (Kd.int .u8) 5 W2 b oki v3 y → Kd.S k34 34 W2 b ok (.slice (some ⟨g, 0, none⟩) n cap) (xs.set i.toNat ⟨(rd_T34 xs i).f0, (rd_T34 xs i).f1, (rd_T34 xs i).f2, y⟩) := by
 obtain ⟨oki, c, hcl, hM, hcc, hfr, hoki, hH⟩ := Kd.S_elem HS z34 i h0 hi
 obtain ⟨v3, hc, hR⟩ := k34_openM hM
 subst hc
 exact ⟨oki, v3, hcc 3 v3 rfl, hR, hoki, fun W2 y hk hR2 => Kd.H_back (Kd.H_kept hH hk (fun _ _ h2 h3 => h2 h3)) (zgf _ _ _ ⟨(rd_T34 xs i).f0, (rd_T34 xs i).f1, (rd_T34 xs i).f2, y⟩ hR2) (fun _ hk => hk)⟩
theorem laws_markItemS.set3 (xs : List S34) (i : Int) (h0 : 0 ≤ i) (hi : i < (xs.length : Int)) (x : S34) : rd_T34 (xs.set i.toNat x) i = x := by
 unfold rd_T34
 rw [List.getD_eq_getElem?_getD, List.getElem?_set_self (by omega)]; rfl
theorem laws_markItemS.calls (k : Nat) (P0_ : Nat → Prop) (u9000_ : Value) (l0 : List S34) (a1 : Int) (r1 : Int) (r2 : List S34) (w0 w : World) (hB : Below w0.heap.size w0 w) (ho0 : Kd.S k34 34 w w0.heap.size P0_ u9000_ l0) (h : laws_markItemS.f k l0 a1 = some (r1, r2)) :
  Calls Try.prog 40 #[u9000_, .int .i64 a1] w fun e w' => e = .returned (.int .i64 r1) ∧ Kd.S k34 34 w' w0.heap.size P0_ u9000_ r2 ∧ Below w0.heap.size w0 w' ∧ Kept w w' P0_ := by
 have hu34 := Try.underlying34
 have HB := Aside0.mk hB
 clear hB
 have hA : ∃ (A : Option Addr) (c : Nat), u9000_ = .slice A l0.length c ∧ (0 < l0.length → ∃ g, A = some ⟨g, 0, none⟩) := by
  rcases Nat.eq_zero_or_pos l0.length with hz | hp
  ·obtain ⟨A, c, rfl⟩ := Kd.S_slice ho0
   exact ⟨A, c, rfl, fun h => absurd h (by omega)⟩
  ·obtain ⟨g, c, rfl, _⟩ := Kd.S_form ho0 hp
   exact ⟨_, c, rfl, fun _ => ⟨g, rfl⟩⟩
 obtain ⟨A, c, rfl, hg⟩ := hA
 have HG := Aside0.mk hg
 clear hg
 have hn := (zcu ho0).2.2.2.1
 obtain ⟨n, hnn⟩ : ∃ n : Nat, n = l0.length := ⟨_, rfl⟩
 have HL0 : Aside0 (l0.length = n) := ⟨hnn.symm⟩
 have HO0 := Aside0.mk ho0
 have H' := Aside0.mk (show laws_markItemS.l0 k l0 a1 0 = some (r1, r2) from h)
 rw [← hnn] at HO0 HG hn ⊢
 clear ho0 h hnn
 have HK := Aside0.mk (Kept.refl w P0_)
 go_enter Try.func40, Try.ntmps40
 go_wp2
 go_loopg [1, 5] k (fun kq v1 v5 w' => ∃ (xs : List S34) (m i : Int), v1 = .int .i64 m ∧ v5 = .int .i64 i ∧ Aside0 (laws_markItemS.l0 kq xs m i = some (r1, r2)) ∧ Aside0 (xs.length = n) ∧ Aside0 (Kd.S k34 34 w' w0.heap.size P0_ (.slice A n c) xs) ∧ Aside0 (Kept w w' P0_) ∧ Aside0 (Below w0.heap.size w0 w'))
 case atStart => exact ⟨l0, a1, 0, rfl, rfl, H', HL0, HO0, HK, HB⟩
 case round =>
  clear H' HL0 HO0 HK HB
  obtain ⟨xs, m, i, rfl, rfl, HA, HL, HO, HK, HB⟩ := hrel
  cases gk with
  | zero => exact absurd HA.out (by simp [laws_markItemS.l0])
  | succ k1 =>
   have H := HA.out
   clear HA
   simp only [laws_markItemS.l0] at H
   rw [HL.out] at H
   by_cases c3 : i < (n : Int)
   ·rw [if_pos c3] at H
    by_cases c4 : 0 ≤ i
    ·rw [if_pos c4] at H
     obtain ⟨t, ht, H⟩ := zbi.1 H
     obtain ⟨⟨m2, b⟩, hb, H⟩ := zbi.1 H
     obtain ⟨g, rfl⟩ := HG.out (by omega)
     have HOK : Aside0 (P0_ g) := ⟨(Kd.S_R HO.out).1 g rfl⟩
     clear HG
     generalize hq : rd_T34 xs i = q at hb
     obtain ⟨q0, q1, q2, q3⟩ := q
     have RQ := Aside0.mk hq
     clear hq
     obtain ⟨ya, hya⟩ : ∃ y, y = xs.set i.toNat (⟨t, q1, q2, q3⟩ : S34) := ⟨_, rfl⟩
     obtain ⟨yb, hyb⟩ : ∃ y, y = ya.set i.toNat (⟨t, (wrap64 (m + 1)), q2, q3⟩ : S34) := ⟨_, rfl⟩
     obtain ⟨yc, hyc⟩ : ∃ y, y = yb.set i.toNat (⟨t, (wrap64 (m + 1)), (wrap64 (wrap64 (m + 1) + 1)), q3⟩ : S34) := ⟨_, rfl⟩
     have la : ya.length = n := by rw [hya, List.length_set]; exact HL.out
     have lb : yb.length = n := by rw [hyb, List.length_set]; exact la
     have lc : yc.length = n := by rw [hyc, List.length_set]; exact lb
     have RA : Aside0 (rd_T34 ya i = ⟨t, q1, q2, q3⟩) := ⟨by rw [hya]; exact laws_markItemS.set3 xs i c4 (by rw [HL.out]; exact c3) _⟩
     have RB : Aside0 (rd_T34 yb i = ⟨t, (wrap64 (m + 1)), q2, q3⟩) := ⟨by rw [hyb]; exact laws_markItemS.set3 ya i c4 (by rw [la]; exact c3) _⟩
     have RC : Aside0 (rd_T34 yc i = ⟨t, (wrap64 (m + 1)), (wrap64 (wrap64 (m + 1) + 1)), q3⟩) := ⟨by rw [hyc]; exact laws_markItemS.set3 yb i c4 (by rw [lb]; exact c3) _⟩
     have YD : Aside0 (yc.set i.toNat (⟨t, (wrap64 (m + 1)), (wrap64 (wrap64 (m + 1) + 1)), b⟩ : S34) = xs.set i.toNat ⟨t, (wrap64 (m + 1)), (wrap64 (wrap64 (m + 1) + 1)), b⟩) := ⟨by rw [hyc, hyb, hya]; simp only [List.set_set]⟩
     have NyA := Aside0.mk hya
     have NyB := Aside0.mk hyb
     have NyC := Aside0.mk hyc
     have FT := Aside0.mk ht
     have FM : Aside0 (laws_markByteS.f k1 q3 (wrap64 (wrap64 (wrap64 (m + 1) + 1) + 1)) = some (m2, b)) := ⟨hb⟩
     have FR : Aside0 (laws_markItemS.l0 k1 (xs.set i.toNat ⟨t, (wrap64 (m + 1)), (wrap64 (wrap64 (m + 1) + 1)), b⟩) m2 (wrap64 (i + 1)) = some (r1, r2)) := ⟨H⟩
     have LD : Aside0 ((xs.set i.toNat (⟨t, (wrap64 (m + 1)), (wrap64 (wrap64 (m + 1) + 1)), b⟩ : S34)).length = n) := ⟨by rw [List.length_set]; exact HL.out⟩
     have P0 := Aside0.mk c4
     have P1 := Aside0.mk c3
     clear ht hb H hya hyb hyc la lb lc
     have d3 : decide (i < (n : Int)) = true := zae c3
     have d4 : decide (0 ≤ i) = true := zae c4
     replace c3 := zay c3
     replace c4 := zay c4
     go_wp2_with (first | (refine jgc 98 ?_; refine jgs 15 Try.func98 #[.int .i64 m] ?_; (with_reducible refine (laws_markText.calls k1 m t _ FT.out).mono ?_); rintro e w1 ⟨rfl, hb1⟩; refine ⟨_, rfl, ?_⟩; have n0 := Aside0.mk (zdn HO.out hb1); have n1 := Aside0.mk (Kept.below HK.out hb1); have n2 := Aside0.mk (zad HB.out hb1); clear HO HK HB hb1; have HO := n0; have HK := n1; have HB := n2; clear n0 n1 n2) | ((with_reducible refine zdy (t := 9) (p := 17) rfl ?_); refine laws_markItemS.put 9 rfl rfl (.tmp 17) (.tmp 15) rfl i 0 xs (⟨t, q1, q2, q3⟩ : S34) (.string t) rfl rfl rfl rfl (by kernel_rfl) rfl HO.out P0.out P1.out (by omega) (fun v3 => by rw [RQ.out]; rfl) (by rw [RQ.out]) HB.out ?_; intro w2 hs hb hg; rw [← NyA.out] at hs; have n0 := Aside0.mk hs; have n1 := Aside0.mk (Kept.of_grown hg HK.out (fun k_ e_ => .inl (by injection e_ with e_; subst e_; exact HOK.out))); have n2 := Aside0.mk hb; clear HO HK HB hs hb hg; have HO := n0; have HK := n1; have HB := n2; clear n0 n1 n2) | ((with_reducible refine zdy (t := 3) (p := 24) rfl ?_); refine laws_markItemS.put 3 rfl rfl (.tmp 24) (.tmp 22) rfl i 1 ya (⟨t, wrap64 (m + 1), q2, q3⟩ : S34) (.int .i64 (wrap64 (m + 1))) rfl rfl rfl rfl (by kernel_rfl) rfl HO.out P0.out P1.out (by omega) (fun v3 => by rw [RA.out]; rfl) (by rw [RA.out]) HB.out ?_; intro w3 hs hb hg; rw [← NyB.out] at hs; have n0 := Aside0.mk hs; have n1 := Aside0.mk (Kept.of_grown hg HK.out (fun k_ e_ => .inl (by injection e_ with e_; subst e_; exact HOK.out))); have n2 := Aside0.mk hb; clear HO HK HB hs hb hg; have HO := n0; have HK := n1; have HB := n2; clear n0 n1 n2) | ((with_reducible refine zdy (t := 3) (p := 31) rfl ?_); refine laws_markItemS.put 3 rfl rfl (.tmp 31) (.tmp 29) rfl i 2 yb (⟨t, wrap64 (m + 1), wrap64 (wrap64 (m + 1) + 1), q3⟩ : S34) (.int .i64 (wrap64 (wrap64 (m + 1) + 1))) rfl rfl rfl rfl (by kernel_rfl) rfl HO.out P0.out P1.out (by omega) (fun v3 => by rw [RB.out]; rfl) (by rw [RB.out]) HB.out ?_; intro w4 hs hb hg; rw [← NyC.out] at hs; have n0 := Aside0.mk hs; have n1 := Aside0.mk (Kept.of_grown hg HK.out (fun k_ e_ => .inl (by injection e_ with e_; subst e_; exact HOK.out))); have n2 := Aside0.mk hb; clear HO HK HB hs hb hg; have HO := n0; have HK := n1; have HB := n2; clear n0 n1 n2; obtain ⟨oki, v3, hc3, hr3, hoki, hback⟩ := laws_markItemS.lend HO.out i P0.out P1.out; rw [RC.out] at hr3; rw [RC.out] at hback; have HR3 := Aside0.mk hr3; obtain ⟨A3, c3_, e3⟩ := zbg HR3.out; subst e3; have HOKI := Aside0.mk hoki; have HBK := Aside0.mk hback; clear hr3 hoki hback) | (refine jgc 52 ?_; refine jgs 40 Try.func52 #[.slice A3 q3.length c3_, .int .i64 (wrap64 (wrap64 (wrap64 (m + 1) + 1) + 1))] ?_; (with_reducible refine (laws_markByteS.calls k1 oki (.slice A3 q3.length c3_) q3 (wrap64 (wrap64 (wrap64 (m + 1) + 1) + 1)) m2 b w0 _ HB.out HR3.out FM.out).mono ?_); rintro e w5 ⟨rfl, hr5, hb5, hk5⟩; refine ⟨_, rfl, ?_⟩; have n0 := Aside0.mk (HBK.out w5 b hk5 (Kd.R_reok rfl hr5 (fun k_ e_ => HR3.out.1 k_ e_))); have n1 := Aside0.mk (Kept.then_ HK.out hk5 (fun k_ h_ => .inl (HOKI.out k_ h_).1)); have n2 := Aside0.mk hb5; clear HO HK HB HR3 HBK HOKI hr5 hb5 hk5; have HO := n0; have HK := n1; have HB := n2; clear n0 n1 n2) | go_in)
     go_roundg k1
     case measure => omega
     case rel => exact ⟨_, m2, wrap64 (i + 1), rfl, rfl, FR, LD, ⟨by rw [← YD.out]; exact HO.out⟩, HK, HB⟩
    ·rw [if_neg c4] at H
     cases H
   ·rw [if_neg c3] at H
    have d3 : decide (i < (n : Int)) = false := zas c3
    clear c3
    simp only [zbx, zcg] at H
    obtain ⟨rfl, rfl⟩ := H
    go_wp2
    go_ret
    exact ⟨rfl, HO.out, HB.out, HK.out⟩
def laws_heldByteS.l0 : Nat → List Int → Int → Int → Option (Int)
 | 0, _, _, _ => none
 | k + 1, x0, x1, x5 => if x5 < (x0.length : Int) then (if 0 ≤ x5 then (if (rd x0 x5) = ((x1) % 256) then (laws_heldByteS.l0 k x0 (wrap64 (x1 + 1)) (wrap64 (x5 + 1))) else (some (-1))) else (none)) else (some x1)
def laws_heldByteS.f (k : Nat) (l0 : List Int) (a1 : Int) : Option (Int) := laws_heldByteS.l0 k l0 a1 0
theorem laws_heldByteS.mono_l : ∀ k, (∀ y0 y1 y2, LeO (laws_heldByteS.l0 k y0 y1 y2) (laws_heldByteS.l0 (k + 1) y0 y1 y2))
 | 0 => fun _ _ _ r h => by simp [laws_heldByteS.l0] at h
 | k + 1 => by
  have ih0 := laws_heldByteS.mono_l k
  ·intro y0 y1 y2
   unfold laws_heldByteS.l0
   exact mt
theorem laws_heldByteS.mono : ∀ a0 a1 k, LeO (laws_heldByteS.f k a0 a1) (laws_heldByteS.f (k + 1) a0 a1) := by
 intro a0 a1 k
 have ih0 := laws_heldByteS.mono_l k
 unfold laws_heldByteS.f
 exact mt
theorem laws_heldByteS.calls (k : Nat) (A0 : Option Addr) (c0 : Nat) (l0 : List Int) (a1 : Int) (r : Int) (w : World) (hr0 : Kd.C (Kd.int .u8) w A0 l0.length l0) (hc0 : l0.length ≤ c0) (h : laws_heldByteS.f k l0 a1 = some r) :
  Calls Try.prog 53 #[.slice A0 l0.length c0, .int .i64 a1] w fun e w' => e = .returned (.int .i64 r) ∧ Drawn0 w w' := by
 have HR0 := Aside0.mk hr0
 have HC0 := Aside0.mk hc0
 clear hr0 hc0
 have H : (laws_heldByteS.l0 k l0 a1 0) = some r := h
 clear h
 have H' := Aside0.mk H
 clear H
 go_enter Try.func53, Try.ntmps53
 go_wp2
 go_loopg [1, 5] k (fun kq v1 v5 w' => ∃ (x1_1 : Int) (x5_1 : Int), v1 = .int .i64 x1_1 ∧ v5 = .int .i64 x5_1 ∧ Aside0 (laws_heldByteS.l0 kq l0 x1_1 x5_1 = some r) ∧ Aside0 (kq ≤ k) ∧ Drawn0 w w')
 case atStart => exact ⟨(a1), (0), jer, jer, H', ⟨zaf _⟩, by repeat (first | exact Drawn0.refl _ | apply Drawn0.step)⟩
 case round =>
  clear H'
  try clear p2
  obtain ⟨x1_1, x5_1, rfl, rfl, HA, HK1, ⟨m1, rfl⟩⟩ := hrel
  cases gk with
  | zero => exact absurd HA.out (by simp [laws_heldByteS.l0])
  | succ k1 =>
   have H := HA.out
   clear HA
   simp only [laws_heldByteS.l0] at H
   by_cases c3 : x5_1 < (l0.length : Int)
   ·rw [if_pos c3] at H
    have c3b0 := zae c3
    clear c3
    by_cases c4 : 0 ≤ x5_1
    ·rw [if_pos c4] at H
     have c4b0 := zae c4
     clear c4
     by_cases c5 : (rd l0 x5_1) = ((x1_1) % 256)
     ·rw [if_pos c5] at H
      have c5b0 := beqT c5
      have c5b1 := zbe.mpr c5
      clear c5
      have H' := Aside0.mk H
      clear H
      have p228 : 0 ≤ (x5_1 : Int) := zaa jab
      have q228 : x5_1 < (l0.length : Int) := zaa jab
      obtain ⟨ad228, e228, hx228_0⟩ := zet HR0.out x5_1 p228 q228
      cases e228
      replace p228 := zay p228
      replace q228 := zay q228
      go_wp2
      go_roundg k1
      case measure => have := HK1.out; omega
      case rel => exact ⟨(wrap64 (x1_1 + 1)), (wrap64 (x5_1 + 1)), jer, jer, H', ⟨by have := HK1.out; omega⟩, by repeat (first | exact Drawn0.refl _ | apply Drawn0.step)⟩
     ·rw [if_neg c5] at H
      have c5b0 := zax.mpr c5
      have c5b1 := zdb.mpr c5
      obtain rfl := Option.some.inj H
      have p228 : 0 ≤ (x5_1 : Int) := zaa jab
      have q228 : x5_1 < (l0.length : Int) := zaa jab
      obtain ⟨ad228, e228, hx228_0⟩ := zet HR0.out x5_1 p228 q228
      cases e228
      replace p228 := zay p228
      replace q228 := zay q228
      go_wp2
      go_ret
      exact ⟨by first | rfl | (simp; done) | (simp [*]; done), by repeat (first | exact Drawn0.refl _ | apply Drawn0.step)⟩
    ·rw [if_neg c4] at H
     exact absurd H (by simp)
   ·rw [if_neg c3] at H
    have c3b0 := zas c3
    clear c3
    obtain rfl := Option.some.inj H
    go_wp2
    go_ret
    exact ⟨by first | rfl | (simp; done) | (simp [*]; done), by repeat (first | exact Drawn0.refl _ | apply Drawn0.step)⟩
def laws_heldItemS.l0 : Nat → List (S34) → Int → Int → Option (Int)
 | 0, _, _, _ => none
 | k + 1, x0, x1, x5 => if x5 < (x0.length : Int) then (if 0 ≤ x5 then ((laws_markText.f k x1).bind fun t230 => (if ((rd_T34 x0 x5).f0).toList = t230.toList then (if ((rd_T34 x0 x5).f1) = (wrap64 (x1 + 1)) then (if ((rd_T34 x0 x5).f2) = (wrap64 ((wrap64 (x1 + 1)) + 1)) then ((laws_heldByteS.f k ((rd_T34 x0 x5).f3) (wrap64 ((wrap64 ((wrap64 (x1 + 1)) + 1)) + 1))).bind fun t234 => (if t234 < 0 then (some (-1)) else (laws_heldItemS.l0 k x0 t234 (wrap64 (x5 + 1))))) else (some (-1))) else (some (-1))) else (some (-1)))) else (none)) else (some x1)
def laws_heldItemS.f (k : Nat) (l0 : List (S34)) (a1 : Int) : Option (Int) := laws_heldItemS.l0 k l0 a1 0
theorem laws_heldItemS.mono_l : ∀ k, (∀ y0 y1 y2, LeO (laws_heldItemS.l0 k y0 y1 y2) (laws_heldItemS.l0 (k + 1) y0 y1 y2))
 | 0 => fun _ _ _ r h => by simp [laws_heldItemS.l0] at h
 | k + 1 => by
  have ih0 := laws_heldItemS.mono_l k
  ·intro y0 y1 y2
   unfold laws_heldItemS.l0
   have m0 := @laws_heldByteS.mono
   have m1 := @laws_markText.mono
   exact mt
theorem laws_heldItemS.mono : ∀ a0 a1 k, LeO (laws_heldItemS.f k a0 a1) (laws_heldItemS.f (k + 1) a0 a1) := by
 intro a0 a1 k
 have ih0 := laws_heldItemS.mono_l k
 unfold laws_heldItemS.f
 have m0 := @laws_heldByteS.mono
 have m1 := @laws_markText.mono
 exact mt
def laws_heldItemS.T4 : Bool × List (List Nat × List Nat) := (true, [([], []), ([], []), ([0, 1], [0, 1]), ([2], [2]), ([3], [3]), ([], []), ([5], [5]), ([4, 6], [4, 6])])
def laws_heldItemS.B4 : List Nat := [0, 0, 3, 7, 15, 0, 32, 127]
theorem laws_heldItemS.tab4 : rtab .any (opsOf Try.f41 4) = laws_heldItemS.T4 := by kernel_rfl
theorem laws_heldItemS.bits4 : waitsOk laws_heldItemS.T4.2 laws_heldItemS.B4 = true := by kernel_rfl
theorem laws_heldItemS.calls (k : Nat) (A0 : Option Addr) (c0 : Nat) (l0 : List (S34)) (a1 : Int) (r : Int) (w : World) (hr0 : Kd.C k34 w A0 l0.length l0) (hc0 : l0.length ≤ c0) (h : laws_heldItemS.f k l0 a1 = some r) :
  Calls Try.prog 41 #[.slice A0 l0.length c0, .int .i64 a1] w fun e w' => e = .returned (.int .i64 r) ∧ Below w.heap.size w w' := by
 have HR0 := Aside0.mk hr0
 have HC0 := Aside0.mk hc0
 clear hr0 hc0
 have HB := Aside0.mk (zbj w.heap.size w)
 have H : (laws_heldItemS.l0 k l0 a1 0) = some r := h
 clear h
 have H' := Aside0.mk H
 clear H
 go_enter Try.func41, Try.ntmps41
 go_wp2
 go_loopg [1, 5] k (fun kq v1 v5 w' => ∃ (x1_1 : Int) (x5_1 : Int), v1 = .int .i64 x1_1 ∧ v5 = .int .i64 x5_1 ∧ Aside0 (laws_heldItemS.l0 kq l0 x1_1 x5_1 = some r) ∧ Aside0 (kq ≤ k) ∧ Aside0 (Below w.heap.size w w'))
 case atStart => exact ⟨(a1), (0), jer, jer, H', ⟨zaf _⟩, ⟨bq⟩⟩
 case round =>
  clear H'
  try clear p2
  obtain ⟨x1_1, x5_1, rfl, rfl, HA, HK1, HB⟩ := hrel
  cases gk with
  | zero => exact absurd HA.out (by simp [laws_heldItemS.l0])
  | succ k1 =>
   have H := HA.out
   clear HA
   simp only [laws_heldItemS.l0] at H
   by_cases c3 : x5_1 < (l0.length : Int)
   ·rw [if_pos c3] at H
    have c3b0 := zae c3
    clear c3
    by_cases c4 : 0 ≤ x5_1
    ·rw [if_pos c4] at H
     have c4b0 := zae c4
     clear c4
     obtain ⟨t230, A5, H⟩ := bnd H
     by_cases c6 : ((rd_T34 l0 x5_1).f0).toList = t230.toList
     ·rw [if_pos c6] at H
      have c6b0 := beqT c6
      have c6b1 := zbe.mpr c6
      clear c6
      by_cases c7 : ((rd_T34 l0 x5_1).f1) = (wrap64 (x1_1 + 1))
      ·rw [if_pos c7] at H
       have c7b0 := beqT c7
       have c7b1 := zbe.mpr c7
       clear c7
       by_cases c8 : ((rd_T34 l0 x5_1).f2) = (wrap64 ((wrap64 (x1_1 + 1)) + 1))
       ·rw [if_pos c8] at H
        have c8b0 := beqT c8
        have c8b1 := zbe.mpr c8
        clear c8
        obtain ⟨t234, A9, H⟩ := bnd H
        by_cases c10 : t234 < 0
        ·rw [if_pos c10] at H
         have c10b0 := zae c10
         clear c10
         obtain rfl := Option.some.inj H
         try go_wp2
         replace HB := Aside0.mk (zfj HB.out)
         obtain ⟨p229, q229, ad229, A229_3, c229_3, e229, hw229_0, hw229_1, hw229_2, hw229_3, hx229_0, hx229_1, hx229_2, hx229_3, HC229_3, HR229_3⟩ := jelw HR0.out HB.out x5_1
         cases e229
         refine start_ (n := 8) (S := fun w' => w'.cell? (ad229.add ((x5_1).toNat * 4)) = some (.string ((rd_T34 l0 x5_1).f0)) ∧ w'.cell? ⟨(ad229.add ((x5_1).toNat * 4)).block, (ad229.add ((x5_1).toNat * 4)).off + 1, none⟩ = some (.int .i64 ((rd_T34 l0 x5_1).f1)) ∧ w'.cell? ⟨(ad229.add ((x5_1).toNat * 4)).block, (ad229.add ((x5_1).toNat * 4)).off + 2, none⟩ = some (.int .i64 ((rd_T34 l0 x5_1).f2)) ∧ w'.cell? ⟨(ad229.add ((x5_1).toNat * 4)).block, (ad229.add ((x5_1).toNat * 4)).off + 3, none⟩ = some (.slice A229_3 ((rd_T34 l0 x5_1).f3).length c229_3)) (ds := []) #[false, false, false, false, false, false, false, false] (by kernel_rfl) rfl rfl ⟨(jcB HB.out hw229_0 :), (jcB HB.out hw229_1 :), (jcB HB.out hw229_2 :), (jcB HB.out hw229_3 :)⟩ (fun hHeld => ?_); refine zgm laws_heldItemS.tab4 laws_heldItemS.bits4 (fun HT_ HW_ => ?_)
         generalize wr.drew = w11 at HB HR229_3 hx229_0 hx229_1 hx229_2 hx229_3 hHeld ⊢
         refine pu 0 12 HT_.out ?_
         refine pu 1 13 HT_.out ?_
         refine pu 2 14 HT_.out ?_
         refine pu 3 15 HT_.out ?_
         refine pu 5 17 HT_.out ?_
         refine tk 4 16 HT_.out HW_.out hHeld ?_
         refine one_ (i := 6) (N := some 18) #[true, true, true, true, true, true, true, false] rfl rfl (one_of HT_.out (by kernel_rfl)) (by decide) (fun K hK => ?_)
         refine goes_ Try.func98 (by kernel_rfl) rfl #[.int .i64 x1_1] (by rfl) rfl rfl jhl ?_
         with_reducible refine (laws_markText.calls k1 x1_1 t230 _ A5.out).mono ?_
         rintro e w12 ⟨rfl, hb⟩
         refine ⟨_, rfl, ?_⟩
         replace HB := Aside0.mk (zad bq hb)
         (try clear hb)
         (try clear hb2)
         (try clear hk)
         (try clear hi)
         refine hK.out _ _ ⟨(jcB HB.out hw229_0 :), (jcB HB.out hw229_1 :), (jcB HB.out hw229_2 :), (jcB HB.out hw229_3 :)⟩ (fun hHeld => ?_)
         clear hK K
         refine norm_ (a' := ?_) ?_ ?_
         rotate_left
         ·show Act.put _ (some 18) _ = _
          simp only [Act.put, zao, zbc, zbd, i64_w, i32_w]
          rfl
         refine pu 7 19 HT_.out ?_
         refine done_ (done_of HT_.out (by kernel_rfl)) ?_
         have p231 : 0 ≤ (x5_1 : Int) := zaa jab
         have q231 : x5_1 < (l0.length : Int) := zaa jab
         obtain ⟨ad231, A231_3, c231_3, e231, hx231_0, hx231_1, hx231_2, hx231_3, hl231_3, hi231_3⟩ := at_T34 HR0.out x5_1 p231 q231
         obtain rfl : ad229 = ad231 := (by injection e231)
         have ea_ := Option.some.inj (hx231_3.symm.trans hw229_3)
         injection ea_ with ea_ en_ ec_
         subst ea_
         subst ec_
         clear en_
         replace hx231_0 := jcB HB.out hx231_0
         replace hx231_1 := jcB HB.out hx231_1
         replace hx231_2 := jcB HB.out hx231_2
         replace hx231_3 := jcB HB.out hx231_3
         have HR231_3 := Aside0.mk hi231_3
         have HC231_3 := Aside0.mk hl231_3
         clear hi231_3 hl231_3
         replace p231 := zay p231
         replace q231 := zay q231
         obtain ⟨p232, q232, ad232, A232_3, c232_3, e232, hx232_0, hx232_1, hx232_2, hx232_3, HC232_3, HR232_3⟩ := jel HR0.out HB.out x5_1
         obtain rfl : ad229 = ad232 := (by injection e232)
         have ea_ := Option.some.inj (hx231_3.symm.trans hx232_3)
         injection ea_ with ea_ en_ ec_
         subst ea_
         subst ec_
         clear en_
         obtain ⟨p233, q233, ad233, A233_3, c233_3, e233, hx233_0, hx233_1, hx233_2, hx233_3, HC233_3, HR233_3⟩ := jel HR0.out HB.out x5_1
         obtain rfl : ad229 = ad233 := (by injection e233)
         have ea_ := Option.some.inj (hx231_3.symm.trans hx233_3)
         injection ea_ with ea_ en_ ec_
         subst ea_
         subst ec_
         clear en_
         try go_wp2_with (first | (refine jgc 53 ?_; refine jgs 46 Try.func53 #[.slice A231_3 ((rd_T34 l0 x5_1).f3).length c231_3, .int .i64 (wrap64 ((wrap64 ((wrap64 (x1_1 + 1)) + 1)) + 1))] ?_; (with_reducible refine (laws_heldByteS.calls k1 _ _ ((rd_T34 l0 x5_1).f3) (wrap64 ((wrap64 ((wrap64 (x1_1 + 1)) + 1)) + 1)) t234 _ ?side1 ?side2 A9.out).mono ?_); (case side1 => exact jcs HR233_3.out); (case side2 => exact HC233_3.out); rintro e w' ⟨rfl, ⟨nd, rfl⟩⟩; refine ⟨_, rfl, ?_⟩))
         go_ret
         exact ⟨jex, bq⟩
        ·rw [if_neg c10] at H
         have c10b0 := zas c10
         clear c10
         have H' := Aside0.mk H
         clear H
         try go_wp2
         replace HB := Aside0.mk (zfj HB.out)
         obtain ⟨p229, q229, ad229, A229_3, c229_3, e229, hw229_0, hw229_1, hw229_2, hw229_3, hx229_0, hx229_1, hx229_2, hx229_3, HC229_3, HR229_3⟩ := jelw HR0.out HB.out x5_1
         cases e229
         refine start_ (n := 8) (S := fun w' => w'.cell? (ad229.add ((x5_1).toNat * 4)) = some (.string ((rd_T34 l0 x5_1).f0)) ∧ w'.cell? ⟨(ad229.add ((x5_1).toNat * 4)).block, (ad229.add ((x5_1).toNat * 4)).off + 1, none⟩ = some (.int .i64 ((rd_T34 l0 x5_1).f1)) ∧ w'.cell? ⟨(ad229.add ((x5_1).toNat * 4)).block, (ad229.add ((x5_1).toNat * 4)).off + 2, none⟩ = some (.int .i64 ((rd_T34 l0 x5_1).f2)) ∧ w'.cell? ⟨(ad229.add ((x5_1).toNat * 4)).block, (ad229.add ((x5_1).toNat * 4)).off + 3, none⟩ = some (.slice A229_3 ((rd_T34 l0 x5_1).f3).length c229_3)) (ds := []) #[false, false, false, false, false, false, false, false] (by kernel_rfl) rfl rfl ⟨(jcB HB.out hw229_0 :), (jcB HB.out hw229_1 :), (jcB HB.out hw229_2 :), (jcB HB.out hw229_3 :)⟩ (fun hHeld => ?_); refine zgm laws_heldItemS.tab4 laws_heldItemS.bits4 (fun HT_ HW_ => ?_)
         generalize wr.drew = w13 at HB HR229_3 hx229_0 hx229_1 hx229_2 hx229_3 hHeld ⊢
         refine pu 0 12 HT_.out ?_
         refine pu 1 13 HT_.out ?_
         refine pu 2 14 HT_.out ?_
         refine pu 3 15 HT_.out ?_
         refine pu 5 17 HT_.out ?_
         refine tk 4 16 HT_.out HW_.out hHeld ?_
         refine one_ (i := 6) (N := some 18) #[true, true, true, true, true, true, true, false] rfl rfl (one_of HT_.out (by kernel_rfl)) (by decide) (fun K hK => ?_)
         refine goes_ Try.func98 (by kernel_rfl) rfl #[.int .i64 x1_1] (by rfl) rfl rfl jhl ?_
         with_reducible refine (laws_markText.calls k1 x1_1 t230 _ A5.out).mono ?_
         rintro e w14 ⟨rfl, hb⟩
         refine ⟨_, rfl, ?_⟩
         replace HB := Aside0.mk (zad bq hb)
         (try clear hb)
         (try clear hb2)
         (try clear hk)
         (try clear hi)
         refine hK.out _ _ ⟨(jcB HB.out hw229_0 :), (jcB HB.out hw229_1 :), (jcB HB.out hw229_2 :), (jcB HB.out hw229_3 :)⟩ (fun hHeld => ?_)
         clear hK K
         refine norm_ (a' := ?_) ?_ ?_
         rotate_left
         ·show Act.put _ (some 18) _ = _
          simp only [Act.put, zao, zbc, zbd, i64_w, i32_w]
          rfl
         refine pu 7 19 HT_.out ?_
         refine done_ (done_of HT_.out (by kernel_rfl)) ?_
         have p231 : 0 ≤ (x5_1 : Int) := zaa jab
         have q231 : x5_1 < (l0.length : Int) := zaa jab
         obtain ⟨ad231, A231_3, c231_3, e231, hx231_0, hx231_1, hx231_2, hx231_3, hl231_3, hi231_3⟩ := at_T34 HR0.out x5_1 p231 q231
         obtain rfl : ad229 = ad231 := (by injection e231)
         have ea_ := Option.some.inj (hx231_3.symm.trans hw229_3)
         injection ea_ with ea_ en_ ec_
         subst ea_
         subst ec_
         clear en_
         replace hx231_0 := jcB HB.out hx231_0
         replace hx231_1 := jcB HB.out hx231_1
         replace hx231_2 := jcB HB.out hx231_2
         replace hx231_3 := jcB HB.out hx231_3
         have HR231_3 := Aside0.mk hi231_3
         have HC231_3 := Aside0.mk hl231_3
         clear hi231_3 hl231_3
         replace p231 := zay p231
         replace q231 := zay q231
         obtain ⟨p232, q232, ad232, A232_3, c232_3, e232, hx232_0, hx232_1, hx232_2, hx232_3, HC232_3, HR232_3⟩ := jel HR0.out HB.out x5_1
         obtain rfl : ad229 = ad232 := (by injection e232)
         have ea_ := Option.some.inj (hx231_3.symm.trans hx232_3)
         injection ea_ with ea_ en_ ec_
         subst ea_
         subst ec_
         clear en_
         obtain ⟨p233, q233, ad233, A233_3, c233_3, e233, hx233_0, hx233_1, hx233_2, hx233_3, HC233_3, HR233_3⟩ := jel HR0.out HB.out x5_1
         obtain rfl : ad229 = ad233 := (by injection e233)
         have ea_ := Option.some.inj (hx231_3.symm.trans hx233_3)
         injection ea_ with ea_ en_ ec_
         subst ea_
         subst ec_
         clear en_
         try go_wp2_with (first | (refine jgc 53 ?_; refine jgs 46 Try.func53 #[.slice A231_3 ((rd_T34 l0 x5_1).f3).length c231_3, .int .i64 (wrap64 ((wrap64 ((wrap64 (x1_1 + 1)) + 1)) + 1))] ?_; (with_reducible refine (laws_heldByteS.calls k1 _ _ ((rd_T34 l0 x5_1).f3) (wrap64 ((wrap64 ((wrap64 (x1_1 + 1)) + 1)) + 1)) t234 _ ?side1 ?side2 A9.out).mono ?_); (case side1 => exact jcs HR233_3.out); (case side2 => exact HC233_3.out); rintro e w' ⟨rfl, ⟨nd, rfl⟩⟩; refine ⟨_, rfl, ?_⟩))
         go_roundg k1
         case measure => have := HK1.out; omega
         case rel => exact ⟨(t234), (wrap64 (x5_1 + 1)), jer, jer, H', ⟨by have := HK1.out; omega⟩, ⟨bq⟩⟩
       ·rw [if_neg c8] at H
        have c8b0 := zax.mpr c8
        have c8b1 := zdb.mpr c8
        obtain rfl := Option.some.inj H
        try go_wp2
        replace HB := Aside0.mk (zfj HB.out)
        obtain ⟨p229, q229, ad229, A229_3, c229_3, e229, hw229_0, hw229_1, hw229_2, hw229_3, hx229_0, hx229_1, hx229_2, hx229_3, HC229_3, HR229_3⟩ := jelw HR0.out HB.out x5_1
        cases e229
        refine start_ (n := 8) (S := fun w' => w'.cell? (ad229.add ((x5_1).toNat * 4)) = some (.string ((rd_T34 l0 x5_1).f0)) ∧ w'.cell? ⟨(ad229.add ((x5_1).toNat * 4)).block, (ad229.add ((x5_1).toNat * 4)).off + 1, none⟩ = some (.int .i64 ((rd_T34 l0 x5_1).f1)) ∧ w'.cell? ⟨(ad229.add ((x5_1).toNat * 4)).block, (ad229.add ((x5_1).toNat * 4)).off + 2, none⟩ = some (.int .i64 ((rd_T34 l0 x5_1).f2)) ∧ w'.cell? ⟨(ad229.add ((x5_1).toNat * 4)).block, (ad229.add ((x5_1).toNat * 4)).off + 3, none⟩ = some (.slice A229_3 ((rd_T34 l0 x5_1).f3).length c229_3)) (ds := []) #[false, false, false, false, false, false, false, false] (by kernel_rfl) rfl rfl ⟨(jcB HB.out hw229_0 :), (jcB HB.out hw229_1 :), (jcB HB.out hw229_2 :), (jcB HB.out hw229_3 :)⟩ (fun hHeld => ?_); refine zgm laws_heldItemS.tab4 laws_heldItemS.bits4 (fun HT_ HW_ => ?_)
        generalize wr.drew = w15 at HB HR229_3 hx229_0 hx229_1 hx229_2 hx229_3 hHeld ⊢
        refine pu 0 12 HT_.out ?_
        refine pu 1 13 HT_.out ?_
        refine pu 2 14 HT_.out ?_
        refine pu 3 15 HT_.out ?_
        refine pu 5 17 HT_.out ?_
        refine tk 4 16 HT_.out HW_.out hHeld ?_
        refine one_ (i := 6) (N := some 18) #[true, true, true, true, true, true, true, false] rfl rfl (one_of HT_.out (by kernel_rfl)) (by decide) (fun K hK => ?_)
        refine goes_ Try.func98 (by kernel_rfl) rfl #[.int .i64 x1_1] (by rfl) rfl rfl jhl ?_
        with_reducible refine (laws_markText.calls k1 x1_1 t230 _ A5.out).mono ?_
        rintro e w16 ⟨rfl, hb⟩
        refine ⟨_, rfl, ?_⟩
        replace HB := Aside0.mk (zad bq hb)
        (try clear hb)
        (try clear hb2)
        (try clear hk)
        (try clear hi)
        refine hK.out _ _ ⟨(jcB HB.out hw229_0 :), (jcB HB.out hw229_1 :), (jcB HB.out hw229_2 :), (jcB HB.out hw229_3 :)⟩ (fun hHeld => ?_)
        clear hK K
        refine norm_ (a' := ?_) ?_ ?_
        rotate_left
        ·show Act.put _ (some 18) _ = _
         simp only [Act.put, zao, zbc, zbd, i64_w, i32_w]
         rfl
        refine pu 7 19 HT_.out ?_
        refine done_ (done_of HT_.out (by kernel_rfl)) ?_
        have p231 : 0 ≤ (x5_1 : Int) := zaa jab
        have q231 : x5_1 < (l0.length : Int) := zaa jab
        obtain ⟨ad231, A231_3, c231_3, e231, hx231_0, hx231_1, hx231_2, hx231_3, hl231_3, hi231_3⟩ := at_T34 HR0.out x5_1 p231 q231
        obtain rfl : ad229 = ad231 := (by injection e231)
        have ea_ := Option.some.inj (hx231_3.symm.trans hw229_3)
        injection ea_ with ea_ en_ ec_
        subst ea_
        subst ec_
        clear en_
        replace hx231_0 := jcB HB.out hx231_0
        replace hx231_1 := jcB HB.out hx231_1
        replace hx231_2 := jcB HB.out hx231_2
        replace hx231_3 := jcB HB.out hx231_3
        have HR231_3 := Aside0.mk hi231_3
        have HC231_3 := Aside0.mk hl231_3
        clear hi231_3 hl231_3
        replace p231 := zay p231
        replace q231 := zay q231
        obtain ⟨p232, q232, ad232, A232_3, c232_3, e232, hx232_0, hx232_1, hx232_2, hx232_3, HC232_3, HR232_3⟩ := jel HR0.out HB.out x5_1
        obtain rfl : ad229 = ad232 := (by injection e232)
        have ea_ := Option.some.inj (hx231_3.symm.trans hx232_3)
        injection ea_ with ea_ en_ ec_
        subst ea_
        subst ec_
        clear en_
        try go_wp2
        go_ret
        exact ⟨jex, bq⟩
      ·rw [if_neg c7] at H
       have c7b0 := zax.mpr c7
       have c7b1 := zdb.mpr c7
       obtain rfl := Option.some.inj H
       try go_wp2
       replace HB := Aside0.mk (zfj HB.out)
       obtain ⟨p229, q229, ad229, A229_3, c229_3, e229, hw229_0, hw229_1, hw229_2, hw229_3, hx229_0, hx229_1, hx229_2, hx229_3, HC229_3, HR229_3⟩ := jelw HR0.out HB.out x5_1
       cases e229
       refine start_ (n := 8) (S := fun w' => w'.cell? (ad229.add ((x5_1).toNat * 4)) = some (.string ((rd_T34 l0 x5_1).f0)) ∧ w'.cell? ⟨(ad229.add ((x5_1).toNat * 4)).block, (ad229.add ((x5_1).toNat * 4)).off + 1, none⟩ = some (.int .i64 ((rd_T34 l0 x5_1).f1)) ∧ w'.cell? ⟨(ad229.add ((x5_1).toNat * 4)).block, (ad229.add ((x5_1).toNat * 4)).off + 2, none⟩ = some (.int .i64 ((rd_T34 l0 x5_1).f2)) ∧ w'.cell? ⟨(ad229.add ((x5_1).toNat * 4)).block, (ad229.add ((x5_1).toNat * 4)).off + 3, none⟩ = some (.slice A229_3 ((rd_T34 l0 x5_1).f3).length c229_3)) (ds := []) #[false, false, false, false, false, false, false, false] (by kernel_rfl) rfl rfl ⟨(jcB HB.out hw229_0 :), (jcB HB.out hw229_1 :), (jcB HB.out hw229_2 :), (jcB HB.out hw229_3 :)⟩ (fun hHeld => ?_); refine zgm laws_heldItemS.tab4 laws_heldItemS.bits4 (fun HT_ HW_ => ?_)
       generalize wr.drew = w17 at HB HR229_3 hx229_0 hx229_1 hx229_2 hx229_3 hHeld ⊢
       refine pu 0 12 HT_.out ?_
       refine pu 1 13 HT_.out ?_
       refine pu 2 14 HT_.out ?_
       refine pu 3 15 HT_.out ?_
       refine pu 5 17 HT_.out ?_
       refine tk 4 16 HT_.out HW_.out hHeld ?_
       refine one_ (i := 6) (N := some 18) #[true, true, true, true, true, true, true, false] rfl rfl (one_of HT_.out (by kernel_rfl)) (by decide) (fun K hK => ?_)
       refine goes_ Try.func98 (by kernel_rfl) rfl #[.int .i64 x1_1] (by rfl) rfl rfl jhl ?_
       with_reducible refine (laws_markText.calls k1 x1_1 t230 _ A5.out).mono ?_
       rintro e w18 ⟨rfl, hb⟩
       refine ⟨_, rfl, ?_⟩
       replace HB := Aside0.mk (zad bq hb)
       (try clear hb)
       (try clear hb2)
       (try clear hk)
       (try clear hi)
       refine hK.out _ _ ⟨(jcB HB.out hw229_0 :), (jcB HB.out hw229_1 :), (jcB HB.out hw229_2 :), (jcB HB.out hw229_3 :)⟩ (fun hHeld => ?_)
       clear hK K
       refine norm_ (a' := ?_) ?_ ?_
       rotate_left
       ·show Act.put _ (some 18) _ = _
        simp only [Act.put, zao, zbc, zbd, i64_w, i32_w]
        rfl
       refine pu 7 19 HT_.out ?_
       refine done_ (done_of HT_.out (by kernel_rfl)) ?_
       have p231 : 0 ≤ (x5_1 : Int) := zaa jab
       have q231 : x5_1 < (l0.length : Int) := zaa jab
       obtain ⟨ad231, A231_3, c231_3, e231, hx231_0, hx231_1, hx231_2, hx231_3, hl231_3, hi231_3⟩ := at_T34 HR0.out x5_1 p231 q231
       obtain rfl : ad229 = ad231 := (by injection e231)
       have ea_ := Option.some.inj (hx231_3.symm.trans hw229_3)
       injection ea_ with ea_ en_ ec_
       subst ea_
       subst ec_
       clear en_
       replace hx231_0 := jcB HB.out hx231_0
       replace hx231_1 := jcB HB.out hx231_1
       replace hx231_2 := jcB HB.out hx231_2
       replace hx231_3 := jcB HB.out hx231_3
       have HR231_3 := Aside0.mk hi231_3
       have HC231_3 := Aside0.mk hl231_3
       clear hi231_3 hl231_3
       replace p231 := zay p231
       replace q231 := zay q231
       try go_wp2
       go_ret
       exact ⟨jex, bq⟩
     ·rw [if_neg c6] at H
      have c6b0 := zax.mpr c6
      have c6b1 := zdb.mpr c6
      obtain rfl := Option.some.inj H
      try go_wp2
      replace HB := Aside0.mk (zfj HB.out)
      obtain ⟨p229, q229, ad229, A229_3, c229_3, e229, hw229_0, hw229_1, hw229_2, hw229_3, hx229_0, hx229_1, hx229_2, hx229_3, HC229_3, HR229_3⟩ := jelw HR0.out HB.out x5_1
      cases e229
      refine start_ (n := 8) (S := fun w' => w'.cell? (ad229.add ((x5_1).toNat * 4)) = some (.string ((rd_T34 l0 x5_1).f0)) ∧ w'.cell? ⟨(ad229.add ((x5_1).toNat * 4)).block, (ad229.add ((x5_1).toNat * 4)).off + 1, none⟩ = some (.int .i64 ((rd_T34 l0 x5_1).f1)) ∧ w'.cell? ⟨(ad229.add ((x5_1).toNat * 4)).block, (ad229.add ((x5_1).toNat * 4)).off + 2, none⟩ = some (.int .i64 ((rd_T34 l0 x5_1).f2)) ∧ w'.cell? ⟨(ad229.add ((x5_1).toNat * 4)).block, (ad229.add ((x5_1).toNat * 4)).off + 3, none⟩ = some (.slice A229_3 ((rd_T34 l0 x5_1).f3).length c229_3)) (ds := []) #[false, false, false, false, false, false, false, false] (by kernel_rfl) rfl rfl ⟨(jcB HB.out hw229_0 :), (jcB HB.out hw229_1 :), (jcB HB.out hw229_2 :), (jcB HB.out hw229_3 :)⟩ (fun hHeld => ?_); refine zgm laws_heldItemS.tab4 laws_heldItemS.bits4 (fun HT_ HW_ => ?_)
      generalize wr.drew = w19 at HB HR229_3 hx229_0 hx229_1 hx229_2 hx229_3 hHeld ⊢
      refine pu 0 12 HT_.out ?_
      refine pu 1 13 HT_.out ?_
      refine pu 2 14 HT_.out ?_
      refine pu 3 15 HT_.out ?_
      refine pu 5 17 HT_.out ?_
      refine tk 4 16 HT_.out HW_.out hHeld ?_
      refine one_ (i := 6) (N := some 18) #[true, true, true, true, true, true, true, false] rfl rfl (one_of HT_.out (by kernel_rfl)) (by decide) (fun K hK => ?_)
      refine goes_ Try.func98 (by kernel_rfl) rfl #[.int .i64 x1_1] (by rfl) rfl rfl jhl ?_
      with_reducible refine (laws_markText.calls k1 x1_1 t230 _ A5.out).mono ?_
      rintro e w20 ⟨rfl, hb⟩
      refine ⟨_, rfl, ?_⟩
      replace HB := Aside0.mk (zad bq hb)
      (try clear hb)
      (try clear hb2)
      (try clear hk)
      (try clear hi)
      refine hK.out _ _ ⟨(jcB HB.out hw229_0 :), (jcB HB.out hw229_1 :), (jcB HB.out hw229_2 :), (jcB HB.out hw229_3 :)⟩ (fun hHeld => ?_)
      clear hK K
      refine norm_ (a' := ?_) ?_ ?_
      rotate_left
      ·show Act.put _ (some 18) _ = _
       simp only [Act.put, zao, zbc, zbd, i64_w, i32_w]
       rfl
      refine pu 7 19 HT_.out ?_
      refine done_ (done_of HT_.out (by kernel_rfl)) ?_
      try go_wp2
      go_ret
      exact ⟨jex, bq⟩
    ·rw [if_neg c4] at H
     exact absurd H (by simp)
   ·rw [if_neg c3] at H
    have c3b0 := zas c3
    clear c3
    obtain rfl := Option.some.inj H
    go_wp2
    go_ret
    exact ⟨jex, bq⟩
end Go.Proofs.Ytlalkldjpniakaa.P
