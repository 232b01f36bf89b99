import Derived.Test.Ytlalkldjpniakaapu28
namespace Go.Proofs.Ytlalkldjpniakaa.P
open Go.RowKit Go.Proofs.YtlalkldjpniakaaW.PrintWords Go.Proofs.YtlalkldjpniakaaW.PrintLast Go.Proofs.YtlalkldjpniakaaW.PrintMore
attribute [local go_sem] zdj zdk zed zee zcy zcz zdl zdm   -- for this text's walks alone
set_option linter.unusedVariables false
set_option linter.unusedSimpArgs false

def spec_Take.l0 : Nat → List (S34) → ByteArray → Int → Option (ByteArray × Int × Int × List Int × (List (S34)) × Bool)
 | 0, _, _, _ => none
 | k + 1, x0, x1, x7 => if x7 < (x0.length : Int) then (if 0 ≤ x7 then (if ((rd_T34 x0 x7).f0).toList = x1.toList then (if x7 ≤ (x0.length : Int) then ((spec_l13Queue.f k (x0.take (x7 : Int).toNat)).bind fun t420 => (if 0 ≤ (wrap64 (x7 + 1)) then (if (wrap64 (x7 + 1)) ≤ (x0.length : Int) then ((spec_l13Queue.f k (x0.drop ((wrap64 (x7 + 1)) : Int).toNat)).bind fun t427 => (if t420.length + t427.length < 2513169434916 then ((spec_l13Item.f ((rd_T34 x0 x7).f0) ((rd_T34 x0 x7).f1) ((rd_T34 x0 x7).f2) ((rd_T34 x0 x7).f3)).bind fun bt434 => (some (bt434.1, bt434.2.1, bt434.2.2.1, bt434.2.2.2, (t420 ++ t427), true))) else (none))) else (none)) else (none))) else (none)) else (spec_Take.l0 k x0 x1 (wrap64 (x7 + 1)))) else (none)) else ((spec_l13Queue.f k x0).bind fun t412 => (some ((⟨#[]⟩ : ByteArray), 0, 0, ([] : List Int), t412, false)))
def spec_Take.f (k : Nat) (l0 : List (S34)) (a1 : ByteArray) : Option (ByteArray × Int × Int × List Int × (List (S34)) × Bool) := spec_Take.l0 k l0 a1 0
theorem spec_Take.mono_l : ∀ k, (∀ y0 y1 y2, LeO (spec_Take.l0 k y0 y1 y2) (spec_Take.l0 (k + 1) y0 y1 y2))
 | 0 => fun _ _ _ r h => by simp [spec_Take.l0] at h
 | k + 1 => by
  have ih0 := spec_Take.mono_l k
  ·intro y0 y1 y2
   unfold spec_Take.l0
   repeat' first
   | (with_reducible exact ih0 _ _ _)
   | (with_reducible exact spec_l13Queue.mono _ _)
   | (with_reducible exact zcn _)
   | (with_reducible exact zda _)
   | (with_reducible refine zdh ?_ ?_)
   | (with_reducible refine zcs ?_ (fun _ => ?_))
   | exact ih0 _ _ _
theorem spec_Take.mono : ∀ a0 a1 k, LeO (spec_Take.f k a0 a1) (spec_Take.f (k + 1) a0 a1) := by
 intro a0 a1 k
 have ih0 := spec_Take.mono_l k
 unfold spec_Take.f
 repeat' first
   | (with_reducible exact ih0 _ _ _)
   | (with_reducible exact spec_l13Queue.mono _ _)
   | (with_reducible exact zcn _)
   | (with_reducible exact zda _)
   | (with_reducible refine zdh ?_ ?_)
   | (with_reducible refine zcs ?_ (fun _ => ?_))
   | exact ih0 _ _ _
def spec_Take.T5 : Bool × List (List Nat × List Nat) := (true, [([], []), ([], []), ([0, 1], [0, 1]), ([2], [2]), ([], []), ([], []), ([5], [5]), ([4, 6], [4, 6]), ([7, 3], [7]), ([3, 8, 8], [3, 8]), ([9, 9, 0, 1, 2, 3, 4, 5, 6, 7, 8, 9], [9])])
def spec_Take.B5 : List Nat := [0, 0, 3, 7, 0, 0, 32, 112, 255, 511, 1023]
theorem spec_Take.tab5 : rtab .any (opsOf Try.f44 5) = spec_Take.T5 := by kernel_rfl
theorem spec_Take.bits5 : waitsOk spec_Take.T5.2 spec_Take.B5 = true := by kernel_rfl
set_option maxHeartbeats 8000000 in
set_option maxRecDepth 100000 in
theorem spec_Take.calls (k : Nat) (A0 : Option Addr) (c0 : Nat) (l0 : List (S34)) (a1 : ByteArray) (r1 : ByteArray) (r2 : Int) (r3 : Int) (r4 : List Int) (r5 : List (S34)) (r6 : Bool) (w : World) (hr0 : Kd.C k34 w A0 l0.length l0) (hc0 : l0.length ≤ c0) (h : spec_Take.f k l0 a1 = some (r1, r2, r3, r4, r5, r6)) :
  Calls Try.prog 44 #[.slice A0 l0.length c0, .string a1] w fun e w' => ∃ v3_ v4_ : Value, e = .returned (.tuple #[.agg #[.string r1, .int .i64 r2, .int .i64 r3, v3_], v4_, .bool r6]) ∧ Kd.R (Kd.int .u8) 5 w' w.heap.size (fun k_ => (w.heap.size ≤ k_)) v3_ r4 ∧ Kd.N k34 34 w' w.heap.size (fun k_ => (w.heap.size ≤ k_) ∧ some k_ ≠ (v3_ : Value).ownBlock) v4_ r5 ∧ Below w.heap.size w w' := by
 have hu34 := Try.underlying34
 have HR0 := Aside0.mk hr0
 have HC0 := Aside0.mk hc0
 clear hr0 hc0
 have HB := Aside0.mk (zbt w.heap.size w)
 have H : (spec_Take.l0 k l0 a1 0) = some (r1, r2, r3, r4, r5, r6) := h
 clear h
 have H' := Aside0.mk H
 clear H
 go_enter Try.func44, Try.ntmps44
 go_wp2_with (first | ((with_reducible refine zcc (N := 4) rfl ?_); refine zct ?hg (N := 4) ?hd (cs := #[.string (⟨#[]⟩ : ByteArray), .int .i64 0, .int .i64 0, .slice none 0 0]) (t := 34) ?hr ?_; (case hd => rfl); (case hg => rfl); (case hr => first | (go_simp; done) | (go_simp; rfl)); intro gb411 hg w3 hbox hb; have xb_ := below_ofs (by repeat (first | (with_reducible first | exact HB.out | apply zae | apply zab | apply zac) | exact HB.out)) hb; have n0_ := Aside0.mk (zai xb_ hb); have n1_ := Aside0.mk (hbox); have n2_ := Aside0.mk ((by rw [hg]; exact (zam xb_) : w.heap.size ≤ gb411)); have n3_ := Aside0.mk ((by rw [hg]; exact (zam xb_) : w.heap.size ≤ gb411)); clear HB; have HB := n0_; have BK411 := n1_; have GW411 := n2_; have GE411 := n3_; clear n0_ n1_ n2_ n3_; clear xb_ hb hbox hg))
 go_loopg [7] k (fun kq v7 w' => ∃ (x7_1 : Int) (x412000_1 : ByteArray) (x412001_1 : Int) (x412002_1 : Int), v7 = .int .i64 x7_1 ∧ Aside0 (spec_Take.l0 kq l0 a1 x7_1 = some (r1, r2, r3, r4, r5, r6)) ∧ Aside0 (kq ≤ k) ∧ Aside0 (w'.heap[gb411]? = some (.cells #[.string x412000_1, .int .i64 x412001_1, .int .i64 x412002_1, (.slice none 0 0)] 34 (0, 0))) ∧ Aside0 (Below w.heap.size w w'))
 case atStart => exact ⟨(0), ((⟨#[]⟩ : ByteArray)), (0), (0), (by first | rfl | (simp; done) | (simp [*]; done)), H', ⟨zaw _⟩, ⟨by (with_reducible repeat (first | refine zaq ?_ _ | refine zav ?_ | refine zar ?_ _)); exact BK411.out⟩, ⟨by repeat (first | (with_reducible first | exact HB.out | apply zae | apply zab | apply zac | refine zal ?_ GE411.out) | exact HB.out)⟩⟩
 case round =>
  clear H'
  try clear p2
  obtain ⟨x7_1, x412000_1, x412001_1, x412002_1, rfl, HA, HK1, BK411, HB⟩ := hrel
  cases gk with
  | zero => exact absurd HA.out (by simp [spec_Take.l0])
  | succ k1 =>
   have H := HA.out
   clear HA
   simp only [spec_Take.l0] at H
   by_cases c4 : x7_1 < (l0.length : Int)
   ·rw [if_pos c4] at H
    have c4b0 : decide (x7_1 < (l0.length : Int)) = true := zas c4
    clear c4
    by_cases c5 : 0 ≤ x7_1
    ·rw [if_pos c5] at H
     have c5b0 : decide (0 ≤ x7_1) = true := zas c5
     clear c5
     by_cases c6 : ((rd_T34 l0 x7_1).f0).toList = a1.toList
     ·rw [if_pos c6] at H
      have c6b0 : (((rd_T34 l0 x7_1).f0).toList == a1.toList) = true := zep.mpr c6
      have c6b1 : (((rd_T34 l0 x7_1).f0).toList != a1.toList) = false := zcp.mpr c6
      clear c6
      have c7b0 := zay (zad (by first | (with_reducible assumption) | assumption) : 0 ≤ x7_1)
      by_cases c8 : x7_1 ≤ (l0.length : Int)
      ·rw [if_pos c8] at H
       have c8b0 := zay c8
       have c8b1 : decide (x7_1 ≤ (l0.length : Int)) = true := zas c8
       clear c8
       obtain ⟨y416, hy416⟩ : ∃ y_ : List (S34), y_ = (l0.take (x7_1 : Int).toNat) := ⟨_, rfl⟩
       replace H : ((spec_l13Queue.f k1 y416).bind fun t420 => (if 0 ≤ (wrap64 (x7_1 + 1)) then (if (wrap64 (x7_1 + 1)) ≤ (l0.length : Int) then ((spec_l13Queue.f k1 (l0.drop ((wrap64 (x7_1 + 1)) : Int).toNat)).bind fun t427 => (if t420.length + t427.length < 2513169434916 then ((spec_l13Item.f ((rd_T34 l0 x7_1).f0) ((rd_T34 l0 x7_1).f1) ((rd_T34 l0 x7_1).f2) ((rd_T34 l0 x7_1).f3)).bind fun bt434 => (some (bt434.1, bt434.2.1, bt434.2.2.1, bt434.2.2.2, (t420 ++ t427), true))) else (none))) else (none)) else (none))) = some (r1, r2, r3, r4, r5, r6) := by first | (rw [hy416]; with_reducible first | exact H | exact bind_ofs H) | (with_reducible first | exact H | exact bind_ofs H) | (rw [hy416]; exact H) | exact H
       have Ny416 := Aside0.mk hy416
       clear hy416
       replace H := zak.mp H
       obtain ⟨t420, A90, H⟩ := H
       try dsimp only at H
       have A9 := Aside0.mk A90
       clear A90
       obtain ⟨ji10, hji10⟩ : ∃ j_ : Int, (wrap64 (x7_1 + 1)) = j_ := ⟨_, rfl⟩
       replace H : (if 0 ≤ (ji10) then (if (ji10) ≤ (l0.length : Int) then ((spec_l13Queue.f k1 (l0.drop ((ji10) : Int).toNat)).bind fun t427 => (if t420.length + t427.length < 2513169434916 then ((spec_l13Item.f ((rd_T34 l0 x7_1).f0) ((rd_T34 l0 x7_1).f1) ((rd_T34 l0 x7_1).f2) ((rd_T34 l0 x7_1).f3)).bind fun bt434 => (some (bt434.1, bt434.2.1, bt434.2.2.1, bt434.2.2.2, (t420 ++ t427), true))) else (none))) else (none)) else (none)) = some (r1, r2, r3, r4, r5, r6) := by first | (rw [hji10] at H; exact H) | (simp only [hji10] at H ⊢; exact H)
       (try rw [hji10] at A9)
       have hji10w : (IntKind.i64.wrap (x7_1 + 1)) = ji10 := (i64_w _).trans hji10
       by_cases c11 : 0 ≤ (ji10)
       ·rw [if_pos c11] at H
        have c11b0 := zay c11
        have c11b1 : decide (0 ≤ (ji10)) = true := zas c11
        clear c11
        by_cases c12 : (ji10) ≤ (l0.length : Int)
        ·rw [if_pos c12] at H
         have c12b0 := zay c12
         have c12b1 : decide ((ji10) ≤ (l0.length : Int)) = true := zas c12
         clear c12
         obtain ⟨y423, hy423⟩ : ∃ y_ : List (S34), y_ = (l0.drop ((ji10) : Int).toNat) := ⟨_, rfl⟩
         replace H : ((spec_l13Queue.f k1 y423).bind fun t427 => (if t420.length + t427.length < 2513169434916 then ((spec_l13Item.f ((rd_T34 l0 x7_1).f0) ((rd_T34 l0 x7_1).f1) ((rd_T34 l0 x7_1).f2) ((rd_T34 l0 x7_1).f3)).bind fun bt434 => (some (bt434.1, bt434.2.1, bt434.2.2.1, bt434.2.2.2, (t420 ++ t427), true))) else (none))) = some (r1, r2, r3, r4, r5, r6) := by first | (rw [hy423]; with_reducible first | exact H | exact bind_ofs H) | (with_reducible first | exact H | exact bind_ofs H) | (rw [hy423]; exact H) | exact H
         have Ny423 := Aside0.mk hy423
         clear hy423
         replace H := zak.mp H
         obtain ⟨t427, A130, H⟩ := H
         try dsimp only at H
         have A13 := Aside0.mk A130
         clear A130
         by_cases c14 : t420.length + t427.length < 2513169434916
         ·rw [if_pos c14] at H
          have LMc14 := Aside0.mk c14
          clear c14
          obtain ⟨y430, hy430⟩ : ∃ y_ : List (S34), y_ = (t420 ++ t427) := ⟨_, rfl⟩
          replace H : ((spec_l13Item.f ((rd_T34 l0 x7_1).f0) ((rd_T34 l0 x7_1).f1) ((rd_T34 l0 x7_1).f2) ((rd_T34 l0 x7_1).f3)).bind fun bt434 => (some (bt434.1, bt434.2.1, bt434.2.2.1, bt434.2.2.2, y430, true))) = some (r1, r2, r3, r4, r5, r6) := by first | (rw [hy430]; with_reducible first | exact H | exact bind_ofs H) | (with_reducible first | exact H | exact bind_ofs H) | (rw [hy430]; exact H) | exact H
          have Ny430 := Aside0.mk hy430
          clear hy430
          replace H := zak.mp H
          obtain ⟨⟨t434, t435, t436, t437⟩, A150, H⟩ := H
          try dsimp only at H
          have A15 := Aside0.mk A150
          clear A150
          simp only [zdb, zde] at H
          obtain ⟨rfl, rfl, rfl, rfl, rfl, rfl⟩ := H
          have p415 : 0 ≤ (x7_1 : Int) := zad (by first | (with_reducible assumption) | assumption)
          have q415 : x7_1 < (l0.length : Int) := zad (by first | (with_reducible assumption) | assumption)
          obtain ⟨ad415, A415_3, c415_3, e415, hx415_0, hx415_1, hx415_2, hx415_3, hl415_3, hi415_3⟩ := at_T34 HR0.out x7_1 p415 q415
          cases e415
          replace hx415_0 := (HB.out.cell (World.block_lt_of_cell? w _ hx415_0)).trans hx415_0
          replace hx415_1 := (HB.out.cell (World.block_lt_of_cell? w _ hx415_1)).trans hx415_1
          replace hx415_2 := (HB.out.cell (World.block_lt_of_cell? w _ hx415_2)).trans hx415_2
          replace hx415_3 := (HB.out.cell (World.block_lt_of_cell? w _ hx415_3)).trans hx415_3
          have HR415_3 := Aside0.mk hi415_3
          have HC415_3 := Aside0.mk hl415_3
          clear hi415_3 hl415_3
          replace p415 := zay p415
          replace q415 := zay q415
          try go_wp2
          have n0_ := Aside0.mk (zav BK411.out)
          have n1_ := Aside0.mk (zac HB.out)
          clear BK411
          clear HB
          have BK411 := n0_
          have HB := n1_
          clear n0_ n1_
          have q17 : (x7_1 : Int) ≤ ((l0.length : Int) : Int) := zad (by first | (with_reducible assumption) | assumption)
          obtain ⟨i017, hi017, _, hsz17, _⟩ := info_parts info34
          have hroom17 : l0.length ≤ c0 := HC0.out
          have hC17 : Kd.C k34 _ (some ad415) l0.length l0 := HR0.out
          have hcut17 := cut_to (P := Try.prog) 25 34 .i64 Try.underlying25 hi017 (some ad415) l0.length c0 x7_1 (zad (by first | (with_reducible assumption) | assumption)) q17 hroom17
          have hr17 := Kd.C_take (m := (x7_1 : Int).toNat) hC17 (by omega)
          have hy17 : y416.length = (x7_1 : Int).toNat := (by rw [Ny416.out, zcf]; omega)
          rw [← Ny416.out] at hr17
          rw [← hy17] at hcut17
          have HR419 := Aside0.mk hr17
          have HC419 := Aside0.mk (show y416.length ≤ c0 from by omega)
          clear hr17 hC17 hroom17 hi017 hsz17
          have KY17 := Aside0.mk hy17
          clear hy17
          replace q17 := zay q17
          have q18 : ((ji10) : Int) ≤ ((l0.length : Int) : Int) := zad (by first | (with_reducible assumption) | assumption)
          obtain ⟨i018, hi018, _, hsz18, _⟩ := info_parts info34
          have hroom18 : l0.length ≤ c0 := HC0.out
          have hC18 : Kd.C k34 _ (some ad415) l0.length l0 := HR0.out
          have q018 : (0 : Int) ≤ ((ji10) : Int) := zad (by first | (with_reducible assumption) | assumption)
          have hcut18 := cut_from (P := Try.prog) 25 34 .i64 Try.underlying25 hi018 4 hsz18 (some ad415) l0.length c0 (ji10) q018 q18
          have hr18 := Kd.C_drop (m := ((ji10) : Int).toNat) (c := c0) hC18 (by omega) hroom18
          obtain ⟨A18, hA18⟩ : ∃ A1, A1 = (if c0 = ((ji10) : Int).toNat then (some ad415) else ((some ad415) : Option Addr).map (·.add (((ji10) : Int).toNat * 4))) := ⟨_, rfl⟩
          obtain ⟨c18, hc18⟩ : ∃ c1, c1 = c0 - ((ji10) : Int).toNat := ⟨_, rfl⟩
          have hy18 : y423.length = l0.length - ((ji10) : Int).toNat := (by rw [Ny423.out, zch] <;> omega)
          rw [show (l0).drop ((ji10) : Int).toNat = y423 from Ny423.out.symm] at hr18
          replace hr18 : Kd.C k34 _ A18 y423.length y423 := (by rw [hA18]; exact hr18)
          rw [← hy18, ← hA18, ← hc18] at hcut18
          have HR426 := Aside0.mk hr18
          have HC426 := Aside0.mk (show y423.length ≤ c18 from by rw [hy18, hc18]; exact Nat.sub_le_sub_right hroom18 _)
          clear hr18 hC18 hroom18 hi018 hsz18 hc18
          have KY18 := Aside0.mk hy18
          have KA18 := Aside0.mk hA18
          clear hy18 hA18
          replace q18 := zay q18
          refine start_ (n := 11) (S := fun w' => True) (ds := []) #[false, false, false, false, false, false, false, false, false, false, false] (by kernel_rfl) rfl rfl trivial (fun hHeld => ?_); refine with_tabW spec_Take.tab5 spec_Take.bits5 (fun HT_ HW_ => ?_)
          generalize wr.drew = w16 at BK411 HB HR419 HR426 hHeld ⊢
          refine pure_ (i := 0) (N := some 22) (v := ?_) (a' := ?_) #[true, false, false, false, false, false, false, false, false, false, false] rfl rfl (any_of HT_.out (by kernel_rfl)) (fun _ _ _ h => h) (Or.inl ⟨by rfl, ?_⟩) ?_ ?_
          rotate_left
          ·intro w'
           go_simp
           with_reducible rfl
          rotate_left
          ·simp only [Act.put, zag, zan, zao, i64_w, i32_w]
           rfl
          refine pure_ (i := 1) (N := some 23) (v := ?_) (a' := ?_) #[true, true, false, false, false, false, false, false, false, false, false] rfl rfl (any_of HT_.out (by kernel_rfl)) (fun _ _ _ h => h) (Or.inl ⟨by rfl, ?_⟩) ?_ ?_
          rotate_left
          ·intro w'
           go_simp
           with_reducible rfl
          rotate_left
          ·simp only [Act.put, zag, zan, zao, i64_w, i32_w]
           rfl
          refine pure_ (i := 2) (N := some 24) (v := ?_) (a' := ?_) #[true, true, true, false, false, false, false, false, false, false, false] rfl rfl (any_of HT_.out (by kernel_rfl)) (fun _ _ _ h => h) (Or.inl ⟨by rfl, ?_⟩) ?_ ?_
          rotate_left
          ·intro w'
           go_simp
           with_reducible rfl
          rotate_left
          ·simp only [Act.put, zag, zan, zao, i64_w, i32_w]
           rfl
          refine pure_ (i := 4) (N := some 26) (v := ?_) (a' := ?_) #[true, true, true, false, true, false, false, false, false, false, false] rfl rfl (any_of HT_.out (by kernel_rfl)) (fun _ _ _ h => h) (Or.inl ⟨by rfl, ?_⟩) ?_ ?_
          rotate_left
          ·intro w'
           go_simp
           with_reducible rfl
          rotate_left
          ·simp only [Act.put, zag, zan, zao, i64_w, i32_w]
           rfl
          refine pure_ (i := 5) (N := some 27) (v := ?_) (a' := ?_) #[true, true, true, false, true, true, false, false, false, false, false] rfl rfl (any_of HT_.out (by kernel_rfl)) (fun _ _ _ h => h) (Or.inl ⟨by rfl, ?_⟩) ?_ ?_
          rotate_left
          ·intro w'
           go_simp
           with_reducible rfl
          rotate_left
          ·simp only [Act.put, zag, zan, zao, i64_w, i32_w]
           rfl
          refine pure_ (i := 6) (N := some 28) (v := ?_) (a' := ?_) #[true, true, true, false, true, true, true, false, false, false, false] rfl rfl (any_of HT_.out (by kernel_rfl)) (fun _ _ _ h => h) (Or.inl ⟨by rfl, ?_⟩) ?_ ?_
          rotate_left
          ·intro w'
           go_simp
           with_reducible rfl
          rotate_left
          ·simp only [Act.put, zag, zan, zao, i64_w, i32_w]
           rfl
          refine pure_ (i := 7) (N := some 29) (v := ?_) (a' := ?_) #[true, true, true, false, true, true, true, true, false, false, false] rfl rfl (any_of HT_.out (by kernel_rfl)) (fun _ _ _ h => h) (Or.inl ⟨by rfl, ?_⟩) ?_ ?_
          rotate_left
          ·intro w'
           go_simp
           with_reducible rfl
          rotate_left
          ·simp only [Act.put, zag, zan, zao, i64_w, i32_w]
           rfl
          refine one_ (i := 3) (N := some 25) #[true, true, true, true, true, true, true, true, false, false, false] rfl rfl (one_of HT_.out (by kernel_rfl)) (by decide) (fun K hK => ?_)
          refine goes_ Try.func101 (by kernel_rfl) rfl #[.slice (some ad415) y416.length c0] (by rfl) rfl rfl (by (try simp only [zat, zbe, zbh]); first | done | rfl | (simp only [zch, zcf]; rfl) | (simp only [zch, zcf]; rw [zei (zff.mpr (of_eq_true (by assumption)))])) ?_
          with_reducible refine (spec_l13Queue.calls k1 _ _ y416 t420 _ ?side1 ?side2 A9.out).mono ?_
          (case side1 => repeat (first | exact (zbf HR419.out HB.out) | (with_reducible refine zbs ?_ _) | (with_reducible refine zbw ?_ _) | (with_reducible refine zcd ?_)))
          (case side2 => exact HC419.out)
          rintro e w19 ⟨v421, rfl, ho0, hb⟩
          refine ⟨_, rfl, ?_⟩
          have n0_ := Aside0.mk (Kd.N_lower (Kd.N_mono (ok' := fun k_ => (w.heap.size ≤ k_) ∧ k_ ≠ gb411) (Kd.S_N (zfd ho0)) (fun k_ hk_ => ⟨(zdd (zam (by repeat (first | (with_reducible first | exact HB.out | apply zae | apply zab | apply zac | refine zal ?_ GE411.out) | exact HB.out))) hk_.2.1), (zez (g := gb411) (o := .cells #[.string x412000_1, .int .i64 x412001_1, .int .i64 x412002_1, .slice none 0 0] 34 (0, 0)) (by (with_reducible repeat (first | refine zaq ?_ _ | refine zav ?_ | refine zar ?_ _)); exact BK411.out) k_ hk_.2.1)⟩)) (zam (by repeat (first | (with_reducible first | exact HB.out | apply zae | apply zab | apply zac | refine zal ?_ GE411.out) | exact HB.out))))
          have n1_ := Aside0.mk (zce (g := gb411) (o := .cells #[.string x412000_1, .int .i64 x412001_1, .int .i64 x412002_1, .slice none 0 0] 34 (0, 0)) (by (with_reducible repeat (first | refine zaq ?_ _ | refine zav ?_ | refine zar ?_ _)); exact BK411.out) hb)
          have n2_ := Aside0.mk (zai (by repeat (first | (with_reducible first | exact HB.out | apply zae | apply zab | apply zac | refine zal ?_ GE411.out) | exact HB.out)) hb)
          clear BK411
          clear HB
          have HO422 := n0_
          have BK411 := n1_
          have HB := n2_
          clear n0_ n1_ n2_
          (try clear hb)
          (try clear hb2)
          (try clear hk)
          (try clear hi)
          (try clear ho0)
          refine hK.out _ _ trivial (fun hHeld => ?_)
          clear hK K
          refine norm_ (a' := ?_) ?_ ?_
          rotate_left
          ·show Act.put _ (some 25) _ = _
           simp only [Act.put, zag, zan, zao, i64_w, i32_w]
           rfl
          refine one_ (i := 8) (N := some 30) #[true, true, true, true, true, true, true, true, true, false, false] rfl rfl (one_of HT_.out (by kernel_rfl)) (by decide) (fun K hK => ?_)
          refine goes_ Try.func101 (by kernel_rfl) rfl #[.slice A18 y423.length c18] (by rfl) rfl rfl (by (try simp only [zat, zbe, zbh]); first | done | rfl | (simp only [zch, zcf]; rfl) | (simp only [zch, zcf]; rw [zei (zff.mpr (of_eq_true (by assumption)))])) ?_
          with_reducible refine (spec_l13Queue.calls k1 _ _ y423 t427 _ ?side1 ?side2 A13.out).mono ?_
          (case side1 => repeat (first | exact (zbf HR426.out HB.out) | (with_reducible refine zbs ?_ _) | (with_reducible refine zbw ?_ _) | (with_reducible refine zcd ?_)))
          (case side2 => exact HC426.out)
          rintro e w20 ⟨v428, rfl, ho0, hb⟩
          refine ⟨_, rfl, ?_⟩
          have n0_ := Aside0.mk (Kd.N_elder' (by (with_reducible repeat (first | apply Kd.N_alloc | apply Kd.N_drewN | apply Kd.N_drew)); exact HO422.out) (by first | exact Kd.N_base ho0 | exact Kd.S_base ho0) hb)
          have n1_ := Aside0.mk (Kd.N_lower (Kd.N_mono (ok' := fun k_ => (w.heap.size ≤ k_) ∧ some k_ ≠ (v421 : Value).ownBlock ∧ k_ ≠ gb411) (Kd.S_N (zfd ho0)) (fun k_ hk_ => ⟨(zdd (zam (by repeat (first | (with_reducible first | exact HB.out | apply zae | apply zab | apply zac | refine zal ?_ GE411.out) | exact HB.out))) hk_.2.1), (Kd.fresh' (Kd.N_lt (by (with_reducible repeat (first | apply Kd.N_alloc | apply Kd.N_drewN | apply Kd.N_drew)); exact HO422.out)) k_ hk_.2.1), (zez (g := gb411) (o := .cells #[.string x412000_1, .int .i64 x412001_1, .int .i64 x412002_1, .slice none 0 0] 34 (0, 0)) (by (with_reducible repeat (first | refine zaq ?_ _ | refine zav ?_ | refine zar ?_ _)); exact BK411.out) k_ hk_.2.1)⟩)) (zam (by repeat (first | (with_reducible first | exact HB.out | apply zae | apply zab | apply zac | refine zal ?_ GE411.out) | exact HB.out))))
          have n2_ := Aside0.mk (zce (g := gb411) (o := .cells #[.string x412000_1, .int .i64 x412001_1, .int .i64 x412002_1, .slice none 0 0] 34 (0, 0)) (by (with_reducible repeat (first | refine zaq ?_ _ | refine zav ?_ | refine zar ?_ _)); exact BK411.out) hb)
          have n3_ := Aside0.mk (zai (by repeat (first | (with_reducible first | exact HB.out | apply zae | apply zab | apply zac | refine zal ?_ GE411.out) | exact HB.out)) hb)
          clear HO422
          clear BK411
          clear HB
          have HO422 := n0_
          have HO429 := n1_
          have BK411 := n2_
          have HB := n3_
          clear n0_ n1_ n2_ n3_
          (try clear hb)
          (try clear hb2)
          (try clear hk)
          (try clear hi)
          (try clear ho0)
          obtain ⟨Ao22, co22, eo22⟩ := Kd.N_slice HO429.out
          (first | subst eo22 | (injection eo22 with f1_ f2_ f3_; have f4_ := f1_.symm; have f5_ := f3_.symm; clear f1_ f2_ f3_; subst f4_; subst f5_))
          refine hK.out _ _ trivial (fun hHeld => ?_)
          clear hK K
          refine norm_ (a' := ?_) ?_ ?_
          rotate_left
          ·show Act.put _ (some 30) _ = _
           simp only [Act.put, zag, zan, zao, i64_w, i32_w]
           rfl
          refine one_ (i := 9) (N := some 31) #[true, true, true, true, true, true, true, true, true, true, false] rfl rfl (one_of HT_.out (by kernel_rfl)) (by decide) (fun K hK => ?_)
          refine Kd.N_append_rows_step k34 (w0 := w) w.heap.size (by rfl) (.tmp 25) (.tmp 30) 25 34 (.agg #[(.string ⟨#[]⟩), (.int .i64 0), (.int .i64 0), (.slice none 0 0)]) 56 rfl Try.underlying25 info34 rfl (by decide) (by omega) v421 t420 t427 _ _ _ (fun k_ => (w.heap.size ≤ k_) ∧ k_ ≠ gb411) (fun k_ => ((fun k_ => (w.heap.size ≤ k_) ∧ k_ ≠ gb411)) k_ ∧ some k_ ≠ (v421 : Value).ownBlock) rfl rfl ?aO ?aR (fun _ hk => hk) ?aF ?aB ?aS ?aL ?_
          (case aR => exact (by skip; exact Kd.N_F (Kd.N_mono (ok' := (fun k_ => ((fun k_ => (w.heap.size ≤ k_) ∧ k_ ≠ gb411)) k_ ∧ some k_ ≠ (v421 : Value).ownBlock)) (HO429.out) (fun k_ hk => ⟨⟨hk.1, hk.2.2⟩, hk.2.1⟩))))
          (case aB => exact (by repeat (first | (with_reducible first | exact HB.out | apply zae | apply zab | apply zac | refine zal ?_ GE411.out) | exact HB.out)))
          (case aF => exact (fun k_ hk => ⟨(zdd (zam (by repeat (first | (with_reducible first | exact HB.out | apply zae | apply zab | apply zac | refine zal ?_ GE411.out) | exact HB.out))) hk), zez (g := gb411) (o := .cells #[.string x412000_1, .int .i64 x412001_1, .int .i64 x412002_1, .slice none 0 0] 34 (0, 0)) (by (with_reducible repeat (first | refine zaq ?_ _ | refine zav ?_ | refine zar ?_ _)); exact BK411.out) k_ hk⟩))
          (case aO => exact (by (with_reducible repeat (first | apply Kd.N_alloc | apply Kd.N_drewN | apply Kd.N_drew)); exact Kd.N_mono HO422.out (fun _ hk => ⟨hk.1.1, hk.1.2⟩)))
          (case aS => exact (zam (by repeat (first | (with_reducible first | exact HB.out | apply zae | apply zab | apply zac | refine zal ?_ GE411.out) | exact HB.out))))
          (case aL => have := LMc14.out; omega)
          intro v431 w21 ho hb hg hat
          rw [← Ny430.out] at ho
          have n0_ := Aside0.mk (zfb (g := gb411) (o := .cells #[.string x412000_1, .int .i64 x412001_1, .int .i64 x412002_1, .slice none 0 0] 34 (0, 0)) (by (with_reducible repeat (first | refine zaq ?_ _ | refine zav ?_ | refine zar ?_ _)); exact BK411.out) hg (Kd.N_away HO422.out (fun _ hk => hk.1.2)))
          have n1_ := Aside0.mk (Kd.N_afterv (ok := (fun k_ => (w.heap.size ≤ k_) ∧ k_ ≠ gb411)) (by (with_reducible repeat (first | apply Kd.N_alloc | apply Kd.N_drewN | apply Kd.N_drew)); exact Kd.N_mono HO429.out (fun _ hk => ⟨⟨hk.1, hk.2.2⟩, hk.2.1⟩)) hg hat)
          have n2_ := Aside0.mk (hb)
          have n3_ := Aside0.mk (ho)
          clear BK411
          clear HO429
          clear HB
          clear HO422
          have BK411 := n0_
          have HO429 := n1_
          have HB := n2_
          have HO432 := n3_
          clear n0_ n1_ n2_ n3_
          clear ho hb hg hat
          refine hK.out _ _ trivial (fun hHeld => ?_)
          clear hK K
          refine norm_ (a' := ?_) ?_ ?_
          rotate_left
          ·show Act.put _ (some 31) _ = _
           simp only [Act.put, zag, zan, zao, i64_w, i32_w]
           rfl
          refine pure_ (i := 10) (N := some 8) (v := ?_) (a' := ?_) #[true, true, true, true, true, true, true, true, true, true, true] rfl rfl (any_of HT_.out (by kernel_rfl)) (fun _ _ _ h => h) (Or.inl ⟨by rfl, ?_⟩) ?_ ?_
          rotate_left
          ·intro w'
           go_simp
           with_reducible rfl
          rotate_left
          ·simp only [Act.put, zag, zan, zao, i64_w, i32_w]
           rfl
          refine done_ (done_of HT_.out (by kernel_rfl)) ?_
          have p433 : 0 ≤ (x7_1 : Int) := zad (by first | (with_reducible assumption) | assumption)
          have q433 : x7_1 < (l0.length : Int) := zad (by first | (with_reducible assumption) | assumption)
          obtain ⟨ad433, A433_3, c433_3, e433, hx433_0, hx433_1, hx433_2, hx433_3, hl433_3, hi433_3⟩ := at_T34 HR0.out x7_1 p433 q433
          obtain rfl : ad415 = ad433 := (by injection e433)
          replace hx433_0 := (HB.out.cell (World.block_lt_of_cell? w _ hx433_0)).trans hx433_0
          replace hx433_1 := (HB.out.cell (World.block_lt_of_cell? w _ hx433_1)).trans hx433_1
          replace hx433_2 := (HB.out.cell (World.block_lt_of_cell? w _ hx433_2)).trans hx433_2
          replace hx433_3 := (HB.out.cell (World.block_lt_of_cell? w _ hx433_3)).trans hx433_3
          have HR433_3 := Aside0.mk hi433_3
          have HC433_3 := Aside0.mk hl433_3
          clear hi433_3 hl433_3
          replace p433 := zay p433
          replace q433 := zay q433
          try go_wp2_with (first | ((with_reducible refine zbv (f := 94) rfl ?_); refine goesL_ (some 36) rfl rfl Try.func94 (by kernel_rfl) rfl #[.agg #[.string ((rd_T34 l0 x7_1).f0), .int .i64 ((rd_T34 l0 x7_1).f1), .int .i64 ((rd_T34 l0 x7_1).f2), .slice A433_3 ((rd_T34 l0 x7_1).f3).length c433_3]] rfl (by (try simp only [zat, zbe, zbh]); first | done | rfl | (simp only [zch, zcf]; rfl) | (simp only [zch, zcf]; rw [zei (zff.mpr (of_eq_true (by assumption)))])) ?_; (with_reducible refine (spec_l13Item.calls ((rd_T34 l0 x7_1).f0) ((rd_T34 l0 x7_1).f1) ((rd_T34 l0 x7_1).f2) _ _ ((rd_T34 l0 x7_1).f3) t434 t435 t436 t437 _ ?side1 ?side2 A15.out).mono ?_); (case side1 => repeat (first | exact (zbf HR433_3.out HB.out) | (with_reducible refine zbs ?_ _) | (with_reducible refine zbw ?_ _) | (with_reducible refine zcd ?_))); (case side2 => exact HC433_3.out); rintro e w23 ⟨v438, rfl, ho0, hb⟩; refine ⟨_, rfl, ?_⟩; have n0_ := Aside0.mk (Kd.N_elder' (by (with_reducible repeat (first | apply Kd.N_alloc | apply Kd.N_drewN | apply Kd.N_drew)); exact HO429.out) (zdr ho0) hb); have n1_ := Aside0.mk (Kd.N_elder' (by (with_reducible repeat (first | apply Kd.N_alloc | apply Kd.N_drewN | apply Kd.N_drew)); exact HO432.out) (zdr ho0) hb); have n2_ := Aside0.mk (zbx (Kd.R_newM (M := fun k_ => (w.heap.size ≤ k_)) ho0 (zam (by repeat (first | (with_reducible first | exact HB.out | apply zae | apply zab | apply zac | refine zal ?_ GE411.out) | exact HB.out))) (fun k_ h_ => h_)) (zam (by repeat (first | (with_reducible first | exact HB.out | apply zae | apply zab | apply zac | refine zal ?_ GE411.out) | exact HB.out)))); have n3_ := Aside0.mk (zce (g := gb411) (o := .cells #[.string x412000_1, .int .i64 x412001_1, .int .i64 x412002_1, .slice none 0 0] 34 (0, 0)) (by (with_reducible repeat (first | refine zaq ?_ _ | refine zav ?_ | refine zar ?_ _)); exact BK411.out) hb); have n4_ := Aside0.mk (zai (by repeat (first | (with_reducible first | exact HB.out | apply zae | apply zab | apply zac | refine zal ?_ GE411.out) | exact HB.out)) hb); clear HO429; clear HO432; clear BK411; clear HB; have HO429 := n0_; have HO432 := n1_; have HO439 := n2_; have BK411 := n3_; have HB := n4_; clear n0_ n1_ n2_ n3_ n4_; (try clear hb); (try clear hb2); (try clear hk); (try clear hi); (try clear ho0); have hcz24_0 : w23.cell? ⟨gb411, 0, none⟩ = some (.string x412000_1) := (zaf BK411.out 0).trans rfl; have hcz24_1 : w23.cell? ⟨gb411, 1, none⟩ = some (.int .i64 x412001_1) := (zaf BK411.out 1).trans rfl; have hcz24_2 : w23.cell? ⟨gb411, 2, none⟩ = some (.int .i64 x412002_1) := (zaf BK411.out 2).trans rfl; have hcz24_3 : w23.cell? ⟨gb411, 3, none⟩ = some (.slice none 0 0) := (zaf BK411.out 3).trans rfl; have hfz24_0 := zah BK411.out 0; have hfz24_1 := zah BK411.out 1; have hfz24_2 := zah BK411.out 2; have hfz24_3 := zah BK411.out 3; obtain ⟨Ao25, co25, eo25⟩ := zci HO439.out; subst eo25))
          refine bodyPost_ret (results_ctt rfl _ _ gb411 34 #[.string t434, .int .i64 t435, .int .i64 t436, .slice Ao25 t437.length co25] (0, 0) _ rfl (by (with_reducible repeat (first | refine zaq ?_ _ | refine zav ?_ | refine zar ?_ _)); refine zfe (cs := #[.string t434, .int .i64 t435, .int .i64 t436, .slice none 0 0]) ?_ 3 _ rfl; (with_reducible repeat (first | refine zaq ?_ _ | refine zav ?_ | refine zar ?_ _)); refine zfe (cs := #[.string t434, .int .i64 t435, .int .i64 x412002_1, .slice none 0 0]) ?_ 2 _ rfl; (with_reducible repeat (first | refine zaq ?_ _ | refine zav ?_ | refine zar ?_ _)); refine zfe (cs := #[.string t434, .int .i64 x412001_1, .int .i64 x412002_1, .slice none 0 0]) ?_ 1 _ rfl; (with_reducible repeat (first | refine zaq ?_ _ | refine zav ?_ | refine zar ?_ _)); refine zfe (cs := #[.string x412000_1, .int .i64 x412001_1, .int .i64 x412002_1, .slice none 0 0]) ?_ 0 _ rfl; (with_reducible repeat (first | refine zaq ?_ _ | refine zav ?_ | refine zar ?_ _)); exact BK411.out) Try.underlying34 rfl (by kernel_rfl)) rfl ?_
          exact ⟨_, _, by first | rfl | (simp [zbb, zbc] <;> rfl) | (simp only [← hji10]; first | rfl | (simp [zbb, zbc] <;> rfl)) | (simp [*, zbb, zbc] <;> rfl), by (with_reducible repeat (first | apply zcj | apply zck | apply zcw)); exact zbr (zfr (p := ⟨gb411, 3, none⟩) (zfr (p := ⟨gb411, 2, none⟩) (zfr (p := ⟨gb411, 1, none⟩) (zfr (p := ⟨gb411, 0, none⟩) (zcu HO439.out BK411.out (by decide)) (fun _ hk => hk.2) (.string t434)) (fun _ hk => hk.2) (.int .i64 t435)) (fun _ hk => hk.2) (.int .i64 t436)) (fun _ hk => hk.2) (.slice Ao25 t437.length co25)) (fun _ hk => hk.1.1), by (with_reducible repeat (first | apply Kd.N_alloc | apply Kd.N_drewN | apply Kd.N_drew)); exact Kd.N_mono (Kd.N_far (p := ⟨gb411, 3, none⟩) (Kd.N_far (p := ⟨gb411, 2, none⟩) (Kd.N_far (p := ⟨gb411, 1, none⟩) (Kd.N_far (p := ⟨gb411, 0, none⟩) (Kd.N_mono HO432.out (fun k_ hk => (⟨hk, hk.1.2⟩ : _ ∧ k_ ≠ gb411))) (fun _ hk => hk.2) (.string t434)) (fun _ hk => hk.2) (.int .i64 t435)) (fun _ hk => hk.2) (.int .i64 t436)) (fun _ hk => hk.2) (.slice Ao25 t437.length co25)) (fun _ hk => ⟨hk.1.1.1, hk.1.2⟩), by repeat (first | (with_reducible first | exact HB.out | apply zae | apply zab | apply zac | refine zal ?_ GE411.out) | exact HB.out)⟩
         ·rw [if_neg c14] at H
          exact absurd H (by simp)
        ·rw [if_neg c12] at H
         exact absurd H (by simp)
       ·rw [if_neg c11] at H
        exact absurd H (by simp)
      ·rw [if_neg c8] at H
       exact absurd H (by simp)
     ·rw [if_neg c6] at H
      have c6b0 : (((rd_T34 l0 x7_1).f0).toList == a1.toList) = false := zcq.mpr c6
      have c6b1 : (((rd_T34 l0 x7_1).f0).toList != a1.toList) = true := zeq.mpr c6
      have H' := Aside0.mk H
      clear H
      have p415 : 0 ≤ (x7_1 : Int) := zad (by first | (with_reducible assumption) | assumption)
      have q415 : x7_1 < (l0.length : Int) := zad (by first | (with_reducible assumption) | assumption)
      obtain ⟨ad415, A415_3, c415_3, e415, hx415_0, hx415_1, hx415_2, hx415_3, hl415_3, hi415_3⟩ := at_T34 HR0.out x7_1 p415 q415
      cases e415
      replace hx415_0 := (HB.out.cell (World.block_lt_of_cell? w _ hx415_0)).trans hx415_0
      replace hx415_1 := (HB.out.cell (World.block_lt_of_cell? w _ hx415_1)).trans hx415_1
      replace hx415_2 := (HB.out.cell (World.block_lt_of_cell? w _ hx415_2)).trans hx415_2
      replace hx415_3 := (HB.out.cell (World.block_lt_of_cell? w _ hx415_3)).trans hx415_3
      have HR415_3 := Aside0.mk hi415_3
      have HC415_3 := Aside0.mk hl415_3
      clear hi415_3 hl415_3
      replace p415 := zay p415
      replace q415 := zay q415
      go_wp2
      go_roundg k1
      case measure => have := HK1.out; omega
      case rel => exact ⟨(wrap64 (x7_1 + 1)), (x412000_1), (x412001_1), (x412002_1), (by first | rfl | (simp; done) | (simp [*]; done)), H', ⟨by have := HK1.out; omega⟩, ⟨by (with_reducible repeat (first | refine zaq ?_ _ | refine zav ?_ | refine zar ?_ _)); exact BK411.out⟩, ⟨by repeat (first | (with_reducible first | exact HB.out | apply zae | apply zab | apply zac | refine zal ?_ GE411.out) | exact HB.out)⟩⟩
    ·rw [if_neg c5] at H
     exact absurd H (by simp)
   ·rw [if_neg c4] at H
    have c4b0 : decide (x7_1 < (l0.length : Int)) = false := zbj c4
    clear c4
    replace H := zak.mp H
    obtain ⟨t412, A260, H⟩ := H
    try dsimp only at H
    have A26 := Aside0.mk A260
    clear A260
    simp only [zdb, zde] at H
    obtain ⟨rfl, rfl, rfl, rfl, rfl, rfl⟩ := H
    go_wp2_with (first | ((with_reducible refine zbv (f := 101) rfl ?_); refine goesL_ (some 40) rfl rfl Try.func101 (by kernel_rfl) rfl #[.slice A0 l0.length c0] rfl (by (try simp only [zat, zbe, zbh]); first | done | rfl) ?_; (with_reducible refine (spec_l13Queue.calls k1 _ _ l0 t412 _ ?side1 ?side2 A26.out).mono ?_); (case side1 => repeat (first | exact (zbf HR0.out HB.out) | (with_reducible first | apply zbs | apply zbw | apply zcd))); (case side2 => exact HC0.out); rintro e w27 ⟨v413, rfl, ho0, hb⟩; refine ⟨_, rfl, ?_⟩; have n0_ := Aside0.mk (Kd.N_lower (Kd.N_mono (ok' := fun k_ => (w.heap.size ≤ k_) ∧ k_ ≠ gb411) (Kd.S_N (zfd ho0)) (fun k_ hk_ => ⟨(zdd (zam (by repeat (first | (with_reducible first | exact HB.out | apply zae | apply zab | apply zac | refine zal ?_ GE411.out) | exact HB.out))) hk_.2.1), (zez (g := gb411) (o := .cells #[.string x412000_1, .int .i64 x412001_1, .int .i64 x412002_1, .slice none 0 0] 34 (0, 0)) (by (with_reducible repeat (first | refine zaq ?_ _ | refine zav ?_ | refine zar ?_ _)); exact BK411.out) k_ hk_.2.1)⟩)) (zam (by repeat (first | (with_reducible first | exact HB.out | apply zae | apply zab | apply zac | refine zal ?_ GE411.out) | exact HB.out)))); have n1_ := Aside0.mk (zce (g := gb411) (o := .cells #[.string x412000_1, .int .i64 x412001_1, .int .i64 x412002_1, .slice none 0 0] 34 (0, 0)) (by (with_reducible repeat (first | refine zaq ?_ _ | refine zav ?_ | refine zar ?_ _)); exact BK411.out) hb); have n2_ := Aside0.mk (zai (by repeat (first | (with_reducible first | exact HB.out | apply zae | apply zab | apply zac | refine zal ?_ GE411.out) | exact HB.out)) hb); clear BK411 HB; have HO414 := n0_; have BK411 := n1_; have HB := n2_; clear n0_ n1_ n2_; clear hb ho0; have hcz28_0 : w27.cell? ⟨gb411, 0, none⟩ = some (.string x412000_1) := (zaf BK411.out 0).trans rfl; have hcz28_1 : w27.cell? ⟨gb411, 1, none⟩ = some (.int .i64 x412001_1) := (zaf BK411.out 1).trans rfl; have hcz28_2 : w27.cell? ⟨gb411, 2, none⟩ = some (.int .i64 x412002_1) := (zaf BK411.out 2).trans rfl; have hcz28_3 : w27.cell? ⟨gb411, 3, none⟩ = some (.slice none 0 0) := (zaf BK411.out 3).trans rfl; have hfz28_0 := zah BK411.out 0; have hfz28_1 := zah BK411.out 1; have hfz28_2 := zah BK411.out 2; have hfz28_3 := zah BK411.out 3))
    refine bodyPost_ret (results_ctt rfl _ _ gb411 34 #[.string (⟨#[]⟩ : ByteArray), .int .i64 0, .int .i64 0, .slice none 0 0] (0, 0) _ rfl (by (with_reducible repeat (first | refine zaq ?_ _ | refine zav ?_ | refine zar ?_ _)); refine zfe (cs := #[.string (⟨#[]⟩ : ByteArray), .int .i64 0, .int .i64 0, .slice none 0 0]) ?_ 3 _ rfl; (with_reducible repeat (first | refine zaq ?_ _ | refine zav ?_ | refine zar ?_ _)); refine zfe (cs := #[.string (⟨#[]⟩ : ByteArray), .int .i64 0, .int .i64 x412002_1, .slice none 0 0]) ?_ 2 _ rfl; (with_reducible repeat (first | refine zaq ?_ _ | refine zav ?_ | refine zar ?_ _)); refine zfe (cs := #[.string (⟨#[]⟩ : ByteArray), .int .i64 x412001_1, .int .i64 x412002_1, .slice none 0 0]) ?_ 1 _ rfl; (with_reducible repeat (first | refine zaq ?_ _ | refine zav ?_ | refine zar ?_ _)); refine zfe (cs := #[.string x412000_1, .int .i64 x412001_1, .int .i64 x412002_1, .slice none 0 0]) ?_ 0 _ rfl; (with_reducible repeat (first | refine zaq ?_ _ | refine zav ?_ | refine zar ?_ _)); exact BK411.out) Try.underlying34 rfl (by kernel_rfl)) rfl ?_
    exact ⟨_, _, by first | rfl | (simp [zbb, zbc] <;> rfl) | (simp [*, zbb, zbc] <;> rfl), by first | exact Kd.R_nil _ _ _ _ _ | exact Kd.N_nil _ _ _ _ _ | exact Kd.V_nil _ _ _ _ _ | exact Kd.Q_nil _ _ _ _ _ | exact Kd.S_nil _ _ _ _ _, by (with_reducible repeat (first | apply Kd.N_alloc | apply Kd.N_drewN | apply Kd.N_drew)); exact Kd.N_mono (Kd.N_far (p := ⟨gb411, 3, none⟩) (Kd.N_far (p := ⟨gb411, 2, none⟩) (Kd.N_far (p := ⟨gb411, 1, none⟩) (Kd.N_far (p := ⟨gb411, 0, none⟩) (Kd.N_mono HO414.out (fun k_ hk => (⟨hk, hk.2⟩ : _ ∧ k_ ≠ gb411))) (fun _ hk => hk.2) (.string (⟨#[]⟩ : ByteArray))) (fun _ hk => hk.2) (.int .i64 0)) (fun _ hk => hk.2) (.int .i64 0)) (fun _ hk => hk.2) (.slice none 0 0)) (fun _ hk => ⟨hk.1.1, (by simp [Value.ownBlock])⟩), by repeat (first | (with_reducible first | exact HB.out | apply zae | apply zab | apply zac | refine zal ?_ GE411.out) | exact HB.out)⟩
end Go.Proofs.Ytlalkldjpniakaa.P
