import Derived.Test.Ytienlgcjohpphaake5
namespace Go.Proofs.Ytienlgcjohpphaa.P
open Go.RowKit Go.Proofs.YtienlgcjohpphaaW.PrintWords Go.Proofs.YtienlgcjohpphaaW.PrintLast Go.Proofs.YtienlgcjohpphaaW.PrintMore
attribute [local go_sem] zbz zca zcn zco zbt zbu zcb zcc   -- for this text's walks alone
set_option linter.unusedVariables false
set_option linter.unusedSimpArgs false
set_option maxHeartbeats 8000000
set_option maxRecDepth 100000

def impl_Xor.l0 : Nat → List Int → List Int → List Int → Int → Int → Option (List Int)
 | 0, _, _, _, _, _ => none
 | k + 1, x0, x1, x5, x12, x13 => if x13 < x12 then (if 0 ≤ x13 then (if x13 < (x0.length : Int) then (if x13 < (x1.length : Int) then (if x5.length < 140737488355328 then (impl_Xor.l0 k x0 x1 (x5 ++ [Go.bits .xor .u8 (rd x0 x13) (rd x1 x13)]) x12 (wrap64 (x13 + 1))) else (none)) else (none)) else (none)) else (none)) else (some x5)
def impl_Xor.f (k : Nat) (l0 : List Int) (l1 : List Int) : Option (List Int) := impl_Xor.l0 k l0 l1 (([] : List Int)) (mn (l0.length : Int) (l1.length : Int)) 0
theorem impl_Xor.mono_l : ∀ k, (∀ y0 y1 y2 y3 y4, LeO (impl_Xor.l0 k y0 y1 y2 y3 y4) (impl_Xor.l0 (k + 1) y0 y1 y2 y3 y4))
 | 0 => fun _ _ _ _ _ r h => by simp [impl_Xor.l0] at h
 | k + 1 => by
  have ih0 := impl_Xor.mono_l k
  ·intro y0 y1 y2 y3 y4
   unfold impl_Xor.l0
   exact mt
theorem impl_Xor.mono : ∀ a0 a1 k, LeO (impl_Xor.f k a0 a1) (impl_Xor.f (k + 1) a0 a1) := by
 intro a0 a1 k
 have ih0 := impl_Xor.mono_l k
 unfold impl_Xor.f
 exact mt
def impl_Xor.T5 : Bool × List (List Nat × List Nat) := (true, [([], []), ([], []), ([], []), ([1, 2], [1, 2]), ([3], [3]), ([], []), ([], []), ([5, 6], [5, 6]), ([7], [7]), ([4, 8], [4, 8]), ([9], [9]), ([0, 10], [0, 10]), ([11, 11, 0, 1, 2, 3, 4, 5, 6, 7, 8, 9, 10, 11], [0, 11])])
def impl_Xor.B5 : List Nat := [0, 0, 0, 6, 14, 0, 0, 96, 224, 510, 1022, 2047, 4095]
theorem impl_Xor.tab5 : rtab .any (opsOf Try.f111 5) = impl_Xor.T5 := by kernel_rfl
theorem impl_Xor.bits5 : waitsOk impl_Xor.T5.2 impl_Xor.B5 = true := by kernel_rfl
theorem impl_Xor.calls (k : Nat) (A0 : Option Addr) (c0 : Nat) (l0 : List Int) (A1 : Option Addr) (c1 : Nat) (l1 : List Int) (r : List Int) (w : World) (hr0 : Kd.C (Kd.int .u8) w A0 l0.length l0) (hc0 : l0.length ≤ c0) (hr1 : Kd.C (Kd.int .u8) w A1 l1.length l1) (hc1 : l1.length ≤ c1) (h : impl_Xor.f k l0 l1 = some r) :
  Calls Try.prog 111 #[.slice A0 l0.length c0, .slice A1 l1.length c1] w fun e w' => ∃ v0_ : Value, e = .returned (v0_) ∧ Kd.R (Kd.int .u8) 5 w' w.heap.size (fun _ => True) v0_ r ∧ Below w.heap.size w w' := by
 have HR0 := Aside0.mk hr0
 have HC0 := Aside0.mk hc0
 clear hr0 hc0
 have HR1 := Aside0.mk hr1
 have HC1 := Aside0.mk hc1
 clear hr1 hc1
 have HB := Aside0.mk (zbj w.heap.size w)
 have H : (impl_Xor.l0 k l0 l1 (([] : List Int)) (mn (l0.length : Int) (l1.length : Int)) 0) = some r := h
 clear h
 obtain ⟨y774, hy774⟩ : ∃ y_ : List Int, y_ = (([] : List Int)) := ⟨_, rfl⟩
 replace H : (impl_Xor.l0 k l0 l1 y774 (mn (l0.length : Int) (l1.length : Int)) 0) = some r := jrw hy774 H
 have Ny774 := Aside0.mk hy774
 clear hy774
 obtain ⟨ji3, hji3⟩ : ∃ j_ : Int, (mn (l0.length : Int) (l1.length : Int)) = j_ := ⟨_, rfl⟩
 replace H : (impl_Xor.l0 k l0 l1 y774 ji3 0) = some r := by first | (rw [hji3] at H; exact H) | (simp only [hji3] at H ⊢; exact H)
 (try (have hji3l : 0 ≤ ji3 := by (rw [← hji3]; unfold mn; (repeat' split) <;> omega)))
 (try (have hji3m : 0 ≤ ji3 := by omega))
 have hji3_ : (if (l1.length : Int) < (l0.length : Int) then (l1.length : Int) else (l0.length : Int)) = ji3 := hji3
 (try (have hji3n_ := hji3_; simp only [Int.ofNat_lt] at hji3n_))
 have H' := Aside0.mk H
 clear H
 go_enter Try.func111, Try.ntmps111
 go_wp2_with (first | (refine jgd 7 ?_; refine jlt 7 (Kd.int .u8) 5 ?_; intro v775 w4 ho5 hb; have xb_ := below_ofs bq hb; (first | rw [← Ny774.out] at ho5 | (simp only [Int.reduceToNat] at ho5; rw [← Ny774.out] at ho5)); have n_ := jA2 (zas ho5 (zaf xb_)) (zao xb_ hb); clear HB; obtain ⟨HO776, HB⟩ := n_; clear xb_ hb ho5))
 go_loopg [5, 13] k (fun kq v5 v13 w' => ∃ (x5_1 : List Int) (x13_1 : Int), v13 = .int .i64 x13_1 ∧ Aside0 (impl_Xor.l0 kq l0 l1 x5_1 ji3 x13_1 = some r) ∧ Aside0 (kq ≤ k) ∧ Aside0 (Kd.R (Kd.int .u8) 5 w' w.heap.size (fun _ => True) v5 x5_1) ∧ Aside0 (Below w.heap.size w w'))
 case atStart => exact ⟨(y774), (0), jer, H', ⟨zaw _⟩, ⟨pR HO776.out⟩, ⟨bq⟩⟩
 case round =>
  clear H'
  try clear c1
  try clear p2
  obtain ⟨x5_1, x13_1, rfl, HA, HK1, HO_5, HB⟩ := hrel
  cases gk with
  | zero => exact absurd HA.out (by simp [impl_Xor.l0])
  | succ k1 =>
   have H := HA.out
   clear HA
   simp only [impl_Xor.l0] at H
   by_cases c6 : x13_1 < ji3
   ·rw [if_pos c6] at H
    have c6b0 := zaa c6
    clear c6
    by_cases c7 : 0 ≤ x13_1
    ·rw [if_pos c7] at H
     have c7b0 := zaa c7
     clear c7
     by_cases c8 : x13_1 < (l0.length : Int)
     ·rw [if_pos c8] at H
      have c8b0 := zaa c8
      clear c8
      by_cases c9 : x13_1 < (l1.length : Int)
      ·rw [if_pos c9] at H
       have c9b0 := zaa c9
       clear c9
       by_cases c10 : x5_1.length < 140737488355328
       ·rw [if_pos c10] at H
        have LMc10 := Aside0.mk c10
        clear c10
        obtain ⟨y779, hy779⟩ : ∃ y_ : List Int, y_ = (x5_1 ++ [Go.bits .xor .u8 (rd l0 x13_1) (rd l1 x13_1)]) := ⟨_, rfl⟩
        replace H : (impl_Xor.l0 k1 l0 l1 y779 ji3 (wrap64 (x13_1 + 1))) = some r := jrw hy779 H
        have Ny779 := Aside0.mk hy779
        clear hy779
        have H' := Aside0.mk H
        clear H
        try go_wp2
        have n_ := jA2 (zaq HO_5.out) (zcy HB.out)
        clear HO_5 HB
        obtain ⟨HO_5, HB⟩ := n_
        have p777 : 0 ≤ (x13_1 : Int) := zab jab
        have q777 : x13_1 < (l0.length : Int) := zab jab
        obtain ⟨ad777, e777, hx777_0⟩ := zbh HR0.out x13_1 p777 q777
        have hw777_0 := hx777_0
        cases e777
        replace hx777_0 := jcB HB.out hx777_0
        replace p777 := zan p777
        replace q777 := zan q777
        have p778 : 0 ≤ (x13_1 : Int) := zab jab
        have q778 : x13_1 < (l1.length : Int) := zab jab
        obtain ⟨ad778, e778, hx778_0⟩ := zbh HR1.out x13_1 p778 q778
        have hw778_0 := hx778_0
        cases e778
        replace hx778_0 := jcB HB.out hx778_0
        replace p778 := zan p778
        replace q778 := zan q778
        refine start_ (n := 13) (S := fun w' => w'.cell? (ad777.add (x13_1).toNat) = some (.int .u8 (rd l0 x13_1)) ∧ w'.cell? (ad778.add (x13_1).toNat) = some (.int .u8 (rd l1 x13_1))) (ds := []) #[false, false, false, false, false, false, false, false, false, false, false, false, false] (by kernel_rfl) rfl rfl ⟨(jcB HB.out hw777_0 :), (jcB HB.out hw778_0 :)⟩ (fun hHeld => ?_); refine with_tabW impl_Xor.tab5 impl_Xor.bits5 (fun HT_ HW_ => ?_)
        generalize wr.drew = w11 at HO_5 HB hx777_0 hx778_0 hHeld ⊢
        refine pu 0 16 HT_.out ?_
        refine pu 1 17 HT_.out ?_
        refine pu 2 18 HT_.out ?_
        refine pu 3 19 HT_.out ?_
        refine pu 5 21 HT_.out ?_
        refine pu 6 22 HT_.out ?_
        refine pu 7 23 HT_.out ?_
        refine tk 4 20 HT_.out HW_.out hHeld ?_
        refine tk 8 24 HT_.out HW_.out hHeld ?_
        refine pu 9 25 HT_.out ?_
        refine one_ (i := 10) (N := some 26) #[true, true, true, true, true, true, true, true, true, true, true, false, false] rfl rfl (one_of HT_.out (by kernel_rfl)) (by decide) (fun K hK => ?_)
        refine value_ (w1 := ?_) (v := ?_) (by rfl) rfl ?_ ?_
        rotate_left 2
        ·go_simp
         constructor
         ·rfl
         ·rfl
        refine hK.out _ _ ⟨(World.cell?_alloc_lt _ _ _ (World.block_lt_of_cell? _ _ ((jcB HB.out hw777_0 :)))).trans ((jcB HB.out hw777_0 :)), (World.cell?_alloc_lt _ _ _ (World.block_lt_of_cell? _ _ ((jcB HB.out hw778_0 :)))).trans ((jcB HB.out hw778_0 :))⟩ (fun hHeld => ?_)
        clear hK K
        refine norm_ (a' := ?_) ?_ ?_
        rotate_left
        ·show Act.put _ (some 26) _ = _
         simp only [Act.put, zaj, zay, zaz, i64_w, i32_w]
         rfl
        refine one_ (i := 11) (N := some 27) #[true, true, true, true, true, true, true, true, true, true, true, true, false] rfl rfl (one_of HT_.out (by kernel_rfl)) (by decide) (fun K hK => ?_)
        refine Kd.R_append_step (Kd.int .u8) (w0 := w) w.heap.size (by rfl) (.tmp 16) (.tmp 26) 23 5 (.int .u8 0) 1 rfl Try.underlying23 info5 rfl (by decide) (by omega) u5 x5_1 (Go.bits .xor .u8 (rd l0 x13_1) (rd l1 x13_1)) [.int .u8 (Go.bits .xor .u8 (rd l0 x13_1) (rd l1 x13_1))] (fun _ => True) (fun _ => False) rfl rfl ?aP (fun _ hk => hk.elim) ?aF ?aO ?aB ?aS ?aL ?_
        (case aP => exact rfl)
        (case aB => exact bq)
        (case aF => exact (fun _ _ => trivial))
        (case aO => exact (pR HO_5.out))
        (case aS => exact (zaf bq))
        (case aL => have := LMc10.out; omega)
        intro v780 w12 ho hb hg hat
        rw [← Ny779.out] at ho
        have n_ := jA2 (hb) (ho)
        clear HB HO_5
        obtain ⟨HB, HO781⟩ := n_
        clear ho hb hg hat
        refine hK.out _ _ ⟨(jcB HB.out hw777_0 :), (jcB HB.out hw778_0 :)⟩ (fun hHeld => ?_)
        clear hK K
        refine norm_ (a' := ?_) ?_ ?_
        rotate_left
        ·show Act.put _ (some 27) _ = _
         simp only [Act.put, zaj, zay, zaz, i64_w, i32_w]
         rfl
        refine pu 12 5 HT_.out ?_
        refine done_ (done_of HT_.out (by kernel_rfl)) ?_
        try go_wp2
        go_roundg k1
        case measure => have := HK1.out; omega
        case rel => exact ⟨(y779), (wrap64 (x13_1 + 1)), jer, H', ⟨by have := HK1.out; omega⟩, ⟨pR HO781.out⟩, ⟨bq⟩⟩
       ·rw [if_neg c10] at H
        exact absurd H (by simp)
      ·rw [if_neg c9] at H
       exact absurd H (by simp)
     ·rw [if_neg c8] at H
      exact absurd H (by simp)
    ·rw [if_neg c7] at H
     exact absurd H (by simp)
   ·rw [if_neg c6] at H
    have c6b0 := zat c6
    clear c6
    obtain rfl := Option.some.inj H
    go_wp2
    go_ret
    exact ⟨_, by first | rfl | (simp [errW_none, errW_some] <;> rfl) | (simp only [← hji3]; first | rfl | (simp [errW_none, errW_some] <;> rfl)) | (simp [*, errW_none, errW_some] <;> rfl), by (with_reducible repeat (first | apply zau | apply zav | apply zaq)); exact HO_5.out, bq⟩
def bits_Mul64.f (a0 : Int) (a1 : Int) : Option (Int × Int) := some (IntKind.u64.wrap ((IntKind.u64.wrap ((IntKind.u64.wrap ((a0 / 4294967296) * (a1 / 4294967296))) + ((IntKind.u64.wrap ((IntKind.u64.wrap ((a0 / 4294967296) * (Go.bits .and .u64 a1 4294967295))) + ((IntKind.u64.wrap ((Go.bits .and .u64 a0 4294967295) * (Go.bits .and .u64 a1 4294967295))) / 4294967296))) / 4294967296))) + ((IntKind.u64.wrap ((Go.bits .and .u64 (IntKind.u64.wrap ((IntKind.u64.wrap ((a0 / 4294967296) * (Go.bits .and .u64 a1 4294967295))) + ((IntKind.u64.wrap ((Go.bits .and .u64 a0 4294967295) * (Go.bits .and .u64 a1 4294967295))) / 4294967296))) 4294967295) + (IntKind.u64.wrap ((Go.bits .and .u64 a0 4294967295) * (a1 / 4294967296))))) / 4294967296)), IntKind.u64.wrap (a0 * a1))
theorem bits_Mul64.calls (a0 : Int) (a1 : Int) (r1 : Int) (r2 : Int) (w : World) (h : bits_Mul64.f a0 a1 = some (r1, r2)) :
  Calls Try.prog 117 #[.int .u64 a0, .int .u64 a1] w fun e w' => e = .returned (.tuple #[.int .u64 r1, .int .u64 r2]) ∧ Drawn0 w w' := by
 have H : (some (IntKind.u64.wrap ((IntKind.u64.wrap ((IntKind.u64.wrap ((a0 / 4294967296) * (a1 / 4294967296))) + ((IntKind.u64.wrap ((IntKind.u64.wrap ((a0 / 4294967296) * (Go.bits .and .u64 a1 4294967295))) + ((IntKind.u64.wrap ((Go.bits .and .u64 a0 4294967295) * (Go.bits .and .u64 a1 4294967295))) / 4294967296))) / 4294967296))) + ((IntKind.u64.wrap ((Go.bits .and .u64 (IntKind.u64.wrap ((IntKind.u64.wrap ((a0 / 4294967296) * (Go.bits .and .u64 a1 4294967295))) + ((IntKind.u64.wrap ((Go.bits .and .u64 a0 4294967295) * (Go.bits .and .u64 a1 4294967295))) / 4294967296))) 4294967295) + (IntKind.u64.wrap ((Go.bits .and .u64 a0 4294967295) * (a1 / 4294967296))))) / 4294967296)), IntKind.u64.wrap (a0 * a1))) = some (r1, r2) := h
 clear h
 simp only [Option.some.injEq, Prod.mk.injEq] at H
 obtain ⟨rfl, rfl⟩ := H
 go_enter Try.func117, Try.ntmps117
 go_wp2
 go_ret2
 exact ⟨by first | rfl | (simp; done) | (simp [*]; done), by repeat (first | exact Drawn0.refl _ | apply Drawn0.step)⟩
def bits_Mul.f (a0 : Int) (a1 : Int) : Option (Int × Int) := (bits_Mul64.f a0 a1).bind fun bt782 => (some (bt782.1, bt782.2))
theorem bits_Mul.calls (a0 : Int) (a1 : Int) (r1 : Int) (r2 : Int) (w : World) (h : bits_Mul.f a0 a1 = some (r1, r2)) :
  Calls Try.prog 115 #[.int .u64 a0, .int .u64 a1] w fun e w' => e = .returned (.tuple #[.int .u64 r1, .int .u64 r2]) ∧ Drawn0 w w' := by
 have H : ((bits_Mul64.f a0 a1).bind fun bt782 => (some (bt782.1, bt782.2))) = some (r1, r2) := h
 clear h
 obtain ⟨⟨t782, t783⟩, A3, H⟩ := bnd H
 try dsimp only at H
 simp only [Option.some.injEq, Prod.mk.injEq] at H
 obtain ⟨rfl, rfl⟩ := H
 go_enter Try.func115, Try.ntmps115
 go_wp2_with (first | (refine jgc 117 ?_; refine jgs 25 Try.func117 #[.int .u64 a0, .int .u64 a1] ?_; (with_reducible refine (bits_Mul64.calls a0 a1 t782 t783 _ A3.out).mono ?_); rintro e w' ⟨rfl, ⟨nd, rfl⟩⟩; refine ⟨_, rfl, ?_⟩))
 go_ret2
 exact ⟨by first | rfl | (simp; done) | (simp [*]; done), by repeat (first | exact Drawn0.refl _ | apply Drawn0.step)⟩
end Go.Proofs.Ytienlgcjohpphaa.P
