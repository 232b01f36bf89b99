import Derived.Test.Ytlalkldjpniakaaqm3
namespace Go.Proofs.Ytlalkldjpniakaa.P
open Go.RowKit Go.Proofs.YtlalkldjpniakaaW.PrintWords Go.Proofs.YtlalkldjpniakaaW.PrintLast Go.Proofs.YtlalkldjpniakaaW.PrintMore
attribute [local go_sem] zcm zcn zdd zde zbw zbx zco zcp   -- for this text's walks alone
set_option linter.unusedVariables false
set_option linter.unusedSimpArgs false
set_option maxHeartbeats 8000000
set_option maxRecDepth 100000

def impl_Hex.l0 : Nat → List Int → List Int → Int → Int → Option (ByteArray)
 | 0, _, _, _, _ => none
 | k + 1, x3, x7, x8, x9 => if x9 < x8 then (if 0 ≤ x9 then (if x9 < (x7.length : Int) then (if 0 ≤ ((rd x7 x9) / 16) then (if ((rd x7 x9) / 16) < 16 then (if 0 ≤ (Go.bits .and .u8 (rd x7 x9) 15) then (if (Go.bits .and .u8 (rd x7 x9) 15) < 16 then ((some (([bt (⟨#[48, 49, 50, 51, 52, 53, 54, 55, 56, 57, 97, 98, 99, 100, 101, 102]⟩ : ByteArray) ((rd x7 x9) / 16), bt (⟨#[48, 49, 50, 51, 52, 53, 54, 55, 56, 57, 97, 98, 99, 100, 101, 102]⟩ : ByteArray) (Go.bits .and .u8 (rd x7 x9) 15)] : List Int) : List Int)).bind fun y674 => (if x3.length + y674.length < 140737488355328 then (impl_Hex.l0 k (x3 ++ y674) x7 x8 (wrap64 (x9 + 1))) else (none))) else (none)) else (none)) else (none)) else (none)) else (none)) else (none)) else (some (strOfNums x3))
def impl_Hex.f (k : Nat) (l0 : List Int) : Option (ByteArray) := impl_Hex.l0 k (([] : List Int)) l0 (l0.length : Int) 0
theorem impl_Hex.mono_l : ∀ k, (∀ y0 y1 y2 y3, LeO (impl_Hex.l0 k y0 y1 y2 y3) (impl_Hex.l0 (k + 1) y0 y1 y2 y3))
 | 0 => fun _ _ _ _ r h => by simp [impl_Hex.l0] at h
 | k + 1 => by
  have ih0 := impl_Hex.mono_l k
  ·intro y0 y1 y2 y3
   unfold impl_Hex.l0
   exact mt
theorem impl_Hex.mono : ∀ a0 k, LeO (impl_Hex.f k a0) (impl_Hex.f (k + 1) a0) := by
 intro a0 k
 have ih0 := impl_Hex.mono_l k
 unfold impl_Hex.f
 exact mt
def impl_Hex.T5 : Bool × List (List Nat × List Nat) := (true, [([], []), ([], []), ([1], [1]), ([2], [2]), ([], []), ([4], [4]), ([5], [5]), ([3, 6], [3, 6]), ([0, 7], [0, 7]), ([8, 8, 0, 1, 2, 3, 4, 5, 6, 7, 8], [0, 8])])
def impl_Hex.B5 : List Nat := [0, 0, 2, 6, 0, 16, 48, 126, 255, 511]
theorem impl_Hex.tab5 : rtab .any (opsOf Try.f114 5) = impl_Hex.T5 := by kernel_rfl
theorem impl_Hex.bits5 : waitsOk impl_Hex.T5.2 impl_Hex.B5 = true := by kernel_rfl
theorem impl_Hex.calls (k : Nat) (A0 : Option Addr) (c0 : Nat) (l0 : List Int) (r : ByteArray) (w : World) (hr0 : Kd.C (Kd.int .u8) w A0 l0.length l0) (hc0 : l0.length ≤ c0) (h : impl_Hex.f k l0 = some r) :
  Calls Try.prog 114 #[.slice A0 l0.length c0] w fun e w' => e = .returned (.string r) ∧ Below w.heap.size w w' := by
 have HR0 := Aside0.mk hr0
 have HC0 := Aside0.mk hc0
 clear hr0 hc0
 have HB := Aside0.mk (zbk w.heap.size w)
 have H : (impl_Hex.l0 k (([] : List Int)) l0 (l0.length : Int) 0) = some r := h
 clear h
 obtain ⟨y670, hy670⟩ : ∃ y_ : List Int, y_ = (([] : List Int)) := ⟨_, rfl⟩
 replace H : (impl_Hex.l0 k y670 l0 (l0.length : Int) 0) = some r := jrw hy670 H
 have Ny670 := Aside0.mk hy670
 clear hy670
 have H' := Aside0.mk H
 clear H
 go_enter Try.func114, Try.ntmps114
 go_wp2_with (first | (refine jgd 6 ?_; refine jlt 6 (Kd.int .u8) 5 ?_; intro v671 w2 ho3 hb; have xb_ := below_ofs bq hb; (first | rw [← Ny670.out] at ho3 | (simp only [Int.reduceToNat] at ho3; rw [← Ny670.out] at ho3)); have n_ := jA2 (zbc ho3 (zak xb_)) (zab xb_ hb); clear HB; obtain ⟨HO672, HB⟩ := n_; clear xb_ hb ho3))
 go_loopg [3, 9] k (fun kq v3 v9 w' => ∃ (x3_1 : List Int) (x9_1 : Int), v9 = .int .i64 x9_1 ∧ Aside0 (impl_Hex.l0 kq x3_1 l0 (l0.length : Int) x9_1 = some r) ∧ Aside0 (kq ≤ k) ∧ Aside0 (Kd.R (Kd.int .u8) 5 w' w.heap.size (fun _ => True) v3 x3_1) ∧ Aside0 (Below w.heap.size w w'))
 case atStart => exact ⟨(y670), (0), jer, H', ⟨zaf _⟩, ⟨pR HO672.out⟩, ⟨bq⟩⟩
 case round =>
  clear H'
  try clear c1
  try clear p2
  obtain ⟨x3_1, x9_1, rfl, HA, HK1, HO_3, HB⟩ := hrel
  cases gk with
  | zero => exact absurd HA.out (by simp [impl_Hex.l0])
  | succ k1 =>
   have H := HA.out
   clear HA
   simp only [impl_Hex.l0] at H
   by_cases c4 : x9_1 < (l0.length : Int)
   ·rw [if_pos c4] at H
    have c4b0 := zae c4
    clear c4
    by_cases c5 : 0 ≤ x9_1
    ·rw [if_pos c5] at H
     have c5b0 := zae c5
     clear c5
     by_cases c6 : x9_1 < (l0.length : Int)
     ·rw [if_pos c6] at H
      have c6b0 := zae c6
      clear c6
      obtain ⟨ji7, hji7⟩ : ∃ j_ : Int, ((rd l0 x9_1) / 16) = j_ := ⟨_, rfl⟩
      replace H : (if 0 ≤ (ji7) then (if (ji7) < 16 then (if 0 ≤ (Go.bits .and .u8 (rd l0 x9_1) 15) then (if (Go.bits .and .u8 (rd l0 x9_1) 15) < 16 then ((some (([bt (⟨#[48, 49, 50, 51, 52, 53, 54, 55, 56, 57, 97, 98, 99, 100, 101, 102]⟩ : ByteArray) (ji7), bt (⟨#[48, 49, 50, 51, 52, 53, 54, 55, 56, 57, 97, 98, 99, 100, 101, 102]⟩ : ByteArray) (Go.bits .and .u8 (rd l0 x9_1) 15)] : List Int) : List Int)).bind fun y674 => (if x3_1.length + y674.length < 140737488355328 then (impl_Hex.l0 k1 (x3_1 ++ y674) l0 (l0.length : Int) (wrap64 (x9_1 + 1))) else (none))) else (none)) else (none)) else (none)) else (none)) = some r := by first | (rw [hji7] at H; exact H) | (simp only [hji7] at H ⊢; exact H)
      by_cases c8 : 0 ≤ (ji7)
      ·rw [if_pos c8] at H
       have c8b0 := zae c8
       clear c8
       by_cases c9 : (ji7) < 16
       ·rw [if_pos c9] at H
        have c9b0 := zae c9
        clear c9
        by_cases c11 : 0 ≤ (Go.bits .and .u8 (rd l0 x9_1) 15)
        ·rw [if_pos c11] at H
         have c11b0 := zae c11
         clear c11
         by_cases c12 : (Go.bits .and .u8 (rd l0 x9_1) 15) < 16
         ·rw [if_pos c12] at H
          have c12b0 := zae c12
          clear c12
          obtain ⟨y674, hy674⟩ : ∃ y_ : List Int, y_ = (([bt (⟨#[48, 49, 50, 51, 52, 53, 54, 55, 56, 57, 97, 98, 99, 100, 101, 102]⟩ : ByteArray) (ji7), bt (⟨#[48, 49, 50, 51, 52, 53, 54, 55, 56, 57, 97, 98, 99, 100, 101, 102]⟩ : ByteArray) (Go.bits .and .u8 (rd l0 x9_1) 15)] : List Int)) := ⟨_, rfl⟩
          replace H := bto hy674 H
          have Ny674 := Aside0.mk hy674
          clear hy674
          by_cases c14 : x3_1.length + y674.length < 140737488355328
          ·rw [if_pos c14] at H
           have LMc14 := Aside0.mk c14
           clear c14
           obtain ⟨y677, hy677⟩ : ∃ y_ : List Int, y_ = (x3_1 ++ y674) := ⟨_, rfl⟩
           replace H : (impl_Hex.l0 k1 y677 l0 (l0.length : Int) (wrap64 (x9_1 + 1))) = some r := jrw hy677 H
           have Ny677 := Aside0.mk hy677
           clear hy677
           have H' := Aside0.mk H
           clear H
           have p673 : 0 ≤ (x9_1 : Int) := zac jab
           have q673 : x9_1 < (l0.length : Int) := zac jab
           obtain ⟨ad673, e673, hx673_0⟩ := zek HR0.out x9_1 p673 q673
           cases e673
           replace hx673_0 := jcB HB.out hx673_0
           replace p673 := zbd p673
           replace q673 := zbd q673
           try go_wp2
           have n_ := jA2 (zbs HO_3.out) (zev HB.out)
           clear HO_3 HB
           obtain ⟨HO_3, HB⟩ := n_
           have p10 : 0 ≤ ((ji7) : Int) := zac jab
           have q10 : (ji7) < (16 : Int) := zac jab
           have hx10 := bt_at (⟨#[48, 49, 50, 51, 52, 53, 54, 55, 56, 57, 97, 98, 99, 100, 101, 102]⟩ : ByteArray) (ji7)
           replace p10 := zbd p10
           replace q10 := zbd q10
           have p13 : 0 ≤ ((Go.bits .and .u8 (rd l0 x9_1) 15) : Int) := zac jab
           have q13 : (Go.bits .and .u8 (rd l0 x9_1) 15) < (16 : Int) := zac jab
           have hx13 := bt_at (⟨#[48, 49, 50, 51, 52, 53, 54, 55, 56, 57, 97, 98, 99, 100, 101, 102]⟩ : ByteArray) (Go.bits .and .u8 (rd l0 x9_1) 15)
           replace p13 := zbd p13
           replace q13 := zbd q13
           refine start_ (n := 10) (S := fun w' => True) (ds := []) #[false, false, false, false, false, false, false, false, false, false] (by kernel_rfl) rfl rfl trivial (fun hHeld => ?_); refine zgf impl_Hex.tab5 impl_Hex.bits5 (fun HT_ HW_ => ?_)
           generalize wr.drew = w15 at HO_3 HB hHeld ⊢
           refine pu 0 13 HT_.out ?_
           refine pu 1 14 HT_.out ?_
           refine pu 2 15 HT_.out ?_
           refine pu 4 17 HT_.out ?_
           refine pu 5 18 HT_.out ?_
           refine tk 3 16 HT_.out HW_.out hHeld ?_
           refine tk 6 19 HT_.out HW_.out hHeld ?_
           refine one_ (i := 7) (N := some 20) #[true, true, true, true, true, true, true, true, false, false] rfl rfl (one_of HT_.out (by kernel_rfl)) (by decide) (fun K hK => ?_)
           refine Kd.R_lit_step (Kd.int .u8) _ 5 ?hg (N := 20) ?hd (xs := ([bt (⟨#[48, 49, 50, 51, 52, 53, 54, 55, 56, 57, 97, 98, 99, 100, 101, 102]⟩ : ByteArray) (ji7), bt (⟨#[48, 49, 50, 51, 52, 53, 54, 55, 56, 57, 97, 98, 99, 100, 101, 102]⟩ : ByteArray) (Go.bits .and .u8 (rd l0 x9_1) 15)] : List Int)) (inner := [.int .u8 (bt (⟨#[48, 49, 50, 51, 52, 53, 54, 55, 56, 57, 97, 98, 99, 100, 101, 102]⟩ : ByteArray) (ji7)), .int .u8 (bt (⟨#[48, 49, 50, 51, 52, 53, 54, 55, 56, 57, 97, 98, 99, 100, 101, 102]⟩ : ByteArray) (Go.bits .and .u8 (rd l0 x9_1) 15))]) (ok := fun _ => True) (okp := fun _ => True) ?hr ?hp (fun _ hk => hk) trivial (zbk _ _) (zaf _) (by simp) ?_; (case hd => rfl); (case hg => rfl); (case hr => first | (go_simp; done) | (go_simp; rfl)); (case hp => exact (Reps.one (show Kd.M (Kd.int .u8) _ _ _ (bt (⟨#[48, 49, 50, 51, 52, 53, 54, 55, 56, 57, 97, 98, 99, 100, 101, 102]⟩ : ByteArray) (ji7)) [.int .u8 (bt (⟨#[48, 49, 50, 51, 52, 53, 54, 55, 56, 57, 97, 98, 99, 100, 101, 102]⟩ : ByteArray) (ji7))] from rfl) (Reps.one (show Kd.M (Kd.int .u8) _ _ _ (bt (⟨#[48, 49, 50, 51, 52, 53, 54, 55, 56, 57, 97, 98, 99, 100, 101, 102]⟩ : ByteArray) (Go.bits .and .u8 (rd l0 x9_1) 15)) [.int .u8 (bt (⟨#[48, 49, 50, 51, 52, 53, 54, 55, 56, 57, 97, 98, 99, 100, 101, 102]⟩ : ByteArray) (Go.bits .and .u8 (rd l0 x9_1) 15))] from rfl) (Reps.none _ _))))
           intro v675 w16 ho17 hb hg_ hnew_
           clear hg_ hnew_
           (first | rw [← Ny674.out] at ho17 | (simp only [Int.reduceToNat] at ho17; rw [← Ny674.out] at ho17))
           have n_ := jA3 (zbr (pR HO_3.out) (zbe ho17) hb) (zbc (zcz ho17 (zcd (pR HO_3.out))) (zak bq)) (zab bq hb)
           clear HO_3 HB
           obtain ⟨HO_3, HO676, HB⟩ := n_
           clear hb ho17
           obtain ⟨Ao19, co19, eo19⟩ := zbm HO676.out
           (first | subst eo19 | (injection eo19 with f1_ f2_ f3_; have f4_ := f1_.symm; have f5_ := f3_.symm; clear f1_ f2_ f3_; subst f4_; subst f5_))
           refine hK.out _ _ trivial (fun hHeld => ?_)
           clear hK K
           refine norm_ (a' := ?_) ?_ ?_
           rotate_left
           ·show Act.put _ (some 20) _ = _
            simp only [Act.put, zal, zaw, zax, i64_w, i32_w]
            rfl
           refine one_ (i := 8) (N := some 21) #[true, true, true, true, true, true, true, true, true, false] rfl rfl (one_of HT_.out (by kernel_rfl)) (by decide) (fun K hK => ?_)
           refine Kd.R_append_rows_step (Kd.int .u8) (w0 := w) w.heap.size (by rfl) (.tmp 13) (.tmp 20) 29 5 (.int .u8 0) 1 rfl Try.underlying29 info5 rfl (by decide) (by omega) u3 x3_1 y674 _ _ _ (fun k_ => some k_ ≠ (.slice Ao19 y674.length co19 : Value).ownBlock) (fun _ => False) rfl rfl ?aO ?aR (fun _ _ h => h) (fun _ h => h.elim) ?aF ?aB ?aS ?aL ?_
           (case aR => repeat (first | exact (zbq HO676.out).2.2 | (with_reducible refine zcv ?_ _) | (with_reducible refine zdi ?_ _) | (with_reducible refine zdu ?_)))
           (case aB => exact bq)
           (case aF => exact (fun k_ hk => zdn (zcd (pR HO676.out)) k_ hk))
           (case aO => exact (by (with_reducible repeat (first | apply zbo | apply zbp | apply zbs)); exact zav HO_3.out (fun _ hk => hk.2)))
           (case aS => exact (zak bq))
           (case aL => have := LMc14.out; omega)
           intro v678 w18 ho hb hg hat
           rw [← Ny677.out] at ho
           have n_ := jA3 (zdg (ok := (fun _ => True)) (pR HO676.out) hg hat) (hb) (ho)
           clear HO676 HB HO_3
           obtain ⟨HO676, HB, HO679⟩ := n_
           clear ho hb hg hat
           refine hK.out _ _ trivial (fun hHeld => ?_)
           clear hK K
           refine norm_ (a' := ?_) ?_ ?_
           rotate_left
           ·show Act.put _ (some 21) _ = _
            simp only [Act.put, zal, zaw, zax, i64_w, i32_w]
            rfl
           refine pu 9 3 HT_.out ?_
           refine done_ (done_of HT_.out (by kernel_rfl)) ?_
           try go_wp2
           go_roundg k1
           case measure => have := HK1.out; omega
           case rel => exact ⟨(y677), (wrap64 (x9_1 + 1)), jer, H', ⟨by have := HK1.out; omega⟩, ⟨tqR HO679.out⟩, ⟨bq⟩⟩
          ·rw [if_neg c14] at H
           exact absurd H (by simp)
         ·rw [if_neg c12] at H
          exact absurd H (by simp)
        ·rw [if_neg c11] at H
         exact absurd H (by simp)
       ·rw [if_neg c9] at H
        exact absurd H (by simp)
      ·rw [if_neg c8] at H
       exact absurd H (by simp)
     ·rw [if_neg c6] at H
      exact absurd H (by simp)
    ·rw [if_neg c5] at H
     exact absurd H (by simp)
   ·rw [if_neg c4] at H
    have c4b0 := zas c4
    clear c4
    obtain rfl := Option.some.inj H
    have hcv20 := own_string (P := Try.prog) Try.underlying29 Try.underlying5 Try.underlying9 (Kd.own_of_R HO_3.out)
    go_wp2
    go_ret
    exact ⟨jex, bq⟩
def impl_wordOf.f (l0 : List Int) (a1 : Bool) : Option (Int) := if a1 = true then (if 0 < (l0.length : Int) then (if 1 < (l0.length : Int) then (if 2 < (l0.length : Int) then (if 3 < (l0.length : Int) then (some (Go.bits .or .i64 (Go.bits .or .i64 (Go.bits .or .i64 (wrap64 ((wrap64 (rd l0 0)) * 16777216)) (wrap64 ((wrap64 (rd l0 1)) * 65536))) (wrap64 ((wrap64 (rd l0 2)) * 256))) (wrap64 (rd l0 3)))) else (none)) else (none)) else (none)) else (none)) else (if 3 < (l0.length : Int) then (if 2 < (l0.length : Int) then (if 1 < (l0.length : Int) then (if 0 < (l0.length : Int) then (some (Go.bits .or .i64 (Go.bits .or .i64 (Go.bits .or .i64 (wrap64 ((wrap64 (rd l0 3)) * 16777216)) (wrap64 ((wrap64 (rd l0 2)) * 65536))) (wrap64 ((wrap64 (rd l0 1)) * 256))) (wrap64 (rd l0 0)))) else (none)) else (none)) else (none)) else (none))
theorem impl_wordOf.calls (A0 : Option Addr) (c0 : Nat) (l0 : List Int) (a1 : Bool) (r : Int) (w : World) (hr0 : Kd.C (Kd.int .u8) w A0 l0.length l0) (hc0 : l0.length ≤ c0) (h : impl_wordOf.f l0 a1 = some r) :
  Calls Try.prog 115 #[.slice A0 l0.length c0, .bool a1] w fun e w' => e = .returned (.int .i64 r) ∧ Drawn0 w w' := by
 have HR0 := Aside0.mk hr0
 have HC0 := Aside0.mk hc0
 clear hr0 hc0
 have H : (if a1 = true then (if 0 < (l0.length : Int) then (if 1 < (l0.length : Int) then (if 2 < (l0.length : Int) then (if 3 < (l0.length : Int) then (some (Go.bits .or .i64 (Go.bits .or .i64 (Go.bits .or .i64 (wrap64 ((wrap64 (rd l0 0)) * 16777216)) (wrap64 ((wrap64 (rd l0 1)) * 65536))) (wrap64 ((wrap64 (rd l0 2)) * 256))) (wrap64 (rd l0 3)))) else (none)) else (none)) else (none)) else (none)) else (if 3 < (l0.length : Int) then (if 2 < (l0.length : Int) then (if 1 < (l0.length : Int) then (if 0 < (l0.length : Int) then (some (Go.bits .or .i64 (Go.bits .or .i64 (Go.bits .or .i64 (wrap64 ((wrap64 (rd l0 3)) * 16777216)) (wrap64 ((wrap64 (rd l0 2)) * 65536))) (wrap64 ((wrap64 (rd l0 1)) * 256))) (wrap64 (rd l0 0)))) else (none)) else (none)) else (none)) else (none))) = some r := h
 clear h
 by_cases c3 : a1 = true
 ·subst c3
  rw [if_pos rfl] at H
  by_cases c4 : 0 < (l0.length : Int)
  ·rw [if_pos c4] at H
   have c4b0 := zae c4
   have c4b1 : decide (0 < l0.length) = true := zae (by omega)
   clear c4
   by_cases c5 : 1 < (l0.length : Int)
   ·rw [if_pos c5] at H
    have c5b0 := zae c5
    have c5b1 : decide (1 < l0.length) = true := zae (by omega)
    clear c5
    by_cases c6 : 2 < (l0.length : Int)
    ·rw [if_pos c6] at H
     have c6b0 := zae c6
     have c6b1 : decide (2 < l0.length) = true := zae (by omega)
     clear c6
     by_cases c7 : 3 < (l0.length : Int)
     ·rw [if_pos c7] at H
      have c7b0 := zae c7
      have c7b1 : decide (3 < l0.length) = true := zae (by omega)
      clear c7
      obtain rfl := Option.some.inj H
      have p680 : 0 ≤ (0 : Int) := (by omega)
      have q680 : 0 < (l0.length : Int) := zac jab
      obtain ⟨ad680, e680, hx680_0⟩ := zek HR0.out 0 p680 q680
      cases e680
      have qi680 : (0 < l0.length) = True := zbd (by omega)
      (try rw [show ((0 : Int)).toNat = 0 from rfl] at hx680_0)
      (try rw [Addr.add_zero'] at hx680_0)
      replace p680 := zbd p680
      replace q680 := zbd q680
      have p681 : 0 ≤ (1 : Int) := (by omega)
      have q681 : 1 < (l0.length : Int) := zac jab
      obtain ⟨ad681, e681, hx681_0⟩ := zek HR0.out 1 p681 q681
      obtain rfl : ad680 = ad681 := (by injection e681)
      (try simp only [show (1 : Int).toNat = 1 from rfl, Nat.reduceMul, Nat.reduceEqDiff, Go.Addr.add, ↓reduceIte] at hx681_0)
      have qi681 : (1 < l0.length) = True := zbd (by omega)
      (try rw [show ((1 : Int)).toNat = 1 from rfl] at hx681_0)
      replace p681 := zbd p681
      replace q681 := zbd q681
      have p682 : 0 ≤ (2 : Int) := (by omega)
      have q682 : 2 < (l0.length : Int) := zac jab
      obtain ⟨ad682, e682, hx682_0⟩ := zek HR0.out 2 p682 q682
      obtain rfl : ad680 = ad682 := (by injection e682)
      (try simp only [show (2 : Int).toNat = 2 from rfl, Nat.reduceMul, Nat.reduceEqDiff, Go.Addr.add, ↓reduceIte] at hx682_0)
      have qi682 : (2 < l0.length) = True := zbd (by omega)
      (try rw [show ((2 : Int)).toNat = 2 from rfl] at hx682_0)
      replace p682 := zbd p682
      replace q682 := zbd q682
      have p683 : 0 ≤ (3 : Int) := (by omega)
      have q683 : 3 < (l0.length : Int) := zac jab
      obtain ⟨ad683, e683, hx683_0⟩ := zek HR0.out 3 p683 q683
      obtain rfl : ad680 = ad683 := (by injection e683)
      (try simp only [show (3 : Int).toNat = 3 from rfl, Nat.reduceMul, Nat.reduceEqDiff, Go.Addr.add, ↓reduceIte] at hx683_0)
      have qi683 : (3 < l0.length) = True := zbd (by omega)
      (try rw [show ((3 : Int)).toNat = 3 from rfl] at hx683_0)
      replace p683 := zbd p683
      replace q683 := zbd q683
      go_enter Try.func115, Try.ntmps115
      go_wp2
      repeat (go_quiet (fail); try go_wp2)
      go_ret
      exact ⟨by first | rfl | (simp; done) | (simp [*]; done), by repeat (first | exact Drawn0.refl _ | apply Drawn0.step)⟩
     ·rw [if_neg c7] at H
      exact absurd H (by simp)
    ·rw [if_neg c6] at H
     exact absurd H (by simp)
   ·rw [if_neg c5] at H
    exact absurd H (by simp)
  ·rw [if_neg c4] at H
   exact absurd H (by simp)
 ·replace c3 := zbn.mpr c3
  subst c3
  rw [if_neg (show ¬ (false = true) by decide)] at H
  by_cases c8 : 3 < (l0.length : Int)
  ·rw [if_pos c8] at H
   have c8b0 := zae c8
   have c8b1 : decide (3 < l0.length) = true := zae (by omega)
   clear c8
   by_cases c9 : 2 < (l0.length : Int)
   ·rw [if_pos c9] at H
    have c9b0 := zae c9
    have c9b1 : decide (2 < l0.length) = true := zae (by omega)
    clear c9
    by_cases c10 : 1 < (l0.length : Int)
    ·rw [if_pos c10] at H
     have c10b0 := zae c10
     have c10b1 : decide (1 < l0.length) = true := zae (by omega)
     clear c10
     by_cases c11 : 0 < (l0.length : Int)
     ·rw [if_pos c11] at H
      have c11b0 := zae c11
      have c11b1 : decide (0 < l0.length) = true := zae (by omega)
      clear c11
      obtain rfl := Option.some.inj H
      have p684 : 0 ≤ (3 : Int) := (by omega)
      have q684 : 3 < (l0.length : Int) := zac jab
      obtain ⟨ad684, e684, hx684_0⟩ := zek HR0.out 3 p684 q684
      cases e684
      (try simp only [show (3 : Int).toNat = 3 from rfl, Nat.reduceMul, Nat.reduceEqDiff, Go.Addr.add, ↓reduceIte] at hx684_0)
      have qi684 : (3 < l0.length) = True := zbd (by omega)
      (try rw [show ((3 : Int)).toNat = 3 from rfl] at hx684_0)
      replace p684 := zbd p684
      replace q684 := zbd q684
      have p685 : 0 ≤ (2 : Int) := (by omega)
      have q685 : 2 < (l0.length : Int) := zac jab
      obtain ⟨ad685, e685, hx685_0⟩ := zek HR0.out 2 p685 q685
      obtain rfl : ad684 = ad685 := (by injection e685)
      (try simp only [show (2 : Int).toNat = 2 from rfl, Nat.reduceMul, Nat.reduceEqDiff, Go.Addr.add, ↓reduceIte] at hx685_0)
      have qi685 : (2 < l0.length) = True := zbd (by omega)
      (try rw [show ((2 : Int)).toNat = 2 from rfl] at hx685_0)
      replace p685 := zbd p685
      replace q685 := zbd q685
      have p686 : 0 ≤ (1 : Int) := (by omega)
      have q686 : 1 < (l0.length : Int) := zac jab
      obtain ⟨ad686, e686, hx686_0⟩ := zek HR0.out 1 p686 q686
      obtain rfl : ad684 = ad686 := (by injection e686)
      (try simp only [show (1 : Int).toNat = 1 from rfl, Nat.reduceMul, Nat.reduceEqDiff, Go.Addr.add, ↓reduceIte] at hx686_0)
      have qi686 : (1 < l0.length) = True := zbd (by omega)
      (try rw [show ((1 : Int)).toNat = 1 from rfl] at hx686_0)
      replace p686 := zbd p686
      replace q686 := zbd q686
      have p687 : 0 ≤ (0 : Int) := (by omega)
      have q687 : 0 < (l0.length : Int) := zac jab
      obtain ⟨ad687, e687, hx687_0⟩ := zek HR0.out 0 p687 q687
      obtain rfl : ad684 = ad687 := (by injection e687)
      have qi687 : (0 < l0.length) = True := zbd (by omega)
      (try rw [show ((0 : Int)).toNat = 0 from rfl] at hx687_0)
      (try rw [Addr.add_zero'] at hx687_0)
      replace p687 := zbd p687
      replace q687 := zbd q687
      go_enter Try.func115, Try.ntmps115
      go_wp2
      repeat (go_quiet (fail); try go_wp2)
      go_ret
      exact ⟨by first | rfl | (simp; done) | (simp [*]; done), by repeat (first | exact Drawn0.refl _ | apply Drawn0.step)⟩
     ·rw [if_neg c11] at H
      exact absurd H (by simp)
    ·rw [if_neg c10] at H
     exact absurd H (by simp)
   ·rw [if_neg c9] at H
    exact absurd H (by simp)
  ·rw [if_neg c8] at H
   exact absurd H (by simp)
end Go.Proofs.Ytlalkldjpniakaa.P
