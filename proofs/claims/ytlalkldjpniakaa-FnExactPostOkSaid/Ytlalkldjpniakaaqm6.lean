import Derived.Test.Ytlalkldjpniakaaqm5
namespace Go.Proofs.Ytlalkldjpniakaa.P
open Go.RowKit Go.Proofs.YtlalkldjpniakaaW.PrintWords Go.Proofs.YtlalkldjpniakaaW.PrintLast Go.Proofs.YtlalkldjpniakaaW.PrintMore
attribute [local go_sem] zcm zcn zdd zde zbw zbx zco zcp   -- for this text's walks alone
set_option linter.unusedVariables false
set_option linter.unusedSimpArgs false
set_option maxHeartbeats 8000000
set_option maxRecDepth 100000

mutual
def spec_Little.j0 : Nat → Int → Int → List Int → Bool → Option (List Int)
 | 0, _, _, _, _ => none
 | k + 1, x0, x1, x5, x14 => if x14 = true then (some x5) else (spec_Little.l0 k x0 x1 x5 0)
def spec_Little.l0 : Nat → Int → Int → List Int → Int → Option (List Int)
 | 0, _, _, _, _ => none
 | k + 1, x0, x1, x5, x6 => if x6 < x1 then (if x5.length < 140737488355328 then (spec_Little.l0 k (x0 / 256) x1 (x5 ++ [(Go.bits .and .i64 x0 255) % 256]) (wrap64 (x6 + 1))) else (none)) else (some x5)
end
def spec_Little.f (k : Nat) (a0 : Int) (a1 : Int) : Option (List Int) := (some (([] : List Int) : List Int)).bind fun y445 => (if a0 < 0 then (spec_Little.j0 k a0 a1 y445 true) else ((spec_l1In.f a1 1 8).bind fun t448 => (spec_Little.j0 k a0 a1 y445 (!t448))))
theorem spec_Little.mono_l : ∀ k, (∀ y0 y1 y2 y3, LeO (spec_Little.j0 k y0 y1 y2 y3) (spec_Little.j0 (k + 1) y0 y1 y2 y3)) ∧ (∀ y0 y1 y2 y3, LeO (spec_Little.l0 k y0 y1 y2 y3) (spec_Little.l0 (k + 1) y0 y1 y2 y3))
 | 0 => ⟨fun _ _ _ _ r h => by simp [spec_Little.j0] at h, fun _ _ _ _ r h => by simp [spec_Little.l0] at h⟩
 | k + 1 => by
  obtain ⟨ih0, ih1⟩ := spec_Little.mono_l k
  refine ⟨?_, ?_⟩
  ·intro y0 y1 y2 y3
   unfold spec_Little.j0
   exact mt
  ·intro y0 y1 y2 y3
   unfold spec_Little.l0
   exact mt
theorem spec_Little.mono : ∀ a0 a1 k, LeO (spec_Little.f k a0 a1) (spec_Little.f (k + 1) a0 a1) := by
 intro a0 a1 k
 obtain ⟨ih0, ih1⟩ := spec_Little.mono_l k
 unfold spec_Little.f
 exact mt
theorem spec_Little.calls (k : Nat) (a0 : Int) (a1 : Int) (r : List Int) (w : World) (h : spec_Little.f k a0 a1 = some r) :
  Calls Try.prog 136 #[.int .i64 a0, .int .i64 a1] w fun e w' => ∃ v0_ : Value, e = .returned (v0_) ∧ Kd.R (Kd.int .u8) 5 w' w.heap.size (fun _ => True) v0_ r ∧ Below w.heap.size w w' := by
 have HB := Aside0.mk (zbk w.heap.size w)
 have H : ((some (([] : List Int) : List Int)).bind fun y445 => (if a0 < 0 then (spec_Little.j0 k a0 a1 y445 true) else ((spec_l1In.f a1 1 8).bind fun t448 => (spec_Little.j0 k a0 a1 y445 (!t448))))) = some r := h
 clear h
 obtain ⟨y445, hy445⟩ : ∃ y_ : List Int, y_ = (([] : List Int)) := ⟨_, rfl⟩
 replace H := bto hy445 H
 have Ny445 := Aside0.mk hy445
 clear hy445
 have HC3 := Aside0.mk H
 clear H
 go_enter Try.func136, Try.ntmps136
 go_upto_region 2 with (first | (refine jgd 7 ?_; refine jlt 7 (Kd.int .u8) 5 ?_; intro v446 w4 ho5 hb; have xb_ := below_ofs bq hb; (first | rw [← Ny445.out] at ho5 | (simp only [Int.reduceToNat] at ho5; rw [← Ny445.out] at ho5)); have n_ := jA2 (zbc ho5 (zak xb_)) (zab xb_ hb); clear HB; obtain ⟨HO447, HB⟩ := n_; clear xb_ hb ho5))
 (try simp only [Act.put, zal, zaw, zax])
 go_cut [14] (fun v14 wc => ∃ (kq : Nat) (x14_2 : Bool), v14 = .bool x14_2 ∧ Aside0 (spec_Little.j0 kq a0 a1 y445 x14_2 = some r) ∧ Aside0 (kq ≤ k) ∧ Aside0 (Kd.R (Kd.int .u8) 5 wc w.heap.size (fun _ => True) v446 y445) ∧ Aside0 (Below w.heap.size w wc))
 case first =>
  have H := HC3.out
  clear HC3
  by_cases c6 : a0 < 0
  ·rw [if_pos c6] at H
   have c6b0 := zae c6
   clear c6
   (first | rw [c6b0] | (simp only [i64_w, i32_w]; rw [c6b0]) | skip)
   have H' := Aside0.mk H
   clear H
   go_wp2
   go_meet
   case rel => exact ⟨_, (true), jer, H', ⟨by first | omega | exact zaf _⟩, ⟨pR HO447.out⟩, ⟨bq⟩⟩
  ·rw [if_neg c6] at H
   have c6b0 := zas c6
   clear c6
   (first | rw [c6b0] | (simp only [i64_w, i32_w]; rw [c6b0]) | skip)
   obtain ⟨t448, A7, H⟩ := bnd H
   have H' := Aside0.mk H
   clear H
   go_wp2_with (first | (go_at_call 89; (with_reducible refine (spec_l1In.calls a1 1 8 t448 _ A7.out).mono ?_); rintro e w' ⟨rfl, ⟨nd, rfl⟩⟩))
   go_meet
   case rel => exact ⟨_, (!t448), jer, H', ⟨by first | omega | exact zaf _⟩, ⟨pR HO447.out⟩, ⟨bq⟩⟩
 case rest =>
  clear HC3
  try clear c1
  try clear p2
  try clear c6
  try clear c6b0
  obtain ⟨kq, x14_2, rfl, HA, HJ2, HO_5, HB⟩ := hcut
  cases kq with
  | zero => exact absurd HA.out (by simp [spec_Little.j0])
  | succ kj2 =>
   have H := HA.out
   clear HA
   simp only [spec_Little.j0] at H
   by_cases c8 : x14_2 = true
   ·subst c8
    rw [if_pos rfl] at H
    obtain rfl := Option.some.inj H
    go_wp2
    go_ret
    exact ⟨_, jex, by (with_reducible repeat (first | apply zbo | apply zbp | apply zbs)); exact HO_5.out, bq⟩
   ·replace c8 := zbn.mpr c8
    subst c8
    rw [if_neg (show ¬ (false = true) by decide)] at H
    have H' := Aside0.mk H
    clear H
    go_wp2
    go_loopg [0, 5, 6] kj2 (fun kq v0 v5 v6 w' => ∃ (x0_2 : Int) (x5_2 : List Int) (x6_2 : Int), v0 = .int .i64 x0_2 ∧ v6 = .int .i64 x6_2 ∧ Aside0 (spec_Little.l0 kq x0_2 a1 x5_2 x6_2 = some r) ∧ Aside0 (kq ≤ kj2) ∧ Aside0 (Kd.R (Kd.int .u8) 5 w' w.heap.size (fun _ => True) v5 x5_2) ∧ Aside0 (Below w.heap.size w w'))
    case atStart => exact ⟨(a0), (y445), (0), jer, jer, H', ⟨zaf _⟩, ⟨pR HO_5.out⟩, ⟨bq⟩⟩
    case round =>
     clear H'
     try clear c1
     try clear p2
     try clear c6
     try clear c6b0
     try clear c8
     try clear p2
     obtain ⟨x0_2, x5_2, x6_2, rfl, rfl, HA, HK2, HO_5, HB⟩ := hrel
     cases gk with
     | zero => exact absurd HA.out (by simp [spec_Little.l0])
     | succ k2 =>
      have H := HA.out
      clear HA
      simp only [spec_Little.l0] at H
      by_cases c9 : x6_2 < a1
      ·rw [if_pos c9] at H
       have c9b0 := zae c9
       clear c9
       by_cases c10 : x5_2.length < 140737488355328
       ·rw [if_pos c10] at H
        have LMc10 := Aside0.mk c10
        clear c10
        obtain ⟨y449, hy449⟩ : ∃ y_ : List Int, y_ = (x5_2 ++ [(Go.bits .and .i64 x0_2 255) % 256]) := ⟨_, rfl⟩
        replace H : (spec_Little.l0 k2 (x0_2 / 256) a1 y449 (wrap64 (x6_2 + 1))) = some r := jrw hy449 H
        have Ny449 := Aside0.mk hy449
        clear hy449
        have H' := Aside0.mk H
        clear H
        go_wp2_with (first | ((with_reducible refine zcc (b := .append) (xs := #[.tmp 21, .tmp 25]) rfl ?_); at_builtin; refine Kd.R_append (Kd.int .u8) (w0 := w) w.heap.size rfl (.tmp 21) (.tmp 25) 29 5 (.int .u8 0) 1 rfl Try.underlying29 info5 rfl (by decide) (by omega) u5 x5_2 ((Go.bits .and .i64 x0_2 255) % 256) [.int .u8 ((Go.bits .and .i64 x0_2 255) % 256)] (fun _ => True) (fun _ => False) rfl rfl ?aP (fun _ hk => hk.elim) ?aF ?aO ?aB ?aS ?aL ?_; (case aP => exact rfl); (case aB => exact bq); (case aF => exact (fun _ _ => trivial)); (case aO => exact (pR HO_5.out)); (case aS => exact (zak bq)); (case aL => have := LMc10.out; omega); intro v450 w11 ho hb hg hat; rw [← Ny449.out] at ho; have n_ := jA2 (hb) (ho); clear HB HO_5; obtain ⟨HB, HO451⟩ := n_; clear ho hb hg hat))
        go_roundg k2
        case measure => have := HJ2.out; have := HK2.out; omega
        case rel => exact ⟨(x0_2 / 256), (y449), (wrap64 (x6_2 + 1)), jer, jer, H', ⟨by have := HJ2.out; have := HK2.out; omega⟩, ⟨pR HO451.out⟩, ⟨bq⟩⟩
       ·rw [if_neg c10] at H
        exact absurd H (by simp)
      ·rw [if_neg c9] at H
       have c9b0 := zas c9
       clear c9
       obtain rfl := Option.some.inj H
       go_wp2
       go_ret
       exact ⟨_, jex, by (with_reducible repeat (first | apply zbo | apply zbp | apply zbs)); exact HO_5.out, bq⟩
def spec_Great.l0 : Nat → List Int → List Int → Int → Option (List Int)
 | 0, _, _, _ => none
 | k + 1, x5, x6, x7 => if x7 ≥ 0 then (if 0 ≤ x7 then (if x7 < (x5.length : Int) then (if x6.length < 140737488355328 then (spec_Great.l0 k x5 (x6 ++ [rd x5 x7]) (wrap64 (x7 - 1))) else (none)) else (none)) else (none)) else (some x6)
def spec_Great.f (k : Nat) (a0 : Int) (a1 : Int) : Option (List Int) := (spec_Little.f k a0 a1).bind fun t452 => (spec_Great.l0 k t452 (([] : List Int)) (wrap64 ((t452.length : Int) - 1)))
theorem spec_Great.mono_l : ∀ k, (∀ y0 y1 y2, LeO (spec_Great.l0 k y0 y1 y2) (spec_Great.l0 (k + 1) y0 y1 y2))
 | 0 => fun _ _ _ r h => by simp [spec_Great.l0] at h
 | k + 1 => by
  have ih0 := spec_Great.mono_l k
  ·intro y0 y1 y2
   unfold spec_Great.l0
   have m0 := @spec_Little.mono
   exact mt
theorem spec_Great.mono : ∀ a0 a1 k, LeO (spec_Great.f k a0 a1) (spec_Great.f (k + 1) a0 a1) := by
 intro a0 a1 k
 have ih0 := spec_Great.mono_l k
 unfold spec_Great.f
 have m0 := @spec_Little.mono
 exact mt
theorem spec_Great.calls (k : Nat) (a0 : Int) (a1 : Int) (r : List Int) (w : World) (h : spec_Great.f k a0 a1 = some r) :
  Calls Try.prog 107 #[.int .i64 a0, .int .i64 a1] w fun e w' => ∃ v0_ : Value, e = .returned (v0_) ∧ Kd.R (Kd.int .u8) 5 w' w.heap.size (fun _ => True) v0_ r ∧ Below w.heap.size w w' := by
 have HB := Aside0.mk (zbk w.heap.size w)
 have H : ((spec_Little.f k a0 a1).bind fun t452 => (spec_Great.l0 k t452 (([] : List Int)) (wrap64 ((t452.length : Int) - 1)))) = some r := h
 clear h
 obtain ⟨t452, A3, H⟩ := bnd H
 obtain ⟨y455, hy455⟩ : ∃ y_ : List Int, y_ = (([] : List Int)) := ⟨_, rfl⟩
 replace H : (spec_Great.l0 k t452 y455 (wrap64 ((t452.length : Int) - 1))) = some r := jrw hy455 H
 have Ny455 := Aside0.mk hy455
 clear hy455
 have H' := Aside0.mk H
 clear H
 go_enter Try.func107, Try.ntmps107
 go_wp2_with (first | (refine jgc 136 ?_; refine jgs 10 Try.func136 #[.int .i64 a0, .int .i64 a1] ?_; (with_reducible refine (spec_Little.calls k a0 a1 t452 _ A3.out).mono ?_); rintro e w4 ⟨v453, rfl, ho0, hb⟩; refine ⟨_, rfl, ?_⟩; have xb_ := below_ofs bq hb; have n_ := jA2 (zbc ho0 (zak xb_)) (zab xb_ hb); clear HB; obtain ⟨HO454, HB⟩ := n_; clear xb_ hb ho0) | (refine jgd 11 ?_; refine jlt 11 (Kd.int .u8) 5 ?_; intro v456 w5 ho6 hb; have xb_ := below_ofs bq hb; (first | rw [← Ny455.out] at ho6 | (simp only [Int.reduceToNat] at ho6; rw [← Ny455.out] at ho6)); have qHO454 := Kd.R_ofs (pR HO454.out) hb; have n_ := jA3 (zbr qHO454 (zbe ho6) hb) (zbc (zcz ho6 (zcd qHO454)) (zak xb_)) (zab xb_ hb); clear qHO454 HO454 HB; obtain ⟨HO454, HO457, HB⟩ := n_; clear xb_ hb ho6; obtain ⟨Ao7, co7, eo7⟩ := zbm HO454.out; subst eo7))
 go_loopg [6, 7] k (fun kq v6 v7 w' => ∃ (x6_1 : List Int) (x7_1 : Int), v7 = .int .i64 x7_1 ∧ Aside0 (spec_Great.l0 kq t452 x6_1 x7_1 = some r) ∧ Aside0 (kq ≤ k) ∧ Aside0 (Kd.R (Kd.int .u8) 5 w' w.heap.size (fun k_ => some k_ ≠ (v6 : Value).ownBlock) (.slice Ao7 t452.length co7) t452) ∧ Aside0 (Kd.R (Kd.int .u8) 5 w' w.heap.size (fun k_ => some k_ ≠ ((.slice Ao7 t452.length co7) : Value).ownBlock) v6 x6_1) ∧ Aside0 (Below w.heap.size w w'))
 case atStart => exact ⟨(y455), (wrap64 ((t452.length : Int) - 1)), jer, H', ⟨zaf _⟩, ⟨by (with_reducible repeat (first | apply zbo | apply zbp | apply zbs)); exact zav HO454.out (fun _ hk => hk.2)⟩, ⟨by (with_reducible repeat (first | apply zbo | apply zbp | apply zbs)); exact zav HO457.out (fun _ hk => hk.2)⟩, ⟨bq⟩⟩
 case round =>
  clear H'
  try clear c1
  try clear p2
  try clear p6
  obtain ⟨x6_1, x7_1, rfl, HA, HK1, HO_5, HO_6, HB⟩ := hrel
  cases gk with
  | zero => exact absurd HA.out (by simp [spec_Great.l0])
  | succ k1 =>
   have H := HA.out
   clear HA
   simp only [spec_Great.l0] at H
   by_cases c8 : x7_1 ≥ 0
   ·rw [if_pos c8] at H
    have c8b0 := zae c8
    clear c8
    by_cases c9 : 0 ≤ x7_1
    ·rw [if_pos c9] at H
     have c9b0 := zae c9
     clear c9
     by_cases c10 : x7_1 < (t452.length : Int)
     ·rw [if_pos c10] at H
      have c10b0 := zae c10
      clear c10
      by_cases c11 : x6_1.length < 140737488355328
      ·rw [if_pos c11] at H
       have LMc11 := Aside0.mk c11
       clear c11
       obtain ⟨y459, hy459⟩ : ∃ y_ : List Int, y_ = (x6_1 ++ [rd t452 x7_1]) := ⟨_, rfl⟩
       replace H : (spec_Great.l0 k1 t452 y459 (wrap64 (x7_1 - 1))) = some r := jrw hy459 H
       have Ny459 := Aside0.mk hy459
       clear hy459
       have H' := Aside0.mk H
       clear H
       have p458 : 0 ≤ (x7_1 : Int) := zac jab
       have q458 : x7_1 < (t452.length : Int) := zac jab
       obtain ⟨ad458, e458, hx458_0⟩ := zek (zbq HO_5.out).2.2 x7_1 p458 q458
       cases e458
       replace p458 := zbd p458
       replace q458 := zbd q458
       go_wp2_with (first | ((with_reducible refine zcc (b := .append) (xs := #[.tmp 19, .tmp 24]) rfl ?_); at_builtin; refine Kd.R_append (Kd.int .u8) (w0 := w) w.heap.size rfl (.tmp 19) (.tmp 24) 29 5 (.int .u8 0) 1 rfl Try.underlying29 info5 rfl (by decide) (by omega) u6 x6_1 (rd t452 x7_1) [.int .u8 (rd t452 x7_1)] (fun k_ => some k_ ≠ (.slice (some ad458) t452.length co7 : Value).ownBlock) (fun _ => False) rfl rfl ?aP (fun _ hk => hk.elim) ?aF ?aO ?aB ?aS ?aL ?_; (case aP => exact rfl); (case aB => exact bq); (case aF => exact (fun k_ hk => zdn (zcd (pR HO_5.out)) k_ hk)); (case aO => exact (pR HO_6.out)); (case aS => exact (zak bq)); (case aL => have := LMc11.out; omega); intro v460 w12 ho hb hg hat; rw [← Ny459.out] at ho; have n_ := jA3 (zdg (ok := (fun _ => True)) (by (with_reducible repeat (first | apply zbo | apply zbp | apply zbs)); exact zav HO_5.out (fun _ hk => ⟨trivial, hk⟩)) hg hat) (hb) (ho); clear HO_5 HB HO_6; obtain ⟨HO_5, HB, HO461⟩ := n_; clear ho hb hg hat))
       go_roundg k1
       case measure => have := HK1.out; omega
       case rel => exact ⟨(y459), (wrap64 (x7_1 - 1)), jer, H', ⟨by have := HK1.out; omega⟩, ⟨by (with_reducible repeat (first | apply zbo | apply zbp | apply zbs)); exact zav HO_5.out (fun _ hk => hk.2)⟩, ⟨pR HO461.out⟩, ⟨bq⟩⟩
      ·rw [if_neg c11] at H
       exact absurd H (by simp)
     ·rw [if_neg c10] at H
      exact absurd H (by simp)
    ·rw [if_neg c9] at H
     exact absurd H (by simp)
   ·rw [if_neg c8] at H
    have c8b0 := zas c8
    clear c8
    obtain rfl := Option.some.inj H
    go_wp2
    go_ret
    exact ⟨_, jex, tqR HO_6.out, bq⟩
def spec_LineBytes.f (k : Nat) (a0_0 : Int) (a0_1 : ByteArray) (a0_2 : Int) (a0_3 : Int) (l0_4 : List Int) : Option (List Int) := (spec_LineOk.f k a0_0 a0_1 a0_2 a0_3 l0_4).bind fun t463 => (if t463 = true then ((spec_Unhex.f k a0_1).bind fun bt467 => (if a0_0 = 3 then (if 8 ≤ 281474976710656 then ((some (List.replicate 8 0 : List Int)).bind fun y471 => ((some (([(a0_0) % 256] : List Int) : List Int)).bind fun y474 => (if y474.length + y471.length < 140737488355328 then ((some (y474 ++ y471 : List Int)).bind fun y477 => (if y477.length < 140737488355328 then ((some (y477 ++ [(a0_2) % 256] : List Int)).bind fun y480 => ((spec_Great.f k a0_3 4).bind fun t483 => (if y480.length + t483.length < 140737488355328 then ((some (y480 ++ t483 : List Int)).bind fun y486 => ((spec_Great.f k (l0_4.length : Int) 2).bind fun t489 => (if y486.length + t489.length < 140737488355328 then ((some (y486 ++ t489 : List Int)).bind fun y492 => (if y492.length + l0_4.length < 140737488355328 then ((some (y492 ++ l0_4 : List Int)).bind fun y495 => ((spec_Great.f k (y495.length : Int) 2).bind fun t498 => (if y495.length + t498.length < 140737488355328 then (some (y495 ++ t498)) else (none)))) else (none))) else (none)))) else (none)))) else (none))) else (none)))) else (none)) else ((some (([(a0_0) % 256] : List Int) : List Int)).bind fun y504 => (if y504.length + bt467.1.length < 140737488355328 then ((some (y504 ++ bt467.1 : List Int)).bind fun y507 => (if y507.length < 140737488355328 then ((some (y507 ++ [(a0_2) % 256] : List Int)).bind fun y510 => ((spec_Great.f k a0_3 4).bind fun t513 => (if y510.length + t513.length < 140737488355328 then ((some (y510 ++ t513 : List Int)).bind fun y516 => ((spec_Great.f k (l0_4.length : Int) 2).bind fun t519 => (if y516.length + t519.length < 140737488355328 then ((some (y516 ++ t519 : List Int)).bind fun y522 => (if y522.length + l0_4.length < 140737488355328 then ((some (y522 ++ l0_4 : List Int)).bind fun y525 => ((spec_Great.f k (y525.length : Int) 2).bind fun t528 => (if y525.length + t528.length < 140737488355328 then (some (y525 ++ t528)) else (none)))) else (none))) else (none)))) else (none)))) else (none))) else (none))))) else (some (([] : List Int))))
theorem spec_LineBytes.mono : ∀ a0 a1 a2 a3 a4 k, LeO (spec_LineBytes.f k a0 a1 a2 a3 a4) (spec_LineBytes.f (k + 1) a0 a1 a2 a3 a4) := by
 intro a0 a1 a2 a3 a4 k
 unfold spec_LineBytes.f
 have m0 := @spec_Great.mono
 have m1 := @spec_LineOk.mono
 have m2 := @spec_Unhex.mono
 exact mt
theorem spec_LineBytes.wk {P : Prop} (h : P := by
 go_enter Try.func48, Try.ntmps48
 go_wp2_with (first | (refine jgd 1 ?_; refine bx 1 (#[.int .i64 a0_0, .string a0_1, .int .i64 a0_2, .int .i64 a0_3, .slice A0_4 l0_4.length c0_4]) 48 ?_; intro gb462 hg w_ hbox hb; have xb_ := below_ofs bq hb; have n_ := jA4 (zab xb_ hb) (hbox) (ge0 hg xb_ : w.heap.size ≤ gb462) (ge0 hg xb_ : w.heap.size ≤ gb462); clear HB; obtain ⟨HB, BK462, GW462, GE462⟩ := n_; clear xb_ hb hbox hg; obtain ⟨c0, c1, c2, c3, c4, z0, z1, z2, z3, z4⟩ := cz5 BK462.out) | (refine jgc 34 ?_; refine jgs 7 Try.func34 #[.agg #[.int .i64 a0_0, .string a0_1, .int .i64 a0_2, .int .i64 a0_3, .slice A0_4 l0_4.length c0_4]] ?_; (with_reducible refine (spec_LineOk.calls k a0_0 a0_1 a0_2 a0_3 _ _ l0_4 _ _ ?side1 ?side2 A2.out).mono ?_); (case side1 => exact jcs HR0_4.out); (case side2 => exact HC0_4.out); rintro e w_ ⟨rfl, hb⟩; refine ⟨_, rfl, ?_⟩; have n_ := jA2 (jbb BK462.out hb) (zab (bs1 GE462.out) hb); clear BK462 HB; obtain ⟨BK462, HB⟩ := n_; (try clear hb); (try clear hb2); (try clear hk); (try clear hi); obtain ⟨c0, c1, c2, c3, c4, z0, z1, z2, z3, z4⟩ := cz5 BK462.out) | (refine jgc 106 ?_; refine jgs 13 Try.func106 #[.string a0_1] ?_; (with_reducible refine (spec_Unhex.calls k a0_1 t467 t468 _ A4.out).mono ?_); rintro e w_ ⟨v469, rfl, ho0, hb⟩; refine ⟨_, rfl, ?_⟩; have n_ := jA3 (zbc ho0 (zak (bs1 GE462.out))) (jbb BK462.out hb) (zab (bs1 GE462.out) hb); clear BK462 HB; obtain ⟨HO470, BK462, HB⟩ := n_; clear hb ho0; obtain ⟨c0, c1, c2, c3, c4, z0, z1, z2, z3, z4⟩ := cz5 BK462.out) | (refine jgd 19 ?_; refine Kd.R_make (Kd.int .u8) _ 5 rfl (N := 19) rfl 29 _ _ rfl 8 rfl rfl Try.underlying29 (.int .u8 0) 1 info5 rfl (by decide) (by omega) 0 (ok := fun _ => True) (okp := fun _ => True) rfl (fun _ hk => hk) trivial (by omega) (by omega) (zbk _ _) (zaf _) ?_; intro v472 w_ ho23 hb hg_ hnew_; clear hg_ hnew_; (first | rw [← Ny471.out] at ho23 | (simp only [Int.reduceToNat] at ho23; rw [← Ny471.out] at ho23)); have qHO470 := Kd.R_ofs (pR HO470.out) hb; have n_ := jA4 (zbr qHO470 (zbe ho23) hb) (zbc (zcz ho23 (zcd qHO470)) (zak (bs1 GE462.out))) (jbb BK462.out hb) (zab (bs1 GE462.out) hb); clear qHO470 HO470 BK462 HB; obtain ⟨HO470, HO473, BK462, HB⟩ := n_; clear hb ho23; obtain ⟨c0, c1, c2, c3, c4, z0, z1, z2, z3, z4⟩ := cz5 BK462.out) | (refine jgd 23 ?_; refine Kd.R_lit (Kd.int .u8) _ 5 ?hg (N := 23) ?hd (xs := ([(a0_0) % 256] : List Int)) (inner := [.int .u8 ((a0_0) % 256)]) (ok := fun _ => True) (okp := fun _ => True) ?hr ?hp (fun _ hk => hk) trivial (zbk _ _) (zaf _) (by simp) ?_; (case hd => rfl); (case hg => rfl); (case hr => first | (go_simp; done) | (go_simp; rfl)); (case hp => exact (Reps.one (show Kd.M (Kd.int .u8) _ _ _ ((a0_0) % 256) [.int .u8 ((a0_0) % 256)] from rfl) (Reps.none _ _))); intro v475 w_ ho26 hb hg_ hnew_; clear hg_ hnew_; (first | rw [← Ny474.out] at ho26 | (simp only [Int.reduceToNat] at ho26; rw [← Ny474.out] at ho26)); have qHO470 := Kd.R_ofs (pR HO470.out) hb; have n0_ := Aside0.mk (zbr qHO470 (zbe ho26) hb); have qHO473 := Kd.R_ofs (pR HO473.out) hb; have n1_ := Aside0.mk (zbr qHO473 (zbe ho26) hb); have n2_ := Aside0.mk (zbc (zcz (zcz ho26 (zcd qHO470)) (zcd qHO473)) (zak (bs1 GE462.out))); have n3_ := Aside0.mk (jbb BK462.out hb); have n4_ := Aside0.mk (zab (bs1 GE462.out) hb); clear qHO470 HO470; clear qHO473 HO473; clear BK462 HB; have HO470 := n0_; have HO473 := n1_; have HO476 := n2_; have BK462 := n3_; have HB := n4_; clear n0_ n1_ n2_ n3_ n4_; clear hb ho26; obtain ⟨Ao28, co28, eo28⟩ := zbm HO473.out; subst eo28) | ((with_reducible refine zcc (b := .append) (xs := #[.tmp 23, .tmp 24]) rfl ?_); at_builtin; refine zef (Kd.int .u8) (w0 := w) w.heap.size rfl (.tmp 23) (.tmp 24) 29 5 (.int .u8 0) 1 rfl Try.underlying29 info5 rfl (by decide) (by omega) v475 y474 y471 _ _ _ (fun k_ => some k_ ≠ (v469 : Value).ownBlock ∧ some k_ ≠ (.slice Ao28 y471.length co28 : Value).ownBlock) (fun _ => False) rfl rfl ?aO ?aR (fun _ _ h => h) (fun _ h => h.elim) ?aF ?aB ?aS ?aL ?_; (case aR => repeat (first | exact (zbq HO473.out).2.2 | (with_reducible first | apply zcv | apply zdi | apply zdu))); (case aB => exact (bs1 GE462.out)); (case aF => exact (fun k_ hk => ⟨zdn (zcd (pR HO470.out)) k_ hk, zdn (zcd (pR HO473.out)) k_ hk⟩)); (case aO => exact (by (with_reducible repeat (first | apply zbo | apply zbp | apply zbs)); exact zav HO476.out (fun _ hk => ⟨hk.1.2, hk.2⟩))); (case aS => exact (zak (bs1 GE462.out))); (case aL => have := LMc7.out; omega); intro v478 w27 ho hb hg hat; rw [← Ny477.out] at ho; have n_ := jA5 (zei (pB BK462.out) hg (zfn HO476.out BK462.out (by decide))) (zdg (ok := (fun k_ => some k_ ≠ (.slice Ao28 y471.length co28 : Value).ownBlock)) (by (with_reducible repeat (first | apply zbo | apply zbp | apply zbs)); exact zav HO470.out (fun _ hk => ⟨hk.1.2, hk.2⟩)) hg hat) (zdg (ok := (fun k_ => some k_ ≠ (v469 : Value).ownBlock)) (by (with_reducible repeat (first | apply zbo | apply zbp | apply zbs)); exact zav HO473.out (fun _ hk => ⟨hk.1.2, hk.2⟩)) hg hat) (hb) (ho); clear BK462 HO470 HO473 HB HO476; obtain ⟨BK462, HO470, HO473, HB, HO479⟩ := n_; clear ho hb hg hat; obtain ⟨c0, c1, c2, c3, c4, z0, z1, z2, z3, z4⟩ := cz5 BK462.out) | ((with_reducible refine zcc (b := .append) (xs := #[.tmp 26, .tmp 30]) rfl ?_); at_builtin; refine Kd.R_append (Kd.int .u8) (w0 := w) w.heap.size rfl (.tmp 26) (.tmp 30) 29 5 (.int .u8 0) 1 rfl Try.underlying29 info5 rfl (by decide) (by omega) v478 y477 ((a0_2) % 256) [.int .u8 ((a0_2) % 256)] (fun k_ => some k_ ≠ (v469 : Value).ownBlock ∧ some k_ ≠ (.slice Ao28 y471.length co28 : Value).ownBlock) (fun _ => False) rfl rfl ?aP (fun _ hk => hk.elim) ?aF ?aO ?aB ?aS ?aL ?_; (case aP => exact rfl); (case aB => exact (bs1 GE462.out)); (case aF => exact (fun k_ hk => ⟨zdn (zcd (pR HO470.out)) k_ hk, zdn (zcd (pR HO473.out)) k_ hk⟩)); (case aO => exact (pR HO479.out)); (case aS => exact (zak (bs1 GE462.out))); (case aL => have := LMc8.out; omega); intro v481 w30 ho hb hg hat; rw [← Ny480.out] at ho; have n_ := jA5 (zei (pB BK462.out) hg (zfn HO479.out BK462.out (by decide))) (zdg (ok := (fun k_ => some k_ ≠ (.slice Ao28 y471.length co28 : Value).ownBlock)) (pR HO470.out) hg hat) (zdg (ok := (fun k_ => some k_ ≠ (v469 : Value).ownBlock)) (pR HO473.out) hg hat) (hb) (ho); clear BK462 HO470 HO473 HB HO479; obtain ⟨BK462, HO470, HO473, HB, HO482⟩ := n_; clear ho hb hg hat; obtain ⟨c0, c1, c2, c3, c4, z0, z1, z2, z3, z4⟩ := cz5 BK462.out) | (refine jgc 107 ?_; refine jgs 35 Try.func107 #[.int .i64 a0_3, .int .i64 4] ?_; (with_reducible refine (spec_Great.calls k a0_3 4 t483 _ A9.out).mono ?_); rintro e w_ ⟨v484, rfl, ho0, hb⟩; refine ⟨_, rfl, ?_⟩; have qHO470 := Kd.R_ofs (pR HO470.out) hb; have n0_ := Aside0.mk (zbr qHO470 (zbe ho0) hb); have qHO473 := Kd.R_ofs (pR HO473.out) hb; have n1_ := Aside0.mk (zbr qHO473 (zbe ho0) hb); have qHO482 := Kd.R_ofs (pR HO482.out) hb; have n2_ := Aside0.mk (zbr qHO482 (zbe ho0) hb); have n3_ := Aside0.mk (zbc (zcz (zcz (zcz ho0 (zcd qHO470)) (zcd qHO473)) (zcd qHO482)) (zak (bs1 GE462.out))); have n4_ := Aside0.mk (jbb BK462.out hb); have n5_ := Aside0.mk (zab (bs1 GE462.out) hb); clear qHO470 HO470; clear qHO473 HO473; clear qHO482 HO482; clear BK462 HB; have HO470 := n0_; have HO473 := n1_; have HO482 := n2_; have HO485 := n3_; have BK462 := n4_; have HB := n5_; clear n0_ n1_ n2_ n3_ n4_ n5_; clear hb ho0; obtain ⟨Ao34, co34, eo34⟩ := zbm HO485.out; subst eo34) | ((with_reducible refine zcc (b := .append) (xs := #[.tmp 32, .tmp 35]) rfl ?_); at_builtin; refine zef (Kd.int .u8) (w0 := w) w.heap.size rfl (.tmp 32) (.tmp 35) 29 5 (.int .u8 0) 1 rfl Try.underlying29 info5 rfl (by decide) (by omega) v481 y480 t483 _ _ _ (fun k_ => some k_ ≠ (v469 : Value).ownBlock ∧ some k_ ≠ (.slice Ao28 y471.length co28 : Value).ownBlock ∧ some k_ ≠ (.slice Ao34 t483.length co34 : Value).ownBlock) (fun _ => False) rfl rfl ?aO ?aR (fun _ _ h => h) (fun _ h => h.elim) ?aF ?aB ?aS ?aL ?_; (case aR => repeat (first | exact (zbq HO485.out).2.2 | (with_reducible first | apply zcv | apply zdi | apply zdu))); (case aB => exact (bs1 GE462.out)); (case aF => exact (fun k_ hk => ⟨zdn (zcd (pR HO470.out)) k_ hk, zdn (zcd (pR HO473.out)) k_ hk, zdn (zcd (pR HO485.out)) k_ hk⟩)); (case aO => exact (by (with_reducible repeat (first | apply zbo | apply zbp | apply zbs)); exact zav HO482.out (fun _ hk => ⟨hk.1.1, ⟨hk.1.2, hk.2⟩⟩))); (case aS => exact (zak (bs1 GE462.out))); (case aL => have := LMc10.out; omega); intro v487 w33 ho hb hg hat; rw [← Ny486.out] at ho; have n_ := jA6 (zei (pB BK462.out) hg (zfn HO482.out BK462.out (by decide))) (zdg (ok := (fun k_ => some k_ ≠ (.slice Ao28 y471.length co28 : Value).ownBlock ∧ some k_ ≠ (.slice Ao34 t483.length co34 : Value).ownBlock)) (by (with_reducible repeat (first | apply zbo | apply zbp | apply zbs)); exact zav HO470.out (fun _ hk => ⟨⟨hk.1.1, hk.2⟩, hk.1.2⟩)) hg hat) (zdg (ok := (fun k_ => some k_ ≠ (v469 : Value).ownBlock ∧ some k_ ≠ (.slice Ao34 t483.length co34 : Value).ownBlock)) (by (with_reducible repeat (first | apply zbo | apply zbp | apply zbs)); exact zav HO473.out (fun _ hk => ⟨⟨hk.1.1, hk.2⟩, hk.1.2⟩)) hg hat) (zdg (ok := (fun k_ => some k_ ≠ (v469 : Value).ownBlock ∧ some k_ ≠ (.slice Ao28 y471.length co28 : Value).ownBlock)) (by (with_reducible repeat (first | apply zbo | apply zbp | apply zbs)); exact zav HO485.out (fun _ hk => ⟨⟨hk.1.1.2, hk.1.2⟩, hk.2⟩)) hg hat) (hb) (ho); clear BK462 HO470 HO473 HO485 HB HO482; obtain ⟨BK462, HO470, HO473, HO485, HB, HO488⟩ := n_; clear ho hb hg hat; obtain ⟨c0, c1, c2, c3, c4, z0, z1, z2, z3, z4⟩ := cz5 BK462.out) | (refine jgc 107 ?_; refine jgs 41 Try.func107 #[.int .i64 (l0_4.length : Int), .int .i64 2] ?_; (with_reducible refine (spec_Great.calls k (l0_4.length : Int) 2 t489 _ A11.out).mono ?_); rintro e w_ ⟨v490, rfl, ho0, hb⟩; refine ⟨_, rfl, ?_⟩; have qHO470 := Kd.R_ofs (pR HO470.out) hb; have n0_ := Aside0.mk (zbr qHO470 (zbe ho0) hb); have qHO473 := Kd.R_ofs (pR HO473.out) hb; have n1_ := Aside0.mk (zbr qHO473 (zbe ho0) hb); have qHO485 := Kd.R_ofs (pR HO485.out) hb; have n2_ := Aside0.mk (zbr qHO485 (zbe ho0) hb); have qHO488 := Kd.R_ofs (pR HO488.out) hb; have n3_ := Aside0.mk (zbr qHO488 (zbe ho0) hb); have n4_ := Aside0.mk (zbc (zcz (zcz (zcz (zcz ho0 (zcd qHO470)) (zcd qHO473)) (zcd qHO485)) (zcd qHO488)) (zak (bs1 GE462.out))); have n5_ := Aside0.mk (jbb BK462.out hb); have n6_ := Aside0.mk (zab (bs1 GE462.out) hb); clear qHO470 HO470; clear qHO473 HO473; clear qHO485 HO485; clear qHO488 HO488; clear BK462 HB; have HO470 := n0_; have HO473 := n1_; have HO485 := n2_; have HO488 := n3_; have HO491 := n4_; have BK462 := n5_; have HB := n6_; clear n0_ n1_ n2_ n3_ n4_ n5_ n6_; clear hb ho0; obtain ⟨Ao38, co38, eo38⟩ := zbm HO491.out; subst eo38) | ((with_reducible refine zcc (b := .append) (xs := #[.tmp 37, .tmp 41]) rfl ?_); at_builtin; refine zef (Kd.int .u8) (w0 := w) w.heap.size rfl (.tmp 37) (.tmp 41) 29 5 (.int .u8 0) 1 rfl Try.underlying29 info5 rfl (by decide) (by omega) v487 y486 t489 _ _ _ (fun k_ => some k_ ≠ (v469 : Value).ownBlock ∧ some k_ ≠ (.slice Ao28 y471.length co28 : Value).ownBlock ∧ some k_ ≠ (.slice Ao34 t483.length co34 : Value).ownBlock ∧ some k_ ≠ (.slice Ao38 t489.length co38 : Value).ownBlock) (fun _ => False) rfl rfl ?aO ?aR (fun _ _ h => h) (fun _ h => h.elim) ?aF ?aB ?aS ?aL ?_; (case aR => repeat (first | exact (zbq HO491.out).2.2 | (with_reducible first | apply zcv | apply zdi | apply zdu))); (case aB => exact (bs1 GE462.out)); (case aF => exact (fun k_ hk => ⟨zdn (zcd (pR HO470.out)) k_ hk, zdn (zcd (pR HO473.out)) k_ hk, zdn (zcd (pR HO485.out)) k_ hk, zdn (zcd (pR HO491.out)) k_ hk⟩)); (case aO => exact (by (with_reducible repeat (first | apply zbo | apply zbp | apply zbs)); exact zav HO488.out (fun _ hk => ⟨hk.1.1, ⟨hk.1.2.1, ⟨hk.1.2.2, hk.2⟩⟩⟩))); (case aS => exact (zak (bs1 GE462.out))); (case aL => have := LMc12.out; omega); intro v493 w37 ho hb hg hat; rw [← Ny492.out] at ho; have n_ := jA7 (zei (pB BK462.out) hg (zfn HO488.out BK462.out (by decide))) (zdg (ok := (fun k_ => some k_ ≠ (.slice Ao28 y471.length co28 : Value).ownBlock ∧ some k_ ≠ (.slice Ao34 t483.length co34 : Value).ownBlock ∧ some k_ ≠ (.slice Ao38 t489.length co38 : Value).ownBlock)) (by (with_reducible repeat (first | apply zbo | apply zbp | apply zbs)); exact zav HO470.out (fun _ hk => ⟨⟨hk.1.1.1, ⟨hk.1.1.2, hk.2⟩⟩, hk.1.2⟩)) hg hat) (zdg (ok := (fun k_ => some k_ ≠ (v469 : Value).ownBlock ∧ some k_ ≠ (.slice Ao34 t483.length co34 : Value).ownBlock ∧ some k_ ≠ (.slice Ao38 t489.length co38 : Value).ownBlock)) (by (with_reducible repeat (first | apply zbo | apply zbp | apply zbs)); exact zav HO473.out (fun _ hk => ⟨⟨hk.1.1.1, ⟨hk.1.1.2, hk.2⟩⟩, hk.1.2⟩)) hg hat) (zdg (ok := (fun k_ => some k_ ≠ (v469 : Value).ownBlock ∧ some k_ ≠ (.slice Ao28 y471.length co28 : Value).ownBlock ∧ some k_ ≠ (.slice Ao38 t489.length co38 : Value).ownBlock)) (by (with_reducible repeat (first | apply zbo | apply zbp | apply zbs)); exact zav HO485.out (fun _ hk => ⟨⟨hk.1.1.1, ⟨hk.1.1.2, hk.2⟩⟩, hk.1.2⟩)) hg hat) (zdg (ok := (fun k_ => some k_ ≠ (v469 : Value).ownBlock ∧ some k_ ≠ (.slice Ao28 y471.length co28 : Value).ownBlock ∧ some k_ ≠ (.slice Ao34 t483.length co34 : Value).ownBlock)) (by (with_reducible repeat (first | apply zbo | apply zbp | apply zbs)); exact zav HO491.out (fun _ hk => ⟨⟨hk.1.1.1.2, ⟨hk.1.1.2, hk.1.2⟩⟩, hk.2⟩)) hg hat) (hb) (ho); clear BK462 HO470 HO473 HO485 HO491 HB HO488; obtain ⟨BK462, HO470, HO473, HO485, HO491, HB, HO494⟩ := n_; clear ho hb hg hat; obtain ⟨c0, c1, c2, c3, c4, z0, z1, z2, z3, z4⟩ := cz5 BK462.out) | ((with_reducible refine zcc (b := .append) (xs := #[.tmp 43, .tmp 45]) rfl ?_); at_builtin; refine zef (Kd.int .u8) (w0 := w) w.heap.size rfl (.tmp 43) (.tmp 45) 29 5 (.int .u8 0) 1 rfl Try.underlying29 info5 rfl (by decide) (by omega) v493 y492 l0_4 _ _ _ (fun k_ => some k_ ≠ (v469 : Value).ownBlock ∧ some k_ ≠ (.slice Ao28 y471.length co28 : Value).ownBlock ∧ some k_ ≠ (.slice Ao34 t483.length co34 : Value).ownBlock ∧ some k_ ≠ (.slice Ao38 t489.length co38 : Value).ownBlock) (fun _ => False) rfl rfl ?aO ?aR (fun _ _ h => h) (fun _ h => h.elim) ?aF ?aB ?aS ?aL ?_; (case aR => exact jcs HR0_4.out); (case aB => exact (bs1 GE462.out)); (case aF => exact (fun k_ hk => ⟨zdn (zcd (pR HO470.out)) k_ hk, zdn (zcd (pR HO473.out)) k_ hk, zdn (zcd (pR HO485.out)) k_ hk, zdn (zcd (pR HO491.out)) k_ hk⟩)); (case aO => exact (pR HO494.out)); (case aS => exact (zak (bs1 GE462.out))); (case aL => have := LMc13.out; omega); intro v496 w40 ho hb hg hat; rw [← Ny495.out] at ho; have n_ := jA7 (zei (pB BK462.out) hg (zfn HO494.out BK462.out (by decide))) (zdg (ok := (fun k_ => some k_ ≠ (.slice Ao28 y471.length co28 : Value).ownBlock ∧ some k_ ≠ (.slice Ao34 t483.length co34 : Value).ownBlock ∧ some k_ ≠ (.slice Ao38 t489.length co38 : Value).ownBlock)) (pR HO470.out) hg hat) (zdg (ok := (fun k_ => some k_ ≠ (v469 : Value).ownBlock ∧ some k_ ≠ (.slice Ao34 t483.length co34 : Value).ownBlock ∧ some k_ ≠ (.slice Ao38 t489.length co38 : Value).ownBlock)) (pR HO473.out) hg hat) (zdg (ok := (fun k_ => some k_ ≠ (v469 : Value).ownBlock ∧ some k_ ≠ (.slice Ao28 y471.length co28 : Value).ownBlock ∧ some k_ ≠ (.slice Ao38 t489.length co38 : Value).ownBlock)) (pR HO485.out) hg hat) (zdg (ok := (fun k_ => some k_ ≠ (v469 : Value).ownBlock ∧ some k_ ≠ (.slice Ao28 y471.length co28 : Value).ownBlock ∧ some k_ ≠ (.slice Ao34 t483.length co34 : Value).ownBlock)) (pR HO491.out) hg hat) (hb) (ho); clear BK462 HO470 HO473 HO485 HO491 HB HO494; obtain ⟨BK462, HO470, HO473, HO485, HO491, HB, HO497⟩ := n_; clear ho hb hg hat; obtain ⟨Ao41, co41, eo41⟩ := zbm HO497.out; subst eo41) | (refine jgc 107 ?_; refine jgs 50 Try.func107 #[.int .i64 (y495.length : Int), .int .i64 2] ?_; (with_reducible refine (spec_Great.calls k (y495.length : Int) 2 t498 _ A14.out).mono ?_); rintro e w_ ⟨v499, rfl, ho0, hb⟩; refine ⟨_, rfl, ?_⟩; have qHO470 := Kd.R_ofs (pR HO470.out) hb; have n0_ := Aside0.mk (zbr qHO470 (zbe ho0) hb); have qHO473 := Kd.R_ofs (pR HO473.out) hb; have n1_ := Aside0.mk (zbr qHO473 (zbe ho0) hb); have qHO485 := Kd.R_ofs (pR HO485.out) hb; have n2_ := Aside0.mk (zbr qHO485 (zbe ho0) hb); have qHO491 := Kd.R_ofs (pR HO491.out) hb; have n3_ := Aside0.mk (zbr qHO491 (zbe ho0) hb); have qHO497 := Kd.R_ofs (pR HO497.out) hb; have n4_ := Aside0.mk (zbr qHO497 (zbe ho0) hb); have n5_ := Aside0.mk (zbc (zcz (zcz (zcz (zcz (zcz ho0 (zcd qHO470)) (zcd qHO473)) (zcd qHO485)) (zcd qHO491)) (zcd qHO497)) (zak (bs1 GE462.out))); have n6_ := Aside0.mk (jbb BK462.out hb); have n7_ := Aside0.mk (zab (bs1 GE462.out) hb); clear qHO470 HO470; clear qHO473 HO473; clear qHO485 HO485; clear qHO491 HO491; clear qHO497 HO497; clear BK462 HB; have HO470 := n0_; have HO473 := n1_; have HO485 := n2_; have HO491 := n3_; have HO497 := n4_; have HO500 := n5_; have BK462 := n6_; have HB := n7_; clear n0_ n1_ n2_ n3_ n4_ n5_ n6_ n7_; clear hb ho0; obtain ⟨Ao44, co44, eo44⟩ := zbm HO500.out; subst eo44) | ((with_reducible refine zcc (b := .append) (xs := #[.tmp 47, .tmp 50]) rfl ?_); at_builtin; refine zef (Kd.int .u8) (w0 := w) w.heap.size rfl (.tmp 47) (.tmp 50) 29 5 (.int .u8 0) 1 rfl Try.underlying29 info5 rfl (by decide) (by omega) (.slice Ao41 y495.length co41) y495 t498 _ _ _ (fun k_ => some k_ ≠ (v469 : Value).ownBlock ∧ some k_ ≠ (.slice Ao28 y471.length co28 : Value).ownBlock ∧ some k_ ≠ (.slice Ao34 t483.length co34 : Value).ownBlock ∧ some k_ ≠ (.slice Ao38 t489.length co38 : Value).ownBlock ∧ some k_ ≠ (.slice Ao44 t498.length co44 : Value).ownBlock) (fun _ => False) rfl rfl ?aO ?aR (fun _ _ h => h) (fun _ h => h.elim) ?aF ?aB ?aS ?aL ?_; (case aR => repeat (first | exact (zbq HO500.out).2.2 | (with_reducible first | apply zcv | apply zdi | apply zdu))); (case aB => exact (bs1 GE462.out)); (case aF => exact (fun k_ hk => ⟨zdn (zcd (pR HO470.out)) k_ hk, zdn (zcd (pR HO473.out)) k_ hk, zdn (zcd (pR HO485.out)) k_ hk, zdn (zcd (pR HO491.out)) k_ hk, zdn (zcd (pR HO500.out)) k_ hk⟩)); (case aO => exact (by (with_reducible repeat (first | apply zbo | apply zbp | apply zbs)); exact zav HO497.out (fun _ hk => ⟨hk.1.1, ⟨hk.1.2.1, ⟨hk.1.2.2.1, ⟨hk.1.2.2.2, hk.2⟩⟩⟩⟩))); (case aS => exact (zak (bs1 GE462.out))); (case aL => have := LMc15.out; omega); intro v502 w43 ho hb hg hat; rw [← Ny501.out] at ho; have n_ := jA8 (zei (pB BK462.out) hg (zfn HO497.out BK462.out (by decide))) (zdg (ok := (fun k_ => some k_ ≠ (.slice Ao28 y471.length co28 : Value).ownBlock ∧ some k_ ≠ (.slice Ao34 t483.length co34 : Value).ownBlock ∧ some k_ ≠ (.slice Ao38 t489.length co38 : Value).ownBlock ∧ some k_ ≠ (.slice Ao44 t498.length co44 : Value).ownBlock)) (by (with_reducible repeat (first | apply zbo | apply zbp | apply zbs)); exact zav HO470.out (fun _ hk => ⟨⟨hk.1.1.1, ⟨hk.1.1.2.1, ⟨hk.1.1.2.2, hk.2⟩⟩⟩, hk.1.2⟩)) hg hat) (zdg (ok := (fun k_ => some k_ ≠ (v469 : Value).ownBlock ∧ some k_ ≠ (.slice Ao34 t483.length co34 : Value).ownBlock ∧ some k_ ≠ (.slice Ao38 t489.length co38 : Value).ownBlock ∧ some k_ ≠ (.slice Ao44 t498.length co44 : Value).ownBlock)) (by (with_reducible repeat (first | apply zbo | apply zbp | apply zbs)); exact zav HO473.out (fun _ hk => ⟨⟨hk.1.1.1, ⟨hk.1.1.2.1, ⟨hk.1.1.2.2, hk.2⟩⟩⟩, hk.1.2⟩)) hg hat) (zdg (ok := (fun k_ => some k_ ≠ (v469 : Value).ownBlock ∧ some k_ ≠ (.slice Ao28 y471.length co28 : Value).ownBlock ∧ some k_ ≠ (.slice Ao38 t489.length co38 : Value).ownBlock ∧ some k_ ≠ (.slice Ao44 t498.length co44 : Value).ownBlock)) (by (with_reducible repeat (first | apply zbo | apply zbp | apply zbs)); exact zav HO485.out (fun _ hk => ⟨⟨hk.1.1.1, ⟨hk.1.1.2.1, ⟨hk.1.1.2.2, hk.2⟩⟩⟩, hk.1.2⟩)) hg hat) (zdg (ok := (fun k_ => some k_ ≠ (v469 : Value).ownBlock ∧ some k_ ≠ (.slice Ao28 y471.length co28 : Value).ownBlock ∧ some k_ ≠ (.slice Ao34 t483.length co34 : Value).ownBlock ∧ some k_ ≠ (.slice Ao44 t498.length co44 : Value).ownBlock)) (by (with_reducible repeat (first | apply zbo | apply zbp | apply zbs)); exact zav HO491.out (fun _ hk => ⟨⟨hk.1.1.1, ⟨hk.1.1.2.1, ⟨hk.1.1.2.2, hk.2⟩⟩⟩, hk.1.2⟩)) hg hat) (zdg (ok := (fun k_ => some k_ ≠ (v469 : Value).ownBlock ∧ some k_ ≠ (.slice Ao28 y471.length co28 : Value).ownBlock ∧ some k_ ≠ (.slice Ao34 t483.length co34 : Value).ownBlock ∧ some k_ ≠ (.slice Ao38 t489.length co38 : Value).ownBlock)) (by (with_reducible repeat (first | apply zbo | apply zbp | apply zbs)); exact zav HO500.out (fun _ hk => ⟨⟨hk.1.1.1.1.2, ⟨hk.1.1.1.2, ⟨hk.1.1.2, hk.1.2⟩⟩⟩, hk.2⟩)) hg hat) (hb) (ho); clear BK462 HO470 HO473 HO485 HO491 HO500 HB HO497; obtain ⟨BK462, HO470, HO473, HO485, HO491, HO500, HB, HO503⟩ := n_; clear ho hb hg hat) | (refine jgd 23 ?_; refine Kd.R_lit (Kd.int .u8) _ 5 ?hg (N := 23) ?hd (xs := ([(a0_0) % 256] : List Int)) (inner := [.int .u8 ((a0_0) % 256)]) (ok := fun _ => True) (okp := fun _ => True) ?hr ?hp (fun _ hk => hk) trivial (zbk _ _) (zaf _) (by simp) ?_; (case hd => rfl); (case hg => rfl); (case hr => first | (go_simp; done) | (go_simp; rfl)); (case hp => exact (Reps.one (show Kd.M (Kd.int .u8) _ _ _ ((a0_0) % 256) [.int .u8 ((a0_0) % 256)] from rfl) (Reps.none _ _))); intro v505 w_ ho61 hb hg_ hnew_; clear hg_ hnew_; (first | rw [← Ny504.out] at ho61 | (simp only [Int.reduceToNat] at ho61; rw [← Ny504.out] at ho61)); have qHO470 := Kd.R_ofs (pR HO470.out) hb; have n_ := jA4 (zbr qHO470 (zbe ho61) hb) (zbc (zcz ho61 (zcd qHO470)) (zak (bs1 GE462.out))) (jbb BK462.out hb) (zab (bs1 GE462.out) hb); clear qHO470 HO470 BK462 HB; obtain ⟨HO470, HO506, BK462, HB⟩ := n_; clear hb ho61; obtain ⟨Ao63, co63, eo63⟩ := zbm HO470.out; subst eo63) | ((with_reducible refine zcc (b := .append) (xs := #[.tmp 23, .tmp 24]) rfl ?_); at_builtin; refine zef (Kd.int .u8) (w0 := w) w.heap.size rfl (.tmp 23) (.tmp 24) 29 5 (.int .u8 0) 1 rfl Try.underlying29 info5 rfl (by decide) (by omega) v505 y504 t467 _ _ _ (fun k_ => some k_ ≠ (.slice Ao63 t467.length co63 : Value).ownBlock) (fun _ => False) rfl rfl ?aO ?aR (fun _ _ h => h) (fun _ h => h.elim) ?aF ?aB ?aS ?aL ?_; (case aR => repeat (first | exact (zbq HO470.out).2.2 | (with_reducible first | apply zcv | apply zdi | apply zdu))); (case aB => exact (bs1 GE462.out)); (case aF => exact (fun k_ hk => zdn (zcd (pR HO470.out)) k_ hk)); (case aO => exact (by (with_reducible repeat (first | apply zbo | apply zbp | apply zbs)); exact zav HO506.out (fun _ hk => hk.2))); (case aS => exact (zak (bs1 GE462.out))); (case aL => have := LMc45.out; omega); intro v508 w62 ho hb hg hat; rw [← Ny507.out] at ho; have n_ := jA4 (zei (pB BK462.out) hg (zfn HO506.out BK462.out (by decide))) (zdg (ok := (fun _ => True)) (pR HO470.out) hg hat) (hb) (ho); clear BK462 HO470 HB HO506; obtain ⟨BK462, HO470, HB, HO509⟩ := n_; clear ho hb hg hat; obtain ⟨c0, c1, c2, c3, c4, z0, z1, z2, z3, z4⟩ := cz5 BK462.out) | ((with_reducible refine zcc (b := .append) (xs := #[.tmp 26, .tmp 30]) rfl ?_); at_builtin; refine Kd.R_append (Kd.int .u8) (w0 := w) w.heap.size rfl (.tmp 26) (.tmp 30) 29 5 (.int .u8 0) 1 rfl Try.underlying29 info5 rfl (by decide) (by omega) v508 y507 ((a0_2) % 256) [.int .u8 ((a0_2) % 256)] (fun k_ => some k_ ≠ (.slice Ao63 t467.length co63 : Value).ownBlock) (fun _ => False) rfl rfl ?aP (fun _ hk => hk.elim) ?aF ?aO ?aB ?aS ?aL ?_; (case aP => exact rfl); (case aB => exact (bs1 GE462.out)); (case aF => exact (fun k_ hk => zdn (zcd (pR HO470.out)) k_ hk)); (case aO => exact (pR HO509.out)); (case aS => exact (zak (bs1 GE462.out))); (case aL => have := LMc46.out; omega); intro v511 w65 ho hb hg hat; rw [← Ny510.out] at ho; have n_ := jA4 (zei (pB BK462.out) hg (zfn HO509.out BK462.out (by decide))) (zdg (ok := (fun _ => True)) (pR HO470.out) hg hat) (hb) (ho); clear BK462 HO470 HB HO509; obtain ⟨BK462, HO470, HB, HO512⟩ := n_; clear ho hb hg hat; obtain ⟨c0, c1, c2, c3, c4, z0, z1, z2, z3, z4⟩ := cz5 BK462.out) | (refine jgc 107 ?_; refine jgs 35 Try.func107 #[.int .i64 a0_3, .int .i64 4] ?_; (with_reducible refine (spec_Great.calls k a0_3 4 t513 _ A47.out).mono ?_); rintro e w_ ⟨v514, rfl, ho0, hb⟩; refine ⟨_, rfl, ?_⟩; have qHO470 := Kd.R_ofs (pR HO470.out) hb; have n0_ := Aside0.mk (zbr qHO470 (zbe ho0) hb); have qHO512 := Kd.R_ofs (pR HO512.out) hb; have n1_ := Aside0.mk (zbr qHO512 (zbe ho0) hb); have n2_ := Aside0.mk (zbc (zcz (zcz ho0 (zcd qHO470)) (zcd qHO512)) (zak (bs1 GE462.out))); have n3_ := Aside0.mk (jbb BK462.out hb); have n4_ := Aside0.mk (zab (bs1 GE462.out) hb); clear qHO470 HO470; clear qHO512 HO512; clear BK462 HB; have HO470 := n0_; have HO512 := n1_; have HO515 := n2_; have BK462 := n3_; have HB := n4_; clear n0_ n1_ n2_ n3_ n4_; clear hb ho0; obtain ⟨Ao69, co69, eo69⟩ := zbm HO515.out; subst eo69) | ((with_reducible refine zcc (b := .append) (xs := #[.tmp 32, .tmp 35]) rfl ?_); at_builtin; refine zef (Kd.int .u8) (w0 := w) w.heap.size rfl (.tmp 32) (.tmp 35) 29 5 (.int .u8 0) 1 rfl Try.underlying29 info5 rfl (by decide) (by omega) v511 y510 t513 _ _ _ (fun k_ => some k_ ≠ (.slice Ao63 t467.length co63 : Value).ownBlock ∧ some k_ ≠ (.slice Ao69 t513.length co69 : Value).ownBlock) (fun _ => False) rfl rfl ?aO ?aR (fun _ _ h => h) (fun _ h => h.elim) ?aF ?aB ?aS ?aL ?_; (case aR => repeat (first | exact (zbq HO515.out).2.2 | (with_reducible first | apply zcv | apply zdi | apply zdu))); (case aB => exact (bs1 GE462.out)); (case aF => exact (fun k_ hk => ⟨zdn (zcd (pR HO470.out)) k_ hk, zdn (zcd (pR HO515.out)) k_ hk⟩)); (case aO => exact (pR HO512.out)); (case aS => exact (zak (bs1 GE462.out))); (case aL => have := LMc48.out; omega); intro v517 w68 ho hb hg hat; rw [← Ny516.out] at ho; have n_ := jA5 (zei (pB BK462.out) hg (zfn HO512.out BK462.out (by decide))) (zdg (ok := (fun k_ => some k_ ≠ (.slice Ao69 t513.length co69 : Value).ownBlock)) (by (with_reducible repeat (first | apply zbo | apply zbp | apply zbs)); exact zav HO470.out (fun _ hk => ⟨hk.2, hk.1.2⟩)) hg hat) (zdg (ok := (fun k_ => some k_ ≠ (.slice Ao63 t467.length co63 : Value).ownBlock)) (by (with_reducible repeat (first | apply zbo | apply zbp | apply zbs)); exact zav HO515.out (fun _ hk => ⟨hk.1.2, hk.2⟩)) hg hat) (hb) (ho); clear BK462 HO470 HO515 HB HO512; obtain ⟨BK462, HO470, HO515, HB, HO518⟩ := n_; clear ho hb hg hat; obtain ⟨c0, c1, c2, c3, c4, z0, z1, z2, z3, z4⟩ := cz5 BK462.out) | (refine jgc 107 ?_; refine jgs 41 Try.func107 #[.int .i64 (l0_4.length : Int), .int .i64 2] ?_; (with_reducible refine (spec_Great.calls k (l0_4.length : Int) 2 t519 _ A49.out).mono ?_); rintro e w_ ⟨v520, rfl, ho0, hb⟩; refine ⟨_, rfl, ?_⟩; have qHO470 := Kd.R_ofs (pR HO470.out) hb; have n0_ := Aside0.mk (zbr qHO470 (zbe ho0) hb); have qHO515 := Kd.R_ofs (pR HO515.out) hb; have n1_ := Aside0.mk (zbr qHO515 (zbe ho0) hb); have qHO518 := Kd.R_ofs (pR HO518.out) hb; have n2_ := Aside0.mk (zbr qHO518 (zbe ho0) hb); have n3_ := Aside0.mk (zbc (zcz (zcz (zcz ho0 (zcd qHO470)) (zcd qHO515)) (zcd qHO518)) (zak (bs1 GE462.out))); have n4_ := Aside0.mk (jbb BK462.out hb); have n5_ := Aside0.mk (zab (bs1 GE462.out) hb); clear qHO470 HO470; clear qHO515 HO515; clear qHO518 HO518; clear BK462 HB; have HO470 := n0_; have HO515 := n1_; have HO518 := n2_; have HO521 := n3_; have BK462 := n4_; have HB := n5_; clear n0_ n1_ n2_ n3_ n4_ n5_; clear hb ho0; obtain ⟨Ao73, co73, eo73⟩ := zbm HO521.out; subst eo73) | ((with_reducible refine zcc (b := .append) (xs := #[.tmp 37, .tmp 41]) rfl ?_); at_builtin; refine zef (Kd.int .u8) (w0 := w) w.heap.size rfl (.tmp 37) (.tmp 41) 29 5 (.int .u8 0) 1 rfl Try.underlying29 info5 rfl (by decide) (by omega) v517 y516 t519 _ _ _ (fun k_ => some k_ ≠ (.slice Ao63 t467.length co63 : Value).ownBlock ∧ some k_ ≠ (.slice Ao69 t513.length co69 : Value).ownBlock ∧ some k_ ≠ (.slice Ao73 t519.length co73 : Value).ownBlock) (fun _ => False) rfl rfl ?aO ?aR (fun _ _ h => h) (fun _ h => h.elim) ?aF ?aB ?aS ?aL ?_; (case aR => repeat (first | exact (zbq HO521.out).2.2 | (with_reducible first | apply zcv | apply zdi | apply zdu))); (case aB => exact (bs1 GE462.out)); (case aF => exact (fun k_ hk => ⟨zdn (zcd (pR HO470.out)) k_ hk, zdn (zcd (pR HO515.out)) k_ hk, zdn (zcd (pR HO521.out)) k_ hk⟩)); (case aO => exact (by (with_reducible repeat (first | apply zbo | apply zbp | apply zbs)); exact zav HO518.out (fun _ hk => ⟨hk.1.1, ⟨hk.1.2, hk.2⟩⟩))); (case aS => exact (zak (bs1 GE462.out))); (case aL => have := LMc50.out; omega); intro v523 w72 ho hb hg hat; rw [← Ny522.out] at ho; have n_ := jA6 (zei (pB BK462.out) hg (zfn HO518.out BK462.out (by decide))) (zdg (ok := (fun k_ => some k_ ≠ (.slice Ao69 t513.length co69 : Value).ownBlock ∧ some k_ ≠ (.slice Ao73 t519.length co73 : Value).ownBlock)) (by (with_reducible repeat (first | apply zbo | apply zbp | apply zbs)); exact zav HO470.out (fun _ hk => ⟨⟨hk.1.1, hk.2⟩, hk.1.2⟩)) hg hat) (zdg (ok := (fun k_ => some k_ ≠ (.slice Ao63 t467.length co63 : Value).ownBlock ∧ some k_ ≠ (.slice Ao73 t519.length co73 : Value).ownBlock)) (by (with_reducible repeat (first | apply zbo | apply zbp | apply zbs)); exact zav HO515.out (fun _ hk => ⟨⟨hk.1.1, hk.2⟩, hk.1.2⟩)) hg hat) (zdg (ok := (fun k_ => some k_ ≠ (.slice Ao63 t467.length co63 : Value).ownBlock ∧ some k_ ≠ (.slice Ao69 t513.length co69 : Value).ownBlock)) (by (with_reducible repeat (first | apply zbo | apply zbp | apply zbs)); exact zav HO521.out (fun _ hk => ⟨⟨hk.1.1.2, hk.1.2⟩, hk.2⟩)) hg hat) (hb) (ho); clear BK462 HO470 HO515 HO521 HB HO518; obtain ⟨BK462, HO470, HO515, HO521, HB, HO524⟩ := n_; clear ho hb hg hat; obtain ⟨c0, c1, c2, c3, c4, z0, z1, z2, z3, z4⟩ := cz5 BK462.out) | ((with_reducible refine zcc (b := .append) (xs := #[.tmp 43, .tmp 45]) rfl ?_); at_builtin; refine zef (Kd.int .u8) (w0 := w) w.heap.size rfl (.tmp 43) (.tmp 45) 29 5 (.int .u8 0) 1 rfl Try.underlying29 info5 rfl (by decide) (by omega) v523 y522 l0_4 _ _ _ (fun k_ => some k_ ≠ (.slice Ao63 t467.length co63 : Value).ownBlock ∧ some k_ ≠ (.slice Ao69 t513.length co69 : Value).ownBlock ∧ some k_ ≠ (.slice Ao73 t519.length co73 : Value).ownBlock) (fun _ => False) rfl rfl ?aO ?aR (fun _ _ h => h) (fun _ h => h.elim) ?aF ?aB ?aS ?aL ?_; (case aR => exact jcs HR0_4.out); (case aB => exact (bs1 GE462.out)); (case aF => exact (fun k_ hk => ⟨zdn (zcd (pR HO470.out)) k_ hk, zdn (zcd (pR HO515.out)) k_ hk, zdn (zcd (pR HO521.out)) k_ hk⟩)); (case aO => exact (pR HO524.out)); (case aS => exact (zak (bs1 GE462.out))); (case aL => have := LMc51.out; omega); intro v526 w75 ho hb hg hat; rw [← Ny525.out] at ho; have n_ := jA6 (zei (pB BK462.out) hg (zfn HO524.out BK462.out (by decide))) (zdg (ok := (fun k_ => some k_ ≠ (.slice Ao69 t513.length co69 : Value).ownBlock ∧ some k_ ≠ (.slice Ao73 t519.length co73 : Value).ownBlock)) (pR HO470.out) hg hat) (zdg (ok := (fun k_ => some k_ ≠ (.slice Ao63 t467.length co63 : Value).ownBlock ∧ some k_ ≠ (.slice Ao73 t519.length co73 : Value).ownBlock)) (pR HO515.out) hg hat) (zdg (ok := (fun k_ => some k_ ≠ (.slice Ao63 t467.length co63 : Value).ownBlock ∧ some k_ ≠ (.slice Ao69 t513.length co69 : Value).ownBlock)) (pR HO521.out) hg hat) (hb) (ho); clear BK462 HO470 HO515 HO521 HB HO524; obtain ⟨BK462, HO470, HO515, HO521, HB, HO527⟩ := n_; clear ho hb hg hat; obtain ⟨Ao76, co76, eo76⟩ := zbm HO527.out; subst eo76) | (refine jgc 107 ?_; refine jgs 50 Try.func107 #[.int .i64 (y525.length : Int), .int .i64 2] ?_; (with_reducible refine (spec_Great.calls k (y525.length : Int) 2 t528 _ A52.out).mono ?_); rintro e w_ ⟨v529, rfl, ho0, hb⟩; refine ⟨_, rfl, ?_⟩; have qHO470 := Kd.R_ofs (pR HO470.out) hb; have n0_ := Aside0.mk (zbr qHO470 (zbe ho0) hb); have qHO515 := Kd.R_ofs (pR HO515.out) hb; have n1_ := Aside0.mk (zbr qHO515 (zbe ho0) hb); have qHO521 := Kd.R_ofs (pR HO521.out) hb; have n2_ := Aside0.mk (zbr qHO521 (zbe ho0) hb); have qHO527 := Kd.R_ofs (pR HO527.out) hb; have n3_ := Aside0.mk (zbr qHO527 (zbe ho0) hb); have n4_ := Aside0.mk (zbc (zcz (zcz (zcz (zcz ho0 (zcd qHO470)) (zcd qHO515)) (zcd qHO521)) (zcd qHO527)) (zak (bs1 GE462.out))); have n5_ := Aside0.mk (jbb BK462.out hb); have n6_ := Aside0.mk (zab (bs1 GE462.out) hb); clear qHO470 HO470; clear qHO515 HO515; clear qHO521 HO521; clear qHO527 HO527; clear BK462 HB; have HO470 := n0_; have HO515 := n1_; have HO521 := n2_; have HO527 := n3_; have HO530 := n4_; have BK462 := n5_; have HB := n6_; clear n0_ n1_ n2_ n3_ n4_ n5_ n6_; clear hb ho0; obtain ⟨Ao79, co79, eo79⟩ := zbm HO530.out; subst eo79) | ((with_reducible refine zcc (b := .append) (xs := #[.tmp 47, .tmp 50]) rfl ?_); at_builtin; refine zef (Kd.int .u8) (w0 := w) w.heap.size rfl (.tmp 47) (.tmp 50) 29 5 (.int .u8 0) 1 rfl Try.underlying29 info5 rfl (by decide) (by omega) (.slice Ao76 y525.length co76) y525 t528 _ _ _ (fun k_ => some k_ ≠ (.slice Ao63 t467.length co63 : Value).ownBlock ∧ some k_ ≠ (.slice Ao69 t513.length co69 : Value).ownBlock ∧ some k_ ≠ (.slice Ao73 t519.length co73 : Value).ownBlock ∧ some k_ ≠ (.slice Ao79 t528.length co79 : Value).ownBlock) (fun _ => False) rfl rfl ?aO ?aR (fun _ _ h => h) (fun _ h => h.elim) ?aF ?aB ?aS ?aL ?_; (case aR => repeat (first | exact (zbq HO530.out).2.2 | (with_reducible first | apply zcv | apply zdi | apply zdu))); (case aB => exact (bs1 GE462.out)); (case aF => exact (fun k_ hk => ⟨zdn (zcd (pR HO470.out)) k_ hk, zdn (zcd (pR HO515.out)) k_ hk, zdn (zcd (pR HO521.out)) k_ hk, zdn (zcd (pR HO530.out)) k_ hk⟩)); (case aO => exact (by (with_reducible repeat (first | apply zbo | apply zbp | apply zbs)); exact zav HO527.out (fun _ hk => ⟨hk.1.1, ⟨hk.1.2.1, ⟨hk.1.2.2, hk.2⟩⟩⟩))); (case aS => exact (zak (bs1 GE462.out))); (case aL => have := LMc53.out; omega); intro v532 w78 ho hb hg hat; rw [← Ny531.out] at ho; have n_ := jA7 (zei (pB BK462.out) hg (zfn HO527.out BK462.out (by decide))) (zdg (ok := (fun k_ => some k_ ≠ (.slice Ao69 t513.length co69 : Value).ownBlock ∧ some k_ ≠ (.slice Ao73 t519.length co73 : Value).ownBlock ∧ some k_ ≠ (.slice Ao79 t528.length co79 : Value).ownBlock)) (by (with_reducible repeat (first | apply zbo | apply zbp | apply zbs)); exact zav HO470.out (fun _ hk => ⟨⟨hk.1.1.1, ⟨hk.1.1.2, hk.2⟩⟩, hk.1.2⟩)) hg hat) (zdg (ok := (fun k_ => some k_ ≠ (.slice Ao63 t467.length co63 : Value).ownBlock ∧ some k_ ≠ (.slice Ao73 t519.length co73 : Value).ownBlock ∧ some k_ ≠ (.slice Ao79 t528.length co79 : Value).ownBlock)) (by (with_reducible repeat (first | apply zbo | apply zbp | apply zbs)); exact zav HO515.out (fun _ hk => ⟨⟨hk.1.1.1, ⟨hk.1.1.2, hk.2⟩⟩, hk.1.2⟩)) hg hat) (zdg (ok := (fun k_ => some k_ ≠ (.slice Ao63 t467.length co63 : Value).ownBlock ∧ some k_ ≠ (.slice Ao69 t513.length co69 : Value).ownBlock ∧ some k_ ≠ (.slice Ao79 t528.length co79 : Value).ownBlock)) (by (with_reducible repeat (first | apply zbo | apply zbp | apply zbs)); exact zav HO521.out (fun _ hk => ⟨⟨hk.1.1.1, ⟨hk.1.1.2, hk.2⟩⟩, hk.1.2⟩)) hg hat) (zdg (ok := (fun k_ => some k_ ≠ (.slice Ao63 t467.length co63 : Value).ownBlock ∧ some k_ ≠ (.slice Ao69 t513.length co69 : Value).ownBlock ∧ some k_ ≠ (.slice Ao73 t519.length co73 : Value).ownBlock)) (by (with_reducible repeat (first | apply zbo | apply zbp | apply zbs)); exact zav HO530.out (fun _ hk => ⟨⟨hk.1.1.1.2, ⟨hk.1.1.2, hk.1.2⟩⟩, hk.2⟩)) hg hat) (hb) (ho); clear BK462 HO470 HO515 HO521 HO530 HB HO527; obtain ⟨BK462, HO470, HO515, HO521, HO530, HB, HO533⟩ := n_; clear ho hb hg hat) | (refine jgd 9 ?_; refine jlt 9 (Kd.int .u8) 5 ?_; intro v465 w_ ho84 hb; (first | rw [← Ny464.out] at ho84 | (simp only [Int.reduceToNat] at ho84; rw [← Ny464.out] at ho84)); have n_ := jA3 (zbc ho84 (zak (bs1 GE462.out))) (jbb BK462.out hb) (zab (bs1 GE462.out) hb); clear BK462 HB; obtain ⟨HO466, BK462, HB⟩ := n_; clear hb ho84))
 go_ret
 first | (exact ⟨_, jex, tqR HO503.out, (bs1 GE462.out)⟩) | (exact ⟨_, jex, tqR HO533.out, (bs1 GE462.out)⟩) | (exact ⟨_, jex, by (with_reducible repeat (first | apply zbo | apply zbp | apply zbs)); exact HO466.out, (bs1 GE462.out)⟩)) : P := h
theorem spec_LineBytes.calls (k : Nat) (a0_0 : Int) (a0_1 : ByteArray) (a0_2 : Int) (a0_3 : Int) (A0_4 : Option Addr) (c0_4 : Nat) (l0_4 : List Int) (r : List Int) (w : World) (hr0_4 : Kd.C (Kd.int .u8) w A0_4 l0_4.length l0_4) (hc0_4 : l0_4.length ≤ c0_4) (h : spec_LineBytes.f k a0_0 a0_1 a0_2 a0_3 l0_4 = some r) :
  Calls Try.prog 48 #[.agg #[.int .i64 a0_0, .string a0_1, .int .i64 a0_2, .int .i64 a0_3, .slice A0_4 l0_4.length c0_4]] w fun e w' => ∃ v0_ : Value, e = .returned (v0_) ∧ Kd.R (Kd.int .u8) 5 w' w.heap.size (fun _ => True) v0_ r ∧ Below w.heap.size w w' := by
 have hu48 := Try.underlying48
 have HR0_4 := Aside0.mk hr0_4
 have HC0_4 := Aside0.mk hc0_4
 clear hr0_4 hc0_4
 have HB := Aside0.mk (zbk w.heap.size w)
 have H : ((spec_LineOk.f k a0_0 a0_1 a0_2 a0_3 l0_4).bind fun t463 => (if t463 = true then ((spec_Unhex.f k a0_1).bind fun bt467 => (if a0_0 = 3 then (if 8 ≤ 281474976710656 then ((some (List.replicate 8 0 : List Int)).bind fun y471 => ((some (([(a0_0) % 256] : List Int) : List Int)).bind fun y474 => (if y474.length + y471.length < 140737488355328 then ((some (y474 ++ y471 : List Int)).bind fun y477 => (if y477.length < 140737488355328 then ((some (y477 ++ [(a0_2) % 256] : List Int)).bind fun y480 => ((spec_Great.f k a0_3 4).bind fun t483 => (if y480.length + t483.length < 140737488355328 then ((some (y480 ++ t483 : List Int)).bind fun y486 => ((spec_Great.f k (l0_4.length : Int) 2).bind fun t489 => (if y486.length + t489.length < 140737488355328 then ((some (y486 ++ t489 : List Int)).bind fun y492 => (if y492.length + l0_4.length < 140737488355328 then ((some (y492 ++ l0_4 : List Int)).bind fun y495 => ((spec_Great.f k (y495.length : Int) 2).bind fun t498 => (if y495.length + t498.length < 140737488355328 then (some (y495 ++ t498)) else (none)))) else (none))) else (none)))) else (none)))) else (none))) else (none)))) else (none)) else ((some (([(a0_0) % 256] : List Int) : List Int)).bind fun y504 => (if y504.length + bt467.1.length < 140737488355328 then ((some (y504 ++ bt467.1 : List Int)).bind fun y507 => (if y507.length < 140737488355328 then ((some (y507 ++ [(a0_2) % 256] : List Int)).bind fun y510 => ((spec_Great.f k a0_3 4).bind fun t513 => (if y510.length + t513.length < 140737488355328 then ((some (y510 ++ t513 : List Int)).bind fun y516 => ((spec_Great.f k (l0_4.length : Int) 2).bind fun t519 => (if y516.length + t519.length < 140737488355328 then ((some (y516 ++ t519 : List Int)).bind fun y522 => (if y522.length + l0_4.length < 140737488355328 then ((some (y522 ++ l0_4 : List Int)).bind fun y525 => ((spec_Great.f k (y525.length : Int) 2).bind fun t528 => (if y525.length + t528.length < 140737488355328 then (some (y525 ++ t528)) else (none)))) else (none))) else (none)))) else (none)))) else (none))) else (none))))) else (some (([] : List Int))))) = some r := h
 clear h
 obtain ⟨t463, A2, H⟩ := bnd H
 by_cases c3 : t463 = true
 ·subst c3
  rw [if_pos rfl] at H
  obtain ⟨⟨t467, t468⟩, A4, H⟩ := bnd H
  try dsimp only at H
  by_cases c5 : a0_0 = 3
  ·rw [if_pos c5] at H
   have c5b0 := beqT c5
   have c5b1 := zau.mpr c5
   clear c5
   by_cases c6 : 8 ≤ 281474976710656
   ·rw [if_pos c6] at H
    have c6b0 := zbd c6
    have c6b1 := zae c6
    clear c6
    obtain ⟨y471, hy471⟩ : ∃ y_ : List Int, y_ = (List.replicate 8 0) := ⟨_, rfl⟩
    replace H := bto hy471 H
    have Ny471 := Aside0.mk hy471
    clear hy471
    obtain ⟨y474, hy474⟩ : ∃ y_ : List Int, y_ = (([(a0_0) % 256] : List Int)) := ⟨_, rfl⟩
    replace H := bto hy474 H
    have Ny474 := Aside0.mk hy474
    clear hy474
    by_cases c7 : y474.length + y471.length < 140737488355328
    ·rw [if_pos c7] at H
     have LMc7 := Aside0.mk c7
     clear c7
     obtain ⟨y477, hy477⟩ : ∃ y_ : List Int, y_ = (y474 ++ y471) := ⟨_, rfl⟩
     replace H := bto hy477 H
     have Ny477 := Aside0.mk hy477
     clear hy477
     by_cases c8 : y477.length < 140737488355328
     ·rw [if_pos c8] at H
      have LMc8 := Aside0.mk c8
      clear c8
      obtain ⟨y480, hy480⟩ : ∃ y_ : List Int, y_ = (y477 ++ [(a0_2) % 256]) := ⟨_, rfl⟩
      replace H := bto hy480 H
      have Ny480 := Aside0.mk hy480
      clear hy480
      obtain ⟨t483, A9, H⟩ := bnd H
      by_cases c10 : y480.length + t483.length < 140737488355328
      ·rw [if_pos c10] at H
       have LMc10 := Aside0.mk c10
       clear c10
       obtain ⟨y486, hy486⟩ : ∃ y_ : List Int, y_ = (y480 ++ t483) := ⟨_, rfl⟩
       replace H := bto hy486 H
       have Ny486 := Aside0.mk hy486
       clear hy486
       obtain ⟨t489, A11, H⟩ := bnd H
       by_cases c12 : y486.length + t489.length < 140737488355328
       ·rw [if_pos c12] at H
        have LMc12 := Aside0.mk c12
        clear c12
        obtain ⟨y492, hy492⟩ : ∃ y_ : List Int, y_ = (y486 ++ t489) := ⟨_, rfl⟩
        replace H := bto hy492 H
        have Ny492 := Aside0.mk hy492
        clear hy492
        by_cases c13 : y492.length + l0_4.length < 140737488355328
        ·rw [if_pos c13] at H
         have LMc13 := Aside0.mk c13
         clear c13
         obtain ⟨y495, hy495⟩ : ∃ y_ : List Int, y_ = (y492 ++ l0_4) := ⟨_, rfl⟩
         replace H := bto hy495 H
         have Ny495 := Aside0.mk hy495
         clear hy495
         obtain ⟨t498, A14, H⟩ := bnd H
         by_cases c15 : y495.length + t498.length < 140737488355328
         ·rw [if_pos c15] at H
          have LMc15 := Aside0.mk c15
          clear c15
          obtain ⟨y501, hy501⟩ : ∃ y_ : List Int, y_ = (y495 ++ t498) := ⟨_, rfl⟩
          replace H : (some y501) = some r := jrw hy501 H
          have Ny501 := Aside0.mk hy501
          clear hy501
          obtain rfl := Option.some.inj H
          exact spec_LineBytes.wk
         ·rw [if_neg c15] at H
          exact absurd H (by simp)
        ·rw [if_neg c13] at H
         exact absurd H (by simp)
       ·rw [if_neg c12] at H
        exact absurd H (by simp)
      ·rw [if_neg c10] at H
       exact absurd H (by simp)
     ·rw [if_neg c8] at H
      exact absurd H (by simp)
    ·rw [if_neg c7] at H
     exact absurd H (by simp)
   ·rw [if_neg c6] at H
    exact absurd H (by simp)
  ·rw [if_neg c5] at H
   have c5b0 := zao.mpr c5
   have c5b1 := zcs.mpr c5
   obtain ⟨y504, hy504⟩ : ∃ y_ : List Int, y_ = (([(a0_0) % 256] : List Int)) := ⟨_, rfl⟩
   replace H := bto hy504 H
   have Ny504 := Aside0.mk hy504
   clear hy504
   by_cases c45 : y504.length + t467.length < 140737488355328
   ·rw [if_pos c45] at H
    have LMc45 := Aside0.mk c45
    clear c45
    obtain ⟨y507, hy507⟩ : ∃ y_ : List Int, y_ = (y504 ++ t467) := ⟨_, rfl⟩
    replace H := bto hy507 H
    have Ny507 := Aside0.mk hy507
    clear hy507
    by_cases c46 : y507.length < 140737488355328
    ·rw [if_pos c46] at H
     have LMc46 := Aside0.mk c46
     clear c46
     obtain ⟨y510, hy510⟩ : ∃ y_ : List Int, y_ = (y507 ++ [(a0_2) % 256]) := ⟨_, rfl⟩
     replace H := bto hy510 H
     have Ny510 := Aside0.mk hy510
     clear hy510
     obtain ⟨t513, A47, H⟩ := bnd H
     by_cases c48 : y510.length + t513.length < 140737488355328
     ·rw [if_pos c48] at H
      have LMc48 := Aside0.mk c48
      clear c48
      obtain ⟨y516, hy516⟩ : ∃ y_ : List Int, y_ = (y510 ++ t513) := ⟨_, rfl⟩
      replace H := bto hy516 H
      have Ny516 := Aside0.mk hy516
      clear hy516
      obtain ⟨t519, A49, H⟩ := bnd H
      by_cases c50 : y516.length + t519.length < 140737488355328
      ·rw [if_pos c50] at H
       have LMc50 := Aside0.mk c50
       clear c50
       obtain ⟨y522, hy522⟩ : ∃ y_ : List Int, y_ = (y516 ++ t519) := ⟨_, rfl⟩
       replace H := bto hy522 H
       have Ny522 := Aside0.mk hy522
       clear hy522
       by_cases c51 : y522.length + l0_4.length < 140737488355328
       ·rw [if_pos c51] at H
        have LMc51 := Aside0.mk c51
        clear c51
        obtain ⟨y525, hy525⟩ : ∃ y_ : List Int, y_ = (y522 ++ l0_4) := ⟨_, rfl⟩
        replace H := bto hy525 H
        have Ny525 := Aside0.mk hy525
        clear hy525
        obtain ⟨t528, A52, H⟩ := bnd H
        by_cases c53 : y525.length + t528.length < 140737488355328
        ·rw [if_pos c53] at H
         have LMc53 := Aside0.mk c53
         clear c53
         obtain ⟨y531, hy531⟩ : ∃ y_ : List Int, y_ = (y525 ++ t528) := ⟨_, rfl⟩
         replace H : (some y531) = some r := jrw hy531 H
         have Ny531 := Aside0.mk hy531
         clear hy531
         obtain rfl := Option.some.inj H
         exact spec_LineBytes.wk
        ·rw [if_neg c53] at H
         exact absurd H (by simp)
       ·rw [if_neg c51] at H
        exact absurd H (by simp)
      ·rw [if_neg c50] at H
       exact absurd H (by simp)
     ·rw [if_neg c48] at H
      exact absurd H (by simp)
    ·rw [if_neg c46] at H
     exact absurd H (by simp)
   ·rw [if_neg c45] at H
    exact absurd H (by simp)
 ·replace c3 := zbn.mpr c3
  subst c3
  rw [if_neg (show ¬ (false = true) by decide)] at H
  obtain ⟨y464, hy464⟩ : ∃ y_ : List Int, y_ = (([] : List Int)) := ⟨_, rfl⟩
  replace H : (some y464) = some r := jrw hy464 H
  have Ny464 := Aside0.mk hy464
  clear hy464
  obtain rfl := Option.some.inj H
  exact spec_LineBytes.wk
end Go.Proofs.Ytlalkldjpniakaa.P
