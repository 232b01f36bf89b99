import Derived.Test.Ytlalkldjpniakaalo26
import Derived.Test.Ytlalkldjpniakaalo33
namespace Go.Proofs.Ytlalkldjpniakaa.P
open Go.RowKit Go.Proofs.YtlalkldjpniakaaW.PrintWords Go.Proofs.YtlalkldjpniakaaW.PrintLast Go.Proofs.YtlalkldjpniakaaW.PrintMore
attribute [local go_sem] zdk zdl zeh zei zcz zda zdm zdn   -- for this text's walks alone
set_option linter.unusedVariables false
set_option linter.unusedSimpArgs false

mutual
def impl_Little.j0 : Nat → Int → Int → Bool → Option (List Int)
 | 0, _, _, _ => none
 | k + 1, x0, x1, x12 => if x12 = true then (some ([] : List Int)) else (impl_Little.l0 k x0 (([] : List Int)) x1 0)
def impl_Little.l0 : Nat → Int → List Int → Int → Int → Option (List Int)
 | 0, _, _, _, _ => none
 | k + 1, x0, x5, x14, x15 => if x15 < x14 then (if x5.length < 140737488355328 then (impl_Little.l0 k (x0 / 256) (x5 ++ [(x0) % 256]) x14 (wrap64 (x15 + 1))) else (none)) else (some x5)
end
def impl_Little.f (k : Nat) (a0 : Int) (a1 : Int) : Option (List Int) := if a0 < 0 then (impl_Little.j0 k a0 a1 true) else ((impl_in.f a1 1 8).bind fun t542 => (impl_Little.j0 k a0 a1 (!t542)))
theorem impl_Little.mono_l : ∀ k, (∀ y0 y1 y2, LeO (impl_Little.j0 k y0 y1 y2) (impl_Little.j0 (k + 1) y0 y1 y2)) ∧ (∀ y0 y1 y2 y3, LeO (impl_Little.l0 k y0 y1 y2 y3) (impl_Little.l0 (k + 1) y0 y1 y2 y3))
 | 0 => ⟨fun _ _ _ r h => by simp [impl_Little.j0] at h, fun _ _ _ _ r h => by simp [impl_Little.l0] at h⟩
 | k + 1 => by
  obtain ⟨ih0, ih1⟩ := impl_Little.mono_l k
  refine ⟨?_, ?_⟩
  ·intro y0 y1 y2
   unfold impl_Little.j0
   repeat' first
   | (with_reducible exact ih0 _ _ _)
   | (with_reducible exact ih1 _ _ _ _)
   | (with_reducible exact zdd _)
   | (with_reducible exact zde _)
   | (with_reducible refine zdx ?_ ?_)
   | (with_reducible refine zdf ?_ (fun _ => ?_))
   | exact ih0 _ _ _
   | exact ih1 _ _ _ _
  ·intro y0 y1 y2 y3
   unfold impl_Little.l0
   repeat' first
   | (with_reducible exact ih0 _ _ _)
   | (with_reducible exact ih1 _ _ _ _)
   | (with_reducible exact zdd _)
   | (with_reducible exact zde _)
   | (with_reducible refine zdx ?_ ?_)
   | (with_reducible refine zdf ?_ (fun _ => ?_))
   | exact ih0 _ _ _
   | exact ih1 _ _ _ _
theorem impl_Little.mono : ∀ a0 a1 k, LeO (impl_Little.f k a0 a1) (impl_Little.f (k + 1) a0 a1) := by
 intro a0 a1 k
 obtain ⟨ih0, ih1⟩ := impl_Little.mono_l k
 unfold impl_Little.f
 repeat' first
   | (with_reducible exact ih0 _ _ _)
   | (with_reducible exact ih1 _ _ _ _)
   | (with_reducible exact zdd _)
   | (with_reducible exact zde _)
   | (with_reducible refine zdx ?_ ?_)
   | (with_reducible refine zdf ?_ (fun _ => ?_))
   | exact ih0 _ _ _
   | exact ih1 _ _ _ _
set_option maxHeartbeats 8000000 in
set_option maxRecDepth 100000 in
theorem impl_Little.calls (k : Nat) (a0 : Int) (a1 : Int) (r : List Int) (w : World) (h : impl_Little.f k a0 a1 = some r) :
  Calls Try.prog 140 #[.int .i64 a0, .int .i64 a1] w fun e w' => ∃ v0_ : Value, e = .returned (v0_) ∧ Kd.R (Kd.int .u8) 5 w' w.heap.size (fun _ => True) v0_ r ∧ Below w.heap.size w w' := by
 have HB := Aside0.mk (zbz w.heap.size w)
 have H : (if a0 < 0 then (impl_Little.j0 k a0 a1 true) else ((impl_in.f a1 1 8).bind fun t542 => (impl_Little.j0 k a0 a1 (!t542)))) = some r := h
 clear h
 have HC3 := Aside0.mk H
 clear H
 go_enter Try.func140, Try.ntmps140
 go_upto_region 1 with (fail)
 go_cut [12] (fun v12 wc => ∃ (kq : Nat) (x12_2 : Bool), v12 = .bool x12_2 ∧ Aside0 (impl_Little.j0 kq a0 a1 x12_2 = some r) ∧ Aside0 (kq ≤ k) ∧ Aside0 (Below w.heap.size w wc))
 case first =>
  have H := HC3.out
  clear HC3
  by_cases c4 : a0 < 0
  ·rw [if_pos c4] at H
   have c4b0 : decide (a0 < 0) = true := zay c4
   clear c4
   (first | rw [c4b0] | (simp only [i64_w, i32_w]; rw [c4b0]) | skip)
   have H' := Aside0.mk H
   clear H
   go_wp2
   go_meet
   case rel => exact ⟨_, (true), (by first | rfl | (simp; done) | (simp [*]; done)), H', ⟨by first | omega | exact zak _⟩, ⟨by repeat (first | (with_reducible first | exact HB.out | apply zad | apply zaa | apply zac) | exact HB.out)⟩⟩
  ·rw [if_neg c4] at H
   have c4b0 : decide (a0 < 0) = false := zbv c4
   clear c4
   (first | rw [c4b0] | (simp only [i64_w, i32_w]; rw [c4b0]) | skip)
   replace H := zaq.mp H
   obtain ⟨t542, A50, H⟩ := H
   try dsimp only at H
   have A5 := Aside0.mk A50
   clear A50
   have H' := Aside0.mk H
   clear H
   go_wp2_with (first | (go_at_call 91; (with_reducible refine (impl_in.calls a1 1 8 t542 _ A5.out).mono ?_); rintro e w' ⟨rfl, ⟨nd, rfl⟩⟩))
   go_meet
   case rel => exact ⟨_, (!t542), (by first | rfl | (simp; done) | (simp [*]; done)), H', ⟨by first | omega | exact zak _⟩, ⟨by repeat (first | (with_reducible first | exact HB.out | apply zad | apply zaa | apply zac) | exact HB.out)⟩⟩
 case rest =>
  clear HC3
  try clear c1
  try clear p2
  try clear c4
  try clear c4b0
  obtain ⟨kq, x12_2, rfl, HA, HJ2, HB⟩ := hcut
  cases kq with
  | zero => exact absurd HA.out (by simp [impl_Little.j0])
  | succ kj2 =>
   have H := HA.out
   clear HA
   simp only [impl_Little.j0] at H
   by_cases c6 : x12_2 = true
   ·subst c6
    have H1 : (some ([] : List Int)) = some r := by rw [if_pos rfl] at H; exact H
    clear H
    have H := H1
    clear H1
    obtain rfl := Option.some.inj H
    go_wp2
    go_ret
    exact ⟨_, by first | rfl | (simp [zaz, zba] <;> rfl) | (simp [*, zaz, zba] <;> rfl), by first | exact Kd.R_nil _ _ _ _ _ | exact Kd.N_nil _ _ _ _ _ | exact Kd.V_nil _ _ _ _ _ | exact Kd.Q_nil _ _ _ _ _ | exact Kd.S_nil _ _ _ _ _, by repeat (first | (with_reducible first | exact HB.out | apply zad | apply zaa | apply zac) | exact HB.out)⟩
   ·replace c6 := zcn.mpr c6
    subst c6
    have H1 : (impl_Little.l0 kj2 a0 (([] : List Int)) a1 0) = some r := by rw [if_neg (show ¬ (false = true) by decide)] at H; exact H
    clear H
    have H := H1
    clear H1
    obtain ⟨y543, hy543⟩ : ∃ y_ : List Int, y_ = (([] : List Int)) := ⟨_, rfl⟩
    replace H : (impl_Little.l0 kj2 a0 y543 a1 0) = some r := by first | (rw [hy543]; with_reducible first | exact H | exact bind_ofs H) | (with_reducible first | exact H | exact bind_ofs H) | (rw [hy543]; exact H) | exact H
    have Ny543 := Aside0.mk hy543
    clear hy543
    have H' := Aside0.mk H
    clear H
    go_wp2_with (first | ((with_reducible refine zbu (N := 13) rfl ?_); refine zfl (Kd.int .u8) _ 5 ?hg (N := 13) ?hd (xs := ([] : List Int)) (inner := []) (ok := fun _ => True) (okp := fun _ => True) ?hr ?hp (fun _ hk => hk) trivial (zbz _ _) (zak _) (by simp) ?_; (case hd => rfl); (case hg => rfl); (case hr => first | (go_simp; done) | (go_simp; rfl)); (case hp => exact (zej _ _)); intro v544 w7 ho8 hb hg_ hnew_; have xb_ := below_ofs (by repeat (first | (with_reducible first | exact HB.out | apply zad | apply zaa | apply zac) | exact HB.out)) hb; clear hg_ hnew_; (first | rw [← Ny543.out] at ho8 | (simp only [Int.reduceToNat] at ho8; rw [← Ny543.out] at ho8)); have n0_ := Aside0.mk (zca ho8 (zan xb_)); have n1_ := Aside0.mk (zat xb_ hb); clear HB; have HO545 := n0_; have HB := n1_; clear n0_ n1_; clear xb_ hb ho8))
    go_loopg [0, 5, 15] kj2 (fun kq v0 v5 v15 w' => ∃ (x0_2 : Int) (x5_2 : List Int) (x15_2 : Int), v0 = .int .i64 x0_2 ∧ v15 = .int .i64 x15_2 ∧ Aside0 (impl_Little.l0 kq x0_2 x5_2 a1 x15_2 = some r) ∧ Aside0 (kq ≤ kj2) ∧ Aside0 (Kd.R (Kd.int .u8) 5 w' w.heap.size (fun _ => True) v5 x5_2) ∧ Aside0 (Below w.heap.size w w'))
    case atStart => exact ⟨(a0), (y543), (0), (by first | rfl | (simp; done) | (simp [*]; done)), (by first | rfl | (simp; done) | (simp [*]; done)), H', ⟨zak _⟩, ⟨by (with_reducible repeat (first | apply zai | apply zaj | apply zam)); exact HO545.out⟩, ⟨by repeat (first | (with_reducible first | exact HB.out | apply zad | apply zaa | apply zac) | exact HB.out)⟩⟩
    case round =>
     clear H'
     try clear c1
     try clear p2
     try clear c4
     try clear c4b0
     try clear c6
     try clear p2
     obtain ⟨x0_2, x5_2, x15_2, rfl, rfl, HA, HK2, HO_5, HB⟩ := hrel
     cases gk with
     | zero => exact absurd HA.out (by simp [impl_Little.l0])
     | succ k2 =>
      have H := HA.out
      clear HA
      simp only [impl_Little.l0] at H
      by_cases c9 : x15_2 < a1
      ·rw [if_pos c9] at H
       have c9b0 : decide (x15_2 < a1) = true := zay c9
       clear c9
       by_cases c10 : x5_2.length < 140737488355328
       ·rw [if_pos c10] at H
        have LMc10 := Aside0.mk c10
        clear c10
        obtain ⟨y546, hy546⟩ : ∃ y_ : List Int, y_ = (x5_2 ++ [(x0_2) % 256]) := ⟨_, rfl⟩
        replace H : (impl_Little.l0 k2 (x0_2 / 256) y546 a1 (wrap64 (x15_2 + 1))) = some r := by first | (rw [hy546]; with_reducible first | exact H | exact bind_ofs H) | (with_reducible first | exact H | exact bind_ofs H) | (rw [hy546]; exact H) | exact H
        have Ny546 := Aside0.mk hy546
        clear hy546
        have H' := Aside0.mk H
        clear H
        go_wp2_with (first | ((with_reducible refine zdv (b := .append) (xs := #[.tmp 17, .tmp 20]) rfl ?_); at_builtin; refine Kd.R_append (Kd.int .u8) (w0 := w) w.heap.size rfl (.tmp 17) (.tmp 20) 29 5 (.int .u8 0) 1 rfl Try.underlying29 info5 rfl (by decide) (by omega) u5 x5_2 ((x0_2) % 256) [.int .u8 ((x0_2) % 256)] (fun _ => True) (fun _ => False) rfl rfl ?aP (fun _ hk => hk.elim) ?aF ?aO ?aB ?aS ?aL ?_; (case aP => exact rfl); (case aB => exact (by repeat (first | (with_reducible first | exact HB.out | apply zad | apply zaa | apply zac) | exact HB.out))); (case aF => exact (fun _ _ => trivial)); (case aO => exact (by (with_reducible repeat (first | apply zai | apply zaj | apply zam)); exact HO_5.out)); (case aS => exact (zan (by repeat (first | (with_reducible first | exact HB.out | apply zad | apply zaa | apply zac) | exact HB.out)))); (case aL => have := LMc10.out; omega); intro v547 w11 ho hb hg hat; rw [← Ny546.out] at ho; have n0_ := Aside0.mk (hb); have n1_ := Aside0.mk (ho); clear HB HO_5; have HB := n0_; have HO548 := n1_; clear n0_ n1_; clear ho hb hg hat))
        go_roundg k2
        case measure => have := HJ2.out; have := HK2.out; omega
        case rel => exact ⟨(x0_2 / 256), (y546), (wrap64 (x15_2 + 1)), (by first | rfl | (simp; done) | (simp [*]; done)), (by first | rfl | (simp; done) | (simp [*]; done)), H', ⟨by have := HJ2.out; have := HK2.out; omega⟩, ⟨by (with_reducible repeat (first | apply zai | apply zaj | apply zam)); exact HO548.out⟩, ⟨by repeat (first | (with_reducible first | exact HB.out | apply zad | apply zaa | apply zac) | exact HB.out)⟩⟩
       ·rw [if_neg c10] at H
        exact absurd H (by simp)
      ·rw [if_neg c9] at H
       have c9b0 : decide (x15_2 < a1) = false := zbv c9
       clear c9
       obtain rfl := Option.some.inj H
       go_wp2
       go_ret
       exact ⟨_, by first | rfl | (simp [zaz, zba] <;> rfl) | (simp [*, zaz, zba] <;> rfl), by (with_reducible repeat (first | apply zai | apply zaj | apply zam)); exact HO_5.out, by repeat (first | (with_reducible first | exact HB.out | apply zad | apply zaa | apply zac) | exact HB.out)⟩
def impl_Great.f (k : Nat) (a0 : Int) (a1 : Int) : Option (List Int) := (impl_Little.f k a0 a1).bind fun t549 => ((impl_turned.f k t549).bind fun t552 => (some t552))
theorem impl_Great.mono : ∀ a0 a1 k, LeO (impl_Great.f k a0 a1) (impl_Great.f (k + 1) a0 a1) := by
 intro a0 a1 k
 unfold impl_Great.f
 repeat' first
   | (with_reducible exact impl_Little.mono _ _ _)
   | (with_reducible exact impl_turned.mono _ _)
   | (with_reducible exact zdd _)
   | (with_reducible exact zde _)
   | (with_reducible refine zdx ?_ ?_)
   | (with_reducible refine zdf ?_ (fun _ => ?_))
set_option maxHeartbeats 8000000 in
set_option maxRecDepth 100000 in
theorem impl_Great.calls (k : Nat) (a0 : Int) (a1 : Int) (r : List Int) (w : World) (h : impl_Great.f k a0 a1 = some r) :
  Calls Try.prog 110 #[.int .i64 a0, .int .i64 a1] w fun e w' => ∃ v0_ : Value, e = .returned (v0_) ∧ Kd.R (Kd.int .u8) 5 w' w.heap.size (fun _ => True) v0_ r ∧ Below w.heap.size w w' := by
 have HB := Aside0.mk (zbz w.heap.size w)
 have H : ((impl_Little.f k a0 a1).bind fun t549 => ((impl_turned.f k t549).bind fun t552 => (some t552))) = some r := h
 clear h
 replace H := zaq.mp H
 obtain ⟨t549, A30, H⟩ := H
 try dsimp only at H
 have A3 := Aside0.mk A30
 clear A30
 replace H := zaq.mp H
 obtain ⟨t552, A40, H⟩ := H
 try dsimp only at H
 have A4 := Aside0.mk A40
 clear A40
 obtain rfl := Option.some.inj H
 go_enter Try.func110, Try.ntmps110
 go_wp2_with (first | ((with_reducible refine zbl (f := 140) rfl ?_); refine goesL_ (some 7) rfl rfl Try.func140 (by kernel_rfl) rfl #[.int .i64 a0, .int .i64 a1] rfl (by (try simp only [zav, zbd, zbh]); first | done | rfl) ?_; (with_reducible refine (impl_Little.calls k a0 a1 t549 _ A3.out).mono ?_); rintro e w5 ⟨v550, rfl, ho0, hb⟩; refine ⟨_, rfl, ?_⟩; have xb_ := below_ofs (by repeat (first | (with_reducible first | exact HB.out | apply zad | apply zaa | apply zac) | exact HB.out)) hb; have n0_ := Aside0.mk (zca ho0 (zan xb_)); have n1_ := Aside0.mk (zat xb_ hb); clear HB; have HO551 := n0_; have HB := n1_; clear n0_ n1_; clear xb_ hb ho0; obtain ⟨Ao6, co6, eo6⟩ := zcy HO551.out; subst eo6) | ((with_reducible refine zbl (f := 139) rfl ?_); refine goesL_ (some 8) rfl rfl Try.func139 (by kernel_rfl) rfl #[.slice Ao6 t549.length co6] rfl (by (try simp only [zav, zbd, zbh]); first | done | rfl) ?_; (with_reducible refine (impl_turned.calls k _ _ t549 t552 _ ?side1 ?side2 A4.out).mono ?_); (case side1 => repeat (first | exact (zbt HO551.out).2.2 | (with_reducible first | apply zcl | apply zcm | apply zcu))); (case side2 => exact (zbt HO551.out).2.1); rintro e w7 ⟨v553, rfl, ho0, hb⟩; refine ⟨_, rfl, ?_⟩; have xb_ := below_ofs (by repeat (first | (with_reducible first | exact HB.out | apply zad | apply zaa | apply zac) | exact HB.out)) hb; have qHO551 := Kd.R_ofs (by (with_reducible repeat (first | apply zai | apply zaj | apply zam)); exact HO551.out) hb; have n0_ := Aside0.mk (zbm qHO551 (zbw ho0) hb); have n1_ := Aside0.mk (zca (zcs ho0 (zco qHO551)) (zan xb_)); have n2_ := Aside0.mk (zat xb_ hb); clear qHO551 HO551; clear HB; have HO551 := n0_; have HO554 := n1_; have HB := n2_; clear n0_ n1_ n2_; clear xb_ hb ho0))
 go_ret
 exact ⟨_, by first | rfl | (simp [zaz, zba] <;> rfl) | (simp [*, zaz, zba] <;> rfl), by (with_reducible repeat (first | apply zai | apply zaj | apply zam)); exact zbg HO554.out (fun _ hk => trivial), by repeat (first | (with_reducible first | exact HB.out | apply zad | apply zaa | apply zac) | exact HB.out)⟩
end Go.Proofs.Ytlalkldjpniakaa.P
