import Derived.Test.YtienlgcjohpphaaM33
namespace Go.Proofs.Ytienlgcjohpphaa.P
open Go.RowKit Go.Proofs.YtienlgcjohpphaaW.PrintWords Go.Proofs.YtienlgcjohpphaaW.PrintLast Go.Proofs.YtienlgcjohpphaaW.PrintMore
attribute [local go_sem] zdd zde zdy zdz zcb zcc zdf zdg   -- for this text's walks alone
set_option linter.unusedVariables false
set_option linter.unusedSimpArgs false

def spec_l1DrawBytes.l0 : Nat → List Int → Int → Int → List Int → Int → Int → Option (List Int × Int × Int)
 | 0, _, _, _, _, _, _ => none
 | k + 1, x5, x6, x7, x1000, x1001, x1002 => if x7 < x6 then ((spec_l1Below.f x1000 x1001 x1002 256).bind fun bt546 => (if x5.length < 140737488355328 then (spec_l1DrawBytes.l0 k (x5 ++ [(bt546.1) % 256]) x6 (wrap64 (x7 + 1)) x1000 bt546.2.1 bt546.2.2) else (none))) else (some (x5, x1001, x1002))
def spec_l1DrawBytes.f (k : Nat) (s0_0 : List Int) (s0_1 : Int) (s0_2 : Int) (a1 : Int) : Option (List Int × Int × Int) := (spec_l1Below.f s0_0 s0_1 s0_2 (wrap64 (a1 + 1))).bind fun bt543 => (spec_l1DrawBytes.l0 k (([] : List Int)) bt543.1 0 s0_0 bt543.2.1 bt543.2.2)
theorem spec_l1DrawBytes.mono_l : ∀ k, (∀ y0 y1 y2 y3 y4 y5, LeO (spec_l1DrawBytes.l0 k y0 y1 y2 y3 y4 y5) (spec_l1DrawBytes.l0 (k + 1) y0 y1 y2 y3 y4 y5))
 | 0 => fun _ _ _ _ _ _ r h => by simp [spec_l1DrawBytes.l0] at h
 | k + 1 => by
  have ih0 := spec_l1DrawBytes.mono_l k
  ·intro y0 y1 y2 y3 y4 y5
   unfold spec_l1DrawBytes.l0
   repeat' first
   | (with_reducible exact ih0 _ _ _ _ _ _)
   | (with_reducible exact zcf _)
   | (with_reducible exact zcj _)
   | (with_reducible refine zdp ?_ ?_)
   | (with_reducible refine zcg ?_ (fun _ => ?_))
   | exact ih0 _ _ _ _ _ _
theorem spec_l1DrawBytes.mono : ∀ a0 a1 a2 a3 k, LeO (spec_l1DrawBytes.f k a0 a1 a2 a3) (spec_l1DrawBytes.f (k + 1) a0 a1 a2 a3) := by
 intro a0 a1 a2 a3 k
 have ih0 := spec_l1DrawBytes.mono_l k
 unfold spec_l1DrawBytes.f
 repeat' first
   | (with_reducible exact ih0 _ _ _ _ _ _)
   | (with_reducible exact zcf _)
   | (with_reducible exact zcj _)
   | (with_reducible refine zdp ?_ ?_)
   | (with_reducible refine zcg ?_ (fun _ => ?_))
   | exact ih0 _ _ _ _ _ _
set_option maxHeartbeats 8000000 in
set_option maxRecDepth 100000 in
theorem spec_l1DrawBytes.calls (k : Nat) (g : Nat) (s0_0 : List Int) (s0_1 : Int) (s0_2 : Int) (a1 : Int) (r1 : List Int) (r2 : Int) (r3 : Int) (w0 w : World) (hI : IsS85 w0 w g s0_0 s0_1 s0_2) (hB : Below w0.heap.size w0 w) (h : spec_l1DrawBytes.f k s0_0 s0_1 s0_2 a1 = some (r1, r2, r3)) :
  Calls Try.prog 96 #[.pointer (some ⟨g, 0, none⟩), .int .i64 a1] w fun e w' => ∃ v0_ : Value, e = .returned (v0_) ∧ Kd.R (Kd.int .u8) 5 w' w.heap.size (fun _ => True) v0_ r1 ∧ IsS85 w0 w' g s0_0 r2 r3 ∧ Below w0.heap.size w0 w' ∧ KeepBut w w' g none := by
 have HI0 := Aside0.mk hI
 have HK := Aside0.mk (KeepBut.refl w g none)
 have HL := Aside0.mk hB.size
 clear hI
 have HW0 := Aside0.mk hB.size
 have HB := Aside0.mk hB
 clear hB
 have H : ((spec_l1Below.f s0_0 s0_1 s0_2 (wrap64 (a1 + 1))).bind fun bt543 => (spec_l1DrawBytes.l0 k (([] : List Int)) bt543.1 0 s0_0 bt543.2.1 bt543.2.2)) = some (r1, r2, r3) := h
 clear h
 obtain ⟨y540, hy540⟩ : ∃ y_ : List Int, y_ = (([] : List Int)) := ⟨_, rfl⟩
 replace H : ((spec_l1Below.f s0_0 s0_1 s0_2 (wrap64 (a1 + 1))).bind fun bt543 => (spec_l1DrawBytes.l0 k y540 bt543.1 0 s0_0 bt543.2.1 bt543.2.2)) = some (r1, r2, r3) := by first | (rw [hy540]; with_reducible first | exact H | exact bind_ofs H) | (with_reducible first | exact H | exact bind_ofs H) | (rw [hy540]; exact H) | exact H
 have Ny540 := Aside0.mk hy540
 clear hy540
 replace H := zaj.mp H
 obtain ⟨⟨t543, t544, t545⟩, A30, H⟩ := H
 try dsimp only at H
 have A3 := Aside0.mk A30
 clear A30
 have H' := Aside0.mk H
 clear H
 go_enter Try.func96, Try.ntmps96
 go_wp2_with (first | ((with_reducible refine zdt (N := 8) rfl ?_); refine zen (Kd.int .u8) _ 5 ?hg (N := 8) ?hd (xs := ([] : List Int)) (inner := []) (ok := fun _ => True) (okp := fun _ => True) ?hr ?hp (fun _ hk => hk) zbw (zbq _ _) (zbi _) (by simp) ?_; (case hd => rfl); (case hg => rfl); (case hr => first | (go_simp; done) | (go_simp; rfl)); (case hp => exact (zdq _ _)); intro v541 w4 ho5 hb hg_ hnew_; clear hg_ hnew_; (first | rw [← Ny540.out] at ho5 | (simp only [Int.reduceToNat] at ho5; rw [← Ny540.out] at ho5)); have n0_ := Aside0.mk (zbj ho5 (keep_size (w := w) (g := g) (row := none) (by repeat (first | (with_reducible first | exact HK.out | apply zbx | apply zcd | apply zdk | apply zce) | exact HK.out)))); have n1_ := Aside0.mk (IsS85.below (by repeat (first | (with_reducible first | exact HI0.out | apply IsS85.alloc | apply IsS85.drewN | apply IsS85.drew | apply IsS85.set_1 | apply IsS85.set_2) | exact HI0.out)) hb); have n2_ := Aside0.mk (zdu (by repeat (first | (with_reducible first | exact HK.out | apply zbx | apply zcd | apply zdk | apply zce) | exact HK.out)) (KeepBut.of_below hb g none) (.inl rfl)); have n3_ := Aside0.mk (zbf (by repeat (first | (with_reducible first | exact HB.out | apply zai | apply zad | apply zah | refine zby ?_ (IsS85.ge HI0.out)) | exact HB.out)) hb); clear HI0 HK HB; have HO542 := n0_; have HI0 := n1_; have HK := n2_; have HB := n3_; clear n0_ n1_ n2_ n3_; clear hb ho5) | ((with_reducible refine zbc (f := 83) rfl ?_); refine goesL_ (some 12) rfl rfl Try.func83 (by kernel_rfl) rfl #[.pointer (some ⟨g, 0, none⟩), .int .i64 (wrap64 (a1 + 1))] rfl (by (try simp only [zap, zau, zav]); first | done | rfl) ?_; (with_reducible refine (spec_l1Below.calls g s0_0 s0_1 s0_2 (wrap64 (a1 + 1)) t543 t544 t545 w0 _ ?side1 ?side2 A3.out).mono ?_); (case side1 => repeat (first | (with_reducible first | exact HI0.out | apply IsS85.alloc | apply IsS85.drewN | apply IsS85.drew | apply IsS85.set_1 | apply IsS85.set_2) | exact HI0.out)); (case side2 => repeat (first | (with_reducible first | exact HB.out | apply zai | apply zad | apply zah | refine zby ?_ (IsS85.ge HI0.out)) | exact HB.out)); rintro e w6 ⟨rfl, hi, hb, hk⟩; refine ⟨_, rfl, ?_⟩; have n0_ := Aside0.mk (zbe (Kd.R_keep (IsS85.apart (show IsS85 w0 _ g s0_0 s0_1 s0_2 from by repeat (first | (with_reducible first | exact HI0.out | apply IsS85.alloc | apply IsS85.drewN | apply IsS85.drew | apply IsS85.set_1 | apply IsS85.set_2) | exact HI0.out)) (by (with_reducible repeat (first | apply zab | apply zac | apply zae)); exact HO542.out) (by decide)) hk (fun _ h => h.2)) (fun _ h => h.1)); have n1_ := Aside0.mk (zdu (by repeat (first | (with_reducible first | exact HK.out | apply zbx | apply zcd | apply zdk | apply zce) | exact HK.out)) hk (.inl rfl)); have n2_ := Aside0.mk (hb); have n3_ := Aside0.mk (hi); clear HO542 HK HB HI0; have HO542 := n0_; have HK := n1_; have HB := n2_; have HI0 := n3_; clear n0_ n1_ n2_ n3_; (try clear hb); (try clear hb2); (try clear hk); (try clear hi)))
 go_loopg [5, 7] k (fun kq v5 v7 w' => ∃ (x5_1 : List Int) (x7_1 : Int) (x1001_1 : Int) (x1002_1 : Int), v7 = .int .i64 x7_1 ∧ Aside0 (spec_l1DrawBytes.l0 kq x5_1 t543 x7_1 s0_0 x1001_1 x1002_1 = some (r1, r2, r3)) ∧ Aside0 (kq ≤ k) ∧ Aside0 (Kd.R (Kd.int .u8) 5 w' w.heap.size (fun _ => True) v5 x5_1) ∧ Aside0 (IsS85 w0 w' g s0_0 x1001_1 x1002_1) ∧ Aside0 (KeepBut w w' g none) ∧ Aside0 (Below w0.heap.size w0 w'))
 case atStart => exact ⟨(y540), (0), (t544), (t545), (by first | rfl | (simp; done) | (simp [*]; done)), H', ⟨zbi _⟩, ⟨by (with_reducible repeat (first | apply zab | apply zac | apply zae)); exact HO542.out⟩, ⟨by repeat (first | (with_reducible first | exact HI0.out | apply IsS85.alloc | apply IsS85.drewN | apply IsS85.drew | apply IsS85.set_1 | apply IsS85.set_2) | exact HI0.out)⟩, ⟨by repeat (first | (with_reducible first | exact HK.out | apply zbx | apply zcd | apply zdk | apply zce) | exact HK.out)⟩, ⟨by repeat (first | (with_reducible first | exact HB.out | apply zai | apply zad | apply zah | refine zby ?_ (IsS85.ge HI0.out)) | exact HB.out)⟩⟩
 case round =>
  clear H'
  try clear p2
  try clear p6
  obtain ⟨x5_1, x7_1, x1001_1, x1002_1, rfl, HA, HK1, HO_5, HI0, HK, HB⟩ := hrel
  cases gk with
  | zero => exact absurd HA.out (by simp [spec_l1DrawBytes.l0])
  | succ k1 =>
   have H := HA.out
   clear HA
   simp only [spec_l1DrawBytes.l0] at H
   by_cases c7 : x7_1 < t543
   ·rw [if_pos c7] at H
    have c7b0 : decide (x7_1 < t543) = true := zaq c7
    clear c7
    replace H := zaj.mp H
    obtain ⟨⟨t546, t547, t548⟩, A80, H⟩ := H
    try dsimp only at H
    have A8 := Aside0.mk A80
    clear A80
    by_cases c9 : x5_1.length < 140737488355328
    ·rw [if_pos c9] at H
     have LMc9 := Aside0.mk c9
     clear c9
     obtain ⟨y549, hy549⟩ : ∃ y_ : List Int, y_ = (x5_1 ++ [(t546) % 256]) := ⟨_, rfl⟩
     replace H : (spec_l1DrawBytes.l0 k1 y549 t543 (wrap64 (x7_1 + 1)) s0_0 t547 t548) = some (r1, r2, r3) := by first | (rw [hy549]; with_reducible first | exact H | exact bind_ofs H) | (with_reducible first | exact H | exact bind_ofs H) | (rw [hy549]; exact H) | exact H
     have Ny549 := Aside0.mk hy549
     clear hy549
     have H' := Aside0.mk H
     clear H
     go_wp2_with (first | ((with_reducible refine zbc (f := 83) rfl ?_); refine goesL_ (some 20) rfl rfl Try.func83 (by kernel_rfl) rfl #[.pointer (some ⟨g, 0, none⟩), .int .i64 256] rfl (by (try simp only [zap, zau, zav]); first | done | rfl) ?_; (with_reducible refine (spec_l1Below.calls g s0_0 x1001_1 x1002_1 256 t546 t547 t548 w0 _ ?side1 ?side2 A8.out).mono ?_); (case side1 => repeat (first | (with_reducible first | exact HI0.out | apply IsS85.alloc | apply IsS85.drewN | apply IsS85.drew | apply IsS85.set_1 | apply IsS85.set_2) | exact HI0.out)); (case side2 => repeat (first | (with_reducible first | exact HB.out | apply zai | apply zad | apply zah | refine zby ?_ (IsS85.ge HI0.out)) | exact HB.out)); rintro e w10 ⟨rfl, hi, hb, hk⟩; refine ⟨_, rfl, ?_⟩; have n0_ := Aside0.mk (zbe (Kd.R_keep (IsS85.apart (show IsS85 w0 _ g s0_0 x1001_1 x1002_1 from by repeat (first | (with_reducible first | exact HI0.out | apply IsS85.alloc | apply IsS85.drewN | apply IsS85.drew | apply IsS85.set_1 | apply IsS85.set_2) | exact HI0.out)) (by (with_reducible repeat (first | apply zab | apply zac | apply zae)); exact HO_5.out) (by decide)) hk (fun _ h => h.2)) (fun _ h => h.1)); have n1_ := Aside0.mk (zdu (by repeat (first | (with_reducible first | exact HK.out | apply zbx | apply zcd | apply zdk | apply zce) | exact HK.out)) hk (.inl rfl)); have n2_ := Aside0.mk (hb); have n3_ := Aside0.mk (hi); clear HO_5 HK HB HI0; have HO_5 := n0_; have HK := n1_; have HB := n2_; have HI0 := n3_; clear n0_ n1_ n2_ n3_; (try clear hb); (try clear hb2); (try clear hk); (try clear hi)) | ((with_reducible refine zdr (b := .append) (xs := #[.tmp 18, .tmp 22]) rfl ?_); at_builtin; refine zfc (Kd.int .u8) w.heap.size rfl (.tmp 18) (.tmp 22) 23 5 (.int .u8 0) 1 rfl Try.underlying23 info5 rfl (by decide) (by omega) u5 x5_1 ((t546) % 256) [.int .u8 ((t546) % 256)] (fun _ => True) (fun _ => False) rfl rfl ?aP (fun _ hk => hk.elim) ?aF ?aO (zbq _ _) ?aS ?aL ?_; (case aP => exact rfl); (case aF => exact (fun _ _ => zbw)); (case aO => exact (by (with_reducible repeat (first | apply zab | apply zac | apply zae)); exact HO_5.out)); (case aS => exact (keep_size (w := w) (g := g) (row := none) (by repeat (first | (with_reducible first | exact HK.out | apply zbx | apply zcd | apply zdk | apply zce) | exact HK.out)))); (case aL => have := LMc9.out; omega); intro v550 w11 ho hb hg hat; rw [← Ny549.out] at ho; have n0_ := Aside0.mk (IsS85.grown (by repeat (first | (with_reducible first | exact HI0.out | apply IsS85.alloc | apply IsS85.drewN | apply IsS85.drew | apply IsS85.set_1 | apply IsS85.set_2) | exact HI0.out)) hg (IsS85.own_ne HI0.out HO_5.out (by decide))); have n1_ := Aside0.mk (below_weaken (by repeat (first | (with_reducible first | exact HB.out | apply zai | apply zad | apply zah | refine zby ?_ (IsS85.ge HI0.out)) | exact HB.out)) HL.out hb); have n2_ := Aside0.mk (zdu (by repeat (first | (with_reducible first | exact HK.out | apply zbx | apply zcd | apply zdk | apply zce) | exact HK.out)) (KeepBut.of_grown hg g) (Kd.R_base2 HO_5.out)); have n3_ := Aside0.mk (ho); clear HI0 HB HK HO_5; have HI0 := n0_; have HB := n1_; have HK := n2_; have HO551 := n3_; clear n0_ n1_ n2_ n3_; clear ho hb hg hat))
     go_roundg k1
     case measure => have := HK1.out; omega
     case rel => exact ⟨(y549), (wrap64 (x7_1 + 1)), (t547), (t548), (by first | rfl | (simp; done) | (simp [*]; done)), H', ⟨by have := HK1.out; omega⟩, ⟨by (with_reducible repeat (first | apply zab | apply zac | apply zae)); exact HO551.out⟩, ⟨by repeat (first | (with_reducible first | exact HI0.out | apply IsS85.alloc | apply IsS85.drewN | apply IsS85.drew | apply IsS85.set_1 | apply IsS85.set_2) | exact HI0.out)⟩, ⟨by repeat (first | (with_reducible first | exact HK.out | apply zbx | apply zcd | apply zdk | apply zce) | exact HK.out)⟩, ⟨by repeat (first | (with_reducible first | exact HB.out | apply zai | apply zad | apply zah | refine zby ?_ (IsS85.ge HI0.out)) | exact HB.out)⟩⟩
    ·rw [if_neg c9] at H
     exact absurd H (by simp)
   ·rw [if_neg c7] at H
    have c7b0 : decide (x7_1 < t543) = false := zbr c7
    clear c7
    simp only [zdb, zee] at H
    obtain ⟨rfl, rfl, rfl⟩ := H
    go_wp2
    go_ret
    exact ⟨_, by first | rfl | (simp [zbk, zbl] <;> rfl) | (simp [*, zbk, zbl] <;> rfl), by (with_reducible repeat (first | apply zab | apply zac | apply zae)); exact HO_5.out, by repeat (first | (with_reducible first | exact HI0.out | apply IsS85.alloc | apply IsS85.drewN | apply IsS85.drew | apply IsS85.set_1 | apply IsS85.set_2) | exact HI0.out), by repeat (first | (with_reducible first | exact HB.out | apply zai | apply zad | apply zah | refine zby ?_ (IsS85.ge HI0.out)) | exact HB.out), by repeat (first | (with_reducible first | exact HK.out | apply zbx | apply zcd | apply zdk | apply zce) | exact HK.out)⟩
def spec_l1New.l0 : Nat → List Int → Int → Int → Option (List Int × Int × Int)
 | 0, _, _, _ => none
 | k + 1, x0, x3, x4 => if x4 < (x0.length : Int) then (if x4 < 4000 then (if 0 ≤ x4 then (spec_l1New.l0 k x0 (Go.bits .and .i64 (wrap64 ((wrap64 ((wrap64 (x3 * 131)) + (wrap64 (rd x0 x4)))) + 7)) 1073741823) (wrap64 (x4 + 1))) else (none)) else (some (x0, 0, x3))) else (some (x0, 0, x3))
def spec_l1New.f (k : Nat) (l0 : List Int) : Option (List Int × Int × Int) := spec_l1New.l0 k l0 (wrap64 (27508 + (l0.length : Int))) 0
theorem spec_l1New.mono_l : ∀ k, (∀ y0 y1 y2, LeO (spec_l1New.l0 k y0 y1 y2) (spec_l1New.l0 (k + 1) y0 y1 y2))
 | 0 => fun _ _ _ r h => by simp [spec_l1New.l0] at h
 | k + 1 => by
  have ih0 := spec_l1New.mono_l k
  ·intro y0 y1 y2
   unfold spec_l1New.l0
   repeat' first
   | (with_reducible exact ih0 _ _ _)
   | (with_reducible exact zcf _)
   | (with_reducible exact zcj _)
   | (with_reducible refine zdp ?_ ?_)
   | (with_reducible refine zcg ?_ (fun _ => ?_))
   | exact ih0 _ _ _
theorem spec_l1New.mono : ∀ a0 k, LeO (spec_l1New.f k a0) (spec_l1New.f (k + 1) a0) := by
 intro a0 k
 have ih0 := spec_l1New.mono_l k
 unfold spec_l1New.f
 repeat' first
   | (with_reducible exact ih0 _ _ _)
   | (with_reducible exact zcf _)
   | (with_reducible exact zcj _)
   | (with_reducible refine zdp ?_ ?_)
   | (with_reducible refine zcg ?_ (fun _ => ?_))
   | exact ih0 _ _ _
set_option maxHeartbeats 8000000 in
set_option maxRecDepth 100000 in
theorem spec_l1New.calls (k : Nat) (A0 : Option Addr) (c0 : Nat) (l0 : List Int) (r1 : List Int) (r2 : Int) (r3 : Int) (w0 w : World) (hB : Below w0.heap.size w0 w) (hr0 : Kd.C (Kd.int .u8) w0 A0 l0.length l0) (hc0 : l0.length ≤ c0) (h : spec_l1New.f k l0 = some (r1, r2, r3)) :
  Calls Try.prog 78 #[.slice A0 l0.length c0] w fun e w' => ∃ g_ : Nat, e = .returned (.pointer (some ⟨g_, 0, none⟩)) ∧ IsS85 w0 w' g_ r1 r2 r3 ∧ Below w0.heap.size w0 w' ∧ Below w.heap.size w w' := by
 have hu85 := Try.underlying85
 have HR0 := Aside0.mk hr0
 have HC0 := Aside0.mk hc0
 clear hr0 hc0
 have HBW := Aside0.mk (zbq w.heap.size w)
 have HW0 := Aside0.mk hB.size
 have HB := Aside0.mk hB
 clear hB
 have H : (spec_l1New.l0 k l0 (wrap64 (27508 + (l0.length : Int))) 0) = some (r1, r2, r3) := h
 clear h
 have H' := Aside0.mk H
 clear H
 go_enter Try.func78, Try.ntmps78
 go_wp2
 go_loopg [3, 4] k (fun kq v3 v4 w' => ∃ (x3_1 : Int) (x4_1 : Int), v3 = .int .i64 x3_1 ∧ v4 = .int .i64 x4_1 ∧ Aside0 (spec_l1New.l0 kq l0 x3_1 x4_1 = some (r1, r2, r3)) ∧ Aside0 (kq ≤ k) ∧ Aside0 (Below w0.heap.size w0 w') ∧ Aside0 (Below w.heap.size w w'))
 case atStart => exact ⟨(wrap64 (27508 + (l0.length : Int))), (0), (by first | rfl | (simp; done) | (simp [*]; done)), (by first | rfl | (simp; done) | (simp [*]; done)), H', ⟨zbi _⟩, ⟨by repeat (first | (with_reducible first | exact HB.out | apply zai | apply zad | apply zah) | exact HB.out)⟩, ⟨by repeat (first | (with_reducible first | exact HBW.out | apply zai | apply zad | apply zah) | exact HBW.out)⟩⟩
 case round =>
  clear H'
  obtain ⟨x3_1, x4_1, rfl, rfl, HA, HK1, HB, HBW⟩ := hrel
  cases gk with
  | zero => exact absurd HA.out (by simp [spec_l1New.l0])
  | succ k1 =>
   have H := HA.out
   clear HA
   simp only [spec_l1New.l0] at H
   by_cases c2 : x4_1 < (l0.length : Int)
   ·rw [if_pos c2] at H
    have c2b0 : decide (x4_1 < (l0.length : Int)) = true := zaq c2
    clear c2
    by_cases c3 : x4_1 < 4000
    ·rw [if_pos c3] at H
     have c3b0 : decide (x4_1 < 4000) = true := zaq c3
     clear c3
     by_cases c4 : 0 ≤ x4_1
     ·rw [if_pos c4] at H
      have c4b0 : decide (0 ≤ x4_1) = true := zaq c4
      clear c4
      have H' := Aside0.mk H
      clear H
      have p572 : 0 ≤ (x4_1 : Int) := zar (by first | (with_reducible assumption) | assumption)
      have q572 : x4_1 < (l0.length : Int) := zar (by first | (with_reducible assumption) | assumption)
      obtain ⟨ad572, e572, hx572_0⟩ := zca HR0.out x4_1 p572 q572
      cases e572
      replace hx572_0 := pw_cell_below HB.out hx572_0
      replace p572 := zbn p572
      replace q572 := zbn q572
      go_wp2
      go_roundg k1
      case measure => have := HK1.out; omega
      case rel => exact ⟨(Go.bits .and .i64 (wrap64 ((wrap64 ((wrap64 (x3_1 * 131)) + (wrap64 (rd l0 x4_1)))) + 7)) 1073741823), (wrap64 (x4_1 + 1)), (by first | rfl | (simp; done) | (simp [*]; done)), (by first | rfl | (simp; done) | (simp [*]; done)), H', ⟨by have := HK1.out; omega⟩, ⟨by repeat (first | (with_reducible first | exact HB.out | apply zai | apply zad | apply zah) | exact HB.out)⟩, ⟨by repeat (first | (with_reducible first | exact HBW.out | apply zai | apply zad | apply zah) | exact HBW.out)⟩⟩
     ·rw [if_neg c4] at H
      exact absurd H (by simp)
    ·rw [if_neg c3] at H
     have c3b0 : decide (x4_1 < 4000) = false := zbr c3
     clear c3
     simp only [zdb, zee] at H
     obtain ⟨rfl, rfl, rfl⟩ := H
     go_wp2_with (first | ((with_reducible refine zdt (N := 31) rfl ?_); refine box_event ?hg (N := 31) ?hd (cs := #[.slice A0 l0.length c0, .int .i64 0, .int .i64 x3_1]) (t := 85) ?hr ?_; (case hd => rfl); (case hg => rfl); (case hr => first | (go_simp; done) | (go_simp; rfl)); intro gb573 hg w5 hbox hb; have n0_ := Aside0.mk (zbf HBW.out hb); have n1_ := Aside0.mk (zbf (by repeat (first | (with_reducible first | exact HB.out | apply zai | apply zad | apply zah) | exact HB.out)) hb); have n2_ := Aside0.mk (hbox); have n3_ := Aside0.mk ((by rw [hg]; exact (zax (by repeat (first | (with_reducible first | exact HBW.out | apply zai | apply zad | apply zah) | exact HBW.out))) : w.heap.size ≤ gb573)); have n4_ := Aside0.mk ((zff HW0.out (by rw [hg]; exact (zax (by repeat (first | (with_reducible first | exact HBW.out | apply zai | apply zad | apply zah) | exact HBW.out))) : w.heap.size ≤ gb573) : w0.heap.size ≤ gb573)); clear HBW HB; have HBW := n0_; have HB := n1_; have BK573 := n2_; have GW573 := n3_; have GE573 := n4_; clear n0_ n1_ n2_ n3_ n4_; clear hb hbox hg))
     go_ret
     exact ⟨_, rfl, (show IsS85 w0 _ gb573 l0 0 x3_1 from ⟨_, _, by (with_reducible repeat (first | refine blk_drewN ?_ _ | refine blk_drew ?_ | refine blk_alloc ?_ _)); exact BK573.out, GE573.out, HR0.out⟩), by repeat (first | (with_reducible first | exact HB.out | apply zai | apply zad | apply zah | refine zby ?_ GE573.out) | exact HB.out), by repeat (first | (with_reducible first | exact HBW.out | apply zai | apply zad | apply zah | refine zby ?_ GW573.out) | exact HBW.out)⟩
   ·rw [if_neg c2] at H
    have c2b0 : decide (x4_1 < (l0.length : Int)) = false := zbr c2
    clear c2
    simp only [zdb, zee] at H
    obtain ⟨rfl, rfl, rfl⟩ := H
    go_wp2_with (first | ((with_reducible refine zdt (N := 31) rfl ?_); refine box_event ?hg (N := 31) ?hd (cs := #[.slice A0 l0.length c0, .int .i64 0, .int .i64 x3_1]) (t := 85) ?hr ?_; (case hd => rfl); (case hg => rfl); (case hr => first | (go_simp; done) | (go_simp; rfl)); intro gb574 hg w6 hbox hb; have n0_ := Aside0.mk (zbf HBW.out hb); have n1_ := Aside0.mk (zbf (by repeat (first | (with_reducible first | exact HB.out | apply zai | apply zad | apply zah) | exact HB.out)) hb); have n2_ := Aside0.mk (hbox); have n3_ := Aside0.mk ((by rw [hg]; exact (zax (by repeat (first | (with_reducible first | exact HBW.out | apply zai | apply zad | apply zah) | exact HBW.out))) : w.heap.size ≤ gb574)); have n4_ := Aside0.mk ((zff HW0.out (by rw [hg]; exact (zax (by repeat (first | (with_reducible first | exact HBW.out | apply zai | apply zad | apply zah) | exact HBW.out))) : w.heap.size ≤ gb574) : w0.heap.size ≤ gb574)); clear HBW HB; have HBW := n0_; have HB := n1_; have BK574 := n2_; have GW574 := n3_; have GE574 := n4_; clear n0_ n1_ n2_ n3_ n4_; clear hb hbox hg))
    go_ret
    exact ⟨_, rfl, (show IsS85 w0 _ gb574 l0 0 x3_1 from ⟨_, _, by (with_reducible repeat (first | refine blk_drewN ?_ _ | refine blk_drew ?_ | refine blk_alloc ?_ _)); exact BK574.out, GE574.out, HR0.out⟩), by repeat (first | (with_reducible first | exact HB.out | apply zai | apply zad | apply zah | refine zby ?_ GE574.out) | exact HB.out), by repeat (first | (with_reducible first | exact HBW.out | apply zai | apply zad | apply zah | refine zby ?_ GW574.out) | exact HBW.out)⟩
end Go.Proofs.Ytienlgcjohpphaa.P
