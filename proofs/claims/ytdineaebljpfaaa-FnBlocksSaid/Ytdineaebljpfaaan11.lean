import Derived.Test.Ytdineaebljpfaaan10
namespace Go.Proofs.Ytdineaebljpfaaa.P
open Go.RowKit Go.Proofs.YtdineaebljpfaaaW.PrintWords Go.Proofs.YtdineaebljpfaaaW.PrintLast Go.Proofs.YtdineaebljpfaaaW.PrintMore
attribute [local go_sem] zcu zcv zdf zdg zci zcj zcw zcx   -- for this text's walks alone
set_option linter.unusedVariables false
set_option linter.unusedSimpArgs false

def spec_Quarter.j0 : Nat → Int → Int → Int → Int → List Int → Bool → Option (List Int)
 | 0, _, _, _, _, _, _ => none
 | k + 1, x1, x2, x3, x4, x11, x67 => if x67 = true then (some x11) else (if 0 ≤ x1 then (if x1 < (x11.length : Int) then (if 0 ≤ x2 then (if x2 < (x11.length : Int) then ((spec_Word.f (wrap64 ((rd x11 x1) + (rd x11 x2)))).bind fun t238 => ((some (x11.set (x1 : Int).toNat t238 : List Int)).bind fun y239 => (if 0 ≤ x4 then (if x4 < (x11.length : Int) then ((spec_Turn.f (Go.bits .xor .i64 (rd y239 x4) (rd y239 x1)) 16).bind fun t242 => ((some (y239.set (x4 : Int).toNat t242 : List Int)).bind fun y243 => (if 0 ≤ x3 then (if x3 < (x11.length : Int) then ((spec_Word.f (wrap64 ((rd y243 x3) + (rd y243 x4)))).bind fun t246 => ((some (y243.set (x3 : Int).toNat t246 : List Int)).bind fun y247 => ((spec_Turn.f (Go.bits .xor .i64 (rd y247 x2) (rd y247 x3)) 12).bind fun t250 => ((some (y247.set (x2 : Int).toNat t250 : List Int)).bind fun y251 => ((spec_Word.f (wrap64 ((rd y251 x1) + (rd y251 x2)))).bind fun t254 => ((some (y251.set (x1 : Int).toNat t254 : List Int)).bind fun y255 => ((spec_Turn.f (Go.bits .xor .i64 (rd y255 x4) (rd y255 x1)) 8).bind fun t258 => ((some (y255.set (x4 : Int).toNat t258 : List Int)).bind fun y259 => ((spec_Word.f (wrap64 ((rd y259 x3) + (rd y259 x4)))).bind fun t262 => ((some (y259.set (x3 : Int).toNat t262 : List Int)).bind fun y263 => ((spec_Turn.f (Go.bits .xor .i64 (rd y263 x2) (rd y263 x3)) 7).bind fun t266 => (some (y263.set (x2 : Int).toNat t266))))))))))))) else (none)) else (none)))) else (none)) else (none)))) else (none)) else (none)) else (none)) else (none))
def spec_Quarter.f (k : Nat) (l0 : List Int) (a1 : Int) (a2 : Int) (a3 : Int) (a4 : Int) : Option (List Int) := (some (([] : List Int) : List Int)).bind fun y226 => (if y226.length + l0.length < 17592186044416 then ((some (y226 ++ l0 : List Int)).bind fun y229 => (if (l0.length : Int) = 16 then ((spec_l1In.f a1 0 15).bind fun t232 => (if t232 = true then ((spec_l1In.f a2 0 15).bind fun t233 => (if t233 = true then ((spec_l1In.f a3 0 15).bind fun t234 => (if t234 = true then ((spec_l1In.f a4 0 15).bind fun t235 => (if t235 = true then (if a1 = a2 then (spec_Quarter.j0 k a1 a2 a3 a4 y229 true) else (if a1 = a3 then (spec_Quarter.j0 k a1 a2 a3 a4 y229 true) else (if a1 = a4 then (spec_Quarter.j0 k a1 a2 a3 a4 y229 true) else (if a2 = a3 then (spec_Quarter.j0 k a1 a2 a3 a4 y229 true) else (if a2 = a4 then (spec_Quarter.j0 k a1 a2 a3 a4 y229 true) else (spec_Quarter.j0 k a1 a2 a3 a4 y229 (a3 == a4))))))) else (spec_Quarter.j0 k a1 a2 a3 a4 y229 true))) else (spec_Quarter.j0 k a1 a2 a3 a4 y229 true))) else (spec_Quarter.j0 k a1 a2 a3 a4 y229 true))) else (spec_Quarter.j0 k a1 a2 a3 a4 y229 true))) else (spec_Quarter.j0 k a1 a2 a3 a4 y229 true))) else (none))
theorem spec_Quarter.mono_l : ∀ k, (∀ y0 y1 y2 y3 y4 y5, LeO (spec_Quarter.j0 k y0 y1 y2 y3 y4 y5) (spec_Quarter.j0 (k + 1) y0 y1 y2 y3 y4 y5))
 | 0 => fun _ _ _ _ _ _ r h => by simp [spec_Quarter.j0] at h
 | k + 1 => by
  have ih0 := spec_Quarter.mono_l k
  ·intro y0 y1 y2 y3 y4 y5
   unfold spec_Quarter.j0
   repeat' first
   | (with_reducible exact ih0 _ _ _ _ _ _)
   | (with_reducible exact zcc _)
   | (with_reducible exact zcg _)
   | (with_reducible refine zcr ?_ ?_)
   | (with_reducible refine zcd ?_ (fun _ => ?_))
   | exact ih0 _ _ _ _ _ _
theorem spec_Quarter.mono : ∀ a0 a1 a2 a3 a4 k, LeO (spec_Quarter.f k a0 a1 a2 a3 a4) (spec_Quarter.f (k + 1) a0 a1 a2 a3 a4) := by
 intro a0 a1 a2 a3 a4 k
 have ih0 := spec_Quarter.mono_l k
 unfold spec_Quarter.f
 repeat' first
   | (with_reducible exact ih0 _ _ _ _ _ _)
   | (with_reducible exact zcc _)
   | (with_reducible exact zcg _)
   | (with_reducible refine zcr ?_ ?_)
   | (with_reducible refine zcd ?_ (fun _ => ?_))
   | exact ih0 _ _ _ _ _ _
def spec_Quarter.T4 : Bool × List (List Nat × List Nat) := (true, [([], []), ([], []), ([], []), ([], []), ([2, 3], [2, 3]), ([4], [4]), ([], []), ([], []), ([6, 7], [6, 7]), ([8], [8]), ([5, 9], [5, 9]), ([10], [10]), ([0, 1, 0, 1, 2, 3, 4, 5, 6, 7, 8, 9, 10, 11], [0, 1]), ([12, 11, 11, 0, 1, 2, 3, 4, 5, 6, 7, 8, 9, 10, 11], [11, 12])])
def spec_Quarter.B4 : List Nat := [0, 0, 0, 0, 12, 28, 0, 0, 192, 448, 1020, 2044, 4095, 8191]
theorem spec_Quarter.tab4 : rtab .any (opsOf Try.f17 4) = spec_Quarter.T4 := by kernel_rfl
theorem spec_Quarter.bits4 : waitsOk spec_Quarter.T4.2 spec_Quarter.B4 = true := by kernel_rfl
def spec_Quarter.T5 : Bool × List (List Nat × List Nat) := (true, [([], []), ([], []), ([], []), ([], []), ([2, 3], [2, 3]), ([4], [4]), ([], []), ([], []), ([6, 7], [6, 7]), ([8], [8]), ([5, 9], [5, 9]), ([10], [10]), ([0, 1, 0, 1, 2, 3, 4, 5, 6, 7, 8, 9, 10, 11], [0, 1]), ([12, 11, 11, 0, 1, 2, 3, 4, 5, 6, 7, 8, 9, 10, 11], [11, 12])])
def spec_Quarter.B5 : List Nat := [0, 0, 0, 0, 12, 28, 0, 0, 192, 448, 1020, 2044, 4095, 8191]
theorem spec_Quarter.tab5 : rtab .any (opsOf Try.f17 5) = spec_Quarter.T5 := by kernel_rfl
theorem spec_Quarter.bits5 : waitsOk spec_Quarter.T5.2 spec_Quarter.B5 = true := by kernel_rfl
def spec_Quarter.T6 : Bool × List (List Nat × List Nat) := (true, [([], []), ([], []), ([], []), ([], []), ([2, 3], [2, 3]), ([4], [4]), ([], []), ([], []), ([6, 7], [6, 7]), ([8], [8]), ([5, 9], [5, 9]), ([10], [10]), ([0, 1, 0, 1, 2, 3, 4, 5, 6, 7, 8, 9, 10, 11], [0, 1]), ([12, 11, 11, 0, 1, 2, 3, 4, 5, 6, 7, 8, 9, 10, 11], [11, 12])])
def spec_Quarter.B6 : List Nat := [0, 0, 0, 0, 12, 28, 0, 0, 192, 448, 1020, 2044, 4095, 8191]
theorem spec_Quarter.tab6 : rtab .any (opsOf Try.f17 6) = spec_Quarter.T6 := by kernel_rfl
theorem spec_Quarter.bits6 : waitsOk spec_Quarter.T6.2 spec_Quarter.B6 = true := by kernel_rfl
def spec_Quarter.T7 : Bool × List (List Nat × List Nat) := (true, [([], []), ([], []), ([], []), ([], []), ([2, 3], [2, 3]), ([4], [4]), ([], []), ([], []), ([6, 7], [6, 7]), ([8], [8]), ([5, 9], [5, 9]), ([10], [10]), ([0, 1, 0, 1, 2, 3, 4, 5, 6, 7, 8, 9, 10, 11], [0, 1]), ([12, 11, 11, 0, 1, 2, 3, 4, 5, 6, 7, 8, 9, 10, 11], [11, 12])])
def spec_Quarter.B7 : List Nat := [0, 0, 0, 0, 12, 28, 0, 0, 192, 448, 1020, 2044, 4095, 8191]
theorem spec_Quarter.tab7 : rtab .any (opsOf Try.f17 7) = spec_Quarter.T7 := by kernel_rfl
theorem spec_Quarter.bits7 : waitsOk spec_Quarter.T7.2 spec_Quarter.B7 = true := by kernel_rfl
def spec_Quarter.T8 : Bool × List (List Nat × List Nat) := (true, [([], []), ([], []), ([], []), ([], []), ([2, 3], [2, 3]), ([4], [4]), ([], []), ([], []), ([6, 7], [6, 7]), ([8], [8]), ([5, 9], [5, 9]), ([10], [10]), ([0, 1, 0, 1, 2, 3, 4, 5, 6, 7, 8, 9, 10, 11], [0, 1]), ([12, 11, 11, 0, 1, 2, 3, 4, 5, 6, 7, 8, 9, 10, 11], [11, 12])])
def spec_Quarter.B8 : List Nat := [0, 0, 0, 0, 12, 28, 0, 0, 192, 448, 1020, 2044, 4095, 8191]
theorem spec_Quarter.tab8 : rtab .any (opsOf Try.f17 8) = spec_Quarter.T8 := by kernel_rfl
theorem spec_Quarter.bits8 : waitsOk spec_Quarter.T8.2 spec_Quarter.B8 = true := by kernel_rfl
def spec_Quarter.T9 : Bool × List (List Nat × List Nat) := (true, [([], []), ([], []), ([], []), ([], []), ([2, 3], [2, 3]), ([4], [4]), ([], []), ([], []), ([6, 7], [6, 7]), ([8], [8]), ([5, 9], [5, 9]), ([10], [10]), ([0, 1, 0, 1, 2, 3, 4, 5, 6, 7, 8, 9, 10, 11], [0, 1]), ([12, 11, 11, 0, 1, 2, 3, 4, 5, 6, 7, 8, 9, 10, 11], [11, 12])])
def spec_Quarter.B9 : List Nat := [0, 0, 0, 0, 12, 28, 0, 0, 192, 448, 1020, 2044, 4095, 8191]
theorem spec_Quarter.tab9 : rtab .any (opsOf Try.f17 9) = spec_Quarter.T9 := by kernel_rfl
theorem spec_Quarter.bits9 : waitsOk spec_Quarter.T9.2 spec_Quarter.B9 = true := by kernel_rfl
def spec_Quarter.T10 : Bool × List (List Nat × List Nat) := (true, [([], []), ([], []), ([], []), ([], []), ([2, 3], [2, 3]), ([4], [4]), ([], []), ([], []), ([6, 7], [6, 7]), ([8], [8]), ([5, 9], [5, 9]), ([10], [10]), ([0, 1, 0, 1, 2, 3, 4, 5, 6, 7, 8, 9, 10, 11], [0, 1]), ([12, 11, 11, 0, 1, 2, 3, 4, 5, 6, 7, 8, 9, 10, 11], [11, 12])])
def spec_Quarter.B10 : List Nat := [0, 0, 0, 0, 12, 28, 0, 0, 192, 448, 1020, 2044, 4095, 8191]
theorem spec_Quarter.tab10 : rtab .any (opsOf Try.f17 10) = spec_Quarter.T10 := by kernel_rfl
theorem spec_Quarter.bits10 : waitsOk spec_Quarter.T10.2 spec_Quarter.B10 = true := by kernel_rfl
def spec_Quarter.T11 : Bool × List (List Nat × List Nat) := (true, [([], []), ([], []), ([], []), ([], []), ([2, 3], [2, 3]), ([4], [4]), ([], []), ([], []), ([6, 7], [6, 7]), ([8], [8]), ([5, 9], [5, 9]), ([10], [10]), ([0, 1, 0, 1, 2, 3, 4, 5, 6, 7, 8, 9, 10, 11], [0, 1]), ([12, 11, 11, 0, 1, 2, 3, 4, 5, 6, 7, 8, 9, 10, 11], [11, 12])])
def spec_Quarter.B11 : List Nat := [0, 0, 0, 0, 12, 28, 0, 0, 192, 448, 1020, 2044, 4095, 8191]
theorem spec_Quarter.tab11 : rtab .any (opsOf Try.f17 11) = spec_Quarter.T11 := by kernel_rfl
theorem spec_Quarter.bits11 : waitsOk spec_Quarter.T11.2 spec_Quarter.B11 = true := by kernel_rfl
theorem spec_Quarter.sd (w : World) (n : Nat) (a : Addr) (u : Value) : (w.drewN n).setCell a u = (w.setCell a u).drewN n := by
 cases w; rfl
set_option maxHeartbeats 8000000 in
set_option maxRecDepth 100000 in
theorem spec_Quarter.calls (k : Nat) (A0 : Option Addr) (c0 : Nat) (l0 : List Int) (a1 : Int) (a2 : Int) (a3 : Int) (a4 : Int) (r : List Int) (w : World) (hr0 : Kd.C (Kd.int .i64) w A0 l0.length l0) (hc0 : l0.length ≤ c0) (h : spec_Quarter.f k l0 a1 a2 a3 a4 = some r) :
  Calls Try.prog 17 #[.slice A0 l0.length c0, .int .i64 a1, .int .i64 a2, .int .i64 a3, .int .i64 a4] w fun e w' => ∃ v0_ : Value, e = .returned (v0_) ∧ Kd.R (Kd.int .i64) 3 w' w.heap.size (fun _ => True) v0_ r ∧ Below w.heap.size w w' := by
 have HR0 := Aside0.mk hr0
 have HC0 := Aside0.mk hc0
 clear hr0 hc0
 have HB := Aside0.mk (zbx w.heap.size w)
 have H : ((some (([] : List Int) : List Int)).bind fun y226 => (if y226.length + l0.length < 17592186044416 then ((some (y226 ++ l0 : List Int)).bind fun y229 => (if (l0.length : Int) = 16 then ((spec_l1In.f a1 0 15).bind fun t232 => (if t232 = true then ((spec_l1In.f a2 0 15).bind fun t233 => (if t233 = true then ((spec_l1In.f a3 0 15).bind fun t234 => (if t234 = true then ((spec_l1In.f a4 0 15).bind fun t235 => (if t235 = true then (if a1 = a2 then (spec_Quarter.j0 k a1 a2 a3 a4 y229 true) else (if a1 = a3 then (spec_Quarter.j0 k a1 a2 a3 a4 y229 true) else (if a1 = a4 then (spec_Quarter.j0 k a1 a2 a3 a4 y229 true) else (if a2 = a3 then (spec_Quarter.j0 k a1 a2 a3 a4 y229 true) else (if a2 = a4 then (spec_Quarter.j0 k a1 a2 a3 a4 y229 true) else (spec_Quarter.j0 k a1 a2 a3 a4 y229 (a3 == a4))))))) else (spec_Quarter.j0 k a1 a2 a3 a4 y229 true))) else (spec_Quarter.j0 k a1 a2 a3 a4 y229 true))) else (spec_Quarter.j0 k a1 a2 a3 a4 y229 true))) else (spec_Quarter.j0 k a1 a2 a3 a4 y229 true))) else (spec_Quarter.j0 k a1 a2 a3 a4 y229 true))) else (none))) = some r := h
 clear h
 obtain ⟨y226, hy226⟩ : ∃ y_ : List Int, y_ = (([] : List Int)) := ⟨_, rfl⟩
 replace H : (if y226.length + l0.length < 17592186044416 then ((some (y226 ++ l0 : List Int)).bind fun y229 => (if (l0.length : Int) = 16 then ((spec_l1In.f a1 0 15).bind fun t232 => (if t232 = true then ((spec_l1In.f a2 0 15).bind fun t233 => (if t233 = true then ((spec_l1In.f a3 0 15).bind fun t234 => (if t234 = true then ((spec_l1In.f a4 0 15).bind fun t235 => (if t235 = true then (if a1 = a2 then (spec_Quarter.j0 k a1 a2 a3 a4 y229 true) else (if a1 = a3 then (spec_Quarter.j0 k a1 a2 a3 a4 y229 true) else (if a1 = a4 then (spec_Quarter.j0 k a1 a2 a3 a4 y229 true) else (if a2 = a3 then (spec_Quarter.j0 k a1 a2 a3 a4 y229 true) else (if a2 = a4 then (spec_Quarter.j0 k a1 a2 a3 a4 y229 true) else (spec_Quarter.j0 k a1 a2 a3 a4 y229 (a3 == a4))))))) else (spec_Quarter.j0 k a1 a2 a3 a4 y229 true))) else (spec_Quarter.j0 k a1 a2 a3 a4 y229 true))) else (spec_Quarter.j0 k a1 a2 a3 a4 y229 true))) else (spec_Quarter.j0 k a1 a2 a3 a4 y229 true))) else (spec_Quarter.j0 k a1 a2 a3 a4 y229 true))) else (none)) = some r := by first | (rw [hy226]; with_reducible first | exact H | exact bind_ofs H) | (with_reducible first | exact H | exact bind_ofs H) | (rw [hy226]; exact H) | exact H
 have Ny226 := Aside0.mk hy226
 clear hy226
 by_cases c6 : y226.length + l0.length < 17592186044416
 ·rw [if_pos c6] at H
  have LMc6 := Aside0.mk c6
  clear c6
  obtain ⟨y229, hy229⟩ : ∃ y_ : List Int, y_ = (y226 ++ l0) := ⟨_, rfl⟩
  replace H : (if (l0.length : Int) = 16 then ((spec_l1In.f a1 0 15).bind fun t232 => (if t232 = true then ((spec_l1In.f a2 0 15).bind fun t233 => (if t233 = true then ((spec_l1In.f a3 0 15).bind fun t234 => (if t234 = true then ((spec_l1In.f a4 0 15).bind fun t235 => (if t235 = true then (if a1 = a2 then (spec_Quarter.j0 k a1 a2 a3 a4 y229 true) else (if a1 = a3 then (spec_Quarter.j0 k a1 a2 a3 a4 y229 true) else (if a1 = a4 then (spec_Quarter.j0 k a1 a2 a3 a4 y229 true) else (if a2 = a3 then (spec_Quarter.j0 k a1 a2 a3 a4 y229 true) else (if a2 = a4 then (spec_Quarter.j0 k a1 a2 a3 a4 y229 true) else (spec_Quarter.j0 k a1 a2 a3 a4 y229 (a3 == a4))))))) else (spec_Quarter.j0 k a1 a2 a3 a4 y229 true))) else (spec_Quarter.j0 k a1 a2 a3 a4 y229 true))) else (spec_Quarter.j0 k a1 a2 a3 a4 y229 true))) else (spec_Quarter.j0 k a1 a2 a3 a4 y229 true))) else (spec_Quarter.j0 k a1 a2 a3 a4 y229 true)) = some r := by first | (rw [hy229]; with_reducible first | exact H | exact bind_ofs H) | (with_reducible first | exact H | exact bind_ofs H) | (rw [hy229]; exact H) | exact H
  have Ny229 := Aside0.mk hy229
  clear hy229
  have HC7 := Aside0.mk H
  clear H
  go_enter Try.func17, Try.ntmps17
  go_upto_region 2 with (first | ((with_reducible refine zds (N := 12) rfl ?_); refine zec (Kd.int .i64) _ 3 ?hg (N := 12) ?hd (xs := ([] : List Int)) (inner := []) (ok := fun _ => True) (okp := fun _ => True) ?hr ?hp (fun _ hk => hk) trivial (zbx _ _) (zbp _) (by simp) ?_; (case hd => rfl); (case hg => rfl); (case hr => first | (go_simp; done) | (go_simp; rfl)); (case hp => exact (zdp _ _)); intro v227 w8 ho9 hb hg_ hnew_; have xb_ := below_ofs (by repeat (first | (with_reducible first | exact HB.out | apply zaj | apply zad | apply zai) | exact HB.out)) hb; clear hg_ hnew_; (first | rw [← Ny226.out] at ho9 | (simp only [Int.reduceToNat] at ho9; rw [← Ny226.out] at ho9)); have n0_ := Aside0.mk (zbc ho9 (zba xb_)); have n1_ := Aside0.mk (zbb xb_ hb); clear HB; have HO228 := n0_; have HB := n1_; clear n0_ n1_; clear xb_ hb ho9) | ((with_reducible refine zdk (b := .append) (xs := #[.tmp 12, .tmp 13]) rfl ?_); at_builtin; refine zdv (Kd.int .i64) (w0 := w) w.heap.size rfl (.tmp 12) (.tmp 13) 33 3 (.int .i64 0) 8 rfl Try.underlying33 info3 rfl (by decide) (by omega) v227 y226 l0 _ _ _ (fun _ => True) (fun _ => False) rfl rfl ?aO ?aR (fun _ _ h => h) (fun _ h => h.elim) ?aF ?aB ?aS ?aL ?_; (case aR => repeat (first | exact (zbr HR0.out HB.out) | (with_reducible first | apply zas | apply zat | apply zaw))); (case aB => exact (by repeat (first | (with_reducible first | exact HB.out | apply zaj | apply zad | apply zai) | exact HB.out))); (case aF => exact (fun _ _ => trivial)); (case aO => exact (by (with_reducible repeat (first | apply zab | apply zac | apply zae)); exact HO228.out)); (case aS => exact (zba (by repeat (first | (with_reducible first | exact HB.out | apply zaj | apply zad | apply zai) | exact HB.out)))); (case aL => have := LMc6.out; omega); intro v230 w10 ho hb hg hat; rw [← Ny229.out] at ho; have n0_ := Aside0.mk (hb); have n1_ := Aside0.mk (ho); clear HB HO228; have HB := n0_; have HO231 := n1_; clear n0_ n1_; clear ho hb hg hat))
  (try simp only [Act.put, zaa, zag, zah])
  go_cut [67] (fun v67 wc => ∃ (kq : Nat) (x67_6 : Bool), v67 = .bool x67_6 ∧ Aside0 (spec_Quarter.j0 kq a1 a2 a3 a4 y229 x67_6 = some r) ∧ Aside0 (kq ≤ k) ∧ Aside0 (Kd.R (Kd.int .i64) 3 wc w.heap.size (fun _ => True) v230 y229) ∧ Aside0 (Below w.heap.size w wc))
  case first =>
   have H := HC7.out
   clear HC7
   by_cases c11 : (l0.length : Int) = 16
   ·rw [if_pos c11] at H
    have c11b0 : ((l0.length : Int) == 16) = true := zdn.mpr c11
    have c11b1 : ((l0.length : Int) != 16) = false := zbv.mpr c11
    clear c11
    (first | rw [c11b0] | (simp only [i64_w, i32_w]; rw [c11b0]) | skip)
    replace H := zam.mp H
    obtain ⟨t232, A120, H⟩ := H
    try dsimp only at H
    have A12 := Aside0.mk A120
    clear A120
    by_cases c13 : t232 = true
    ·subst c13
     have H1 : ((spec_l1In.f a2 0 15).bind fun t233 => (if t233 = true then ((spec_l1In.f a3 0 15).bind fun t234 => (if t234 = true then ((spec_l1In.f a4 0 15).bind fun t235 => (if t235 = true then (if a1 = a2 then (spec_Quarter.j0 k a1 a2 a3 a4 y229 true) else (if a1 = a3 then (spec_Quarter.j0 k a1 a2 a3 a4 y229 true) else (if a1 = a4 then (spec_Quarter.j0 k a1 a2 a3 a4 y229 true) else (if a2 = a3 then (spec_Quarter.j0 k a1 a2 a3 a4 y229 true) else (if a2 = a4 then (spec_Quarter.j0 k a1 a2 a3 a4 y229 true) else (spec_Quarter.j0 k a1 a2 a3 a4 y229 (a3 == a4))))))) else (spec_Quarter.j0 k a1 a2 a3 a4 y229 true))) else (spec_Quarter.j0 k a1 a2 a3 a4 y229 true))) else (spec_Quarter.j0 k a1 a2 a3 a4 y229 true))) = some r := by rw [if_pos rfl] at H; exact H
     clear H
     have H := H1
     clear H1
     replace H := zam.mp H
     obtain ⟨t233, A140, H⟩ := H
     try dsimp only at H
     have A14 := Aside0.mk A140
     clear A140
     by_cases c15 : t233 = true
     ·subst c15
      have H1 : ((spec_l1In.f a3 0 15).bind fun t234 => (if t234 = true then ((spec_l1In.f a4 0 15).bind fun t235 => (if t235 = true then (if a1 = a2 then (spec_Quarter.j0 k a1 a2 a3 a4 y229 true) else (if a1 = a3 then (spec_Quarter.j0 k a1 a2 a3 a4 y229 true) else (if a1 = a4 then (spec_Quarter.j0 k a1 a2 a3 a4 y229 true) else (if a2 = a3 then (spec_Quarter.j0 k a1 a2 a3 a4 y229 true) else (if a2 = a4 then (spec_Quarter.j0 k a1 a2 a3 a4 y229 true) else (spec_Quarter.j0 k a1 a2 a3 a4 y229 (a3 == a4))))))) else (spec_Quarter.j0 k a1 a2 a3 a4 y229 true))) else (spec_Quarter.j0 k a1 a2 a3 a4 y229 true))) = some r := by rw [if_pos rfl] at H; exact H
      clear H
      have H := H1
      clear H1
      replace H := zam.mp H
      obtain ⟨t234, A160, H⟩ := H
      try dsimp only at H
      have A16 := Aside0.mk A160
      clear A160
      by_cases c17 : t234 = true
      ·subst c17
       have H1 : ((spec_l1In.f a4 0 15).bind fun t235 => (if t235 = true then (if a1 = a2 then (spec_Quarter.j0 k a1 a2 a3 a4 y229 true) else (if a1 = a3 then (spec_Quarter.j0 k a1 a2 a3 a4 y229 true) else (if a1 = a4 then (spec_Quarter.j0 k a1 a2 a3 a4 y229 true) else (if a2 = a3 then (spec_Quarter.j0 k a1 a2 a3 a4 y229 true) else (if a2 = a4 then (spec_Quarter.j0 k a1 a2 a3 a4 y229 true) else (spec_Quarter.j0 k a1 a2 a3 a4 y229 (a3 == a4))))))) else (spec_Quarter.j0 k a1 a2 a3 a4 y229 true))) = some r := by rw [if_pos rfl] at H; exact H
       clear H
       have H := H1
       clear H1
       replace H := zam.mp H
       obtain ⟨t235, A180, H⟩ := H
       try dsimp only at H
       have A18 := Aside0.mk A180
       clear A180
       by_cases c19 : t235 = true
       ·subst c19
        have H1 : (if a1 = a2 then (spec_Quarter.j0 k a1 a2 a3 a4 y229 true) else (if a1 = a3 then (spec_Quarter.j0 k a1 a2 a3 a4 y229 true) else (if a1 = a4 then (spec_Quarter.j0 k a1 a2 a3 a4 y229 true) else (if a2 = a3 then (spec_Quarter.j0 k a1 a2 a3 a4 y229 true) else (if a2 = a4 then (spec_Quarter.j0 k a1 a2 a3 a4 y229 true) else (spec_Quarter.j0 k a1 a2 a3 a4 y229 (a3 == a4))))))) = some r := by rw [if_pos rfl] at H; exact H
        clear H
        have H := H1
        clear H1
        by_cases c20 : a1 = a2
        ·rw [if_pos c20] at H
         have c20b0 : (a1 == a2) = true := zdn.mpr c20
         have c20b1 : (a1 != a2) = false := zbv.mpr c20
         clear c20
         have H' := Aside0.mk H
         clear H
         go_wp2_with (first | (go_at_call 37; (with_reducible refine (spec_l1In.calls a1 0 15 true _ A12.out).mono ?_); rintro e w' ⟨rfl, ⟨nd, rfl⟩⟩) | (go_at_call 37; (with_reducible refine (spec_l1In.calls a2 0 15 true _ A14.out).mono ?_); rintro e w' ⟨rfl, ⟨nd, rfl⟩⟩) | (go_at_call 37; (with_reducible refine (spec_l1In.calls a3 0 15 true _ A16.out).mono ?_); rintro e w' ⟨rfl, ⟨nd, rfl⟩⟩) | (go_at_call 37; (with_reducible refine (spec_l1In.calls a4 0 15 true _ A18.out).mono ?_); rintro e w' ⟨rfl, ⟨nd, rfl⟩⟩))
         go_meet
         case rel => exact ⟨_, (true), (by first | rfl | (simp; done) | (simp [*]; done)), H', ⟨by first | omega | exact zbp _⟩, ⟨by (with_reducible repeat (first | apply zab | apply zac | apply zae)); exact HO231.out⟩, ⟨by repeat (first | (with_reducible first | exact HB.out | apply zaj | apply zad | apply zai) | exact HB.out)⟩⟩
        ·rw [if_neg c20] at H
         have c20b0 : (a1 == a2) = false := zbz.mpr c20
         have c20b1 : (a1 != a2) = true := zdh.mpr c20
         by_cases c21 : a1 = a3
         ·rw [if_pos c21] at H
          have c21b0 : (a1 == a3) = true := zdn.mpr c21
          have c21b1 : (a1 != a3) = false := zbv.mpr c21
          clear c21
          have H' := Aside0.mk H
          clear H
          go_wp2_with (first | (go_at_call 37; (with_reducible refine (spec_l1In.calls a1 0 15 true _ A12.out).mono ?_); rintro e w' ⟨rfl, ⟨nd, rfl⟩⟩) | (go_at_call 37; (with_reducible refine (spec_l1In.calls a2 0 15 true _ A14.out).mono ?_); rintro e w' ⟨rfl, ⟨nd, rfl⟩⟩) | (go_at_call 37; (with_reducible refine (spec_l1In.calls a3 0 15 true _ A16.out).mono ?_); rintro e w' ⟨rfl, ⟨nd, rfl⟩⟩) | (go_at_call 37; (with_reducible refine (spec_l1In.calls a4 0 15 true _ A18.out).mono ?_); rintro e w' ⟨rfl, ⟨nd, rfl⟩⟩))
          go_meet
          case rel => exact ⟨_, (true), (by first | rfl | (simp; done) | (simp [*]; done)), H', ⟨by first | omega | exact zbp _⟩, ⟨by (with_reducible repeat (first | apply zab | apply zac | apply zae)); exact HO231.out⟩, ⟨by repeat (first | (with_reducible first | exact HB.out | apply zaj | apply zad | apply zai) | exact HB.out)⟩⟩
         ·rw [if_neg c21] at H
          have c21b0 : (a1 == a3) = false := zbz.mpr c21
          have c21b1 : (a1 != a3) = true := zdh.mpr c21
          by_cases c22 : a1 = a4
          ·rw [if_pos c22] at H
           have c22b0 : (a1 == a4) = true := zdn.mpr c22
           have c22b1 : (a1 != a4) = false := zbv.mpr c22
           clear c22
           have H' := Aside0.mk H
           clear H
           go_wp2_with (first | (go_at_call 37; (with_reducible refine (spec_l1In.calls a1 0 15 true _ A12.out).mono ?_); rintro e w' ⟨rfl, ⟨nd, rfl⟩⟩) | (go_at_call 37; (with_reducible refine (spec_l1In.calls a2 0 15 true _ A14.out).mono ?_); rintro e w' ⟨rfl, ⟨nd, rfl⟩⟩) | (go_at_call 37; (with_reducible refine (spec_l1In.calls a3 0 15 true _ A16.out).mono ?_); rintro e w' ⟨rfl, ⟨nd, rfl⟩⟩) | (go_at_call 37; (with_reducible refine (spec_l1In.calls a4 0 15 true _ A18.out).mono ?_); rintro e w' ⟨rfl, ⟨nd, rfl⟩⟩))
           go_meet
           case rel => exact ⟨_, (true), (by first | rfl | (simp; done) | (simp [*]; done)), H', ⟨by first | omega | exact zbp _⟩, ⟨by (with_reducible repeat (first | apply zab | apply zac | apply zae)); exact HO231.out⟩, ⟨by repeat (first | (with_reducible first | exact HB.out | apply zaj | apply zad | apply zai) | exact HB.out)⟩⟩
          ·rw [if_neg c22] at H
           have c22b0 : (a1 == a4) = false := zbz.mpr c22
           have c22b1 : (a1 != a4) = true := zdh.mpr c22
           by_cases c23 : a2 = a3
           ·rw [if_pos c23] at H
            have c23b0 : (a2 == a3) = true := zdn.mpr c23
            have c23b1 : (a2 != a3) = false := zbv.mpr c23
            clear c23
            have H' := Aside0.mk H
            clear H
            go_wp2_with (first | (go_at_call 37; (with_reducible refine (spec_l1In.calls a1 0 15 true _ A12.out).mono ?_); rintro e w' ⟨rfl, ⟨nd, rfl⟩⟩) | (go_at_call 37; (with_reducible refine (spec_l1In.calls a2 0 15 true _ A14.out).mono ?_); rintro e w' ⟨rfl, ⟨nd, rfl⟩⟩) | (go_at_call 37; (with_reducible refine (spec_l1In.calls a3 0 15 true _ A16.out).mono ?_); rintro e w' ⟨rfl, ⟨nd, rfl⟩⟩) | (go_at_call 37; (with_reducible refine (spec_l1In.calls a4 0 15 true _ A18.out).mono ?_); rintro e w' ⟨rfl, ⟨nd, rfl⟩⟩))
            go_meet
            case rel => exact ⟨_, (true), (by first | rfl | (simp; done) | (simp [*]; done)), H', ⟨by first | omega | exact zbp _⟩, ⟨by (with_reducible repeat (first | apply zab | apply zac | apply zae)); exact HO231.out⟩, ⟨by repeat (first | (with_reducible first | exact HB.out | apply zaj | apply zad | apply zai) | exact HB.out)⟩⟩
           ·rw [if_neg c23] at H
            have c23b0 : (a2 == a3) = false := zbz.mpr c23
            have c23b1 : (a2 != a3) = true := zdh.mpr c23
            by_cases c24 : a2 = a4
            ·rw [if_pos c24] at H
             have c24b0 : (a2 == a4) = true := zdn.mpr c24
             have c24b1 : (a2 != a4) = false := zbv.mpr c24
             clear c24
             have H' := Aside0.mk H
             clear H
             go_wp2_with (first | (go_at_call 37; (with_reducible refine (spec_l1In.calls a1 0 15 true _ A12.out).mono ?_); rintro e w' ⟨rfl, ⟨nd, rfl⟩⟩) | (go_at_call 37; (with_reducible refine (spec_l1In.calls a2 0 15 true _ A14.out).mono ?_); rintro e w' ⟨rfl, ⟨nd, rfl⟩⟩) | (go_at_call 37; (with_reducible refine (spec_l1In.calls a3 0 15 true _ A16.out).mono ?_); rintro e w' ⟨rfl, ⟨nd, rfl⟩⟩) | (go_at_call 37; (with_reducible refine (spec_l1In.calls a4 0 15 true _ A18.out).mono ?_); rintro e w' ⟨rfl, ⟨nd, rfl⟩⟩))
             go_meet
             case rel => exact ⟨_, (true), (by first | rfl | (simp; done) | (simp [*]; done)), H', ⟨by first | omega | exact zbp _⟩, ⟨by (with_reducible repeat (first | apply zab | apply zac | apply zae)); exact HO231.out⟩, ⟨by repeat (first | (with_reducible first | exact HB.out | apply zaj | apply zad | apply zai) | exact HB.out)⟩⟩
            ·rw [if_neg c24] at H
             have c24b0 : (a2 == a4) = false := zbz.mpr c24
             have c24b1 : (a2 != a4) = true := zdh.mpr c24
             have H' := Aside0.mk H
             clear H
             go_wp2_with (first | (go_at_call 37; (with_reducible refine (spec_l1In.calls a1 0 15 true _ A12.out).mono ?_); rintro e w' ⟨rfl, ⟨nd, rfl⟩⟩) | (go_at_call 37; (with_reducible refine (spec_l1In.calls a2 0 15 true _ A14.out).mono ?_); rintro e w' ⟨rfl, ⟨nd, rfl⟩⟩) | (go_at_call 37; (with_reducible refine (spec_l1In.calls a3 0 15 true _ A16.out).mono ?_); rintro e w' ⟨rfl, ⟨nd, rfl⟩⟩) | (go_at_call 37; (with_reducible refine (spec_l1In.calls a4 0 15 true _ A18.out).mono ?_); rintro e w' ⟨rfl, ⟨nd, rfl⟩⟩))
             go_meet
             case rel => exact ⟨_, ((a3 == a4)), (by first | rfl | (simp; done) | (simp [*]; done)), H', ⟨by first | omega | exact zbp _⟩, ⟨by (with_reducible repeat (first | apply zab | apply zac | apply zae)); exact HO231.out⟩, ⟨by repeat (first | (with_reducible first | exact HB.out | apply zaj | apply zad | apply zai) | exact HB.out)⟩⟩
       ·replace c19 := zbu.mpr c19
        subst c19
        have H1 : (spec_Quarter.j0 k a1 a2 a3 a4 y229 true) = some r := by rw [if_neg (show ¬ (false = true) by decide)] at H; exact H
        clear H
        have H := H1
        clear H1
        have H' := Aside0.mk H
        clear H
        go_wp2_with (first | (go_at_call 37; (with_reducible refine (spec_l1In.calls a1 0 15 true _ A12.out).mono ?_); rintro e w' ⟨rfl, ⟨nd, rfl⟩⟩) | (go_at_call 37; (with_reducible refine (spec_l1In.calls a2 0 15 true _ A14.out).mono ?_); rintro e w' ⟨rfl, ⟨nd, rfl⟩⟩) | (go_at_call 37; (with_reducible refine (spec_l1In.calls a3 0 15 true _ A16.out).mono ?_); rintro e w' ⟨rfl, ⟨nd, rfl⟩⟩) | (go_at_call 37; (with_reducible refine (spec_l1In.calls a4 0 15 false _ A18.out).mono ?_); rintro e w' ⟨rfl, ⟨nd, rfl⟩⟩))
        go_meet
        case rel => exact ⟨_, (true), (by first | rfl | (simp; done) | (simp [*]; done)), H', ⟨by first | omega | exact zbp _⟩, ⟨by (with_reducible repeat (first | apply zab | apply zac | apply zae)); exact HO231.out⟩, ⟨by repeat (first | (with_reducible first | exact HB.out | apply zaj | apply zad | apply zai) | exact HB.out)⟩⟩
      ·replace c17 := zbu.mpr c17
       subst c17
       have H1 : (spec_Quarter.j0 k a1 a2 a3 a4 y229 true) = some r := by rw [if_neg (show ¬ (false = true) by decide)] at H; exact H
       clear H
       have H := H1
       clear H1
       have H' := Aside0.mk H
       clear H
       go_wp2_with (first | (go_at_call 37; (with_reducible refine (spec_l1In.calls a1 0 15 true _ A12.out).mono ?_); rintro e w' ⟨rfl, ⟨nd, rfl⟩⟩) | (go_at_call 37; (with_reducible refine (spec_l1In.calls a2 0 15 true _ A14.out).mono ?_); rintro e w' ⟨rfl, ⟨nd, rfl⟩⟩) | (go_at_call 37; (with_reducible refine (spec_l1In.calls a3 0 15 false _ A16.out).mono ?_); rintro e w' ⟨rfl, ⟨nd, rfl⟩⟩))
       go_meet
       case rel => exact ⟨_, (true), (by first | rfl | (simp; done) | (simp [*]; done)), H', ⟨by first | omega | exact zbp _⟩, ⟨by (with_reducible repeat (first | apply zab | apply zac | apply zae)); exact HO231.out⟩, ⟨by repeat (first | (with_reducible first | exact HB.out | apply zaj | apply zad | apply zai) | exact HB.out)⟩⟩
     ·replace c15 := zbu.mpr c15
      subst c15
      have H1 : (spec_Quarter.j0 k a1 a2 a3 a4 y229 true) = some r := by rw [if_neg (show ¬ (false = true) by decide)] at H; exact H
      clear H
      have H := H1
      clear H1
      have H' := Aside0.mk H
      clear H
      go_wp2_with (first | (go_at_call 37; (with_reducible refine (spec_l1In.calls a1 0 15 true _ A12.out).mono ?_); rintro e w' ⟨rfl, ⟨nd, rfl⟩⟩) | (go_at_call 37; (with_reducible refine (spec_l1In.calls a2 0 15 false _ A14.out).mono ?_); rintro e w' ⟨rfl, ⟨nd, rfl⟩⟩))
      go_meet
      case rel => exact ⟨_, (true), (by first | rfl | (simp; done) | (simp [*]; done)), H', ⟨by first | omega | exact zbp _⟩, ⟨by (with_reducible repeat (first | apply zab | apply zac | apply zae)); exact HO231.out⟩, ⟨by repeat (first | (with_reducible first | exact HB.out | apply zaj | apply zad | apply zai) | exact HB.out)⟩⟩
    ·replace c13 := zbu.mpr c13
     subst c13
     have H1 : (spec_Quarter.j0 k a1 a2 a3 a4 y229 true) = some r := by rw [if_neg (show ¬ (false = true) by decide)] at H; exact H
     clear H
     have H := H1
     clear H1
     have H' := Aside0.mk H
     clear H
     go_wp2_with (first | (go_at_call 37; (with_reducible refine (spec_l1In.calls a1 0 15 false _ A12.out).mono ?_); rintro e w' ⟨rfl, ⟨nd, rfl⟩⟩))
     go_meet
     case rel => exact ⟨_, (true), (by first | rfl | (simp; done) | (simp [*]; done)), H', ⟨by first | omega | exact zbp _⟩, ⟨by (with_reducible repeat (first | apply zab | apply zac | apply zae)); exact HO231.out⟩, ⟨by repeat (first | (with_reducible first | exact HB.out | apply zaj | apply zad | apply zai) | exact HB.out)⟩⟩
   ·rw [if_neg c11] at H
    have c11b0 : ((l0.length : Int) == 16) = false := zbz.mpr c11
    have c11b1 : ((l0.length : Int) != 16) = true := zdh.mpr c11
    (first | rw [c11b0] | (simp only [i64_w, i32_w]; rw [c11b0]) | skip)
    have H' := Aside0.mk H
    clear H
    go_wp2
    go_meet
    case rel => exact ⟨_, (true), (by first | rfl | (simp; done) | (simp [*]; done)), H', ⟨by first | omega | exact zbp _⟩, ⟨by (with_reducible repeat (first | apply zab | apply zac | apply zae)); exact HO231.out⟩, ⟨by repeat (first | (with_reducible first | exact HB.out | apply zaj | apply zad | apply zai) | exact HB.out)⟩⟩
  case rest =>
   clear HC7
   try clear c1
   try clear c2
   try clear p2
   try clear c6
   try clear c11
   try clear c11b0
   try clear c11b1
   try clear c13
   try clear c15
   try clear c17
   try clear c19
   try clear c20
   try clear c20b0
   try clear c20b1
   try clear c21
   try clear c21b0
   try clear c21b1
   try clear c22
   try clear c22b0
   try clear c22b1
   try clear c23
   try clear c23b0
   try clear c23b1
   try clear c24
   try clear c24b0
   try clear c24b1
   obtain ⟨kq, x67_6, rfl, HA, HJ6, HO_11, HB⟩ := hcut
   cases kq with
   | zero => exact absurd HA.out (by simp [spec_Quarter.j0])
   | succ kj6 =>
    have H := HA.out
    clear HA
    simp only [spec_Quarter.j0] at H
    by_cases c25 : x67_6 = true
    ·subst c25
     have H1 : (some y229) = some r := by rw [if_pos rfl] at H; exact H
     clear H
     have H := H1
     clear H1
     obtain rfl := Option.some.inj H
     go_wp2
     go_ret
     exact ⟨_, by first | rfl | (simp [zbj, zbk] <;> rfl) | (simp [*, zbj, zbk] <;> rfl), by (with_reducible repeat (first | apply zab | apply zac | apply zae)); exact HO_11.out, by repeat (first | (with_reducible first | exact HB.out | apply zaj | apply zad | apply zai) | exact HB.out)⟩
    ·replace c25 := zbu.mpr c25
     subst c25
     have H1 : (if 0 ≤ a1 then (if a1 < (y229.length : Int) then (if 0 ≤ a2 then (if a2 < (y229.length : Int) then ((spec_Word.f (wrap64 ((rd y229 a1) + (rd y229 a2)))).bind fun t238 => ((some (y229.set (a1 : Int).toNat t238 : List Int)).bind fun y239 => (if 0 ≤ a4 then (if a4 < (y229.length : Int) then ((spec_Turn.f (Go.bits .xor .i64 (rd y239 a4) (rd y239 a1)) 16).bind fun t242 => ((some (y239.set (a4 : Int).toNat t242 : List Int)).bind fun y243 => (if 0 ≤ a3 then (if a3 < (y229.length : Int) then ((spec_Word.f (wrap64 ((rd y243 a3) + (rd y243 a4)))).bind fun t246 => ((some (y243.set (a3 : Int).toNat t246 : List Int)).bind fun y247 => ((spec_Turn.f (Go.bits .xor .i64 (rd y247 a2) (rd y247 a3)) 12).bind fun t250 => ((some (y247.set (a2 : Int).toNat t250 : List Int)).bind fun y251 => ((spec_Word.f (wrap64 ((rd y251 a1) + (rd y251 a2)))).bind fun t254 => ((some (y251.set (a1 : Int).toNat t254 : List Int)).bind fun y255 => ((spec_Turn.f (Go.bits .xor .i64 (rd y255 a4) (rd y255 a1)) 8).bind fun t258 => ((some (y255.set (a4 : Int).toNat t258 : List Int)).bind fun y259 => ((spec_Word.f (wrap64 ((rd y259 a3) + (rd y259 a4)))).bind fun t262 => ((some (y259.set (a3 : Int).toNat t262 : List Int)).bind fun y263 => ((spec_Turn.f (Go.bits .xor .i64 (rd y263 a2) (rd y263 a3)) 7).bind fun t266 => (some (y263.set (a2 : Int).toNat t266))))))))))))) else (none)) else (none)))) else (none)) else (none)))) else (none)) else (none)) else (none)) else (none)) = some r := by rw [if_neg (show ¬ (false = true) by decide)] at H; exact H
     clear H
     have H := H1
     clear H1
     by_cases c26 : 0 ≤ a1
     ·rw [if_pos c26] at H
      have c26b0 : decide (0 ≤ a1) = true := zax c26
      clear c26
      by_cases c27 : a1 < (y229.length : Int)
      ·rw [if_pos c27] at H
       have c27b0 : decide (a1 < (y229.length : Int)) = true := zax c27
       clear c27
       by_cases c28 : 0 ≤ a2
       ·rw [if_pos c28] at H
        have c28b0 : decide (0 ≤ a2) = true := zax c28
        clear c28
        by_cases c29 : a2 < (y229.length : Int)
        ·rw [if_pos c29] at H
         have c29b0 : decide (a2 < (y229.length : Int)) = true := zax c29
         clear c29
         replace H := zam.mp H
         obtain ⟨t238, A300, H⟩ := H
         try dsimp only at H
         have A30 := Aside0.mk A300
         clear A300
         obtain ⟨y239, hy239⟩ : ∃ y_ : List Int, y_ = (y229.set (a1 : Int).toNat t238) := ⟨_, rfl⟩
         replace H : (if 0 ≤ a4 then (if a4 < (y229.length : Int) then ((spec_Turn.f (Go.bits .xor .i64 (rd y239 a4) (rd y239 a1)) 16).bind fun t242 => ((some (y239.set (a4 : Int).toNat t242 : List Int)).bind fun y243 => (if 0 ≤ a3 then (if a3 < (y229.length : Int) then ((spec_Word.f (wrap64 ((rd y243 a3) + (rd y243 a4)))).bind fun t246 => ((some (y243.set (a3 : Int).toNat t246 : List Int)).bind fun y247 => ((spec_Turn.f (Go.bits .xor .i64 (rd y247 a2) (rd y247 a3)) 12).bind fun t250 => ((some (y247.set (a2 : Int).toNat t250 : List Int)).bind fun y251 => ((spec_Word.f (wrap64 ((rd y251 a1) + (rd y251 a2)))).bind fun t254 => ((some (y251.set (a1 : Int).toNat t254 : List Int)).bind fun y255 => ((spec_Turn.f (Go.bits .xor .i64 (rd y255 a4) (rd y255 a1)) 8).bind fun t258 => ((some (y255.set (a4 : Int).toNat t258 : List Int)).bind fun y259 => ((spec_Word.f (wrap64 ((rd y259 a3) + (rd y259 a4)))).bind fun t262 => ((some (y259.set (a3 : Int).toNat t262 : List Int)).bind fun y263 => ((spec_Turn.f (Go.bits .xor .i64 (rd y263 a2) (rd y263 a3)) 7).bind fun t266 => (some (y263.set (a2 : Int).toNat t266))))))))))))) else (none)) else (none)))) else (none)) else (none)) = some r := by first | (rw [hy239]; with_reducible first | exact H | exact bind_ofs H) | (with_reducible first | exact H | exact bind_ofs H) | (rw [hy239]; exact H) | exact H
         have Ny239 := Aside0.mk hy239
         clear hy239
         by_cases c32 : 0 ≤ a4
         ·rw [if_pos c32] at H
          have c32b0 : decide (0 ≤ a4) = true := zax c32
          clear c32
          by_cases c33 : a4 < (y229.length : Int)
          ·rw [if_pos c33] at H
           have c33b0 : decide (a4 < (y229.length : Int)) = true := zax c33
           clear c33
           replace H := zam.mp H
           obtain ⟨t242, A340, H⟩ := H
           try dsimp only at H
           have A34 := Aside0.mk A340
           clear A340
           obtain ⟨y243, hy243⟩ : ∃ y_ : List Int, y_ = (y239.set (a4 : Int).toNat t242) := ⟨_, rfl⟩
           replace H : (if 0 ≤ a3 then (if a3 < (y229.length : Int) then ((spec_Word.f (wrap64 ((rd y243 a3) + (rd y243 a4)))).bind fun t246 => ((some (y243.set (a3 : Int).toNat t246 : List Int)).bind fun y247 => ((spec_Turn.f (Go.bits .xor .i64 (rd y247 a2) (rd y247 a3)) 12).bind fun t250 => ((some (y247.set (a2 : Int).toNat t250 : List Int)).bind fun y251 => ((spec_Word.f (wrap64 ((rd y251 a1) + (rd y251 a2)))).bind fun t254 => ((some (y251.set (a1 : Int).toNat t254 : List Int)).bind fun y255 => ((spec_Turn.f (Go.bits .xor .i64 (rd y255 a4) (rd y255 a1)) 8).bind fun t258 => ((some (y255.set (a4 : Int).toNat t258 : List Int)).bind fun y259 => ((spec_Word.f (wrap64 ((rd y259 a3) + (rd y259 a4)))).bind fun t262 => ((some (y259.set (a3 : Int).toNat t262 : List Int)).bind fun y263 => ((spec_Turn.f (Go.bits .xor .i64 (rd y263 a2) (rd y263 a3)) 7).bind fun t266 => (some (y263.set (a2 : Int).toNat t266))))))))))))) else (none)) else (none)) = some r := by first | (rw [hy243]; with_reducible first | exact H | exact bind_ofs H) | (with_reducible first | exact H | exact bind_ofs H) | (rw [hy243]; exact H) | exact H
           have Ny243 := Aside0.mk hy243
           clear hy243
           by_cases c36 : 0 ≤ a3
           ·rw [if_pos c36] at H
            have c36b0 : decide (0 ≤ a3) = true := zax c36
            clear c36
            by_cases c37 : a3 < (y229.length : Int)
            ·rw [if_pos c37] at H
             have c37b0 : decide (a3 < (y229.length : Int)) = true := zax c37
             clear c37
             replace H := zam.mp H
             obtain ⟨t246, A380, H⟩ := H
             try dsimp only at H
             have A38 := Aside0.mk A380
             clear A380
             obtain ⟨y247, hy247⟩ : ∃ y_ : List Int, y_ = (y243.set (a3 : Int).toNat t246) := ⟨_, rfl⟩
             replace H : ((spec_Turn.f (Go.bits .xor .i64 (rd y247 a2) (rd y247 a3)) 12).bind fun t250 => ((some (y247.set (a2 : Int).toNat t250 : List Int)).bind fun y251 => ((spec_Word.f (wrap64 ((rd y251 a1) + (rd y251 a2)))).bind fun t254 => ((some (y251.set (a1 : Int).toNat t254 : List Int)).bind fun y255 => ((spec_Turn.f (Go.bits .xor .i64 (rd y255 a4) (rd y255 a1)) 8).bind fun t258 => ((some (y255.set (a4 : Int).toNat t258 : List Int)).bind fun y259 => ((spec_Word.f (wrap64 ((rd y259 a3) + (rd y259 a4)))).bind fun t262 => ((some (y259.set (a3 : Int).toNat t262 : List Int)).bind fun y263 => ((spec_Turn.f (Go.bits .xor .i64 (rd y263 a2) (rd y263 a3)) 7).bind fun t266 => (some (y263.set (a2 : Int).toNat t266))))))))))) = some r := by first | (rw [hy247]; with_reducible first | exact H | exact bind_ofs H) | (with_reducible first | exact H | exact bind_ofs H) | (rw [hy247]; exact H) | exact H
             have Ny247 := Aside0.mk hy247
             clear hy247
             replace H := zam.mp H
             obtain ⟨t250, A400, H⟩ := H
             try dsimp only at H
             have A40 := Aside0.mk A400
             clear A400
             obtain ⟨y251, hy251⟩ : ∃ y_ : List Int, y_ = (y247.set (a2 : Int).toNat t250) := ⟨_, rfl⟩
             replace H : ((spec_Word.f (wrap64 ((rd y251 a1) + (rd y251 a2)))).bind fun t254 => ((some (y251.set (a1 : Int).toNat t254 : List Int)).bind fun y255 => ((spec_Turn.f (Go.bits .xor .i64 (rd y255 a4) (rd y255 a1)) 8).bind fun t258 => ((some (y255.set (a4 : Int).toNat t258 : List Int)).bind fun y259 => ((spec_Word.f (wrap64 ((rd y259 a3) + (rd y259 a4)))).bind fun t262 => ((some (y259.set (a3 : Int).toNat t262 : List Int)).bind fun y263 => ((spec_Turn.f (Go.bits .xor .i64 (rd y263 a2) (rd y263 a3)) 7).bind fun t266 => (some (y263.set (a2 : Int).toNat t266))))))))) = some r := by first | (rw [hy251]; with_reducible first | exact H | exact bind_ofs H) | (with_reducible first | exact H | exact bind_ofs H) | (rw [hy251]; exact H) | exact H
             have Ny251 := Aside0.mk hy251
             clear hy251
             replace H := zam.mp H
             obtain ⟨t254, A420, H⟩ := H
             try dsimp only at H
             have A42 := Aside0.mk A420
             clear A420
             obtain ⟨y255, hy255⟩ : ∃ y_ : List Int, y_ = (y251.set (a1 : Int).toNat t254) := ⟨_, rfl⟩
             replace H : ((spec_Turn.f (Go.bits .xor .i64 (rd y255 a4) (rd y255 a1)) 8).bind fun t258 => ((some (y255.set (a4 : Int).toNat t258 : List Int)).bind fun y259 => ((spec_Word.f (wrap64 ((rd y259 a3) + (rd y259 a4)))).bind fun t262 => ((some (y259.set (a3 : Int).toNat t262 : List Int)).bind fun y263 => ((spec_Turn.f (Go.bits .xor .i64 (rd y263 a2) (rd y263 a3)) 7).bind fun t266 => (some (y263.set (a2 : Int).toNat t266))))))) = some r := by first | (rw [hy255]; with_reducible first | exact H | exact bind_ofs H) | (with_reducible first | exact H | exact bind_ofs H) | (rw [hy255]; exact H) | exact H
             have Ny255 := Aside0.mk hy255
             clear hy255
             replace H := zam.mp H
             obtain ⟨t258, A440, H⟩ := H
             try dsimp only at H
             have A44 := Aside0.mk A440
             clear A440
             obtain ⟨y259, hy259⟩ : ∃ y_ : List Int, y_ = (y255.set (a4 : Int).toNat t258) := ⟨_, rfl⟩
             replace H : ((spec_Word.f (wrap64 ((rd y259 a3) + (rd y259 a4)))).bind fun t262 => ((some (y259.set (a3 : Int).toNat t262 : List Int)).bind fun y263 => ((spec_Turn.f (Go.bits .xor .i64 (rd y263 a2) (rd y263 a3)) 7).bind fun t266 => (some (y263.set (a2 : Int).toNat t266))))) = some r := by first | (rw [hy259]; with_reducible first | exact H | exact bind_ofs H) | (with_reducible first | exact H | exact bind_ofs H) | (rw [hy259]; exact H) | exact H
             have Ny259 := Aside0.mk hy259
             clear hy259
             replace H := zam.mp H
             obtain ⟨t262, A460, H⟩ := H
             try dsimp only at H
             have A46 := Aside0.mk A460
             clear A460
             obtain ⟨y263, hy263⟩ : ∃ y_ : List Int, y_ = (y259.set (a3 : Int).toNat t262) := ⟨_, rfl⟩
             replace H : ((spec_Turn.f (Go.bits .xor .i64 (rd y263 a2) (rd y263 a3)) 7).bind fun t266 => (some (y263.set (a2 : Int).toNat t266))) = some r := by first | (rw [hy263]; with_reducible first | exact H | exact bind_ofs H) | (with_reducible first | exact H | exact bind_ofs H) | (rw [hy263]; exact H) | exact H
             have Ny263 := Aside0.mk hy263
             clear hy263
             replace H := zam.mp H
             obtain ⟨t266, A480, H⟩ := H
             try dsimp only at H
             have A48 := Aside0.mk A480
             clear A480
             obtain ⟨y267, hy267⟩ : ∃ y_ : List Int, y_ = (y263.set (a2 : Int).toNat t266) := ⟨_, rfl⟩
             replace H : (some y267) = some r := by first | (rw [hy267]; with_reducible first | exact H | exact bind_ofs H) | (with_reducible first | exact H | exact bind_ofs H) | (rw [hy267]; exact H) | exact H
             have Ny267 := Aside0.mk hy267
             clear hy267
             obtain rfl := Option.some.inj H
             try go_wp2
             have n0_ := Aside0.mk (zae HO_11.out)
             have n1_ := Aside0.mk (zai HB.out)
             clear HO_11
             clear HB
             have HO_11 := n0_
             have HB := n1_
             clear n0_ n1_
             obtain ⟨Ao51, co51, eo51⟩ := zbe HO_11.out
             (first | subst eo51 | (injection eo51 with f1_ f2_ f3_; have f4_ := f1_.symm; have f5_ := f3_.symm; clear f1_ f2_ f3_; subst f4_; subst f5_))
             have p236 : 0 ≤ (a1 : Int) := zap (by first | (with_reducible assumption) | assumption)
             have q236 : a1 < (y229.length : Int) := zap (by first | (with_reducible assumption) | assumption)
             obtain ⟨ad236, e236, hx236_0⟩ := zca (zaf HO_11.out).2.2 a1 p236 q236
             cases e236
             replace p236 := zbn p236
             replace q236 := zbn q236
             have p237 : 0 ≤ (a2 : Int) := zap (by first | (with_reducible assumption) | assumption)
             have q237 : a2 < (y229.length : Int) := zap (by first | (with_reducible assumption) | assumption)
             obtain ⟨ad237, e237, hx237_0⟩ := zca (zaf HO_11.out).2.2 a2 p237 q237
             obtain rfl : ad236 = ad237 := (by injection e237)
             replace p237 := zbn p237
             replace q237 := zbn q237
             refine start_ (n := 14) (S := fun w' => w'.cell? (ad236.add (a1).toNat) = some (.int .i64 (rd y229 a1)) ∧ w'.cell? (ad236.add (a2).toNat) = some (.int .i64 (rd y229 a2))) (ds := [13]) #[false, false, false, false, false, false, false, false, false, false, false, false, false, false] (by kernel_rfl) rfl rfl ⟨hx236_0, hx237_0⟩ (fun hHeld => ?_); refine zeq spec_Quarter.tab4 spec_Quarter.bits4 (fun HT_ HW_ => ?_)
             generalize wc.drew = w50 at HO_11 HB hx236_0 hx237_0 hHeld ⊢
             refine pure_ (i := 0) (N := some 69) (v := ?_) (a' := ?_) #[true, false, false, false, false, false, false, false, false, false, false, false, false, false] rfl rfl (any_of HT_.out (by kernel_rfl)) (fun _ _ _ h => h) (Or.inl ⟨by rfl, ?_⟩) ?_ ?_
             rotate_left
             ·intro w'
              go_simp
              with_reducible rfl
             rotate_left
             ·simp only [Act.put, zaa, zag, zah, i64_w, i32_w]
              rfl
             refine pure_ (i := 1) (N := some 70) (v := ?_) (a' := ?_) #[true, true, false, false, false, false, false, false, false, false, false, false, false, false] rfl rfl (any_of HT_.out (by kernel_rfl)) (fun _ _ _ h => h) (Or.inl ⟨by rfl, ?_⟩) ?_ ?_
             rotate_left
             ·intro w'
              go_simp
              with_reducible rfl
             rotate_left
             ·simp only [Act.put, zaa, zag, zah, i64_w, i32_w]
              rfl
             refine pure_ (i := 2) (N := some 71) (v := ?_) (a' := ?_) #[true, true, true, false, false, false, false, false, false, false, false, false, false, false] rfl rfl (any_of HT_.out (by kernel_rfl)) (fun _ _ _ h => h) (Or.inl ⟨by rfl, ?_⟩) ?_ ?_
             rotate_left
             ·intro w'
              go_simp
              with_reducible rfl
             rotate_left
             ·simp only [Act.put, zaa, zag, zah, i64_w, i32_w]
              rfl
             refine pure_ (i := 3) (N := some 72) (v := ?_) (a' := ?_) #[true, true, true, true, false, false, false, false, false, false, false, false, false, false] rfl rfl (any_of HT_.out (by kernel_rfl)) (fun _ _ _ h => h) (Or.inl ⟨by rfl, ?_⟩) ?_ ?_
             rotate_left
             ·intro w'
              go_simp
              with_reducible rfl
             rotate_left
             ·simp only [Act.put, zaa, zag, zah, i64_w, i32_w]
              rfl
             refine pure_ (i := 4) (N := some 73) (v := ?_) (a' := ?_) #[true, true, true, true, true, false, false, false, false, false, false, false, false, false] rfl rfl (any_of HT_.out (by kernel_rfl)) (fun _ _ _ h => h) (Or.inl ⟨by rfl, ?_⟩) ?_ ?_
             rotate_left
             ·intro w'
              go_simp
              with_reducible rfl
             rotate_left
             ·simp only [Act.put, zaa, zag, zah, i64_w, i32_w]
              rfl
             refine pure_ (i := 6) (N := some 75) (v := ?_) (a' := ?_) #[true, true, true, true, true, false, true, false, false, false, false, false, false, false] rfl rfl (any_of HT_.out (by kernel_rfl)) (fun _ _ _ h => h) (Or.inl ⟨by rfl, ?_⟩) ?_ ?_
             rotate_left
             ·intro w'
              go_simp
              with_reducible rfl
             rotate_left
             ·simp only [Act.put, zaa, zag, zah, i64_w, i32_w]
              rfl
             refine pure_ (i := 7) (N := some 76) (v := ?_) (a' := ?_) #[true, true, true, true, true, false, true, true, false, false, false, false, false, false] rfl rfl (any_of HT_.out (by kernel_rfl)) (fun _ _ _ h => h) (Or.inl ⟨by rfl, ?_⟩) ?_ ?_
             rotate_left
             ·intro w'
              go_simp
              with_reducible rfl
             rotate_left
             ·simp only [Act.put, zaa, zag, zah, i64_w, i32_w]
              rfl
             refine pure_ (i := 8) (N := some 77) (v := ?_) (a' := ?_) #[true, true, true, true, true, false, true, true, true, false, false, false, false, false] rfl rfl (any_of HT_.out (by kernel_rfl)) (fun _ _ _ h => h) (Or.inl ⟨by rfl, ?_⟩) ?_ ?_
             rotate_left
             ·intro w'
              go_simp
              with_reducible rfl
             rotate_left
             ·simp only [Act.put, zaa, zag, zah, i64_w, i32_w]
              rfl
             refine take_ (i := 5) (N := some 74) (v := ?_) (a' := ?_) #[true, true, true, true, true, true, true, true, true, false, false, false, false, false] rfl rfl (zdt HT_.out HW_.out (by kernel_rfl)) (fun _ _ _ h => h) (Or.inl ⟨by rfl, ?_⟩) hHeld ?_ ?_
             rotate_left
             ·rintro w' ⟨s0, s1⟩
              go_simp
              with_reducible rfl
             rotate_left
             ·simp only [Act.put, zaa, zag, zah, i64_w, i32_w]
              rfl
             refine take_ (i := 9) (N := some 78) (v := ?_) (a' := ?_) #[true, true, true, true, true, true, true, true, true, true, false, false, false, false] rfl rfl (zdt HT_.out HW_.out (by kernel_rfl)) (fun _ _ _ h => h) (Or.inl ⟨by rfl, ?_⟩) hHeld ?_ ?_
             rotate_left
             ·rintro w' ⟨s0, s1⟩
              go_simp
              with_reducible rfl
             rotate_left
             ·simp only [Act.put, zaa, zag, zah, i64_w, i32_w]
              rfl
             refine pure_ (i := 10) (N := some 79) (v := ?_) (a' := ?_) #[true, true, true, true, true, true, true, true, true, true, true, false, false, false] rfl rfl (any_of HT_.out (by kernel_rfl)) (fun _ _ _ h => h) (Or.inl ⟨by rfl, ?_⟩) ?_ ?_
             rotate_left
             ·intro w'
              go_simp
              with_reducible rfl
             rotate_left
             ·simp only [Act.put, zaa, zag, zah, i64_w, i32_w]
              rfl
             refine one_ (i := 11) (N := some 80) #[true, true, true, true, true, true, true, true, true, true, true, true, false, false] rfl rfl (one_of HT_.out (by kernel_rfl)) (by decide) (fun K hK => ?_)
             refine goes_ Try.func38 (by kernel_rfl) rfl #[.int .i64 (wrap64 ((rd y229 a1) + (rd y229 a2)))] (by rfl) rfl rfl (by (try simp only [zal, zaq, zar]); first | done | rfl | (simp only [zbl, zbi]; rfl) | (simp only [zbl, zbi]; rw [zcm (zda.mpr (zdl (by assumption)))])) ?_
             with_reducible refine (spec_Word.calls (wrap64 ((rd y229 a1) + (rd y229 a2))) t238 _ A30.out).mono ?_
             rintro e w' ⟨rfl, ⟨nd, rfl⟩⟩
             refine ⟨_, rfl, ?_⟩
             have p31 : 0 ≤ (a1 : Int) := zap (by first | (with_reducible assumption) | assumption)
             have q31 : (a1 : Int) < ((y229.length : Int) : Int) := zap (by first | (with_reducible assumption) | assumption)
             obtain ⟨go31, co31, eo31, gb31, gl31, cl31, HG31⟩ := Kd.R_form HO_11.out (by omega)
             (first | cases eo31 | (injection eo31 with ea_ en_ ec_; (first | subst ea_ | (injection ea_ with ea_; subst ea_)); subst ec_; clear en_))
             have GB31 := Aside0.mk gb31
             have GG31 := Aside0.mk HG31
             clear gb31 gl31 HG31
             (first | simp only [zeg] at hx236_0 | skip)
             (first | simp only [zeg] at hx237_0 | skip)
             obtain ⟨hx31_0, hf31_0⟩ := zer 0 HO_11.out (a1 : Int) p31 q31
             replace p31 := zbn p31
             replace q31 := zbn q31
             have HP52 := Kd.R_putn HO_11.out (a1 : Int) t238
             rw [← Ny239.out] at HP52
             have HQ52 := Aside0.mk HP52
             clear HP52
             refine hK.out _ _ ⟨hHeld.1, hHeld.2⟩ (fun hHeld => ?_)
             clear hK K
             refine norm_ (a' := ?_) ?_ ?_
             rotate_left
             ·show Act.put _ (some 80) _ = _
              simp only [Act.put, zaa, zag, zah, i64_w, i32_w]
              rfl
             refine pure_ (i := 12) (N := some 81) (v := ?_) (a' := ?_) #[true, true, true, true, true, true, true, true, true, true, true, true, true, false] rfl rfl (any_of HT_.out (by kernel_rfl)) (fun _ _ _ h => h) (Or.inl ⟨by rfl, ?_⟩) ?_ ?_
             rotate_left
             ·intro w'
              go_simp
              with_reducible rfl
             rotate_left
             ·simp only [Act.put, zaa, zag, zah, i64_w, i32_w]
              rfl
             refine last_ (i := 13) (N := none) #[true, true, true, true, true, true, true, true, true, true, true, true, true, true] rfl rfl (one_of HT_.out (by kernel_rfl)) (by decide) (fun K hK => ?_)
             refine skip_ (w1 := ?_) (by rfl) rfl ?_ ?_
             rotate_left
             ·go_simp
              rfl
             refine hK.out _ _ ?_
             clear hK K
             refine done_ (done_of HT_.out (by kernel_rfl)) ?_
             try go_wp2
             have n0_ : Aside0 (Kd.R (Kd.int .i64) 3 (w50.setCell ⟨go31, (a1 : Int).toNat, none⟩ (.int .i64 t238)) w.heap.size (fun _ => True) (.slice (some ⟨go31, 0, none⟩) y229.length co51) y239) := ⟨by (with_reducible repeat (first | apply zab | apply zac | apply zae)); exact HQ52.out⟩
             have n1_ : Aside0 (Below w.heap.size w (w50.setCell ⟨go31, (a1 : Int).toNat, none⟩ (.int .i64 t238))) := ⟨by repeat (first | (with_reducible first | exact HB.out | apply zaj | apply zad | apply zai | refine zbs ?_ GB31.out) | exact HB.out)⟩
             (try clear HO_11)
             (try clear HB)
             (try rw [spec_Quarter.sd w50])
             generalize (w50.setCell ⟨go31, (a1 : Int).toNat, none⟩ (.int .i64 t238)) = w53 at n0_ n1_ ⊢
             have HO_11 := n0_
             have HB := n1_
             clear n0_ n1_
             (try (rw [drewN_self w53]; generalize hq_ : World.drewN w53 _ = w53; have n0_ : Aside0 (Kd.R (Kd.int .i64) 3 w53 w.heap.size (fun _ => True) (.slice (some ⟨go31, 0, none⟩) y229.length co51) y239) := ⟨by rw [← hq_]; exact (by (with_reducible repeat (first | apply zab | apply zac | apply zae)); exact HO_11.out)⟩; have n1_ : Aside0 (Below w.heap.size w w53) := ⟨by rw [← hq_]; exact (by repeat (first | (with_reducible first | exact HB.out | apply zaj | apply zad | apply zai) | exact HB.out))⟩; clear HO_11 HB hq_; have HO_11 := n0_; have HB := n1_; clear n0_ n1_))
             have n0_ := Aside0.mk (zae HO_11.out)
             have n1_ := Aside0.mk (zai HB.out)
             clear HO_11
             clear HB
             have HO_11 := n0_
             have HB := n1_
             clear n0_ n1_
             have p240 : 0 ≤ (a4 : Int) := zap (by first | (with_reducible assumption) | assumption)
             have q240 : a4 < (y239.length : Int) := (by have h_ : (a4 : Int) < ((y229.length : Int) : Int) := zap (by first | (with_reducible assumption) | assumption); first | (have e_ := (zaf HO_11.out).1; omega) | simpa only [Ny239.out, zdm] using h_)
             have ql240 : ((a4 : Int) < ((y229.length : Int) : Int)) = True := zbn (zap (by first | (with_reducible assumption) | assumption))
             obtain ⟨ad240, e240, hx240_0⟩ := zca (zaf HO_11.out).2.2 a4 p240 q240
             obtain rfl : (⟨go31, 0, none⟩ : Addr) = ad240 := (by injection e240)
             (first | simp only [zeg] at hx240_0 | simp only [add_at] at hx240_0 | simp only [Addr.add, zeb] at hx240_0 | skip)
             replace p240 := zbn p240
             replace q240 := zbn q240
             have p241 : 0 ≤ (a1 : Int) := zap (by first | (with_reducible assumption) | assumption)
             have q241 : a1 < (y239.length : Int) := (by have h_ : (a1 : Int) < ((y229.length : Int) : Int) := zap (by first | (with_reducible assumption) | assumption); first | (have e_ := (zaf HO_11.out).1; omega) | simpa only [Ny239.out, zdm] using h_)
             have ql241 : ((a1 : Int) < ((y229.length : Int) : Int)) = True := zbn (zap (by first | (with_reducible assumption) | assumption))
             obtain ⟨ad241, e241, hx241_0⟩ := zca (zaf HO_11.out).2.2 a1 p241 q241
             obtain rfl : (⟨go31, 0, none⟩ : Addr) = ad241 := (by injection e241)
             (first | simp only [zeg] at hx241_0 | simp only [add_at] at hx241_0 | simp only [Addr.add, zeb] at hx241_0 | skip)
             replace p241 := zbn p241
             replace q241 := zbn q241
             refine start_ (n := 14) (S := fun w' => w'.cell? ⟨go31, (a4).toNat, none⟩ = some (.int .i64 (rd y239 a4)) ∧ w'.cell? ⟨go31, (a1).toNat, none⟩ = some (.int .i64 (rd y239 a1))) (ds := [13]) #[false, false, false, false, false, false, false, false, false, false, false, false, false, false] (by kernel_rfl) rfl rfl ⟨hx240_0, hx241_0⟩ (fun hHeld => ?_); refine zeq spec_Quarter.tab5 spec_Quarter.bits5 (fun HT_ HW_ => ?_)
             generalize w53.drew = w54 at HO_11 HB HQ52 hx240_0 hx241_0 hHeld ⊢
             refine pure_ (i := 0) (N := some 82) (v := ?_) (a' := ?_) #[true, false, false, false, false, false, false, false, false, false, false, false, false, false] rfl rfl (any_of HT_.out (by kernel_rfl)) (fun _ _ _ h => h) (Or.inl ⟨by rfl, ?_⟩) ?_ ?_
             rotate_left
             ·intro w'
              go_simp
              with_reducible rfl
             rotate_left
             ·simp only [Act.put, zaa, zag, zah, i64_w, i32_w]
              rfl
             refine pure_ (i := 1) (N := some 83) (v := ?_) (a' := ?_) #[true, true, false, false, false, false, false, false, false, false, false, false, false, false] rfl rfl (any_of HT_.out (by kernel_rfl)) (fun _ _ _ h => h) (Or.inl ⟨by rfl, ?_⟩) ?_ ?_
             rotate_left
             ·intro w'
              go_simp
              with_reducible rfl
             rotate_left
             ·simp only [Act.put, zaa, zag, zah, i64_w, i32_w]
              rfl
             refine pure_ (i := 2) (N := some 84) (v := ?_) (a' := ?_) #[true, true, true, false, false, false, false, false, false, false, false, false, false, false] rfl rfl (any_of HT_.out (by kernel_rfl)) (fun _ _ _ h => h) (Or.inl ⟨by rfl, ?_⟩) ?_ ?_
             rotate_left
             ·intro w'
              go_simp
              with_reducible rfl
             rotate_left
             ·simp only [Act.put, zaa, zag, zah, i64_w, i32_w]
              rfl
             refine pure_ (i := 3) (N := some 85) (v := ?_) (a' := ?_) #[true, true, true, true, false, false, false, false, false, false, false, false, false, false] rfl rfl (any_of HT_.out (by kernel_rfl)) (fun _ _ _ h => h) (Or.inl ⟨by rfl, ?_⟩) ?_ ?_
             rotate_left
             ·intro w'
              go_simp
              with_reducible rfl
             rotate_left
             ·simp only [Act.put, zaa, zag, zah, i64_w, i32_w]
              rfl
             refine pure_ (i := 4) (N := some 86) (v := ?_) (a' := ?_) #[true, true, true, true, true, false, false, false, false, false, false, false, false, false] rfl rfl (any_of HT_.out (by kernel_rfl)) (fun _ _ _ h => h) (Or.inl ⟨by rfl, ?_⟩) ?_ ?_
             rotate_left
             ·intro w'
              go_simp
              with_reducible rfl
             rotate_left
             ·simp only [Act.put, zaa, zag, zah, i64_w, i32_w]
              rfl
             refine pure_ (i := 6) (N := some 88) (v := ?_) (a' := ?_) #[true, true, true, true, true, false, true, false, false, false, false, false, false, false] rfl rfl (any_of HT_.out (by kernel_rfl)) (fun _ _ _ h => h) (Or.inl ⟨by rfl, ?_⟩) ?_ ?_
             rotate_left
             ·intro w'
              go_simp
              with_reducible rfl
             rotate_left
             ·simp only [Act.put, zaa, zag, zah, i64_w, i32_w]
              rfl
             refine pure_ (i := 7) (N := some 89) (v := ?_) (a' := ?_) #[true, true, true, true, true, false, true, true, false, false, false, false, false, false] rfl rfl (any_of HT_.out (by kernel_rfl)) (fun _ _ _ h => h) (Or.inl ⟨by rfl, ?_⟩) ?_ ?_
             rotate_left
             ·intro w'
              go_simp
              with_reducible rfl
             rotate_left
             ·simp only [Act.put, zaa, zag, zah, i64_w, i32_w]
              rfl
             refine pure_ (i := 8) (N := some 90) (v := ?_) (a' := ?_) #[true, true, true, true, true, false, true, true, true, false, false, false, false, false] rfl rfl (any_of HT_.out (by kernel_rfl)) (fun _ _ _ h => h) (Or.inl ⟨by rfl, ?_⟩) ?_ ?_
             rotate_left
             ·intro w'
              go_simp
              with_reducible rfl
             rotate_left
             ·simp only [Act.put, zaa, zag, zah, i64_w, i32_w]
              rfl
             refine take_ (i := 5) (N := some 87) (v := ?_) (a' := ?_) #[true, true, true, true, true, true, true, true, true, false, false, false, false, false] rfl rfl (zdt HT_.out HW_.out (by kernel_rfl)) (fun _ _ _ h => h) (Or.inl ⟨by rfl, ?_⟩) hHeld ?_ ?_
             rotate_left
             ·rintro w' ⟨s0, s1⟩
              go_simp
              with_reducible rfl
             rotate_left
             ·simp only [Act.put, zaa, zag, zah, i64_w, i32_w]
              rfl
             refine take_ (i := 9) (N := some 91) (v := ?_) (a' := ?_) #[true, true, true, true, true, true, true, true, true, true, false, false, false, false] rfl rfl (zdt HT_.out HW_.out (by kernel_rfl)) (fun _ _ _ h => h) (Or.inl ⟨by rfl, ?_⟩) hHeld ?_ ?_
             rotate_left
             ·rintro w' ⟨s0, s1⟩
              go_simp
              with_reducible rfl
             rotate_left
             ·simp only [Act.put, zaa, zag, zah, i64_w, i32_w]
              rfl
             refine pure_ (i := 10) (N := some 92) (v := ?_) (a' := ?_) #[true, true, true, true, true, true, true, true, true, true, true, false, false, false] rfl rfl (any_of HT_.out (by kernel_rfl)) (fun _ _ _ h => h) (Or.inl ⟨by rfl, ?_⟩) ?_ ?_
             rotate_left
             ·intro w'
              go_simp
              with_reducible rfl
             rotate_left
             ·simp only [Act.put, zaa, zag, zah, i64_w, i32_w]
              rfl
             refine one_ (i := 11) (N := some 93) #[true, true, true, true, true, true, true, true, true, true, true, true, false, false] rfl rfl (one_of HT_.out (by kernel_rfl)) (by decide) (fun K hK => ?_)
             refine goes_ Try.func39 (by kernel_rfl) rfl #[.int .i64 (Go.bits .xor .i64 (rd y239 a4) (rd y239 a1)), .int .i64 16] (by rfl) rfl rfl (by (try simp only [zal, zaq, zar]); first | done | rfl | (simp only [zbl, zbi]; rfl) | (simp only [zbl, zbi]; rw [zcm (zda.mpr (zdl (by assumption)))])) ?_
             with_reducible refine (spec_Turn.calls (Go.bits .xor .i64 (rd y239 a4) (rd y239 a1)) 16 t242 _ A34.out).mono ?_
             rintro e w' ⟨rfl, ⟨nd, rfl⟩⟩
             refine ⟨_, rfl, ?_⟩
             have p35 : 0 ≤ (a4 : Int) := zap (by first | (with_reducible assumption) | assumption)
             have q35 : (a4 : Int) < ((y229.length : Int) : Int) := zap (by first | (with_reducible assumption) | assumption)
             obtain ⟨hx35_0, hf35_0⟩ := zer 0 HO_11.out (a4 : Int) p35 q35
             replace p35 := zbn p35
             replace q35 := zbn q35
             have HP55 := Kd.R_putn HO_11.out (a4 : Int) t242
             rw [← Ny243.out] at HP55
             have HQ55 := Aside0.mk HP55
             clear HP55
             refine hK.out _ _ ⟨hHeld.1, hHeld.2⟩ (fun hHeld => ?_)
             clear hK K
             refine norm_ (a' := ?_) ?_ ?_
             rotate_left
             ·show Act.put _ (some 93) _ = _
              simp only [Act.put, zaa, zag, zah, i64_w, i32_w]
              rfl
             refine pure_ (i := 12) (N := some 94) (v := ?_) (a' := ?_) #[true, true, true, true, true, true, true, true, true, true, true, true, true, false] rfl rfl (any_of HT_.out (by kernel_rfl)) (fun _ _ _ h => h) (Or.inl ⟨by rfl, ?_⟩) ?_ ?_
             rotate_left
             ·intro w'
              go_simp
              with_reducible rfl
             rotate_left
             ·simp only [Act.put, zaa, zag, zah, i64_w, i32_w]
              rfl
             refine last_ (i := 13) (N := none) #[true, true, true, true, true, true, true, true, true, true, true, true, true, true] rfl rfl (one_of HT_.out (by kernel_rfl)) (by decide) (fun K hK => ?_)
             refine skip_ (w1 := ?_) (by rfl) rfl ?_ ?_
             rotate_left
             ·go_simp
              rfl
             refine hK.out _ _ ?_
             clear hK K
             refine done_ (done_of HT_.out (by kernel_rfl)) ?_
             try go_wp2
             have n0_ : Aside0 (Kd.R (Kd.int .i64) 3 (w54.setCell ⟨go31, (a4 : Int).toNat, none⟩ (.int .i64 t242)) w.heap.size (fun _ => True) (.slice (some ⟨go31, 0, none⟩) y229.length co51) y243) := ⟨by (with_reducible repeat (first | apply zab | apply zac | apply zae)); exact HQ55.out⟩
             have n1_ : Aside0 (Below w.heap.size w (w54.setCell ⟨go31, (a4 : Int).toNat, none⟩ (.int .i64 t242))) := ⟨by repeat (first | (with_reducible first | exact HB.out | apply zaj | apply zad | apply zai | refine zbs ?_ GB31.out) | exact HB.out)⟩
             (try clear HO_11)
             (try clear HB)
             (try rw [spec_Quarter.sd w54])
             generalize (w54.setCell ⟨go31, (a4 : Int).toNat, none⟩ (.int .i64 t242)) = w56 at n0_ n1_ ⊢
             have HO_11 := n0_
             have HB := n1_
             clear n0_ n1_
             (try (rw [drewN_self w56]; generalize hq_ : World.drewN w56 _ = w56; have n0_ : Aside0 (Kd.R (Kd.int .i64) 3 w56 w.heap.size (fun _ => True) (.slice (some ⟨go31, 0, none⟩) y229.length co51) y243) := ⟨by rw [← hq_]; exact (by (with_reducible repeat (first | apply zab | apply zac | apply zae)); exact HO_11.out)⟩; have n1_ : Aside0 (Below w.heap.size w w56) := ⟨by rw [← hq_]; exact (by repeat (first | (with_reducible first | exact HB.out | apply zaj | apply zad | apply zai) | exact HB.out))⟩; clear HO_11 HB hq_; have HO_11 := n0_; have HB := n1_; clear n0_ n1_))
             have n0_ := Aside0.mk (zae HO_11.out)
             have n1_ := Aside0.mk (zai HB.out)
             clear HO_11
             clear HB
             have HO_11 := n0_
             have HB := n1_
             clear n0_ n1_
             have p244 : 0 ≤ (a3 : Int) := zap (by first | (with_reducible assumption) | assumption)
             have q244 : a3 < (y243.length : Int) := (by have h_ : (a3 : Int) < ((y229.length : Int) : Int) := zap (by first | (with_reducible assumption) | assumption); first | (have e_ := (zaf HO_11.out).1; omega) | simpa only [Ny239.out, Ny243.out, zdm] using h_)
             have ql244 : ((a3 : Int) < ((y229.length : Int) : Int)) = True := zbn (zap (by first | (with_reducible assumption) | assumption))
             obtain ⟨ad244, e244, hx244_0⟩ := zca (zaf HO_11.out).2.2 a3 p244 q244
             obtain rfl : (⟨go31, 0, none⟩ : Addr) = ad244 := (by injection e244)
             (first | simp only [zeg] at hx244_0 | simp only [add_at] at hx244_0 | simp only [Addr.add, zeb] at hx244_0 | skip)
             replace p244 := zbn p244
             replace q244 := zbn q244
             have p245 : 0 ≤ (a4 : Int) := zap (by first | (with_reducible assumption) | assumption)
             have q245 : a4 < (y243.length : Int) := (by have h_ : (a4 : Int) < ((y229.length : Int) : Int) := zap (by first | (with_reducible assumption) | assumption); first | (have e_ := (zaf HO_11.out).1; omega) | simpa only [Ny239.out, Ny243.out, zdm] using h_)
             have ql245 : ((a4 : Int) < ((y229.length : Int) : Int)) = True := zbn (zap (by first | (with_reducible assumption) | assumption))
             obtain ⟨ad245, e245, hx245_0⟩ := zca (zaf HO_11.out).2.2 a4 p245 q245
             obtain rfl : (⟨go31, 0, none⟩ : Addr) = ad245 := (by injection e245)
             (first | simp only [zeg] at hx245_0 | simp only [add_at] at hx245_0 | simp only [Addr.add, zeb] at hx245_0 | skip)
             replace p245 := zbn p245
             replace q245 := zbn q245
             refine start_ (n := 14) (S := fun w' => w'.cell? ⟨go31, (a3).toNat, none⟩ = some (.int .i64 (rd y243 a3)) ∧ w'.cell? ⟨go31, (a4).toNat, none⟩ = some (.int .i64 (rd y243 a4))) (ds := [13]) #[false, false, false, false, false, false, false, false, false, false, false, false, false, false] (by kernel_rfl) rfl rfl ⟨hx244_0, hx245_0⟩ (fun hHeld => ?_); refine zeq spec_Quarter.tab6 spec_Quarter.bits6 (fun HT_ HW_ => ?_)
             generalize w56.drew = w57 at HO_11 HB HQ55 hx244_0 hx245_0 hHeld ⊢
             refine pure_ (i := 0) (N := some 95) (v := ?_) (a' := ?_) #[true, false, false, false, false, false, false, false, false, false, false, false, false, false] rfl rfl (any_of HT_.out (by kernel_rfl)) (fun _ _ _ h => h) (Or.inl ⟨by rfl, ?_⟩) ?_ ?_
             rotate_left
             ·intro w'
              go_simp
              with_reducible rfl
             rotate_left
             ·simp only [Act.put, zaa, zag, zah, i64_w, i32_w]
              rfl
             refine pure_ (i := 1) (N := some 96) (v := ?_) (a' := ?_) #[true, true, false, false, false, false, false, false, false, false, false, false, false, false] rfl rfl (any_of HT_.out (by kernel_rfl)) (fun _ _ _ h => h) (Or.inl ⟨by rfl, ?_⟩) ?_ ?_
             rotate_left
             ·intro w'
              go_simp
              with_reducible rfl
             rotate_left
             ·simp only [Act.put, zaa, zag, zah, i64_w, i32_w]
              rfl
             refine pure_ (i := 2) (N := some 97) (v := ?_) (a' := ?_) #[true, true, true, false, false, false, false, false, false, false, false, false, false, false] rfl rfl (any_of HT_.out (by kernel_rfl)) (fun _ _ _ h => h) (Or.inl ⟨by rfl, ?_⟩) ?_ ?_
             rotate_left
             ·intro w'
              go_simp
              with_reducible rfl
             rotate_left
             ·simp only [Act.put, zaa, zag, zah, i64_w, i32_w]
              rfl
             refine pure_ (i := 3) (N := some 98) (v := ?_) (a' := ?_) #[true, true, true, true, false, false, false, false, false, false, false, false, false, false] rfl rfl (any_of HT_.out (by kernel_rfl)) (fun _ _ _ h => h) (Or.inl ⟨by rfl, ?_⟩) ?_ ?_
             rotate_left
             ·intro w'
              go_simp
              with_reducible rfl
             rotate_left
             ·simp only [Act.put, zaa, zag, zah, i64_w, i32_w]
              rfl
             refine pure_ (i := 4) (N := some 99) (v := ?_) (a' := ?_) #[true, true, true, true, true, false, false, false, false, false, false, false, false, false] rfl rfl (any_of HT_.out (by kernel_rfl)) (fun _ _ _ h => h) (Or.inl ⟨by rfl, ?_⟩) ?_ ?_
             rotate_left
             ·intro w'
              go_simp
              with_reducible rfl
             rotate_left
             ·simp only [Act.put, zaa, zag, zah, i64_w, i32_w]
              rfl
             refine pure_ (i := 6) (N := some 101) (v := ?_) (a' := ?_) #[true, true, true, true, true, false, true, false, false, false, false, false, false, false] rfl rfl (any_of HT_.out (by kernel_rfl)) (fun _ _ _ h => h) (Or.inl ⟨by rfl, ?_⟩) ?_ ?_
             rotate_left
             ·intro w'
              go_simp
              with_reducible rfl
             rotate_left
             ·simp only [Act.put, zaa, zag, zah, i64_w, i32_w]
              rfl
             refine pure_ (i := 7) (N := some 102) (v := ?_) (a' := ?_) #[true, true, true, true, true, false, true, true, false, false, false, false, false, false] rfl rfl (any_of HT_.out (by kernel_rfl)) (fun _ _ _ h => h) (Or.inl ⟨by rfl, ?_⟩) ?_ ?_
             rotate_left
             ·intro w'
              go_simp
              with_reducible rfl
             rotate_left
             ·simp only [Act.put, zaa, zag, zah, i64_w, i32_w]
              rfl
             refine pure_ (i := 8) (N := some 103) (v := ?_) (a' := ?_) #[true, true, true, true, true, false, true, true, true, false, false, false, false, false] rfl rfl (any_of HT_.out (by kernel_rfl)) (fun _ _ _ h => h) (Or.inl ⟨by rfl, ?_⟩) ?_ ?_
             rotate_left
             ·intro w'
              go_simp
              with_reducible rfl
             rotate_left
             ·simp only [Act.put, zaa, zag, zah, i64_w, i32_w]
              rfl
             refine take_ (i := 5) (N := some 100) (v := ?_) (a' := ?_) #[true, true, true, true, true, true, true, true, true, false, false, false, false, false] rfl rfl (zdt HT_.out HW_.out (by kernel_rfl)) (fun _ _ _ h => h) (Or.inl ⟨by rfl, ?_⟩) hHeld ?_ ?_
             rotate_left
             ·rintro w' ⟨s0, s1⟩
              go_simp
              with_reducible rfl
             rotate_left
             ·simp only [Act.put, zaa, zag, zah, i64_w, i32_w]
              rfl
             refine take_ (i := 9) (N := some 104) (v := ?_) (a' := ?_) #[true, true, true, true, true, true, true, true, true, true, false, false, false, false] rfl rfl (zdt HT_.out HW_.out (by kernel_rfl)) (fun _ _ _ h => h) (Or.inl ⟨by rfl, ?_⟩) hHeld ?_ ?_
             rotate_left
             ·rintro w' ⟨s0, s1⟩
              go_simp
              with_reducible rfl
             rotate_left
             ·simp only [Act.put, zaa, zag, zah, i64_w, i32_w]
              rfl
             refine pure_ (i := 10) (N := some 105) (v := ?_) (a' := ?_) #[true, true, true, true, true, true, true, true, true, true, true, false, false, false] rfl rfl (any_of HT_.out (by kernel_rfl)) (fun _ _ _ h => h) (Or.inl ⟨by rfl, ?_⟩) ?_ ?_
             rotate_left
             ·intro w'
              go_simp
              with_reducible rfl
             rotate_left
             ·simp only [Act.put, zaa, zag, zah, i64_w, i32_w]
              rfl
             refine one_ (i := 11) (N := some 106) #[true, true, true, true, true, true, true, true, true, true, true, true, false, false] rfl rfl (one_of HT_.out (by kernel_rfl)) (by decide) (fun K hK => ?_)
             refine goes_ Try.func38 (by kernel_rfl) rfl #[.int .i64 (wrap64 ((rd y243 a3) + (rd y243 a4)))] (by rfl) rfl rfl (by (try simp only [zal, zaq, zar]); first | done | rfl | (simp only [zbl, zbi]; rfl) | (simp only [zbl, zbi]; rw [zcm (zda.mpr (zdl (by assumption)))])) ?_
             with_reducible refine (spec_Word.calls (wrap64 ((rd y243 a3) + (rd y243 a4))) t246 _ A38.out).mono ?_
             rintro e w' ⟨rfl, ⟨nd, rfl⟩⟩
             refine ⟨_, rfl, ?_⟩
             have p39 : 0 ≤ (a3 : Int) := zap (by first | (with_reducible assumption) | assumption)
             have q39 : (a3 : Int) < ((y229.length : Int) : Int) := zap (by first | (with_reducible assumption) | assumption)
             obtain ⟨hx39_0, hf39_0⟩ := zer 0 HO_11.out (a3 : Int) p39 q39
             replace p39 := zbn p39
             replace q39 := zbn q39
             have HP58 := Kd.R_putn HO_11.out (a3 : Int) t246
             rw [← Ny247.out] at HP58
             have HQ58 := Aside0.mk HP58
             clear HP58
             refine hK.out _ _ ⟨hHeld.1, hHeld.2⟩ (fun hHeld => ?_)
             clear hK K
             refine norm_ (a' := ?_) ?_ ?_
             rotate_left
             ·show Act.put _ (some 106) _ = _
              simp only [Act.put, zaa, zag, zah, i64_w, i32_w]
              rfl
             refine pure_ (i := 12) (N := some 107) (v := ?_) (a' := ?_) #[true, true, true, true, true, true, true, true, true, true, true, true, true, false] rfl rfl (any_of HT_.out (by kernel_rfl)) (fun _ _ _ h => h) (Or.inl ⟨by rfl, ?_⟩) ?_ ?_
             rotate_left
             ·intro w'
              go_simp
              with_reducible rfl
             rotate_left
             ·simp only [Act.put, zaa, zag, zah, i64_w, i32_w]
              rfl
             refine last_ (i := 13) (N := none) #[true, true, true, true, true, true, true, true, true, true, true, true, true, true] rfl rfl (one_of HT_.out (by kernel_rfl)) (by decide) (fun K hK => ?_)
             refine skip_ (w1 := ?_) (by rfl) rfl ?_ ?_
             rotate_left
             ·go_simp
              rfl
             refine hK.out _ _ ?_
             clear hK K
             refine done_ (done_of HT_.out (by kernel_rfl)) ?_
             try go_wp2
             have n0_ : Aside0 (Kd.R (Kd.int .i64) 3 (w57.setCell ⟨go31, (a3 : Int).toNat, none⟩ (.int .i64 t246)) w.heap.size (fun _ => True) (.slice (some ⟨go31, 0, none⟩) y229.length co51) y247) := ⟨by (with_reducible repeat (first | apply zab | apply zac | apply zae)); exact HQ58.out⟩
             have n1_ : Aside0 (Below w.heap.size w (w57.setCell ⟨go31, (a3 : Int).toNat, none⟩ (.int .i64 t246))) := ⟨by repeat (first | (with_reducible first | exact HB.out | apply zaj | apply zad | apply zai | refine zbs ?_ GB31.out) | exact HB.out)⟩
             (try clear HO_11)
             (try clear HB)
             (try rw [spec_Quarter.sd w57])
             generalize (w57.setCell ⟨go31, (a3 : Int).toNat, none⟩ (.int .i64 t246)) = w59 at n0_ n1_ ⊢
             have HO_11 := n0_
             have HB := n1_
             clear n0_ n1_
             (try (rw [drewN_self w59]; generalize hq_ : World.drewN w59 _ = w59; have n0_ : Aside0 (Kd.R (Kd.int .i64) 3 w59 w.heap.size (fun _ => True) (.slice (some ⟨go31, 0, none⟩) y229.length co51) y247) := ⟨by rw [← hq_]; exact (by (with_reducible repeat (first | apply zab | apply zac | apply zae)); exact HO_11.out)⟩; have n1_ : Aside0 (Below w.heap.size w w59) := ⟨by rw [← hq_]; exact (by repeat (first | (with_reducible first | exact HB.out | apply zaj | apply zad | apply zai) | exact HB.out))⟩; clear HO_11 HB hq_; have HO_11 := n0_; have HB := n1_; clear n0_ n1_))
             have n0_ := Aside0.mk (zae HO_11.out)
             have n1_ := Aside0.mk (zai HB.out)
             clear HO_11
             clear HB
             have HO_11 := n0_
             have HB := n1_
             clear n0_ n1_
             have p248 : 0 ≤ (a2 : Int) := zap (by first | (with_reducible assumption) | assumption)
             have q248 : a2 < (y247.length : Int) := (by have h_ : (a2 : Int) < ((y229.length : Int) : Int) := zap (by first | (with_reducible assumption) | assumption); first | (have e_ := (zaf HO_11.out).1; omega) | simpa only [Ny239.out, Ny243.out, Ny247.out, zdm] using h_)
             have ql248 : ((a2 : Int) < ((y229.length : Int) : Int)) = True := zbn (zap (by first | (with_reducible assumption) | assumption))
             obtain ⟨ad248, e248, hx248_0⟩ := zca (zaf HO_11.out).2.2 a2 p248 q248
             obtain rfl : (⟨go31, 0, none⟩ : Addr) = ad248 := (by injection e248)
             (first | simp only [zeg] at hx248_0 | simp only [add_at] at hx248_0 | simp only [Addr.add, zeb] at hx248_0 | skip)
             replace p248 := zbn p248
             replace q248 := zbn q248
             have p249 : 0 ≤ (a3 : Int) := zap (by first | (with_reducible assumption) | assumption)
             have q249 : a3 < (y247.length : Int) := (by have h_ : (a3 : Int) < ((y229.length : Int) : Int) := zap (by first | (with_reducible assumption) | assumption); first | (have e_ := (zaf HO_11.out).1; omega) | simpa only [Ny239.out, Ny243.out, Ny247.out, zdm] using h_)
             have ql249 : ((a3 : Int) < ((y229.length : Int) : Int)) = True := zbn (zap (by first | (with_reducible assumption) | assumption))
             obtain ⟨ad249, e249, hx249_0⟩ := zca (zaf HO_11.out).2.2 a3 p249 q249
             obtain rfl : (⟨go31, 0, none⟩ : Addr) = ad249 := (by injection e249)
             (first | simp only [zeg] at hx249_0 | simp only [add_at] at hx249_0 | simp only [Addr.add, zeb] at hx249_0 | skip)
             replace p249 := zbn p249
             replace q249 := zbn q249
             refine start_ (n := 14) (S := fun w' => w'.cell? ⟨go31, (a2).toNat, none⟩ = some (.int .i64 (rd y247 a2)) ∧ w'.cell? ⟨go31, (a3).toNat, none⟩ = some (.int .i64 (rd y247 a3))) (ds := [13]) #[false, false, false, false, false, false, false, false, false, false, false, false, false, false] (by kernel_rfl) rfl rfl ⟨hx248_0, hx249_0⟩ (fun hHeld => ?_); refine zeq spec_Quarter.tab7 spec_Quarter.bits7 (fun HT_ HW_ => ?_)
             generalize w59.drew = w60 at HO_11 HB HQ58 hx248_0 hx249_0 hHeld ⊢
             refine pure_ (i := 0) (N := some 108) (v := ?_) (a' := ?_) #[true, false, false, false, false, false, false, false, false, false, false, false, false, false] rfl rfl (any_of HT_.out (by kernel_rfl)) (fun _ _ _ h => h) (Or.inl ⟨by rfl, ?_⟩) ?_ ?_
             rotate_left
             ·intro w'
              go_simp
              with_reducible rfl
             rotate_left
             ·simp only [Act.put, zaa, zag, zah, i64_w, i32_w]
              rfl
             refine pure_ (i := 1) (N := some 109) (v := ?_) (a' := ?_) #[true, true, false, false, false, false, false, false, false, false, false, false, false, false] rfl rfl (any_of HT_.out (by kernel_rfl)) (fun _ _ _ h => h) (Or.inl ⟨by rfl, ?_⟩) ?_ ?_
             rotate_left
             ·intro w'
              go_simp
              with_reducible rfl
             rotate_left
             ·simp only [Act.put, zaa, zag, zah, i64_w, i32_w]
              rfl
             refine pure_ (i := 2) (N := some 110) (v := ?_) (a' := ?_) #[true, true, true, false, false, false, false, false, false, false, false, false, false, false] rfl rfl (any_of HT_.out (by kernel_rfl)) (fun _ _ _ h => h) (Or.inl ⟨by rfl, ?_⟩) ?_ ?_
             rotate_left
             ·intro w'
              go_simp
              with_reducible rfl
             rotate_left
             ·simp only [Act.put, zaa, zag, zah, i64_w, i32_w]
              rfl
             refine pure_ (i := 3) (N := some 111) (v := ?_) (a' := ?_) #[true, true, true, true, false, false, false, false, false, false, false, false, false, false] rfl rfl (any_of HT_.out (by kernel_rfl)) (fun _ _ _ h => h) (Or.inl ⟨by rfl, ?_⟩) ?_ ?_
             rotate_left
             ·intro w'
              go_simp
              with_reducible rfl
             rotate_left
             ·simp only [Act.put, zaa, zag, zah, i64_w, i32_w]
              rfl
             refine pure_ (i := 4) (N := some 112) (v := ?_) (a' := ?_) #[true, true, true, true, true, false, false, false, false, false, false, false, false, false] rfl rfl (any_of HT_.out (by kernel_rfl)) (fun _ _ _ h => h) (Or.inl ⟨by rfl, ?_⟩) ?_ ?_
             rotate_left
             ·intro w'
              go_simp
              with_reducible rfl
             rotate_left
             ·simp only [Act.put, zaa, zag, zah, i64_w, i32_w]
              rfl
             refine pure_ (i := 6) (N := some 114) (v := ?_) (a' := ?_) #[true, true, true, true, true, false, true, false, false, false, false, false, false, false] rfl rfl (any_of HT_.out (by kernel_rfl)) (fun _ _ _ h => h) (Or.inl ⟨by rfl, ?_⟩) ?_ ?_
             rotate_left
             ·intro w'
              go_simp
              with_reducible rfl
             rotate_left
             ·simp only [Act.put, zaa, zag, zah, i64_w, i32_w]
              rfl
             refine pure_ (i := 7) (N := some 115) (v := ?_) (a' := ?_) #[true, true, true, true, true, false, true, true, false, false, false, false, false, false] rfl rfl (any_of HT_.out (by kernel_rfl)) (fun _ _ _ h => h) (Or.inl ⟨by rfl, ?_⟩) ?_ ?_
             rotate_left
             ·intro w'
              go_simp
              with_reducible rfl
             rotate_left
             ·simp only [Act.put, zaa, zag, zah, i64_w, i32_w]
              rfl
             refine pure_ (i := 8) (N := some 116) (v := ?_) (a' := ?_) #[true, true, true, true, true, false, true, true, true, false, false, false, false, false] rfl rfl (any_of HT_.out (by kernel_rfl)) (fun _ _ _ h => h) (Or.inl ⟨by rfl, ?_⟩) ?_ ?_
             rotate_left
             ·intro w'
              go_simp
              with_reducible rfl
             rotate_left
             ·simp only [Act.put, zaa, zag, zah, i64_w, i32_w]
              rfl
             refine take_ (i := 5) (N := some 113) (v := ?_) (a' := ?_) #[true, true, true, true, true, true, true, true, true, false, false, false, false, false] rfl rfl (zdt HT_.out HW_.out (by kernel_rfl)) (fun _ _ _ h => h) (Or.inl ⟨by rfl, ?_⟩) hHeld ?_ ?_
             rotate_left
             ·rintro w' ⟨s0, s1⟩
              go_simp
              with_reducible rfl
             rotate_left
             ·simp only [Act.put, zaa, zag, zah, i64_w, i32_w]
              rfl
             refine take_ (i := 9) (N := some 117) (v := ?_) (a' := ?_) #[true, true, true, true, true, true, true, true, true, true, false, false, false, false] rfl rfl (zdt HT_.out HW_.out (by kernel_rfl)) (fun _ _ _ h => h) (Or.inl ⟨by rfl, ?_⟩) hHeld ?_ ?_
             rotate_left
             ·rintro w' ⟨s0, s1⟩
              go_simp
              with_reducible rfl
             rotate_left
             ·simp only [Act.put, zaa, zag, zah, i64_w, i32_w]
              rfl
             refine pure_ (i := 10) (N := some 118) (v := ?_) (a' := ?_) #[true, true, true, true, true, true, true, true, true, true, true, false, false, false] rfl rfl (any_of HT_.out (by kernel_rfl)) (fun _ _ _ h => h) (Or.inl ⟨by rfl, ?_⟩) ?_ ?_
             rotate_left
             ·intro w'
              go_simp
              with_reducible rfl
             rotate_left
             ·simp only [Act.put, zaa, zag, zah, i64_w, i32_w]
              rfl
             refine one_ (i := 11) (N := some 119) #[true, true, true, true, true, true, true, true, true, true, true, true, false, false] rfl rfl (one_of HT_.out (by kernel_rfl)) (by decide) (fun K hK => ?_)
             refine goes_ Try.func39 (by kernel_rfl) rfl #[.int .i64 (Go.bits .xor .i64 (rd y247 a2) (rd y247 a3)), .int .i64 12] (by rfl) rfl rfl (by (try simp only [zal, zaq, zar]); first | done | rfl | (simp only [zbl, zbi]; rfl) | (simp only [zbl, zbi]; rw [zcm (zda.mpr (zdl (by assumption)))])) ?_
             with_reducible refine (spec_Turn.calls (Go.bits .xor .i64 (rd y247 a2) (rd y247 a3)) 12 t250 _ A40.out).mono ?_
             rintro e w' ⟨rfl, ⟨nd, rfl⟩⟩
             refine ⟨_, rfl, ?_⟩
             have p41 : 0 ≤ (a2 : Int) := zap (by first | (with_reducible assumption) | assumption)
             have q41 : (a2 : Int) < ((y229.length : Int) : Int) := zap (by first | (with_reducible assumption) | assumption)
             obtain ⟨hx41_0, hf41_0⟩ := zer 0 HO_11.out (a2 : Int) p41 q41
             replace p41 := zbn p41
             replace q41 := zbn q41
             have HP61 := Kd.R_putn HO_11.out (a2 : Int) t250
             rw [← Ny251.out] at HP61
             have HQ61 := Aside0.mk HP61
             clear HP61
             refine hK.out _ _ ⟨hHeld.1, hHeld.2⟩ (fun hHeld => ?_)
             clear hK K
             refine norm_ (a' := ?_) ?_ ?_
             rotate_left
             ·show Act.put _ (some 119) _ = _
              simp only [Act.put, zaa, zag, zah, i64_w, i32_w]
              rfl
             refine pure_ (i := 12) (N := some 120) (v := ?_) (a' := ?_) #[true, true, true, true, true, true, true, true, true, true, true, true, true, false] rfl rfl (any_of HT_.out (by kernel_rfl)) (fun _ _ _ h => h) (Or.inl ⟨by rfl, ?_⟩) ?_ ?_
             rotate_left
             ·intro w'
              go_simp
              with_reducible rfl
             rotate_left
             ·simp only [Act.put, zaa, zag, zah, i64_w, i32_w]
              rfl
             refine last_ (i := 13) (N := none) #[true, true, true, true, true, true, true, true, true, true, true, true, true, true] rfl rfl (one_of HT_.out (by kernel_rfl)) (by decide) (fun K hK => ?_)
             refine skip_ (w1 := ?_) (by rfl) rfl ?_ ?_
             rotate_left
             ·go_simp
              rfl
             refine hK.out _ _ ?_
             clear hK K
             refine done_ (done_of HT_.out (by kernel_rfl)) ?_
             try go_wp2
             have n0_ : Aside0 (Kd.R (Kd.int .i64) 3 (w60.setCell ⟨go31, (a2 : Int).toNat, none⟩ (.int .i64 t250)) w.heap.size (fun _ => True) (.slice (some ⟨go31, 0, none⟩) y229.length co51) y251) := ⟨by (with_reducible repeat (first | apply zab | apply zac | apply zae)); exact HQ61.out⟩
             have n1_ : Aside0 (Below w.heap.size w (w60.setCell ⟨go31, (a2 : Int).toNat, none⟩ (.int .i64 t250))) := ⟨by repeat (first | (with_reducible first | exact HB.out | apply zaj | apply zad | apply zai | refine zbs ?_ GB31.out) | exact HB.out)⟩
             (try clear HO_11)
             (try clear HB)
             (try rw [spec_Quarter.sd w60])
             generalize (w60.setCell ⟨go31, (a2 : Int).toNat, none⟩ (.int .i64 t250)) = w62 at n0_ n1_ ⊢
             have HO_11 := n0_
             have HB := n1_
             clear n0_ n1_
             (try (rw [drewN_self w62]; generalize hq_ : World.drewN w62 _ = w62; have n0_ : Aside0 (Kd.R (Kd.int .i64) 3 w62 w.heap.size (fun _ => True) (.slice (some ⟨go31, 0, none⟩) y229.length co51) y251) := ⟨by rw [← hq_]; exact (by (with_reducible repeat (first | apply zab | apply zac | apply zae)); exact HO_11.out)⟩; have n1_ : Aside0 (Below w.heap.size w w62) := ⟨by rw [← hq_]; exact (by repeat (first | (with_reducible first | exact HB.out | apply zaj | apply zad | apply zai) | exact HB.out))⟩; clear HO_11 HB hq_; have HO_11 := n0_; have HB := n1_; clear n0_ n1_))
             have n0_ := Aside0.mk (zae HO_11.out)
             have n1_ := Aside0.mk (zai HB.out)
             clear HO_11
             clear HB
             have HO_11 := n0_
             have HB := n1_
             clear n0_ n1_
             have p252 : 0 ≤ (a1 : Int) := zap (by first | (with_reducible assumption) | assumption)
             have q252 : a1 < (y251.length : Int) := (by have h_ : (a1 : Int) < ((y229.length : Int) : Int) := zap (by first | (with_reducible assumption) | assumption); first | (have e_ := (zaf HO_11.out).1; omega) | simpa only [Ny239.out, Ny243.out, Ny247.out, Ny251.out, zdm] using h_)
             have ql252 : ((a1 : Int) < ((y229.length : Int) : Int)) = True := zbn (zap (by first | (with_reducible assumption) | assumption))
             obtain ⟨ad252, e252, hx252_0⟩ := zca (zaf HO_11.out).2.2 a1 p252 q252
             obtain rfl : (⟨go31, 0, none⟩ : Addr) = ad252 := (by injection e252)
             (first | simp only [zeg] at hx252_0 | simp only [add_at] at hx252_0 | simp only [Addr.add, zeb] at hx252_0 | skip)
             replace p252 := zbn p252
             replace q252 := zbn q252
             have p253 : 0 ≤ (a2 : Int) := zap (by first | (with_reducible assumption) | assumption)
             have q253 : a2 < (y251.length : Int) := (by have h_ : (a2 : Int) < ((y229.length : Int) : Int) := zap (by first | (with_reducible assumption) | assumption); first | (have e_ := (zaf HO_11.out).1; omega) | simpa only [Ny239.out, Ny243.out, Ny247.out, Ny251.out, zdm] using h_)
             have ql253 : ((a2 : Int) < ((y229.length : Int) : Int)) = True := zbn (zap (by first | (with_reducible assumption) | assumption))
             obtain ⟨ad253, e253, hx253_0⟩ := zca (zaf HO_11.out).2.2 a2 p253 q253
             obtain rfl : (⟨go31, 0, none⟩ : Addr) = ad253 := (by injection e253)
             (first | simp only [zeg] at hx253_0 | simp only [add_at] at hx253_0 | simp only [Addr.add, zeb] at hx253_0 | skip)
             replace p253 := zbn p253
             replace q253 := zbn q253
             refine start_ (n := 14) (S := fun w' => w'.cell? ⟨go31, (a1).toNat, none⟩ = some (.int .i64 (rd y251 a1)) ∧ w'.cell? ⟨go31, (a2).toNat, none⟩ = some (.int .i64 (rd y251 a2))) (ds := [13]) #[false, false, false, false, false, false, false, false, false, false, false, false, false, false] (by kernel_rfl) rfl rfl ⟨hx252_0, hx253_0⟩ (fun hHeld => ?_); refine zeq spec_Quarter.tab8 spec_Quarter.bits8 (fun HT_ HW_ => ?_)
             generalize w62.drew = w63 at HO_11 HB HQ61 hx252_0 hx253_0 hHeld ⊢
             refine pure_ (i := 0) (N := some 121) (v := ?_) (a' := ?_) #[true, false, false, false, false, false, false, false, false, false, false, false, false, false] rfl rfl (any_of HT_.out (by kernel_rfl)) (fun _ _ _ h => h) (Or.inl ⟨by rfl, ?_⟩) ?_ ?_
             rotate_left
             ·intro w'
              go_simp
              with_reducible rfl
             rotate_left
             ·simp only [Act.put, zaa, zag, zah, i64_w, i32_w]
              rfl
             refine pure_ (i := 1) (N := some 122) (v := ?_) (a' := ?_) #[true, true, false, false, false, false, false, false, false, false, false, false, false, false] rfl rfl (any_of HT_.out (by kernel_rfl)) (fun _ _ _ h => h) (Or.inl ⟨by rfl, ?_⟩) ?_ ?_
             rotate_left
             ·intro w'
              go_simp
              with_reducible rfl
             rotate_left
             ·simp only [Act.put, zaa, zag, zah, i64_w, i32_w]
              rfl
             refine pure_ (i := 2) (N := some 123) (v := ?_) (a' := ?_) #[true, true, true, false, false, false, false, false, false, false, false, false, false, false] rfl rfl (any_of HT_.out (by kernel_rfl)) (fun _ _ _ h => h) (Or.inl ⟨by rfl, ?_⟩) ?_ ?_
             rotate_left
             ·intro w'
              go_simp
              with_reducible rfl
             rotate_left
             ·simp only [Act.put, zaa, zag, zah, i64_w, i32_w]
              rfl
             refine pure_ (i := 3) (N := some 124) (v := ?_) (a' := ?_) #[true, true, true, true, false, false, false, false, false, false, false, false, false, false] rfl rfl (any_of HT_.out (by kernel_rfl)) (fun _ _ _ h => h) (Or.inl ⟨by rfl, ?_⟩) ?_ ?_
             rotate_left
             ·intro w'
              go_simp
              with_reducible rfl
             rotate_left
             ·simp only [Act.put, zaa, zag, zah, i64_w, i32_w]
              rfl
             refine pure_ (i := 4) (N := some 125) (v := ?_) (a' := ?_) #[true, true, true, true, true, false, false, false, false, false, false, false, false, false] rfl rfl (any_of HT_.out (by kernel_rfl)) (fun _ _ _ h => h) (Or.inl ⟨by rfl, ?_⟩) ?_ ?_
             rotate_left
             ·intro w'
              go_simp
              with_reducible rfl
             rotate_left
             ·simp only [Act.put, zaa, zag, zah, i64_w, i32_w]
              rfl
             refine pure_ (i := 6) (N := some 127) (v := ?_) (a' := ?_) #[true, true, true, true, true, false, true, false, false, false, false, false, false, false] rfl rfl (any_of HT_.out (by kernel_rfl)) (fun _ _ _ h => h) (Or.inl ⟨by rfl, ?_⟩) ?_ ?_
             rotate_left
             ·intro w'
              go_simp
              with_reducible rfl
             rotate_left
             ·simp only [Act.put, zaa, zag, zah, i64_w, i32_w]
              rfl
             refine pure_ (i := 7) (N := some 128) (v := ?_) (a' := ?_) #[true, true, true, true, true, false, true, true, false, false, false, false, false, false] rfl rfl (any_of HT_.out (by kernel_rfl)) (fun _ _ _ h => h) (Or.inl ⟨by rfl, ?_⟩) ?_ ?_
             rotate_left
             ·intro w'
              go_simp
              with_reducible rfl
             rotate_left
             ·simp only [Act.put, zaa, zag, zah, i64_w, i32_w]
              rfl
             refine pure_ (i := 8) (N := some 129) (v := ?_) (a' := ?_) #[true, true, true, true, true, false, true, true, true, false, false, false, false, false] rfl rfl (any_of HT_.out (by kernel_rfl)) (fun _ _ _ h => h) (Or.inl ⟨by rfl, ?_⟩) ?_ ?_
             rotate_left
             ·intro w'
              go_simp
              with_reducible rfl
             rotate_left
             ·simp only [Act.put, zaa, zag, zah, i64_w, i32_w]
              rfl
             refine take_ (i := 5) (N := some 126) (v := ?_) (a' := ?_) #[true, true, true, true, true, true, true, true, true, false, false, false, false, false] rfl rfl (zdt HT_.out HW_.out (by kernel_rfl)) (fun _ _ _ h => h) (Or.inl ⟨by rfl, ?_⟩) hHeld ?_ ?_
             rotate_left
             ·rintro w' ⟨s0, s1⟩
              go_simp
              with_reducible rfl
             rotate_left
             ·simp only [Act.put, zaa, zag, zah, i64_w, i32_w]
              rfl
             refine take_ (i := 9) (N := some 130) (v := ?_) (a' := ?_) #[true, true, true, true, true, true, true, true, true, true, false, false, false, false] rfl rfl (zdt HT_.out HW_.out (by kernel_rfl)) (fun _ _ _ h => h) (Or.inl ⟨by rfl, ?_⟩) hHeld ?_ ?_
             rotate_left
             ·rintro w' ⟨s0, s1⟩
              go_simp
              with_reducible rfl
             rotate_left
             ·simp only [Act.put, zaa, zag, zah, i64_w, i32_w]
              rfl
             refine pure_ (i := 10) (N := some 131) (v := ?_) (a' := ?_) #[true, true, true, true, true, true, true, true, true, true, true, false, false, false] rfl rfl (any_of HT_.out (by kernel_rfl)) (fun _ _ _ h => h) (Or.inl ⟨by rfl, ?_⟩) ?_ ?_
             rotate_left
             ·intro w'
              go_simp
              with_reducible rfl
             rotate_left
             ·simp only [Act.put, zaa, zag, zah, i64_w, i32_w]
              rfl
             refine one_ (i := 11) (N := some 132) #[true, true, true, true, true, true, true, true, true, true, true, true, false, false] rfl rfl (one_of HT_.out (by kernel_rfl)) (by decide) (fun K hK => ?_)
             refine goes_ Try.func38 (by kernel_rfl) rfl #[.int .i64 (wrap64 ((rd y251 a1) + (rd y251 a2)))] (by rfl) rfl rfl (by (try simp only [zal, zaq, zar]); first | done | rfl | (simp only [zbl, zbi]; rfl) | (simp only [zbl, zbi]; rw [zcm (zda.mpr (zdl (by assumption)))])) ?_
             with_reducible refine (spec_Word.calls (wrap64 ((rd y251 a1) + (rd y251 a2))) t254 _ A42.out).mono ?_
             rintro e w' ⟨rfl, ⟨nd, rfl⟩⟩
             refine ⟨_, rfl, ?_⟩
             have p43 : 0 ≤ (a1 : Int) := zap (by first | (with_reducible assumption) | assumption)
             have q43 : (a1 : Int) < ((y229.length : Int) : Int) := zap (by first | (with_reducible assumption) | assumption)
             obtain ⟨hx43_0, hf43_0⟩ := zer 0 HO_11.out (a1 : Int) p43 q43
             replace p43 := zbn p43
             replace q43 := zbn q43
             have HP64 := Kd.R_putn HO_11.out (a1 : Int) t254
             rw [← Ny255.out] at HP64
             have HQ64 := Aside0.mk HP64
             clear HP64
             refine hK.out _ _ ⟨hHeld.1, hHeld.2⟩ (fun hHeld => ?_)
             clear hK K
             refine norm_ (a' := ?_) ?_ ?_
             rotate_left
             ·show Act.put _ (some 132) _ = _
              simp only [Act.put, zaa, zag, zah, i64_w, i32_w]
              rfl
             refine pure_ (i := 12) (N := some 133) (v := ?_) (a' := ?_) #[true, true, true, true, true, true, true, true, true, true, true, true, true, false] rfl rfl (any_of HT_.out (by kernel_rfl)) (fun _ _ _ h => h) (Or.inl ⟨by rfl, ?_⟩) ?_ ?_
             rotate_left
             ·intro w'
              go_simp
              with_reducible rfl
             rotate_left
             ·simp only [Act.put, zaa, zag, zah, i64_w, i32_w]
              rfl
             refine last_ (i := 13) (N := none) #[true, true, true, true, true, true, true, true, true, true, true, true, true, true] rfl rfl (one_of HT_.out (by kernel_rfl)) (by decide) (fun K hK => ?_)
             refine skip_ (w1 := ?_) (by rfl) rfl ?_ ?_
             rotate_left
             ·go_simp
              rfl
             refine hK.out _ _ ?_
             clear hK K
             refine done_ (done_of HT_.out (by kernel_rfl)) ?_
             try go_wp2
             have n0_ : Aside0 (Kd.R (Kd.int .i64) 3 (w63.setCell ⟨go31, (a1 : Int).toNat, none⟩ (.int .i64 t254)) w.heap.size (fun _ => True) (.slice (some ⟨go31, 0, none⟩) y229.length co51) y255) := ⟨by (with_reducible repeat (first | apply zab | apply zac | apply zae)); exact HQ64.out⟩
             have n1_ : Aside0 (Below w.heap.size w (w63.setCell ⟨go31, (a1 : Int).toNat, none⟩ (.int .i64 t254))) := ⟨by repeat (first | (with_reducible first | exact HB.out | apply zaj | apply zad | apply zai | refine zbs ?_ GB31.out) | exact HB.out)⟩
             (try clear HO_11)
             (try clear HB)
             (try rw [spec_Quarter.sd w63])
             generalize (w63.setCell ⟨go31, (a1 : Int).toNat, none⟩ (.int .i64 t254)) = w65 at n0_ n1_ ⊢
             have HO_11 := n0_
             have HB := n1_
             clear n0_ n1_
             (try (rw [drewN_self w65]; generalize hq_ : World.drewN w65 _ = w65; have n0_ : Aside0 (Kd.R (Kd.int .i64) 3 w65 w.heap.size (fun _ => True) (.slice (some ⟨go31, 0, none⟩) y229.length co51) y255) := ⟨by rw [← hq_]; exact (by (with_reducible repeat (first | apply zab | apply zac | apply zae)); exact HO_11.out)⟩; have n1_ : Aside0 (Below w.heap.size w w65) := ⟨by rw [← hq_]; exact (by repeat (first | (with_reducible first | exact HB.out | apply zaj | apply zad | apply zai) | exact HB.out))⟩; clear HO_11 HB hq_; have HO_11 := n0_; have HB := n1_; clear n0_ n1_))
             have n0_ := Aside0.mk (zae HO_11.out)
             have n1_ := Aside0.mk (zai HB.out)
             clear HO_11
             clear HB
             have HO_11 := n0_
             have HB := n1_
             clear n0_ n1_
             have p256 : 0 ≤ (a4 : Int) := zap (by first | (with_reducible assumption) | assumption)
             have q256 : a4 < (y255.length : Int) := (by have h_ : (a4 : Int) < ((y229.length : Int) : Int) := zap (by first | (with_reducible assumption) | assumption); first | (have e_ := (zaf HO_11.out).1; omega) | simpa only [Ny239.out, Ny243.out, Ny247.out, Ny251.out, Ny255.out, zdm] using h_)
             have ql256 : ((a4 : Int) < ((y229.length : Int) : Int)) = True := zbn (zap (by first | (with_reducible assumption) | assumption))
             obtain ⟨ad256, e256, hx256_0⟩ := zca (zaf HO_11.out).2.2 a4 p256 q256
             obtain rfl : (⟨go31, 0, none⟩ : Addr) = ad256 := (by injection e256)
             (first | simp only [zeg] at hx256_0 | simp only [add_at] at hx256_0 | simp only [Addr.add, zeb] at hx256_0 | skip)
             replace p256 := zbn p256
             replace q256 := zbn q256
             have p257 : 0 ≤ (a1 : Int) := zap (by first | (with_reducible assumption) | assumption)
             have q257 : a1 < (y255.length : Int) := (by have h_ : (a1 : Int) < ((y229.length : Int) : Int) := zap (by first | (with_reducible assumption) | assumption); first | (have e_ := (zaf HO_11.out).1; omega) | simpa only [Ny239.out, Ny243.out, Ny247.out, Ny251.out, Ny255.out, zdm] using h_)
             have ql257 : ((a1 : Int) < ((y229.length : Int) : Int)) = True := zbn (zap (by first | (with_reducible assumption) | assumption))
             obtain ⟨ad257, e257, hx257_0⟩ := zca (zaf HO_11.out).2.2 a1 p257 q257
             obtain rfl : (⟨go31, 0, none⟩ : Addr) = ad257 := (by injection e257)
             (first | simp only [zeg] at hx257_0 | simp only [add_at] at hx257_0 | simp only [Addr.add, zeb] at hx257_0 | skip)
             replace p257 := zbn p257
             replace q257 := zbn q257
             refine start_ (n := 14) (S := fun w' => w'.cell? ⟨go31, (a4).toNat, none⟩ = some (.int .i64 (rd y255 a4)) ∧ w'.cell? ⟨go31, (a1).toNat, none⟩ = some (.int .i64 (rd y255 a1))) (ds := [13]) #[false, false, false, false, false, false, false, false, false, false, false, false, false, false] (by kernel_rfl) rfl rfl ⟨hx256_0, hx257_0⟩ (fun hHeld => ?_); refine zeq spec_Quarter.tab9 spec_Quarter.bits9 (fun HT_ HW_ => ?_)
             generalize w65.drew = w66 at HO_11 HB HQ64 hx256_0 hx257_0 hHeld ⊢
             refine pure_ (i := 0) (N := some 134) (v := ?_) (a' := ?_) #[true, false, false, false, false, false, false, false, false, false, false, false, false, false] rfl rfl (any_of HT_.out (by kernel_rfl)) (fun _ _ _ h => h) (Or.inl ⟨by rfl, ?_⟩) ?_ ?_
             rotate_left
             ·intro w'
              go_simp
              with_reducible rfl
             rotate_left
             ·simp only [Act.put, zaa, zag, zah, i64_w, i32_w]
              rfl
             refine pure_ (i := 1) (N := some 135) (v := ?_) (a' := ?_) #[true, true, false, false, false, false, false, false, false, false, false, false, false, false] rfl rfl (any_of HT_.out (by kernel_rfl)) (fun _ _ _ h => h) (Or.inl ⟨by rfl, ?_⟩) ?_ ?_
             rotate_left
             ·intro w'
              go_simp
              with_reducible rfl
             rotate_left
             ·simp only [Act.put, zaa, zag, zah, i64_w, i32_w]
              rfl
             refine pure_ (i := 2) (N := some 136) (v := ?_) (a' := ?_) #[true, true, true, false, false, false, false, false, false, false, false, false, false, false] rfl rfl (any_of HT_.out (by kernel_rfl)) (fun _ _ _ h => h) (Or.inl ⟨by rfl, ?_⟩) ?_ ?_
             rotate_left
             ·intro w'
              go_simp
              with_reducible rfl
             rotate_left
             ·simp only [Act.put, zaa, zag, zah, i64_w, i32_w]
              rfl
             refine pure_ (i := 3) (N := some 137) (v := ?_) (a' := ?_) #[true, true, true, true, false, false, false, false, false, false, false, false, false, false] rfl rfl (any_of HT_.out (by kernel_rfl)) (fun _ _ _ h => h) (Or.inl ⟨by rfl, ?_⟩) ?_ ?_
             rotate_left
             ·intro w'
              go_simp
              with_reducible rfl
             rotate_left
             ·simp only [Act.put, zaa, zag, zah, i64_w, i32_w]
              rfl
             refine pure_ (i := 4) (N := some 138) (v := ?_) (a' := ?_) #[true, true, true, true, true, false, false, false, false, false, false, false, false, false] rfl rfl (any_of HT_.out (by kernel_rfl)) (fun _ _ _ h => h) (Or.inl ⟨by rfl, ?_⟩) ?_ ?_
             rotate_left
             ·intro w'
              go_simp
              with_reducible rfl
             rotate_left
             ·simp only [Act.put, zaa, zag, zah, i64_w, i32_w]
              rfl
             refine pure_ (i := 6) (N := some 140) (v := ?_) (a' := ?_) #[true, true, true, true, true, false, true, false, false, false, false, false, false, false] rfl rfl (any_of HT_.out (by kernel_rfl)) (fun _ _ _ h => h) (Or.inl ⟨by rfl, ?_⟩) ?_ ?_
             rotate_left
             ·intro w'
              go_simp
              with_reducible rfl
             rotate_left
             ·simp only [Act.put, zaa, zag, zah, i64_w, i32_w]
              rfl
             refine pure_ (i := 7) (N := some 141) (v := ?_) (a' := ?_) #[true, true, true, true, true, false, true, true, false, false, false, false, false, false] rfl rfl (any_of HT_.out (by kernel_rfl)) (fun _ _ _ h => h) (Or.inl ⟨by rfl, ?_⟩) ?_ ?_
             rotate_left
             ·intro w'
              go_simp
              with_reducible rfl
             rotate_left
             ·simp only [Act.put, zaa, zag, zah, i64_w, i32_w]
              rfl
             refine pure_ (i := 8) (N := some 142) (v := ?_) (a' := ?_) #[true, true, true, true, true, false, true, true, true, false, false, false, false, false] rfl rfl (any_of HT_.out (by kernel_rfl)) (fun _ _ _ h => h) (Or.inl ⟨by rfl, ?_⟩) ?_ ?_
             rotate_left
             ·intro w'
              go_simp
              with_reducible rfl
             rotate_left
             ·simp only [Act.put, zaa, zag, zah, i64_w, i32_w]
              rfl
             refine take_ (i := 5) (N := some 139) (v := ?_) (a' := ?_) #[true, true, true, true, true, true, true, true, true, false, false, false, false, false] rfl rfl (zdt HT_.out HW_.out (by kernel_rfl)) (fun _ _ _ h => h) (Or.inl ⟨by rfl, ?_⟩) hHeld ?_ ?_
             rotate_left
             ·rintro w' ⟨s0, s1⟩
              go_simp
              with_reducible rfl
             rotate_left
             ·simp only [Act.put, zaa, zag, zah, i64_w, i32_w]
              rfl
             refine take_ (i := 9) (N := some 143) (v := ?_) (a' := ?_) #[true, true, true, true, true, true, true, true, true, true, false, false, false, false] rfl rfl (zdt HT_.out HW_.out (by kernel_rfl)) (fun _ _ _ h => h) (Or.inl ⟨by rfl, ?_⟩) hHeld ?_ ?_
             rotate_left
             ·rintro w' ⟨s0, s1⟩
              go_simp
              with_reducible rfl
             rotate_left
             ·simp only [Act.put, zaa, zag, zah, i64_w, i32_w]
              rfl
             refine pure_ (i := 10) (N := some 144) (v := ?_) (a' := ?_) #[true, true, true, true, true, true, true, true, true, true, true, false, false, false] rfl rfl (any_of HT_.out (by kernel_rfl)) (fun _ _ _ h => h) (Or.inl ⟨by rfl, ?_⟩) ?_ ?_
             rotate_left
             ·intro w'
              go_simp
              with_reducible rfl
             rotate_left
             ·simp only [Act.put, zaa, zag, zah, i64_w, i32_w]
              rfl
             refine one_ (i := 11) (N := some 145) #[true, true, true, true, true, true, true, true, true, true, true, true, false, false] rfl rfl (one_of HT_.out (by kernel_rfl)) (by decide) (fun K hK => ?_)
             refine goes_ Try.func39 (by kernel_rfl) rfl #[.int .i64 (Go.bits .xor .i64 (rd y255 a4) (rd y255 a1)), .int .i64 8] (by rfl) rfl rfl (by (try simp only [zal, zaq, zar]); first | done | rfl | (simp only [zbl, zbi]; rfl) | (simp only [zbl, zbi]; rw [zcm (zda.mpr (zdl (by assumption)))])) ?_
             with_reducible refine (spec_Turn.calls (Go.bits .xor .i64 (rd y255 a4) (rd y255 a1)) 8 t258 _ A44.out).mono ?_
             rintro e w' ⟨rfl, ⟨nd, rfl⟩⟩
             refine ⟨_, rfl, ?_⟩
             have p45 : 0 ≤ (a4 : Int) := zap (by first | (with_reducible assumption) | assumption)
             have q45 : (a4 : Int) < ((y229.length : Int) : Int) := zap (by first | (with_reducible assumption) | assumption)
             obtain ⟨hx45_0, hf45_0⟩ := zer 0 HO_11.out (a4 : Int) p45 q45
             replace p45 := zbn p45
             replace q45 := zbn q45
             have HP67 := Kd.R_putn HO_11.out (a4 : Int) t258
             rw [← Ny259.out] at HP67
             have HQ67 := Aside0.mk HP67
             clear HP67
             refine hK.out _ _ ⟨hHeld.1, hHeld.2⟩ (fun hHeld => ?_)
             clear hK K
             refine norm_ (a' := ?_) ?_ ?_
             rotate_left
             ·show Act.put _ (some 145) _ = _
              simp only [Act.put, zaa, zag, zah, i64_w, i32_w]
              rfl
             refine pure_ (i := 12) (N := some 146) (v := ?_) (a' := ?_) #[true, true, true, true, true, true, true, true, true, true, true, true, true, false] rfl rfl (any_of HT_.out (by kernel_rfl)) (fun _ _ _ h => h) (Or.inl ⟨by rfl, ?_⟩) ?_ ?_
             rotate_left
             ·intro w'
              go_simp
              with_reducible rfl
             rotate_left
             ·simp only [Act.put, zaa, zag, zah, i64_w, i32_w]
              rfl
             refine last_ (i := 13) (N := none) #[true, true, true, true, true, true, true, true, true, true, true, true, true, true] rfl rfl (one_of HT_.out (by kernel_rfl)) (by decide) (fun K hK => ?_)
             refine skip_ (w1 := ?_) (by rfl) rfl ?_ ?_
             rotate_left
             ·go_simp
              rfl
             refine hK.out _ _ ?_
             clear hK K
             refine done_ (done_of HT_.out (by kernel_rfl)) ?_
             try go_wp2
             have n0_ : Aside0 (Kd.R (Kd.int .i64) 3 (w66.setCell ⟨go31, (a4 : Int).toNat, none⟩ (.int .i64 t258)) w.heap.size (fun _ => True) (.slice (some ⟨go31, 0, none⟩) y229.length co51) y259) := ⟨by (with_reducible repeat (first | apply zab | apply zac | apply zae)); exact HQ67.out⟩
             have n1_ : Aside0 (Below w.heap.size w (w66.setCell ⟨go31, (a4 : Int).toNat, none⟩ (.int .i64 t258))) := ⟨by repeat (first | (with_reducible first | exact HB.out | apply zaj | apply zad | apply zai | refine zbs ?_ GB31.out) | exact HB.out)⟩
             (try clear HO_11)
             (try clear HB)
             (try rw [spec_Quarter.sd w66])
             generalize (w66.setCell ⟨go31, (a4 : Int).toNat, none⟩ (.int .i64 t258)) = w68 at n0_ n1_ ⊢
             have HO_11 := n0_
             have HB := n1_
             clear n0_ n1_
             (try (rw [drewN_self w68]; generalize hq_ : World.drewN w68 _ = w68; have n0_ : Aside0 (Kd.R (Kd.int .i64) 3 w68 w.heap.size (fun _ => True) (.slice (some ⟨go31, 0, none⟩) y229.length co51) y259) := ⟨by rw [← hq_]; exact (by (with_reducible repeat (first | apply zab | apply zac | apply zae)); exact HO_11.out)⟩; have n1_ : Aside0 (Below w.heap.size w w68) := ⟨by rw [← hq_]; exact (by repeat (first | (with_reducible first | exact HB.out | apply zaj | apply zad | apply zai) | exact HB.out))⟩; clear HO_11 HB hq_; have HO_11 := n0_; have HB := n1_; clear n0_ n1_))
             have n0_ := Aside0.mk (zae HO_11.out)
             have n1_ := Aside0.mk (zai HB.out)
             clear HO_11
             clear HB
             have HO_11 := n0_
             have HB := n1_
             clear n0_ n1_
             have p260 : 0 ≤ (a3 : Int) := zap (by first | (with_reducible assumption) | assumption)
             have q260 : a3 < (y259.length : Int) := (by have h_ : (a3 : Int) < ((y229.length : Int) : Int) := zap (by first | (with_reducible assumption) | assumption); first | (have e_ := (zaf HO_11.out).1; omega) | simpa only [Ny239.out, Ny243.out, Ny247.out, Ny251.out, Ny255.out, Ny259.out, zdm] using h_)
             have ql260 : ((a3 : Int) < ((y229.length : Int) : Int)) = True := zbn (zap (by first | (with_reducible assumption) | assumption))
             obtain ⟨ad260, e260, hx260_0⟩ := zca (zaf HO_11.out).2.2 a3 p260 q260
             obtain rfl : (⟨go31, 0, none⟩ : Addr) = ad260 := (by injection e260)
             (first | simp only [zeg] at hx260_0 | simp only [add_at] at hx260_0 | simp only [Addr.add, zeb] at hx260_0 | skip)
             replace p260 := zbn p260
             replace q260 := zbn q260
             have p261 : 0 ≤ (a4 : Int) := zap (by first | (with_reducible assumption) | assumption)
             have q261 : a4 < (y259.length : Int) := (by have h_ : (a4 : Int) < ((y229.length : Int) : Int) := zap (by first | (with_reducible assumption) | assumption); first | (have e_ := (zaf HO_11.out).1; omega) | simpa only [Ny239.out, Ny243.out, Ny247.out, Ny251.out, Ny255.out, Ny259.out, zdm] using h_)
             have ql261 : ((a4 : Int) < ((y229.length : Int) : Int)) = True := zbn (zap (by first | (with_reducible assumption) | assumption))
             obtain ⟨ad261, e261, hx261_0⟩ := zca (zaf HO_11.out).2.2 a4 p261 q261
             obtain rfl : (⟨go31, 0, none⟩ : Addr) = ad261 := (by injection e261)
             (first | simp only [zeg] at hx261_0 | simp only [add_at] at hx261_0 | simp only [Addr.add, zeb] at hx261_0 | skip)
             replace p261 := zbn p261
             replace q261 := zbn q261
             refine start_ (n := 14) (S := fun w' => w'.cell? ⟨go31, (a3).toNat, none⟩ = some (.int .i64 (rd y259 a3)) ∧ w'.cell? ⟨go31, (a4).toNat, none⟩ = some (.int .i64 (rd y259 a4))) (ds := [13]) #[false, false, false, false, false, false, false, false, false, false, false, false, false, false] (by kernel_rfl) rfl rfl ⟨hx260_0, hx261_0⟩ (fun hHeld => ?_); refine zeq spec_Quarter.tab10 spec_Quarter.bits10 (fun HT_ HW_ => ?_)
             generalize w68.drew = w69 at HO_11 HB HQ67 hx260_0 hx261_0 hHeld ⊢
             refine pure_ (i := 0) (N := some 147) (v := ?_) (a' := ?_) #[true, false, false, false, false, false, false, false, false, false, false, false, false, false] rfl rfl (any_of HT_.out (by kernel_rfl)) (fun _ _ _ h => h) (Or.inl ⟨by rfl, ?_⟩) ?_ ?_
             rotate_left
             ·intro w'
              go_simp
              with_reducible rfl
             rotate_left
             ·simp only [Act.put, zaa, zag, zah, i64_w, i32_w]
              rfl
             refine pure_ (i := 1) (N := some 148) (v := ?_) (a' := ?_) #[true, true, false, false, false, false, false, false, false, false, false, false, false, false] rfl rfl (any_of HT_.out (by kernel_rfl)) (fun _ _ _ h => h) (Or.inl ⟨by rfl, ?_⟩) ?_ ?_
             rotate_left
             ·intro w'
              go_simp
              with_reducible rfl
             rotate_left
             ·simp only [Act.put, zaa, zag, zah, i64_w, i32_w]
              rfl
             refine pure_ (i := 2) (N := some 149) (v := ?_) (a' := ?_) #[true, true, true, false, false, false, false, false, false, false, false, false, false, false] rfl rfl (any_of HT_.out (by kernel_rfl)) (fun _ _ _ h => h) (Or.inl ⟨by rfl, ?_⟩) ?_ ?_
             rotate_left
             ·intro w'
              go_simp
              with_reducible rfl
             rotate_left
             ·simp only [Act.put, zaa, zag, zah, i64_w, i32_w]
              rfl
             refine pure_ (i := 3) (N := some 150) (v := ?_) (a' := ?_) #[true, true, true, true, false, false, false, false, false, false, false, false, false, false] rfl rfl (any_of HT_.out (by kernel_rfl)) (fun _ _ _ h => h) (Or.inl ⟨by rfl, ?_⟩) ?_ ?_
             rotate_left
             ·intro w'
              go_simp
              with_reducible rfl
             rotate_left
             ·simp only [Act.put, zaa, zag, zah, i64_w, i32_w]
              rfl
             refine pure_ (i := 4) (N := some 151) (v := ?_) (a' := ?_) #[true, true, true, true, true, false, false, false, false, false, false, false, false, false] rfl rfl (any_of HT_.out (by kernel_rfl)) (fun _ _ _ h => h) (Or.inl ⟨by rfl, ?_⟩) ?_ ?_
             rotate_left
             ·intro w'
              go_simp
              with_reducible rfl
             rotate_left
             ·simp only [Act.put, zaa, zag, zah, i64_w, i32_w]
              rfl
             refine pure_ (i := 6) (N := some 153) (v := ?_) (a' := ?_) #[true, true, true, true, true, false, true, false, false, false, false, false, false, false] rfl rfl (any_of HT_.out (by kernel_rfl)) (fun _ _ _ h => h) (Or.inl ⟨by rfl, ?_⟩) ?_ ?_
             rotate_left
             ·intro w'
              go_simp
              with_reducible rfl
             rotate_left
             ·simp only [Act.put, zaa, zag, zah, i64_w, i32_w]
              rfl
             refine pure_ (i := 7) (N := some 154) (v := ?_) (a' := ?_) #[true, true, true, true, true, false, true, true, false, false, false, false, false, false] rfl rfl (any_of HT_.out (by kernel_rfl)) (fun _ _ _ h => h) (Or.inl ⟨by rfl, ?_⟩) ?_ ?_
             rotate_left
             ·intro w'
              go_simp
              with_reducible rfl
             rotate_left
             ·simp only [Act.put, zaa, zag, zah, i64_w, i32_w]
              rfl
             refine pure_ (i := 8) (N := some 155) (v := ?_) (a' := ?_) #[true, true, true, true, true, false, true, true, true, false, false, false, false, false] rfl rfl (any_of HT_.out (by kernel_rfl)) (fun _ _ _ h => h) (Or.inl ⟨by rfl, ?_⟩) ?_ ?_
             rotate_left
             ·intro w'
              go_simp
              with_reducible rfl
             rotate_left
             ·simp only [Act.put, zaa, zag, zah, i64_w, i32_w]
              rfl
             refine take_ (i := 5) (N := some 152) (v := ?_) (a' := ?_) #[true, true, true, true, true, true, true, true, true, false, false, false, false, false] rfl rfl (zdt HT_.out HW_.out (by kernel_rfl)) (fun _ _ _ h => h) (Or.inl ⟨by rfl, ?_⟩) hHeld ?_ ?_
             rotate_left
             ·rintro w' ⟨s0, s1⟩
              go_simp
              with_reducible rfl
             rotate_left
             ·simp only [Act.put, zaa, zag, zah, i64_w, i32_w]
              rfl
             refine take_ (i := 9) (N := some 156) (v := ?_) (a' := ?_) #[true, true, true, true, true, true, true, true, true, true, false, false, false, false] rfl rfl (zdt HT_.out HW_.out (by kernel_rfl)) (fun _ _ _ h => h) (Or.inl ⟨by rfl, ?_⟩) hHeld ?_ ?_
             rotate_left
             ·rintro w' ⟨s0, s1⟩
              go_simp
              with_reducible rfl
             rotate_left
             ·simp only [Act.put, zaa, zag, zah, i64_w, i32_w]
              rfl
             refine pure_ (i := 10) (N := some 157) (v := ?_) (a' := ?_) #[true, true, true, true, true, true, true, true, true, true, true, false, false, false] rfl rfl (any_of HT_.out (by kernel_rfl)) (fun _ _ _ h => h) (Or.inl ⟨by rfl, ?_⟩) ?_ ?_
             rotate_left
             ·intro w'
              go_simp
              with_reducible rfl
             rotate_left
             ·simp only [Act.put, zaa, zag, zah, i64_w, i32_w]
              rfl
             refine one_ (i := 11) (N := some 158) #[true, true, true, true, true, true, true, true, true, true, true, true, false, false] rfl rfl (one_of HT_.out (by kernel_rfl)) (by decide) (fun K hK => ?_)
             refine goes_ Try.func38 (by kernel_rfl) rfl #[.int .i64 (wrap64 ((rd y259 a3) + (rd y259 a4)))] (by rfl) rfl rfl (by (try simp only [zal, zaq, zar]); first | done | rfl | (simp only [zbl, zbi]; rfl) | (simp only [zbl, zbi]; rw [zcm (zda.mpr (zdl (by assumption)))])) ?_
             with_reducible refine (spec_Word.calls (wrap64 ((rd y259 a3) + (rd y259 a4))) t262 _ A46.out).mono ?_
             rintro e w' ⟨rfl, ⟨nd, rfl⟩⟩
             refine ⟨_, rfl, ?_⟩
             have p47 : 0 ≤ (a3 : Int) := zap (by first | (with_reducible assumption) | assumption)
             have q47 : (a3 : Int) < ((y229.length : Int) : Int) := zap (by first | (with_reducible assumption) | assumption)
             obtain ⟨hx47_0, hf47_0⟩ := zer 0 HO_11.out (a3 : Int) p47 q47
             replace p47 := zbn p47
             replace q47 := zbn q47
             have HP70 := Kd.R_putn HO_11.out (a3 : Int) t262
             rw [← Ny263.out] at HP70
             have HQ70 := Aside0.mk HP70
             clear HP70
             refine hK.out _ _ ⟨hHeld.1, hHeld.2⟩ (fun hHeld => ?_)
             clear hK K
             refine norm_ (a' := ?_) ?_ ?_
             rotate_left
             ·show Act.put _ (some 158) _ = _
              simp only [Act.put, zaa, zag, zah, i64_w, i32_w]
              rfl
             refine pure_ (i := 12) (N := some 159) (v := ?_) (a' := ?_) #[true, true, true, true, true, true, true, true, true, true, true, true, true, false] rfl rfl (any_of HT_.out (by kernel_rfl)) (fun _ _ _ h => h) (Or.inl ⟨by rfl, ?_⟩) ?_ ?_
             rotate_left
             ·intro w'
              go_simp
              with_reducible rfl
             rotate_left
             ·simp only [Act.put, zaa, zag, zah, i64_w, i32_w]
              rfl
             refine last_ (i := 13) (N := none) #[true, true, true, true, true, true, true, true, true, true, true, true, true, true] rfl rfl (one_of HT_.out (by kernel_rfl)) (by decide) (fun K hK => ?_)
             refine skip_ (w1 := ?_) (by rfl) rfl ?_ ?_
             rotate_left
             ·go_simp
              rfl
             refine hK.out _ _ ?_
             clear hK K
             refine done_ (done_of HT_.out (by kernel_rfl)) ?_
             try go_wp2
             have n0_ : Aside0 (Kd.R (Kd.int .i64) 3 (w69.setCell ⟨go31, (a3 : Int).toNat, none⟩ (.int .i64 t262)) w.heap.size (fun _ => True) (.slice (some ⟨go31, 0, none⟩) y229.length co51) y263) := ⟨by (with_reducible repeat (first | apply zab | apply zac | apply zae)); exact HQ70.out⟩
             have n1_ : Aside0 (Below w.heap.size w (w69.setCell ⟨go31, (a3 : Int).toNat, none⟩ (.int .i64 t262))) := ⟨by repeat (first | (with_reducible first | exact HB.out | apply zaj | apply zad | apply zai | refine zbs ?_ GB31.out) | exact HB.out)⟩
             (try clear HO_11)
             (try clear HB)
             (try rw [spec_Quarter.sd w69])
             generalize (w69.setCell ⟨go31, (a3 : Int).toNat, none⟩ (.int .i64 t262)) = w71 at n0_ n1_ ⊢
             have HO_11 := n0_
             have HB := n1_
             clear n0_ n1_
             (try (rw [drewN_self w71]; generalize hq_ : World.drewN w71 _ = w71; have n0_ : Aside0 (Kd.R (Kd.int .i64) 3 w71 w.heap.size (fun _ => True) (.slice (some ⟨go31, 0, none⟩) y229.length co51) y263) := ⟨by rw [← hq_]; exact (by (with_reducible repeat (first | apply zab | apply zac | apply zae)); exact HO_11.out)⟩; have n1_ : Aside0 (Below w.heap.size w w71) := ⟨by rw [← hq_]; exact (by repeat (first | (with_reducible first | exact HB.out | apply zaj | apply zad | apply zai) | exact HB.out))⟩; clear HO_11 HB hq_; have HO_11 := n0_; have HB := n1_; clear n0_ n1_))
             have n0_ := Aside0.mk (zae HO_11.out)
             have n1_ := Aside0.mk (zai HB.out)
             clear HO_11
             clear HB
             have HO_11 := n0_
             have HB := n1_
             clear n0_ n1_
             have p264 : 0 ≤ (a2 : Int) := zap (by first | (with_reducible assumption) | assumption)
             have q264 : a2 < (y263.length : Int) := (by have h_ : (a2 : Int) < ((y229.length : Int) : Int) := zap (by first | (with_reducible assumption) | assumption); first | (have e_ := (zaf HO_11.out).1; omega) | simpa only [Ny239.out, Ny243.out, Ny247.out, Ny251.out, Ny255.out, Ny259.out, Ny263.out, zdm] using h_)
             have ql264 : ((a2 : Int) < ((y229.length : Int) : Int)) = True := zbn (zap (by first | (with_reducible assumption) | assumption))
             obtain ⟨ad264, e264, hx264_0⟩ := zca (zaf HO_11.out).2.2 a2 p264 q264
             obtain rfl : (⟨go31, 0, none⟩ : Addr) = ad264 := (by injection e264)
             (first | simp only [zeg] at hx264_0 | simp only [add_at] at hx264_0 | simp only [Addr.add, zeb] at hx264_0 | skip)
             replace p264 := zbn p264
             replace q264 := zbn q264
             have p265 : 0 ≤ (a3 : Int) := zap (by first | (with_reducible assumption) | assumption)
             have q265 : a3 < (y263.length : Int) := (by have h_ : (a3 : Int) < ((y229.length : Int) : Int) := zap (by first | (with_reducible assumption) | assumption); first | (have e_ := (zaf HO_11.out).1; omega) | simpa only [Ny239.out, Ny243.out, Ny247.out, Ny251.out, Ny255.out, Ny259.out, Ny263.out, zdm] using h_)
             have ql265 : ((a3 : Int) < ((y229.length : Int) : Int)) = True := zbn (zap (by first | (with_reducible assumption) | assumption))
             obtain ⟨ad265, e265, hx265_0⟩ := zca (zaf HO_11.out).2.2 a3 p265 q265
             obtain rfl : (⟨go31, 0, none⟩ : Addr) = ad265 := (by injection e265)
             (first | simp only [zeg] at hx265_0 | simp only [add_at] at hx265_0 | simp only [Addr.add, zeb] at hx265_0 | skip)
             replace p265 := zbn p265
             replace q265 := zbn q265
             refine start_ (n := 14) (S := fun w' => w'.cell? ⟨go31, (a2).toNat, none⟩ = some (.int .i64 (rd y263 a2)) ∧ w'.cell? ⟨go31, (a3).toNat, none⟩ = some (.int .i64 (rd y263 a3))) (ds := [13]) #[false, false, false, false, false, false, false, false, false, false, false, false, false, false] (by kernel_rfl) rfl rfl ⟨hx264_0, hx265_0⟩ (fun hHeld => ?_); refine zeq spec_Quarter.tab11 spec_Quarter.bits11 (fun HT_ HW_ => ?_)
             generalize w71.drew = w72 at HO_11 HB HQ70 hx264_0 hx265_0 hHeld ⊢
             refine pure_ (i := 0) (N := some 160) (v := ?_) (a' := ?_) #[true, false, false, false, false, false, false, false, false, false, false, false, false, false] rfl rfl (any_of HT_.out (by kernel_rfl)) (fun _ _ _ h => h) (Or.inl ⟨by rfl, ?_⟩) ?_ ?_
             rotate_left
             ·intro w'
              go_simp
              with_reducible rfl
             rotate_left
             ·simp only [Act.put, zaa, zag, zah, i64_w, i32_w]
              rfl
             refine pure_ (i := 1) (N := some 161) (v := ?_) (a' := ?_) #[true, true, false, false, false, false, false, false, false, false, false, false, false, false] rfl rfl (any_of HT_.out (by kernel_rfl)) (fun _ _ _ h => h) (Or.inl ⟨by rfl, ?_⟩) ?_ ?_
             rotate_left
             ·intro w'
              go_simp
              with_reducible rfl
             rotate_left
             ·simp only [Act.put, zaa, zag, zah, i64_w, i32_w]
              rfl
             refine pure_ (i := 2) (N := some 162) (v := ?_) (a' := ?_) #[true, true, true, false, false, false, false, false, false, false, false, false, false, false] rfl rfl (any_of HT_.out (by kernel_rfl)) (fun _ _ _ h => h) (Or.inl ⟨by rfl, ?_⟩) ?_ ?_
             rotate_left
             ·intro w'
              go_simp
              with_reducible rfl
             rotate_left
             ·simp only [Act.put, zaa, zag, zah, i64_w, i32_w]
              rfl
             refine pure_ (i := 3) (N := some 163) (v := ?_) (a' := ?_) #[true, true, true, true, false, false, false, false, false, false, false, false, false, false] rfl rfl (any_of HT_.out (by kernel_rfl)) (fun _ _ _ h => h) (Or.inl ⟨by rfl, ?_⟩) ?_ ?_
             rotate_left
             ·intro w'
              go_simp
              with_reducible rfl
             rotate_left
             ·simp only [Act.put, zaa, zag, zah, i64_w, i32_w]
              rfl
             refine pure_ (i := 4) (N := some 164) (v := ?_) (a' := ?_) #[true, true, true, true, true, false, false, false, false, false, false, false, false, false] rfl rfl (any_of HT_.out (by kernel_rfl)) (fun _ _ _ h => h) (Or.inl ⟨by rfl, ?_⟩) ?_ ?_
             rotate_left
             ·intro w'
              go_simp
              with_reducible rfl
             rotate_left
             ·simp only [Act.put, zaa, zag, zah, i64_w, i32_w]
              rfl
             refine pure_ (i := 6) (N := some 166) (v := ?_) (a' := ?_) #[true, true, true, true, true, false, true, false, false, false, false, false, false, false] rfl rfl (any_of HT_.out (by kernel_rfl)) (fun _ _ _ h => h) (Or.inl ⟨by rfl, ?_⟩) ?_ ?_
             rotate_left
             ·intro w'
              go_simp
              with_reducible rfl
             rotate_left
             ·simp only [Act.put, zaa, zag, zah, i64_w, i32_w]
              rfl
             refine pure_ (i := 7) (N := some 167) (v := ?_) (a' := ?_) #[true, true, true, true, true, false, true, true, false, false, false, false, false, false] rfl rfl (any_of HT_.out (by kernel_rfl)) (fun _ _ _ h => h) (Or.inl ⟨by rfl, ?_⟩) ?_ ?_
             rotate_left
             ·intro w'
              go_simp
              with_reducible rfl
             rotate_left
             ·simp only [Act.put, zaa, zag, zah, i64_w, i32_w]
              rfl
             refine pure_ (i := 8) (N := some 168) (v := ?_) (a' := ?_) #[true, true, true, true, true, false, true, true, true, false, false, false, false, false] rfl rfl (any_of HT_.out (by kernel_rfl)) (fun _ _ _ h => h) (Or.inl ⟨by rfl, ?_⟩) ?_ ?_
             rotate_left
             ·intro w'
              go_simp
              with_reducible rfl
             rotate_left
             ·simp only [Act.put, zaa, zag, zah, i64_w, i32_w]
              rfl
             refine take_ (i := 5) (N := some 165) (v := ?_) (a' := ?_) #[true, true, true, true, true, true, true, true, true, false, false, false, false, false] rfl rfl (zdt HT_.out HW_.out (by kernel_rfl)) (fun _ _ _ h => h) (Or.inl ⟨by rfl, ?_⟩) hHeld ?_ ?_
             rotate_left
             ·rintro w' ⟨s0, s1⟩
              go_simp
              with_reducible rfl
             rotate_left
             ·simp only [Act.put, zaa, zag, zah, i64_w, i32_w]
              rfl
             refine take_ (i := 9) (N := some 169) (v := ?_) (a' := ?_) #[true, true, true, true, true, true, true, true, true, true, false, false, false, false] rfl rfl (zdt HT_.out HW_.out (by kernel_rfl)) (fun _ _ _ h => h) (Or.inl ⟨by rfl, ?_⟩) hHeld ?_ ?_
             rotate_left
             ·rintro w' ⟨s0, s1⟩
              go_simp
              with_reducible rfl
             rotate_left
             ·simp only [Act.put, zaa, zag, zah, i64_w, i32_w]
              rfl
             refine pure_ (i := 10) (N := some 170) (v := ?_) (a' := ?_) #[true, true, true, true, true, true, true, true, true, true, true, false, false, false] rfl rfl (any_of HT_.out (by kernel_rfl)) (fun _ _ _ h => h) (Or.inl ⟨by rfl, ?_⟩) ?_ ?_
             rotate_left
             ·intro w'
              go_simp
              with_reducible rfl
             rotate_left
             ·simp only [Act.put, zaa, zag, zah, i64_w, i32_w]
              rfl
             refine one_ (i := 11) (N := some 171) #[true, true, true, true, true, true, true, true, true, true, true, true, false, false] rfl rfl (one_of HT_.out (by kernel_rfl)) (by decide) (fun K hK => ?_)
             refine goes_ Try.func39 (by kernel_rfl) rfl #[.int .i64 (Go.bits .xor .i64 (rd y263 a2) (rd y263 a3)), .int .i64 7] (by rfl) rfl rfl (by (try simp only [zal, zaq, zar]); first | done | rfl | (simp only [zbl, zbi]; rfl) | (simp only [zbl, zbi]; rw [zcm (zda.mpr (zdl (by assumption)))])) ?_
             with_reducible refine (spec_Turn.calls (Go.bits .xor .i64 (rd y263 a2) (rd y263 a3)) 7 t266 _ A48.out).mono ?_
             rintro e w' ⟨rfl, ⟨nd, rfl⟩⟩
             refine ⟨_, rfl, ?_⟩
             have p49 : 0 ≤ (a2 : Int) := zap (by first | (with_reducible assumption) | assumption)
             have q49 : (a2 : Int) < ((y229.length : Int) : Int) := zap (by first | (with_reducible assumption) | assumption)
             obtain ⟨hx49_0, hf49_0⟩ := zer 0 HO_11.out (a2 : Int) p49 q49
             replace p49 := zbn p49
             replace q49 := zbn q49
             have HP73 := Kd.R_putn HO_11.out (a2 : Int) t266
             rw [← Ny267.out] at HP73
             have HQ73 := Aside0.mk HP73
             clear HP73
             refine hK.out _ _ ⟨hHeld.1, hHeld.2⟩ (fun hHeld => ?_)
             clear hK K
             refine norm_ (a' := ?_) ?_ ?_
             rotate_left
             ·show Act.put _ (some 171) _ = _
              simp only [Act.put, zaa, zag, zah, i64_w, i32_w]
              rfl
             refine pure_ (i := 12) (N := some 172) (v := ?_) (a' := ?_) #[true, true, true, true, true, true, true, true, true, true, true, true, true, false] rfl rfl (any_of HT_.out (by kernel_rfl)) (fun _ _ _ h => h) (Or.inl ⟨by rfl, ?_⟩) ?_ ?_
             rotate_left
             ·intro w'
              go_simp
              with_reducible rfl
             rotate_left
             ·simp only [Act.put, zaa, zag, zah, i64_w, i32_w]
              rfl
             refine last_ (i := 13) (N := none) #[true, true, true, true, true, true, true, true, true, true, true, true, true, true] rfl rfl (one_of HT_.out (by kernel_rfl)) (by decide) (fun K hK => ?_)
             refine skip_ (w1 := ?_) (by rfl) rfl ?_ ?_
             rotate_left
             ·go_simp
              rfl
             refine hK.out _ _ ?_
             clear hK K
             refine done_ (done_of HT_.out (by kernel_rfl)) ?_
             try go_wp2
             go_ret
             exact ⟨_, by first | rfl | (simp [zbj, zbk] <;> rfl) | (simp [*, zbj, zbk] <;> rfl), by (with_reducible repeat (first | apply zab | apply zac | apply zae)); exact HQ73.out, by repeat (first | (with_reducible first | exact HB.out | apply zaj | apply zad | apply zai | refine zbs ?_ GB31.out) | exact HB.out)⟩
            ·rw [if_neg c37] at H
             exact absurd H (by simp)
           ·rw [if_neg c36] at H
            exact absurd H (by simp)
          ·rw [if_neg c33] at H
           exact absurd H (by simp)
         ·rw [if_neg c32] at H
          exact absurd H (by simp)
        ·rw [if_neg c29] at H
         exact absurd H (by simp)
       ·rw [if_neg c28] at H
        exact absurd H (by simp)
      ·rw [if_neg c27] at H
       exact absurd H (by simp)
     ·rw [if_neg c26] at H
      exact absurd H (by simp)
 ·rw [if_neg c6] at H
  exact absurd H (by simp)
end Go.Proofs.Ytdineaebljpfaaa.P
