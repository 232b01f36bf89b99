import Derived.Test.Ytdineaebljpfaaan19
import Derived.Test.Ytdineaebljpfaaan20
import Derived.Test.Ytdineaebljpfaaan22
namespace Go.Proofs.Ytdineaebljpfaaa.P
open Go.RowKit Go.Proofs.YtdineaebljpfaaaW.PrintWords Go.Proofs.YtdineaebljpfaaaW.PrintLast Go.Proofs.YtdineaebljpfaaaW.PrintMore
attribute [local go_sem] zcu zcv zdf zdg zci zcj zcw zcx   -- for this text's walks alone
set_option linter.unusedVariables false
set_option linter.unusedSimpArgs false

def impl_Block.colL (k : Nat) : List Int → List Int → Option (List Int)
 | [], x => some x
 | i :: r, x => (impl_Quarter.f k x i (i + 4) (i + 8) (i + 12)).bind fun t => impl_Block.colL k r t
def impl_Block.diaL (k : Nat) : List Int → List Int → Option (List Int)
 | [], x => some x
 | i :: r, x => (impl_Quarter.f k x i (4 + (i + 1) % 4) (8 + (i + 2) % 4) (12 + (i + 3) % 4)).bind fun t => impl_Block.diaL k r t
def impl_Block.dbls (k : Nat) : Nat → List Int → Option (List Int)
 | 0, x => some x
 | n + 1, x => (impl_Block.colL k [0, 1, 2, 3] x).bind fun y => (impl_Block.diaL k [0, 1, 2, 3] y).bind fun z => impl_Block.dbls k n z
def impl_Block.sums : List Int → List Int → Option (List Int)
 | [], _ => some []
 | _ :: _, [] => none
 | n :: x, f :: fs => (impl_Word.f (wrap64 (n + f))).bind fun t => (impl_Block.sums x fs).bind fun r => some (t :: r)
def impl_Block.ok (l0 : List Int) (a1 : Int) (l2 : List Int) : Bool := decide ((l0.length : Int) = 32 ∧ (l2.length : Int) = 12 ∧ 0 ≤ a1 ∧ a1 ≤ 4294967295)
def impl_Block.f (k : Nat) (l0 : List Int) (a1 : Int) (l2 : List Int) : Option (List Int) := if impl_Block.ok l0 a1 l2 = true then (impl_Words.f k l0 false).bind fun t1 => (impl_Words.f k l2 false).bind fun t2 => (slices_Concat_int_int.f [[1634760805, 857760878, 2036477234, 1797285236], t1, [a1], t2]).bind fun x0 => (impl_Block.dbls k 10 x0).bind fun x => if x.length ≤ 1000 then (impl_Block.sums x x0).bind fun o => (impl_WordBytes.f k o false).bind fun t => if 0 < t.length then some t else none else none else some []
theorem impl_Block.mono_col : ∀ r x k, LeO (impl_Block.colL k r x) (impl_Block.colL (k + 1) r x)
 | [], x, k => zcc _
 | i :: r, x, k => zcd (impl_Quarter.mono _ _ _ _ _ _) (fun t => impl_Block.mono_col r t k)
theorem impl_Block.mono_dia : ∀ r x k, LeO (impl_Block.diaL k r x) (impl_Block.diaL (k + 1) r x)
 | [], x, k => zcc _
 | i :: r, x, k => zcd (impl_Quarter.mono _ _ _ _ _ _) (fun t => impl_Block.mono_dia r t k)
theorem impl_Block.mono_dbls : ∀ n x k, LeO (impl_Block.dbls k n x) (impl_Block.dbls (k + 1) n x)
 | 0, x, k => zcc _
 | n + 1, x, k => zcd (impl_Block.mono_col _ _ _) (fun y => zcd (impl_Block.mono_dia _ _ _) (fun z => impl_Block.mono_dbls n z k))
theorem impl_Block.mono : ∀ a0 a1 a2 k, LeO (impl_Block.f k a0 a1 a2) (impl_Block.f (k + 1) a0 a1 a2) := by
 intro a0 a1 a2 k
 unfold impl_Block.f
 repeat' first
   | (with_reducible exact impl_Words.mono _ _ _)
   | (with_reducible exact impl_Block.mono_dbls _ _ _)
   | (with_reducible exact impl_WordBytes.mono _ _ _)
   | (with_reducible exact zcc _)
   | (with_reducible exact zcg _)
   | (with_reducible refine zcr ?_ ?_)
   | (with_reducible refine zcd ?_ (fun _ => ?_))
theorem impl_Block.drop4 (i : Nat) (h : i < 4) : ([0, 1, 2, 3] : List Int).drop i = (i : Int) :: ([0, 1, 2, 3] : List Int).drop (i + 1) := by
 match i, h with
 | 0, _ => rfl
 | 1, _ => rfl
 | 2, _ => rfl
 | 3, _ => rfl
theorem impl_Block.sums_at (x f : List Int) (i : Nat) (s : List Int) (hx : i < x.length) (h : impl_Block.sums (x.drop i) (f.drop i) = some s) : ∃ t r, i < f.length ∧ impl_Word.f (wrap64 (rd x i + rd f i)) = some t ∧ impl_Block.sums (x.drop (i + 1)) (f.drop (i + 1)) = some r ∧ s = t :: r := by
 rw [List.drop_eq_getElem_cons hx] at h
 rcases Nat.lt_or_ge i f.length with hf | hf
 ·rw [List.drop_eq_getElem_cons hf] at h
  simp only [impl_Block.sums] at h
  replace h := zam.1 h
  obtain ⟨t, h1, h⟩ := h
  replace h := zam.1 h
  obtain ⟨r, h2, h⟩ := h
  refine ⟨t, r, hf, ?_, h2, (Option.some.inj h).symm⟩
  unfold rd
  simpa [List.getD_eq_getElem?_getD, hx, hf] using h1
 ·rw [List.drop_eq_nil_of_le hf] at h
  simp [impl_Block.sums] at h
set_option maxHeartbeats 8000000 in
set_option maxRecDepth 100000 in
theorem impl_Block.no (k : Nat) (A0 : Option Addr) (c0 : Nat) (l0 : List Int) (a1 : Int) (A2 : Option Addr) (c2 : Nat) (l2 : List Int) (w : World) (h : impl_Block.ok l0 a1 l2 = false) :
  Calls Try.prog 24 #[.slice A0 l0.length c0, .int .i64 a1, .slice A2 l2.length c2] w fun e w' => e = .returned (.slice none 0 0) ∧ Below w.heap.size w w' := by
 unfold impl_Block.ok at h
 have HB := Aside0.mk (zbx w.heap.size w)
 by_cases q1 : (l0.length : Int) = 32
 ·have q1b : ((l0.length : Int) != 32) = false := zbv.mpr q1
  by_cases q2 : (l2.length : Int) = 12
  ·have q2b : ((l2.length : Int) != 12) = false := zbv.mpr q2
   have q3 : impl_in.f a1 0 4294967295 = some false := by
    unfold impl_in.f
    have h2 := of_decide_eq_false h
    split
    ·rename_i h3
     rw [zbq (by omega)]
    ·rfl
   have A3 := Aside0.mk q3
   clear h q1 q2 q3
   go_enter Try.func24, Try.ntmps24
   go_wp2_with (first | (go_at_call 46; (with_reducible refine (impl_in.calls a1 0 4294967295 false _ A3.out).mono ?_); rintro e w' ⟨rfl, ⟨nd, rfl⟩⟩))
   go_ret
   exact ⟨rfl, by repeat (first | (with_reducible first | exact HB.out | apply zaj | apply zad | apply zai) | exact HB.out)⟩
  ·have q2b : ((l2.length : Int) != 12) = true := zdh.mpr q2
   clear h q1 q2
   go_enter Try.func24, Try.ntmps24
   go_wp2
   go_ret
   exact ⟨rfl, by repeat (first | (with_reducible first | exact HB.out | apply zaj | apply zad | apply zai) | exact HB.out)⟩
 ·have q1b : ((l0.length : Int) != 32) = true := zdh.mpr q1
  clear h q1
  go_enter Try.func24, Try.ntmps24
  go_wp2
  go_ret
  exact ⟨rfl, by repeat (first | (with_reducible first | exact HB.out | apply zaj | apply zad | apply zai) | exact HB.out)⟩
set_option maxHeartbeats 8000000 in
set_option maxRecDepth 100000 in
theorem impl_Block.calls (k : Nat) (A0 : Option Addr) (c0 : Nat) (l0 : List Int) (a1 : Int) (A2 : Option Addr) (c2 : Nat) (l2 : List Int) (r : List Int) (w : World) (hr0 : Kd.C (Kd.int .u8) w A0 l0.length l0) (hc0 : l0.length ≤ c0) (hr2 : Kd.C (Kd.int .u8) w A2 l2.length l2) (hc2 : l2.length ≤ c2) (h : impl_Block.f k l0 a1 l2 = some r) :
  Calls Try.prog 24 #[.slice A0 l0.length c0, .int .i64 a1, .slice A2 l2.length c2] w fun e w' => ∃ v0_ : Value, e = .returned (v0_) ∧ Kd.R (Kd.int .u8) 5 w' w.heap.size (fun _ => True) v0_ r ∧ Below w.heap.size w w' := by
 unfold impl_Block.f at h
 cases hok : impl_Block.ok l0 a1 l2 with
 | false =>
  rw [hok, if_neg (by decide)] at h
  obtain rfl := Option.some.inj h
  exact (impl_Block.no k A0 c0 l0 a1 A2 c2 l2 w hok).mono fun e w' ⟨he, hb⟩ => ⟨_, he, Kd.R_nil _ _ _ _ _, hb⟩
 | true =>
  rw [hok, if_pos rfl] at h
  unfold impl_Block.ok at hok
  obtain ⟨q1, q2, q3, q4⟩ := zap hok
  clear hok
  have q1b : ((l0.length : Int) != 32) = false := zbv.mpr q1
  have q2b : ((l2.length : Int) != 12) = false := zbv.mpr q2
  have qi : impl_in.f a1 0 4294967295 = some true := by unfold impl_in.f; rw [if_pos q3, zax q4]
  replace h := zam.1 h
  obtain ⟨la, h1, h⟩ := h
  replace h := zam.1 h
  obtain ⟨lb, h2, h⟩ := h
  obtain ⟨y4, N4⟩ : ∃ y : List Int, Aside0 (y = [1634760805, 857760878, 2036477234, 1797285236]) := ⟨_, ⟨rfl⟩⟩
  obtain ⟨y1, N1⟩ : ∃ y : List Int, Aside0 (y = [a1]) := ⟨_, ⟨rfl⟩⟩
  obtain ⟨yp, Np⟩ : ∃ y : List (List Int), Aside0 (y = [y4, la, y1, lb]) := ⟨_, ⟨rfl⟩⟩
  rw [← N4.out, ← N1.out, ← Np.out] at h
  replace h := zam.1 h
  obtain ⟨lf, h3, h⟩ := h
  replace h := zam.1 h
  obtain ⟨lx, h4, h⟩ := h
  by_cases hxl : lx.length ≤ 1000
  rotate_left
  ·rw [if_neg hxl] at h; cases h
  rw [if_pos hxl] at h
  replace h := zam.1 h
  obtain ⟨lo, h5, h⟩ := h
  replace h := zam.1 h
  obtain ⟨lt, h6, h⟩ := h
  by_cases htl : 0 < lt.length
  rotate_left
  ·rw [if_neg htl] at h; cases h
  rw [if_pos htl] at h
  obtain rfl := Option.some.inj h
  have HR0 := Aside0.mk hr0
  have HR2 := Aside0.mk hr2
  have HC0 := Aside0.mk hc0
  have HC2 := Aside0.mk hc2
  have F0 := Aside0.mk qi
  have F1 := Aside0.mk h1
  have F2 := Aside0.mk h2
  have F3 := Aside0.mk h3
  have F4 := Aside0.mk h4
  have F5 := Aside0.mk h5
  have F6 := Aside0.mk h6
  have FX := Aside0.mk hxl
  have HB := Aside0.mk (zbx w.heap.size w)
  clear h h1 h2 h3 h4 h5 h6 qi hr0 hr2 hc0 hc2 q1 q2 q3 q4 hxl htl
  go_enter Try.func24, Try.ntmps24
  go_wp2_with (first | (go_at_call 46; (with_reducible refine (impl_in.calls a1 0 4294967295 true _ F0.out).mono ?_); rintro e w' ⟨rfl, ⟨nd, rfl⟩⟩) | ((with_reducible refine zds (N := 27) rfl ?_); refine zec (Kd.int .i64) _ 3 ?hg (N := 27) ?hd (xs := ([1634760805, 857760878, 2036477234, 1797285236] : List Int)) (inner := [.int .i64 1634760805, .int .i64 857760878, .int .i64 2036477234, .int .i64 1797285236]) (ok := fun _ => True) (okp := fun _ => True) ?hr ?hp (fun _ hk => hk) trivial (zbx _ _) (zbp _) (by simp) ?_; (case hd => rfl); (case hg => rfl); (case hr => first | (go_simp; done) | (go_simp; rfl)); (case hp => exact (zdy (show Kd.M (Kd.int .i64) _ _ _ 1634760805 [.int .i64 1634760805] from rfl) (zdy (show Kd.M (Kd.int .i64) _ _ _ 857760878 [.int .i64 857760878] from rfl) (zdy (show Kd.M (Kd.int .i64) _ _ _ 2036477234 [.int .i64 2036477234] from rfl) (zdy (show Kd.M (Kd.int .i64) _ _ _ 1797285236 [.int .i64 1797285236] from rfl) (zdp _ _)))))); intro v_ w_ ho hb hg_ hnew_; clear hg_ hnew_; rw [← N4.out] at ho; obtain ⟨A4, c4, e_⟩ := zbe ho; subst e_; have m0_ := Aside0.mk (show Kd.V (Kd.int .i64) 3 _ w.heap.size (fun _ => True) _ _ from (Kd.V_mk (zaf ho).2.1 (Kd.F_mono (Kd.R_F ho) (fun _ _ => trivial)))); have mb_ := Aside0.mk (zbb (by repeat (first | (with_reducible first | exact HB.out | apply zaj | apply zad | apply zai) | exact HB.out)) hb); clear HB ; have HV4 := m0_; have HB := mb_; clear m0_ mb_ ho hb ) | ((with_reducible refine zau (f := 48) rfl ?_); refine goesL_ (some 29) rfl rfl Try.func48 (by kernel_rfl) rfl #[.slice A0 l0.length c0, .bool false] rfl (by (try simp only [zal, zaq, zar]); first | done | rfl) ?_; (with_reducible refine (impl_Words.calls k _ _ l0 false la _ ?s1 ?s2 F1.out).mono ?_); (case s1 => repeat (first | exact (zbr HR0.out HB.out) | (with_reducible first | apply zas | apply zat | apply zaw))); (case s2 => exact HC0.out); rintro e w_ ⟨v_, rfl, ho, hb⟩; refine ⟨_, rfl, ?_⟩; obtain ⟨Aa, ca, e_⟩ := zbe ho; subst e_; have m0_ := Aside0.mk (show Kd.V (Kd.int .i64) 3 _ w.heap.size (fun _ => True) _ _ from (Kd.V_mk (zaf ho).2.1 (Kd.F_mono (Kd.R_F ho) (fun _ _ => trivial)))); have m4_ := Aside0.mk (Kd.V_below (by repeat (first | (with_reducible first | exact HV4.out | apply Kd.V_alloc | apply Kd.V_drewN | apply Kd.V_drew) | exact HV4.out)) hb); have mb_ := Aside0.mk (zbb (by repeat (first | (with_reducible first | exact HB.out | apply zaj | apply zad | apply zai) | exact HB.out)) hb); clear HB HV4; have HVa := m0_; have HB := mb_; have HV4 := m4_; clear m0_ mb_ ho hb m4_) | ((with_reducible refine zds (N := 31) rfl ?_); refine zec (Kd.int .i64) _ 3 ?hg (N := 31) ?hd (xs := ([a1] : List Int)) (inner := [.int .i64 a1]) (ok := fun _ => True) (okp := fun _ => True) ?hr ?hp (fun _ hk => hk) trivial (zbx _ _) (zbp _) (by simp) ?_; (case hd => rfl); (case hg => rfl); (case hr => first | (go_simp; done) | (go_simp; rfl)); (case hp => exact (zdy (show Kd.M (Kd.int .i64) _ _ _ a1 [.int .i64 a1] from rfl) (zdp _ _))); intro v_ w_ ho hb hg_ hnew_; clear hg_ hnew_; rw [← N1.out] at ho; obtain ⟨A1, c1, e_⟩ := zbe ho; subst e_; have m0_ := Aside0.mk (show Kd.V (Kd.int .i64) 3 _ w.heap.size (fun _ => True) _ _ from (Kd.V_mk (zaf ho).2.1 (Kd.F_mono (Kd.R_F ho) (fun _ _ => trivial)))); have m4_ := Aside0.mk (Kd.V_below (by repeat (first | (with_reducible first | exact HV4.out | apply Kd.V_alloc | apply Kd.V_drewN | apply Kd.V_drew) | exact HV4.out)) hb); have ma_ := Aside0.mk (Kd.V_below (by repeat (first | (with_reducible first | exact HVa.out | apply Kd.V_alloc | apply Kd.V_drewN | apply Kd.V_drew) | exact HVa.out)) hb); have mb_ := Aside0.mk (zbb (by repeat (first | (with_reducible first | exact HB.out | apply zaj | apply zad | apply zai) | exact HB.out)) hb); clear HB HV4 HVa; have HV1 := m0_; have HB := mb_; have HV4 := m4_; have HVa := ma_; clear m0_ mb_ ho hb m4_ ma_) | ((with_reducible refine zau (f := 48) rfl ?_); refine goesL_ (some 33) rfl rfl Try.func48 (by kernel_rfl) rfl #[.slice A2 l2.length c2, .bool false] rfl (by (try simp only [zal, zaq, zar]); first | done | rfl) ?_; (with_reducible refine (impl_Words.calls k _ _ l2 false lb _ ?s1 ?s2 F2.out).mono ?_); (case s1 => repeat (first | exact (zbr HR2.out HB.out) | (with_reducible first | apply zas | apply zat | apply zaw))); (case s2 => exact HC2.out); rintro e w_ ⟨v_, rfl, ho, hb⟩; refine ⟨_, rfl, ?_⟩; obtain ⟨Ab, cb, e_⟩ := zbe ho; subst e_; have m0_ := Aside0.mk (show Kd.V (Kd.int .i64) 3 _ w.heap.size (fun _ => True) _ _ from (Kd.V_mk (zaf ho).2.1 (Kd.F_mono (Kd.R_F ho) (fun _ _ => trivial)))); have m4_ := Aside0.mk (Kd.V_below (by repeat (first | (with_reducible first | exact HV4.out | apply Kd.V_alloc | apply Kd.V_drewN | apply Kd.V_drew) | exact HV4.out)) hb); have ma_ := Aside0.mk (Kd.V_below (by repeat (first | (with_reducible first | exact HVa.out | apply Kd.V_alloc | apply Kd.V_drewN | apply Kd.V_drew) | exact HVa.out)) hb); have m1_ := Aside0.mk (Kd.V_below (by repeat (first | (with_reducible first | exact HV1.out | apply Kd.V_alloc | apply Kd.V_drewN | apply Kd.V_drew) | exact HV1.out)) hb); have mb_ := Aside0.mk (zbb (by repeat (first | (with_reducible first | exact HB.out | apply zaj | apply zad | apply zai) | exact HB.out)) hb); clear HB HV4 HVa HV1; have HVb := m0_; have HB := mb_; have HV4 := m4_; have HVa := ma_; have HV1 := m1_; clear m0_ mb_ ho hb m4_ ma_ m1_) | ((with_reducible refine zds (N := 34) rfl ?_); refine Kd.N_lit (Kd.slice 3 (Kd.int .i64)) _ 33 ?hg (N' := 34) ?hd (xs := ([y4, la, y1, lb] : List (List Int))) (inner := [.slice A4 y4.length c4, .slice Aa la.length ca, .slice A1 y1.length c1, .slice Ab lb.length cb]) (ok := (fun _ => True)) (okp := (fun _ => True)) ?hr ?hp (fun _ hk => hk) trivial (zbx _ _) (zbp _) (by simp) ?_; (case hd => rfl); (case hg => rfl); (case hr => first | (go_simp; done) | (go_simp; rfl)); (case hp => exact (zdy (show Kd.FK (Kd.slice 3 (Kd.int .i64)) _ _ y4 [.slice A4 y4.length c4] from (Kd.FK_slice_mk (zes HV4.out).2.1 (Kd.V_F HV4.out))) (zdy (show Kd.FK (Kd.slice 3 (Kd.int .i64)) _ _ la [.slice Aa la.length ca] from (Kd.FK_slice_mk (zes HVa.out).2.1 (Kd.V_F HVa.out))) (zdy (show Kd.FK (Kd.slice 3 (Kd.int .i64)) _ _ y1 [.slice A1 y1.length c1] from (Kd.FK_slice_mk (zes HV1.out).2.1 (Kd.V_F HV1.out))) (zdy (show Kd.FK (Kd.slice 3 (Kd.int .i64)) _ _ lb [.slice Ab lb.length cb] from (Kd.FK_slice_mk (zes HVb.out).2.1 (Kd.V_F HVb.out))) (zdp _ _)))))); intro v_ w_ ho_ hb hg_ hnew_; clear hg_ hnew_; rw [← Np.out] at ho_; have mn_ := Aside0.mk ho_; have mb_ := Aside0.mk (zbb (by repeat (first | (with_reducible first | exact HB.out | apply zaj | apply zad | apply zai) | exact HB.out)) hb); clear HB HV4 HVa HV1 HVb; have HN := mn_; have HB := mb_; clear mn_ mb_; clear hb ho_; obtain ⟨AN, cN, eN⟩ := Kd.N_slice HN.out; subst eN) | ((with_reducible refine zau (f := 47) rfl ?_); refine goesL_ (some 35) rfl rfl Try.func47 (by kernel_rfl) rfl #[.slice AN yp.length cN] rfl (by (try simp only [zal, zaq, zar]); first | done | rfl) ?_; (with_reducible refine (slices_Concat_int_int.calls _ _ yp lf _ ?s1 ?s2 F3.out).mono ?_); (case s1 => repeat (first | exact (Kd.N_reads' HN.out).2.2 | (with_reducible first | apply zas | apply zat | apply zaw))); (case s2 => exact (Kd.N_reads' HN.out).2.1); rintro e w_ ⟨v_, rfl, ho, hb⟩; refine ⟨_, rfl, ?_⟩; clear HN; obtain ⟨Af, cf, e_⟩ := zbe ho; subst e_; have m0_ := Aside0.mk (show Kd.V (Kd.int .i64) 3 _ w.heap.size (fun _ => True) _ _ from (Kd.V_mk (zaf ho).2.1 (Kd.F_mono (Kd.R_F ho) (fun _ _ => trivial)))); have mb_ := Aside0.mk (zbb (by repeat (first | (with_reducible first | exact HB.out | apply zaj | apply zad | apply zai) | exact HB.out)) hb); clear HB ; have HVf := m0_; have HB := mb_; clear m0_ mb_ ho hb ))
  go_loopg [8, 37] 10 (fun g s8 s37 wr => ∃ (q : Nat) (x : List Int), q ≤ 10 ∧ 10 - q ≤ g ∧ s37 = .int .i64 q ∧ Aside0 (impl_Block.dbls k (10 - q) x = some lx) ∧ Aside0 (Kd.V (Kd.int .i64) 3 wr w.heap.size (fun _ => True) s8 x) ∧ Aside0 (Kd.V (Kd.int .i64) 3 wr w.heap.size (fun _ => True) (.slice Af lf.length cf) lf) ∧ Aside0 (Below w.heap.size w wr))
  case atStart => exact ⟨0, lf, by omega, by omega, rfl, F4, HVf, HVf, HB⟩
  case round =>
   clear HVf HB F4
   obtain ⟨q, x, hq, hg, rfl, FD, HVx, HVf, HB⟩ := hrel
   by_cases hlt : q < 10
   ·have hqz : (q : Int) < 10 := by omega
    obtain ⟨m, hm⟩ : ∃ m, 10 - q = m + 1 := ⟨9 - q, by omega⟩
    have hd := FD.out
    rw [hm] at hd
    simp only [impl_Block.dbls] at hd
    replace hd := zam.1 hd
    obtain ⟨u, hu1, hd⟩ := hd
    replace hd := zam.1 hd
    obtain ⟨z, hu2, hd⟩ := hd
    have G1 := Aside0.mk hu1
    have G2 := Aside0.mk hu2
    have G3 := Aside0.mk (show impl_Block.dbls k (10 - (q + 1)) z = some lx from by rw [show 10 - (q + 1) = m by omega]; exact hd)
    clear hd hu1 hu2 FD hm m
    obtain ⟨Ax, cx, ex⟩ := Kd.V_slice HVx.out
    subst ex
    go_wp2
    go_loopg [8, 39] 4 (fun g s8 s39 wr => ∃ (i : Nat) (x : List Int), i ≤ 4 ∧ 4 - i ≤ g ∧ s39 = .int .i64 i ∧ Aside0 (impl_Block.colL k (([0, 1, 2, 3] : List Int).drop i) x = some u) ∧ Aside0 (Kd.V (Kd.int .i64) 3 wr w.heap.size (fun _ => True) s8 x) ∧ Aside0 (Kd.V (Kd.int .i64) 3 wr w.heap.size (fun _ => True) (.slice Af lf.length cf) lf) ∧ Aside0 (Below w.heap.size w wr))
    case atStart => exact ⟨0, x, by omega, by omega, rfl, G1, HVx, HVf, HB⟩
    case round =>
     clear HVx HVf HB G1
     obtain ⟨i, x, hi, hg, rfl, FD, HVx, HVf, HB⟩ := hrel
     by_cases hlt : i < 4
     ·have hiz : (i : Int) < 4 := by omega
      have hd := FD.out
      rw [impl_Block.drop4 i hlt] at hd
      simp only [impl_Block.colL] at hd
      replace hd := zam.1 hd
      obtain ⟨t, ht, hd⟩ := hd
      have G1 := Aside0.mk ht
      have G4 := Aside0.mk hd
      clear ht hd FD
      obtain ⟨Ax, cx, ex⟩ := Kd.V_slice HVx.out
      subst ex
      go_wp2_with (((with_reducible refine zau (f := 19) rfl ?_); refine goesL_ (some 50) rfl rfl Try.func19 (by kernel_rfl) rfl #[.slice Ax x.length cx, .int .i64 (i : Int), .int .i64 ((i : Int) + 4), .int .i64 ((i : Int) + 8), .int .i64 ((i : Int) + 12)] rfl (by (try simp only [zal, zaq, zar]); first | done | rfl) ?_; (with_reducible refine (impl_Quarter.calls k _ _ _ _ _ _ _ _ _ ?s1 ?s2 G1.out).mono ?_); (case s1 => exact (zes (by repeat (first | (with_reducible first | exact HVx.out | apply Kd.V_alloc | apply Kd.V_drewN | apply Kd.V_drew) | exact HVx.out))).2.2); (case s2 => exact (zes HVx.out).2.1); rintro e w_ ⟨v_, rfl, ho, hb⟩; refine ⟨_, rfl, ?_⟩; clear HVx; obtain ⟨An, cn, e_⟩ := zbe ho; subst e_; have m0_ := Aside0.mk (show Kd.V (Kd.int .i64) 3 _ w.heap.size (fun _ => True) _ _ from (Kd.V_mk (zaf ho).2.1 (Kd.F_mono (Kd.R_F ho) (fun _ _ => trivial)))); have mf_ := Aside0.mk (Kd.V_below (by repeat (first | (with_reducible first | exact HVf.out | apply Kd.V_alloc | apply Kd.V_drewN | apply Kd.V_drew) | exact HVf.out)) hb); have mb_ := Aside0.mk (zbb (by repeat (first | (with_reducible first | exact HB.out | apply zaj | apply zad | apply zai) | exact HB.out)) hb); clear HB HVf; have HVn := m0_; have HB := mb_; have HVf := mf_; clear m0_ mb_ ho hb mf_))
      go_roundg (4 - (i + 1))
      case measure => omega
      case rel => exact ⟨i + 1, t, by omega, zbp _, by go_num, G4, HVn, HVf, HB⟩
     ·obtain rfl : i = 4 := by omega
      have hxu : x = u := Option.some.inj FD.out
      subst hxu
      obtain ⟨Ax, cx, ex⟩ := Kd.V_slice HVx.out
      subst ex
      clear FD
      go_wp2
      go_loopg [8, 52] 4 (fun g s8 s52 wr => ∃ (i : Nat) (x : List Int), i ≤ 4 ∧ 4 - i ≤ g ∧ s52 = .int .i64 i ∧ Aside0 (impl_Block.diaL k (([0, 1, 2, 3] : List Int).drop i) x = some z) ∧ Aside0 (Kd.V (Kd.int .i64) 3 wr w.heap.size (fun _ => True) s8 x) ∧ Aside0 (Kd.V (Kd.int .i64) 3 wr w.heap.size (fun _ => True) (.slice Af lf.length cf) lf) ∧ Aside0 (Below w.heap.size w wr))
      case atStart => exact ⟨0, x, by omega, by omega, rfl, G2, HVx, HVf, HB⟩
      case round =>
       clear HVx HVf HB G2
       obtain ⟨i, x, hi, hg, rfl, FD, HVx, HVf, HB⟩ := hrel
       by_cases hlt : i < 4
       ·have hiz : (i : Int) < 4 := by omega
        have hd := FD.out
        rw [impl_Block.drop4 i hlt] at hd
        simp only [impl_Block.diaL] at hd
        replace hd := zam.1 hd
        obtain ⟨t, ht, hd⟩ := hd
        have G1 := Aside0.mk ht
        have G4 := Aside0.mk hd
        clear ht hd FD
        obtain ⟨Ax, cx, ex⟩ := Kd.V_slice HVx.out
        subst ex
        go_wp2_with (((with_reducible refine zau (f := 19) rfl ?_); refine goesL_ (some 69) rfl rfl Try.func19 (by kernel_rfl) rfl #[.slice Ax x.length cx, .int .i64 (i : Int), .int .i64 (4 + ((i : Int) + 1) % 4), .int .i64 (8 + ((i : Int) + 2) % 4), .int .i64 (12 + ((i : Int) + 3) % 4)] rfl (by (try simp only [zal, zaq, zar]); first | done | rfl) ?_; (with_reducible refine (impl_Quarter.calls k _ _ _ _ _ _ _ _ _ ?s1 ?s2 G1.out).mono ?_); (case s1 => exact (zes (by repeat (first | (with_reducible first | exact HVx.out | apply Kd.V_alloc | apply Kd.V_drewN | apply Kd.V_drew) | exact HVx.out))).2.2); (case s2 => exact (zes HVx.out).2.1); rintro e w_ ⟨v_, rfl, ho, hb⟩; refine ⟨_, rfl, ?_⟩; clear HVx; obtain ⟨An, cn, e_⟩ := zbe ho; subst e_; have m0_ := Aside0.mk (show Kd.V (Kd.int .i64) 3 _ w.heap.size (fun _ => True) _ _ from (Kd.V_mk (zaf ho).2.1 (Kd.F_mono (Kd.R_F ho) (fun _ _ => trivial)))); have mf_ := Aside0.mk (Kd.V_below (by repeat (first | (with_reducible first | exact HVf.out | apply Kd.V_alloc | apply Kd.V_drewN | apply Kd.V_drew) | exact HVf.out)) hb); have mb_ := Aside0.mk (zbb (by repeat (first | (with_reducible first | exact HB.out | apply zaj | apply zad | apply zai) | exact HB.out)) hb); clear HB HVf; have HVn := m0_; have HB := mb_; have HVf := mf_; clear m0_ mb_ ho hb mf_))
        go_roundg (4 - (i + 1))
        case measure => omega
        case rel => exact ⟨i + 1, t, by omega, zbp _, by go_num, G4, HVn, HVf, HB⟩
       ·obtain rfl : i = 4 := by omega
        have hxu : x = z := Option.some.inj FD.out
        subst hxu
        clear FD
        go_wp2
        go_roundg (10 - (q + 1))
        case measure => omega
        case rel => exact ⟨q + 1, x, by omega, zbp _, by go_num, G3, HVx, HVf, HB⟩
   ·obtain rfl : q = 10 := by omega
    have hxu : x = lx := Option.some.inj FD.out
    subst hxu
    clear FD hg
    obtain ⟨Ax, cx, ex⟩ := Kd.V_slice HVx.out
    subst ex
    obtain ⟨W1, hW1⟩ : ∃ W, W = wr := ⟨_, rfl⟩
    subst hW1
    have CX := Aside0.mk (readsInt_of.2 (Kd.reads_of_C (zes HVx.out).2.2))
    have CF := Aside0.mk (readsInt_of.2 (Kd.reads_of_C (zes HVf.out).2.2))
    clear HVx HVf
    go_wp2_with (((with_reducible refine zds (N := 72) rfl ?_); refine zec (Kd.int .i64) _ 3 ?hg (N := 72) ?hd (xs := ([] : List Int)) (inner := []) (ok := fun _ => True) (okp := fun _ => True) ?hr ?hp (fun _ hk => hk) trivial (zbx _ _) (zbp _) (by simp) ?_; (case hd => rfl); (case hg => rfl); (case hr => first | (go_simp; done) | (go_simp; rfl)); (case hp => exact (zdp _ _)); intro v_ w_ ho hb hg_ hnew_; clear hg_ hnew_; have HO := Aside0.mk ho; have HB2 := Aside0.mk hb; clear ho hb))
    go_loopg [11, 75] x.length (fun g s11 s75 wr => ∃ (i : Nat) (acc rest : List Int), i ≤ x.length ∧ x.length - i ≤ g ∧ s75 = .int .i64 i ∧ Aside0 (impl_Block.sums (x.drop i) (lf.drop i) = some rest) ∧ Aside0 (acc ++ rest = lo) ∧ Aside0 (acc.length = i) ∧ Aside0 (Kd.R (Kd.int .i64) 3 wr W1.heap.size (fun _ => True) s11 acc) ∧ Aside0 (Below W1.heap.size W1 wr))
    case atStart => exact ⟨0, [], lo, by omega, by omega, rfl, F5, ⟨rfl⟩, ⟨rfl⟩, HO, HB2⟩
    case round =>
     clear HO F5 HB2
     obtain ⟨i, acc, rest, hi, hg, rfl, FD, FE, FA, HO, HB2⟩ := hrel
     by_cases hlt : i < x.length
     ·have hiz : (i : Int) < (x.length : Int) := by omega
      have hxb : (x.length : Int) ≤ 1000 := by have := FX.out; omega
      obtain ⟨t, r, hif, ht, hr, hrest⟩ := impl_Block.sums_at x lf i rest hlt FD.out
      have hifz : (i : Int) < (lf.length : Int) := by omega
      have G1 := Aside0.mk ht
      have G2 := Aside0.mk hr
      have G3 := Aside0.mk hrest
      obtain ⟨adx, rfl, hcx0⟩ := ReadsInt.at_ CX.out (i : Int) (by omega) hiz
      obtain ⟨adf, rfl, hcf0⟩ := ReadsInt.at_ CF.out (i : Int) (by omega) hifz
      simp only [Int.toNat_natCast] at hcx0 hcf0
      have hcx := pw_cell_below HB2.out hcx0
      have hcf := pw_cell_below HB2.out hcf0
      have GL := Aside0.mk (show acc.length + 1 ≤ 1001 by have := FA.out; have := FX.out; omega)
      clear ht hr hrest FD hcx0 hcf0
      go_wp2_with (first | (go_at_call 49; (with_reducible refine (impl_Word.calls _ t _ G1.out).mono ?_); rintro e w' ⟨rfl, ⟨nd, rfl⟩⟩) | ((with_reducible refine zdk (b := .append) (xs := #[.tmp 80, .tmp 88]) rfl ?_); at_builtin; refine Kd.R_append (Kd.int .i64) (w0 := W1) W1.heap.size rfl (.tmp 80) (.tmp 88) 33 3 (.int .i64 0) 8 rfl Try.underlying33 info3 rfl (by decide) (by omega) _ acc t [.int .i64 t] (fun _ => True) (fun _ => False) rfl rfl ?aP (fun _ hk => hk.elim) ?aF ?aO ?aB ?aS ?aL ?_; (case aP => exact rfl); (case aB => repeat (first | (with_reducible first | exact HB2.out | apply zaj | apply zad | apply zai) | exact HB2.out)); (case aF => exact (fun _ _ => trivial)); (case aO => exact (by (with_reducible repeat (first | apply zab | apply zac | apply zae)); exact HO.out)); (case aS => exact (Below.size (B := W1.heap.size) (w := W1) (by repeat (first | (with_reducible first | exact HB2.out | apply zaj | apply zad | apply zai) | exact HB2.out)))); (case aL => have := GL.out; omega); intro v2 w2 ho hb hg hat; have HO2 := Aside0.mk ho; have HB3 := Aside0.mk hb; clear ho hb hg hat))
      go_roundg (x.length - (i + 1))
      case measure => omega
      case rel => exact ⟨i + 1, acc ++ [t], r, by omega, zbp _, by go_num, G2, ⟨by rw [List.append_assoc, ← FE.out, G3.out]; rfl⟩, ⟨by rw [List.length_append, FA.out]; rfl⟩, HO2, HB3⟩
     ·obtain rfl : i = x.length := by omega
      have hrn : rest = [] := by have h := FD.out; rw [List.drop_length] at h; exact (Option.some.inj h).symm
      have hao : acc = lo := by have h := FE.out; rw [hrn, List.append_nil] at h; exact h
      subst hao
      have HBa := Aside0.mk (below_then HB.out HB.out.size HB2.out)
      clear FD FE FA hrn HB
      have HB := HBa
      clear HBa
      obtain ⟨Ao, co, eo⟩ := zbe HO.out
      subst eo
      go_wp2_with (((with_reducible refine zau (f := 50) rfl ?_); refine goesL_ (some 92) rfl rfl Try.func50 (by kernel_rfl) rfl #[.slice Ao acc.length co, .bool false] rfl (by (try simp only [zal, zaq, zar]); first | done | rfl) ?_; (with_reducible refine (impl_WordBytes.calls k _ _ acc false _ _ ?s1 ?s2 F6.out).mono ?_); (case s1 => repeat (first | exact (zaf HO.out).2.2 | (with_reducible first | apply zas | apply zat | apply zaw))); (case s2 => exact (zaf HO.out).2.1); rintro e w_ ⟨v_, rfl, ho, hb⟩; refine ⟨_, rfl, ?_⟩; have m0_ := Aside0.mk (zbc ho (zba (by repeat (first | (with_reducible first | exact HB.out | apply zaj | apply zad | apply zai) | exact HB.out)))); have mb_ := Aside0.mk (zbb (by repeat (first | (with_reducible first | exact HB.out | apply zaj | apply zad | apply zai) | exact HB.out)) hb); clear HB; have HR := m0_; have HB := mb_; clear m0_ mb_ ho hb))
      go_ret
      exact ⟨_, rfl, HR.out, HB.out⟩
end Go.Proofs.Ytdineaebljpfaaa.P
