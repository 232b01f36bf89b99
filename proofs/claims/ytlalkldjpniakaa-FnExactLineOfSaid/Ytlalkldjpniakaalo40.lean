import Derived.Test.Ytlalkldjpniakaalo8
namespace Go.Proofs.Ytlalkldjpniakaa.P
open Go.RowKit Go.Proofs.YtlalkldjpniakaaW.PrintWords Go.Proofs.YtlalkldjpniakaaW.PrintLast Go.Proofs.YtlalkldjpniakaaW.PrintMore
attribute [local go_sem] zdk zdl zeh zei zcz zda zdm zdn   -- for this text's walks alone
set_option linter.unusedVariables false
set_option linter.unusedSimpArgs false

def laws_heldByteS.l0 : Nat → List Int → Int → Int → Option (Int)
 | 0, _, _, _ => none
 | k + 1, x0, x1, x5 => if x5 < (x0.length : Int) then (if 0 ≤ x5 then (if (rd x0 x5) = ((x1) % 256) then (laws_heldByteS.l0 k x0 (wrap64 (x1 + 1)) (wrap64 (x5 + 1))) else (some (-1))) else (none)) else (some x1)
def laws_heldByteS.f (k : Nat) (l0 : List Int) (a1 : Int) : Option (Int) := laws_heldByteS.l0 k l0 a1 0
theorem laws_heldByteS.mono_l : ∀ k, (∀ y0 y1 y2, LeO (laws_heldByteS.l0 k y0 y1 y2) (laws_heldByteS.l0 (k + 1) y0 y1 y2))
 | 0 => fun _ _ _ r h => by simp [laws_heldByteS.l0] at h
 | k + 1 => by
  have ih0 := laws_heldByteS.mono_l k
  ·intro y0 y1 y2
   unfold laws_heldByteS.l0
   repeat' first
   | (with_reducible exact ih0 _ _ _)
   | (with_reducible exact zdd _)
   | (with_reducible exact zde _)
   | (with_reducible refine zdx ?_ ?_)
   | (with_reducible refine zdf ?_ (fun _ => ?_))
   | exact ih0 _ _ _
theorem laws_heldByteS.mono : ∀ a0 a1 k, LeO (laws_heldByteS.f k a0 a1) (laws_heldByteS.f (k + 1) a0 a1) := by
 intro a0 a1 k
 have ih0 := laws_heldByteS.mono_l k
 unfold laws_heldByteS.f
 repeat' first
   | (with_reducible exact ih0 _ _ _)
   | (with_reducible exact zdd _)
   | (with_reducible exact zde _)
   | (with_reducible refine zdx ?_ ?_)
   | (with_reducible refine zdf ?_ (fun _ => ?_))
   | exact ih0 _ _ _
set_option maxHeartbeats 8000000 in
set_option maxRecDepth 100000 in
theorem laws_heldByteS.calls (k : Nat) (A0 : Option Addr) (c0 : Nat) (l0 : List Int) (a1 : Int) (r : Int) (w : World) (hr0 : Kd.C (Kd.int .u8) w A0 l0.length l0) (hc0 : l0.length ≤ c0) (h : laws_heldByteS.f k l0 a1 = some r) :
  Calls Try.prog 53 #[.slice A0 l0.length c0, .int .i64 a1] w fun e w' => e = .returned (.int .i64 r) ∧ Drawn0 w w' := by
 have HR0 := Aside0.mk hr0
 have HC0 := Aside0.mk hc0
 clear hr0 hc0
 have H : (laws_heldByteS.l0 k l0 a1 0) = some r := h
 clear h
 have H' := Aside0.mk H
 clear H
 go_enter Try.func53, Try.ntmps53
 go_wp2
 go_loopg [1, 5] k (fun kq v1 v5 w' => ∃ (x1_1 : Int) (x5_1 : Int), v1 = .int .i64 x1_1 ∧ v5 = .int .i64 x5_1 ∧ Aside0 (laws_heldByteS.l0 kq l0 x1_1 x5_1 = some r) ∧ Aside0 (kq ≤ k) ∧ Drawn0 w w')
 case atStart => exact ⟨(a1), (0), (by first | rfl | (simp; done) | (simp [*]; done)), (by first | rfl | (simp; done) | (simp [*]; done)), H', ⟨zak _⟩, by repeat (first | exact Drawn0.refl _ | apply Drawn0.step)⟩
 case round =>
  clear H'
  try clear p2
  obtain ⟨x1_1, x5_1, rfl, rfl, HA, HK1, ⟨m1, rfl⟩⟩ := hrel
  cases gk with
  | zero => exact absurd HA.out (by simp [laws_heldByteS.l0])
  | succ k1 =>
   have H := HA.out
   clear HA
   simp only [laws_heldByteS.l0] at H
   by_cases c3 : x5_1 < (l0.length : Int)
   ·rw [if_pos c3] at H
    have c3b0 : decide (x5_1 < (l0.length : Int)) = true := zay c3
    clear c3
    by_cases c4 : 0 ≤ x5_1
    ·rw [if_pos c4] at H
     have c4b0 : decide (0 ≤ x5_1) = true := zay c4
     clear c4
     by_cases c5 : (rd l0 x5_1) = ((x1_1) % 256)
     ·rw [if_pos c5] at H
      have c5b0 : ((rd l0 x5_1) == ((x1_1) % 256)) = true := zdp.mpr c5
      have c5b1 : ((rd l0 x5_1) != ((x1_1) % 256)) = false := zby.mpr c5
      clear c5
      have H' := Aside0.mk H
      clear H
      have p228 : 0 ≤ (x5_1 : Int) := zap (by first | (with_reducible assumption) | assumption)
      have q228 : x5_1 < (l0.length : Int) := zap (by first | (with_reducible assumption) | assumption)
      obtain ⟨ad228, e228, hx228_0⟩ := zer HR0.out x5_1 p228 q228
      cases e228
      replace p228 := zbs p228
      replace q228 := zbs q228
      go_wp2
      go_roundg k1
      case measure => have := HK1.out; omega
      case rel => exact ⟨(wrap64 (x1_1 + 1)), (wrap64 (x5_1 + 1)), (by first | rfl | (simp; done) | (simp [*]; done)), (by first | rfl | (simp; done) | (simp [*]; done)), H', ⟨by have := HK1.out; omega⟩, by repeat (first | exact Drawn0.refl _ | apply Drawn0.step)⟩
     ·rw [if_neg c5] at H
      have c5b0 : ((rd l0 x5_1) == ((x1_1) % 256)) = false := zbx.mpr c5
      have c5b1 : ((rd l0 x5_1) != ((x1_1) % 256)) = true := zeb.mpr c5
      obtain rfl := Option.some.inj H
      have p228 : 0 ≤ (x5_1 : Int) := zap (by first | (with_reducible assumption) | assumption)
      have q228 : x5_1 < (l0.length : Int) := zap (by first | (with_reducible assumption) | assumption)
      obtain ⟨ad228, e228, hx228_0⟩ := zer HR0.out x5_1 p228 q228
      cases e228
      replace p228 := zbs p228
      replace q228 := zbs q228
      go_wp2
      go_ret
      exact ⟨by first | rfl | (simp; done) | (simp [*]; done), by repeat (first | exact Drawn0.refl _ | apply Drawn0.step)⟩
    ·rw [if_neg c4] at H
     exact absurd H (by simp)
   ·rw [if_neg c3] at H
    have c3b0 : decide (x5_1 < (l0.length : Int)) = false := zbv c3
    clear c3
    obtain rfl := Option.some.inj H
    go_wp2
    go_ret
    exact ⟨by first | rfl | (simp; done) | (simp [*]; done), by repeat (first | exact Drawn0.refl _ | apply Drawn0.step)⟩
def laws_heldLine.f (k : Nat) (a0_0 : Int) (a0_1 : ByteArray) (a0_2 : Int) (a0_3 : Int) (l0_4 : List Int) (a1 : Int) : Option (Int) := (laws_heldByteS.f k l0_4 a1).bind fun t689 => (if t689 < 0 then (some (-1)) else (some t689))
theorem laws_heldLine.mono : ∀ a0 a1 a2 a3 a4 a5 k, LeO (laws_heldLine.f k a0 a1 a2 a3 a4 a5) (laws_heldLine.f (k + 1) a0 a1 a2 a3 a4 a5) := by
 intro a0 a1 a2 a3 a4 a5 k
 unfold laws_heldLine.f
 repeat' first
   | (with_reducible exact laws_heldByteS.mono _ _ _)
   | (with_reducible exact zdd _)
   | (with_reducible exact zde _)
   | (with_reducible refine zdx ?_ ?_)
   | (with_reducible refine zdf ?_ (fun _ => ?_))
set_option maxHeartbeats 8000000 in
set_option maxRecDepth 100000 in
theorem laws_heldLine.calls (k : Nat) (a0_0 : Int) (a0_1 : ByteArray) (a0_2 : Int) (a0_3 : Int) (A0_4 : Option Addr) (c0_4 : Nat) (l0_4 : List Int) (a1 : Int) (r : Int) (w : World) (hr0_4 : Kd.C (Kd.int .u8) w A0_4 l0_4.length l0_4) (hc0_4 : l0_4.length ≤ c0_4) (h : laws_heldLine.f k a0_0 a0_1 a0_2 a0_3 l0_4 a1 = some r) :
  Calls Try.prog 57 #[.agg #[.int .i64 a0_0, .string a0_1, .int .i64 a0_2, .int .i64 a0_3, .slice A0_4 l0_4.length c0_4], .int .i64 a1] w fun e w' => e = .returned (.int .i64 r) ∧ Below w.heap.size w w' := by
 have hu48 := Try.underlying48
 have HR0_4 := Aside0.mk hr0_4
 have HC0_4 := Aside0.mk hc0_4
 clear hr0_4 hc0_4
 have HB := Aside0.mk (zbz w.heap.size w)
 have H : ((laws_heldByteS.f k l0_4 a1).bind fun t689 => (if t689 < 0 then (some (-1)) else (some t689))) = some r := h
 clear h
 replace H := zaq.mp H
 obtain ⟨t689, A30, H⟩ := H
 try dsimp only at H
 have A3 := Aside0.mk A30
 clear A30
 by_cases c4 : t689 < 0
 ·rw [if_pos c4] at H
  have c4b0 : decide (t689 < 0) = true := zay c4
  clear c4
  obtain rfl := Option.some.inj H
  go_enter Try.func57, Try.ntmps57
  go_wp2_with (first | ((with_reducible refine zbu (N := 2) rfl ?_); refine zcb ?hg (N := 2) ?hd (cs := #[.int .i64 a0_0, .string a0_1, .int .i64 a0_2, .int .i64 a0_3, .slice A0_4 l0_4.length c0_4]) (t := 48) ?hr ?_; (case hd => rfl); (case hg => rfl); (case hr => first | (go_simp; done) | (go_simp; rfl)); intro gb688 hg w5 hbox hb; have xb_ := below_ofs (by repeat (first | (with_reducible first | exact HB.out | apply zad | apply zaa | apply zac) | exact HB.out)) hb; have n0_ := Aside0.mk (zat xb_ hb); have n1_ := Aside0.mk (hbox); have n2_ := Aside0.mk ((by rw [hg]; exact (zan xb_) : w.heap.size ≤ gb688)); have n3_ := Aside0.mk ((by rw [hg]; exact (zan xb_) : w.heap.size ≤ gb688)); clear HB; have HB := n0_; have BK688 := n1_; have GW688 := n2_; have GE688 := n3_; clear n0_ n1_ n2_ n3_; clear xb_ hb hbox hg; have hcz6_0 : w5.cell? ⟨gb688, 0, none⟩ = some (.int .i64 a0_0) := (zaf BK688.out 0).trans rfl; have hcz6_1 : w5.cell? ⟨gb688, 1, none⟩ = some (.string a0_1) := (zaf BK688.out 1).trans rfl; have hcz6_2 : w5.cell? ⟨gb688, 2, none⟩ = some (.int .i64 a0_2) := (zaf BK688.out 2).trans rfl; have hcz6_3 : w5.cell? ⟨gb688, 3, none⟩ = some (.int .i64 a0_3) := (zaf BK688.out 3).trans rfl; have hcz6_4 : w5.cell? ⟨gb688, 4, none⟩ = some (.slice A0_4 l0_4.length c0_4) := (zaf BK688.out 4).trans rfl; have hfz6_0 := zab BK688.out 0; have hfz6_1 := zab BK688.out 1; have hfz6_2 := zab BK688.out 2; have hfz6_3 := zab BK688.out 3; have hfz6_4 := zab BK688.out 4) | ((with_reducible refine zbl (f := 53) rfl ?_); refine goesL_ (some 8) rfl rfl Try.func53 (by kernel_rfl) rfl #[.slice A0_4 l0_4.length c0_4, .int .i64 a1] rfl (by (try simp only [zav, zbd, zbh]); first | done | rfl) ?_; (with_reducible refine (laws_heldByteS.calls k _ _ l0_4 a1 t689 _ ?side1 ?side2 A3.out).mono ?_); (case side1 => repeat (first | exact (zbk HR0_4.out HB.out) | (with_reducible first | apply zcl | apply zcm | apply zcu))); (case side2 => exact HC0_4.out); rintro e w' ⟨rfl, ⟨nd, rfl⟩⟩; refine ⟨_, rfl, ?_⟩))
  go_ret
  exact ⟨by first | rfl | (simp [zaz, zba] <;> rfl) | (simp [*, zaz, zba] <;> rfl), by repeat (first | (with_reducible first | exact HB.out | apply zad | apply zaa | apply zac | refine zal ?_ GE688.out) | exact HB.out)⟩
 ·rw [if_neg c4] at H
  have c4b0 : decide (t689 < 0) = false := zbv c4
  clear c4
  obtain rfl := Option.some.inj H
  go_enter Try.func57, Try.ntmps57
  go_wp2_with (first | ((with_reducible refine zbu (N := 2) rfl ?_); refine zcb ?hg (N := 2) ?hd (cs := #[.int .i64 a0_0, .string a0_1, .int .i64 a0_2, .int .i64 a0_3, .slice A0_4 l0_4.length c0_4]) (t := 48) ?hr ?_; (case hd => rfl); (case hg => rfl); (case hr => first | (go_simp; done) | (go_simp; rfl)); intro gb688 hg w7 hbox hb; have xb_ := below_ofs (by repeat (first | (with_reducible first | exact HB.out | apply zad | apply zaa | apply zac) | exact HB.out)) hb; have n0_ := Aside0.mk (zat xb_ hb); have n1_ := Aside0.mk (hbox); have n2_ := Aside0.mk ((by rw [hg]; exact (zan xb_) : w.heap.size ≤ gb688)); have n3_ := Aside0.mk ((by rw [hg]; exact (zan xb_) : w.heap.size ≤ gb688)); clear HB; have HB := n0_; have BK688 := n1_; have GW688 := n2_; have GE688 := n3_; clear n0_ n1_ n2_ n3_; clear xb_ hb hbox hg; have hcz8_0 : w7.cell? ⟨gb688, 0, none⟩ = some (.int .i64 a0_0) := (zaf BK688.out 0).trans rfl; have hcz8_1 : w7.cell? ⟨gb688, 1, none⟩ = some (.string a0_1) := (zaf BK688.out 1).trans rfl; have hcz8_2 : w7.cell? ⟨gb688, 2, none⟩ = some (.int .i64 a0_2) := (zaf BK688.out 2).trans rfl; have hcz8_3 : w7.cell? ⟨gb688, 3, none⟩ = some (.int .i64 a0_3) := (zaf BK688.out 3).trans rfl; have hcz8_4 : w7.cell? ⟨gb688, 4, none⟩ = some (.slice A0_4 l0_4.length c0_4) := (zaf BK688.out 4).trans rfl; have hfz8_0 := zab BK688.out 0; have hfz8_1 := zab BK688.out 1; have hfz8_2 := zab BK688.out 2; have hfz8_3 := zab BK688.out 3; have hfz8_4 := zab BK688.out 4) | ((with_reducible refine zbl (f := 53) rfl ?_); refine goesL_ (some 8) rfl rfl Try.func53 (by kernel_rfl) rfl #[.slice A0_4 l0_4.length c0_4, .int .i64 a1] rfl (by (try simp only [zav, zbd, zbh]); first | done | rfl) ?_; (with_reducible refine (laws_heldByteS.calls k _ _ l0_4 a1 t689 _ ?side1 ?side2 A3.out).mono ?_); (case side1 => repeat (first | exact (zbk HR0_4.out HB.out) | (with_reducible first | apply zcl | apply zcm | apply zcu))); (case side2 => exact HC0_4.out); rintro e w' ⟨rfl, ⟨nd, rfl⟩⟩; refine ⟨_, rfl, ?_⟩))
  go_ret
  exact ⟨by first | rfl | (simp [zaz, zba] <;> rfl) | (simp [*, zaz, zba] <;> rfl), by repeat (first | (with_reducible first | exact HB.out | apply zad | apply zaa | apply zac | refine zal ?_ GE688.out) | exact HB.out)⟩
end Go.Proofs.Ytlalkldjpniakaa.P
/- Plain lemmas on lists and on numbers that do not wrap, used by all pure statements of this seat; no condition but those each lemma names. -/
namespace Go.Proofs.Ytlalkldjpniakaa.B
open Go.RowKit Go.Proofs.YtlalkldjpniakaaW.PrintWords Go.Proofs.YtlalkldjpniakaaW.PrintLast Go.Proofs.YtlalkldjpniakaaW.PrintMore

theorem wrap_eq (x : Int) (h0 : -9223372036854775808 ≤ x) (h1 : x ≤ 9223372036854775807) : wrap64 x = x := by
  unfold wrap64; omega
theorem rd_mid (pre : List Int) (a : Int) (rest : List Int) : rd (pre ++ a :: rest) (pre.length : Int) = a := by
  unfold rd; simp [List.getD_eq_getElem?_getD]
theorem set_mid (pre : List Int) (a b : Int) (rest : List Int) : (pre ++ b :: rest).set ((pre.length : Int).toNat) a = pre ++ a :: rest := by
  simp
theorem lt_mid {α : Type} (pre : List α) (a : α) (rest : List α) : (pre.length : Int) < (((pre ++ a :: rest).length : Nat) : Int) := by
  simp; omega
theorem nlt_end {α : Type} (pre : List α) : ¬ ((pre.length : Int) < (((pre ++ []).length : Nat) : Int)) := by
  simp
theorem wrap_step {α : Type} (pre : List α) (a : α) (h : pre.length ≤ 4611686018427387904) : wrap64 ((pre.length : Int) + 1) = (((pre ++ [a]).length : Nat) : Int) := by
  rw [wrap_eq _ (by omega) (by omega)]; simp
theorem snoc_app {α : Type} (pre : List α) (a : α) (rest : List α) : pre ++ a :: rest = (pre ++ [a]) ++ rest := by simp
theorem pre_nonneg {α : Type} (pre : List α) : 0 ≤ (pre.length : Int) := by omega

theorem rd_mid2 (pa pb : List Int) (a : Int) (rest : List Int) (h : pa.length = pb.length) : rd (pb ++ a :: rest) (pa.length : Int) = a := by
  rw [h]; exact rd_mid pb a rest
theorem lt_mid2 {α : Type} (pa pb : List α) (a : α) (rest : List α) (h : pa.length = pb.length) : (pa.length : Int) < (((pb ++ a :: rest).length : Nat) : Int) := by
  rw [h]; exact lt_mid pb a rest
theorem nlt_end2 {α : Type} (pa pb : List α) (h : pa.length = pb.length) : ¬ ((pa.length : Int) < (((pb ++ []).length : Nat) : Int)) := by
  rw [h]; exact nlt_end pb
/-- n numbers m, m + 1, .. as bytes. -/
def marks : Nat → Int → List Int
  | 0, _ => []
  | n + 1, m => m % 256 :: marks n (m + 1)
theorem marks_length : ∀ (n : Nat) (m : Int), (marks n m).length = n
  | 0, _ => rfl
  | n + 1, m => by simp [marks, marks_length n]
theorem marks_snoc : ∀ (n : Nat) (m : Int), marks n m ++ [(m + n) % 256] = marks (n + 1) m
  | 0, m => by simp [marks]
  | n + 1, m => by
    have h := marks_snoc n (m + 1)
    rw [show m + 1 + (n : Int) = m + ((n + 1 : Nat) : Int) from by omega] at h
    rw [marks, marks, List.cons_append, h]
/-- n numbers m, m + 1, .. -/
def counts : Nat → Int → List Int
  | 0, _ => []
  | n + 1, m => m :: counts n (m + 1)
theorem counts_length : ∀ (n : Nat) (m : Int), (counts n m).length = n
  | 0, _ => rfl
  | n + 1, m => by simp [counts, counts_length n]
theorem counts_snoc : ∀ (n : Nat) (m : Int), counts n m ++ [m + n] = counts (n + 1) m
  | 0, m => by simp [counts]
  | n + 1, m => by
    have h := counts_snoc n (m + 1)
    rw [show m + 1 + (n : Int) = m + ((n + 1 : Nat) : Int) from by omega] at h
    rw [counts, counts, List.cons_append, h]
end Go.Proofs.Ytlalkldjpniakaa.B
