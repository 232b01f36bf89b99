import Derived.Test.Ytlalkldjpniakaapu7
namespace Go.Proofs.Ytlalkldjpniakaa.P
open Go.RowKit Go.Proofs.YtlalkldjpniakaaW.PrintWords Go.Proofs.YtlalkldjpniakaaW.PrintLast Go.Proofs.YtlalkldjpniakaaW.PrintMore
attribute [local go_sem] zdj zdk zed zee zcy zcz zdl zdm   -- for this text's walks alone
set_option linter.unusedVariables false
set_option linter.unusedSimpArgs false

def impl_Of.l0 : Nat → ByteArray → Int → List (S34) → Int → Int → Option (Int)
 | 0, _, _, _, _, _ => none
 | k + 1, x1, x5, x8, x9, x10 => if x10 < x9 then (if 0 ≤ x10 then (if x10 < (x8.length : Int) then (if ((rd_T34 x8 x10).f0).toList = x1.toList then (impl_Of.l0 k x1 (wrap64 (x5 + 1)) x8 x9 (wrap64 (x10 + 1))) else (impl_Of.l0 k x1 x5 x8 x9 (wrap64 (x10 + 1)))) else (none)) else (none)) else (some x5)
def impl_Of.f (k : Nat) (l0 : List (S34)) (a1 : ByteArray) : Option (Int) := impl_Of.l0 k a1 0 l0 (l0.length : Int) 0
theorem impl_Of.mono_l : ∀ k, (∀ y0 y1 y2 y3 y4, LeO (impl_Of.l0 k y0 y1 y2 y3 y4) (impl_Of.l0 (k + 1) y0 y1 y2 y3 y4))
 | 0 => fun _ _ _ _ _ r h => by simp [impl_Of.l0] at h
 | k + 1 => by
  have ih0 := impl_Of.mono_l k
  ·intro y0 y1 y2 y3 y4
   unfold impl_Of.l0
   repeat' first
   | (with_reducible exact ih0 _ _ _ _ _)
   | (with_reducible exact zcn _)
   | (with_reducible exact zda _)
   | (with_reducible refine zdh ?_ ?_)
   | (with_reducible refine zcs ?_ (fun _ => ?_))
   | exact ih0 _ _ _ _ _
theorem impl_Of.mono : ∀ a0 a1 k, LeO (impl_Of.f k a0 a1) (impl_Of.f (k + 1) a0 a1) := by
 intro a0 a1 k
 have ih0 := impl_Of.mono_l k
 unfold impl_Of.f
 repeat' first
   | (with_reducible exact ih0 _ _ _ _ _)
   | (with_reducible exact zcn _)
   | (with_reducible exact zda _)
   | (with_reducible refine zdh ?_ ?_)
   | (with_reducible refine zcs ?_ (fun _ => ?_))
   | exact ih0 _ _ _ _ _
set_option maxHeartbeats 8000000 in
set_option maxRecDepth 100000 in
theorem impl_Of.calls (k : Nat) (A0 : Option Addr) (c0 : Nat) (l0 : List (S34)) (a1 : ByteArray) (r : Int) (w : World) (hr0 : Kd.C k34 w A0 l0.length l0) (hc0 : l0.length ≤ c0) (h : impl_Of.f k l0 a1 = some r) :
  Calls Try.prog 21 #[.slice A0 l0.length c0, .string a1] w fun e w' => e = .returned (.int .i64 r) ∧ Below w.heap.size w w' := by
 have hu34 := Try.underlying34
 have HR0 := Aside0.mk hr0
 have HC0 := Aside0.mk hc0
 clear hr0 hc0
 have HB := Aside0.mk (zbt w.heap.size w)
 have H : (impl_Of.l0 k a1 0 l0 (l0.length : Int) 0) = some r := h
 clear h
 have H' := Aside0.mk H
 clear H
 go_enter Try.func21, Try.ntmps21
 go_wp2
 go_loopg [5, 10] k (fun kq v5 v10 w' => ∃ (x5_1 : Int) (x10_1 : Int), v5 = .int .i64 x5_1 ∧ v10 = .int .i64 x10_1 ∧ Aside0 (impl_Of.l0 kq a1 x5_1 l0 (l0.length : Int) x10_1 = some r) ∧ Aside0 (kq ≤ k) ∧ Aside0 (Below w.heap.size w w'))
 case atStart => exact ⟨(0), (0), (by first | rfl | (simp; done) | (simp [*]; done)), (by first | rfl | (simp; done) | (simp [*]; done)), H', ⟨zaw _⟩, ⟨by repeat (first | (with_reducible first | exact HB.out | apply zae | apply zab | apply zac) | exact HB.out)⟩⟩
 case round =>
  clear H'
  try clear c2
  try clear p2
  obtain ⟨x5_1, x10_1, rfl, rfl, HA, HK1, HB⟩ := hrel
  cases gk with
  | zero => exact absurd HA.out (by simp [impl_Of.l0])
  | succ k1 =>
   have H := HA.out
   clear HA
   simp only [impl_Of.l0] at H
   by_cases c3 : x10_1 < (l0.length : Int)
   ·rw [if_pos c3] at H
    have c3b0 : decide (x10_1 < (l0.length : Int)) = true := zas c3
    clear c3
    by_cases c4 : 0 ≤ x10_1
    ·rw [if_pos c4] at H
     have c4b0 : decide (0 ≤ x10_1) = true := zas c4
     clear c4
     by_cases c5 : x10_1 < (l0.length : Int)
     ·rw [if_pos c5] at H
      have c5b0 : decide (x10_1 < (l0.length : Int)) = true := zas c5
      clear c5
      by_cases c6 : ((rd_T34 l0 x10_1).f0).toList = a1.toList
      ·rw [if_pos c6] at H
       have c6b0 : (((rd_T34 l0 x10_1).f0).toList == a1.toList) = true := zep.mpr c6
       have c6b1 : (((rd_T34 l0 x10_1).f0).toList != a1.toList) = false := zcp.mpr c6
       clear c6
       have H' := Aside0.mk H
       clear H
       have p129 : 0 ≤ (x10_1 : Int) := zad (by first | (with_reducible assumption) | assumption)
       have q129 : x10_1 < (l0.length : Int) := zad (by first | (with_reducible assumption) | assumption)
       obtain ⟨ad129, A129_3, c129_3, e129, hx129_0, hx129_1, hx129_2, hx129_3, hl129_3, hi129_3⟩ := at_T34 HR0.out x10_1 p129 q129
       cases e129
       replace hx129_0 := (HB.out.cell (World.block_lt_of_cell? w _ hx129_0)).trans hx129_0
       replace hx129_1 := (HB.out.cell (World.block_lt_of_cell? w _ hx129_1)).trans hx129_1
       replace hx129_2 := (HB.out.cell (World.block_lt_of_cell? w _ hx129_2)).trans hx129_2
       replace hx129_3 := (HB.out.cell (World.block_lt_of_cell? w _ hx129_3)).trans hx129_3
       have HR129_3 := Aside0.mk hi129_3
       have HC129_3 := Aside0.mk hl129_3
       clear hi129_3 hl129_3
       replace p129 := zay p129
       replace q129 := zay q129
       go_wp2_with (first | ((with_reducible refine zcc (N := 7) rfl ?_); refine zct ?hg (N := 7) ?hd (cs := #[.string (⟨#[]⟩ : ByteArray), .int .i64 0, .int .i64 0, .slice none 0 0]) (t := 34) ?hr ?_; (case hd => rfl); (case hg => rfl); (case hr => first | (go_simp; done) | (go_simp; rfl)); intro gb130 hg w7 hbox hb; have xb_ := below_ofs (by repeat (first | (with_reducible first | exact HB.out | apply zae | apply zab | apply zac) | exact HB.out)) hb; have n0_ := Aside0.mk (zai xb_ hb); have n1_ := Aside0.mk (hbox); have n2_ := Aside0.mk ((by rw [hg]; exact (zam xb_) : w.heap.size ≤ gb130)); have n3_ := Aside0.mk ((by rw [hg]; exact (zam xb_) : w.heap.size ≤ gb130)); clear HB; have HB := n0_; have BK130 := n1_; have GW130 := n2_; have GE130 := n3_; clear n0_ n1_ n2_ n3_; clear xb_ hb hbox hg; have hcz8_0 : w7.cell? ⟨gb130, 0, none⟩ = some (.string (⟨#[]⟩ : ByteArray)) := (zaf BK130.out 0).trans rfl; have hcz8_1 : w7.cell? ⟨gb130, 1, none⟩ = some (.int .i64 0) := (zaf BK130.out 1).trans rfl; have hcz8_2 : w7.cell? ⟨gb130, 2, none⟩ = some (.int .i64 0) := (zaf BK130.out 2).trans rfl; have hcz8_3 : w7.cell? ⟨gb130, 3, none⟩ = some (.slice none 0 0) := (zaf BK130.out 3).trans rfl; have hfz8_0 := zah BK130.out 0; have hfz8_1 := zah BK130.out 1; have hfz8_2 := zah BK130.out 2; have hfz8_3 := zah BK130.out 3))
       go_roundg k1
       case measure => have := HK1.out; omega
       case rel => exact ⟨(wrap64 (x5_1 + 1)), (wrap64 (x10_1 + 1)), (by first | rfl | (simp; done) | (simp [*]; done)), (by first | rfl | (simp; done) | (simp [*]; done)), H', ⟨by have := HK1.out; omega⟩, ⟨by repeat (first | (with_reducible first | exact HB.out | apply zae | apply zab | apply zac | refine zal ?_ GE130.out) | exact HB.out)⟩⟩
      ·rw [if_neg c6] at H
       have c6b0 : (((rd_T34 l0 x10_1).f0).toList == a1.toList) = false := zcq.mpr c6
       have c6b1 : (((rd_T34 l0 x10_1).f0).toList != a1.toList) = true := zeq.mpr c6
       have H' := Aside0.mk H
       clear H
       have p129 : 0 ≤ (x10_1 : Int) := zad (by first | (with_reducible assumption) | assumption)
       have q129 : x10_1 < (l0.length : Int) := zad (by first | (with_reducible assumption) | assumption)
       obtain ⟨ad129, A129_3, c129_3, e129, hx129_0, hx129_1, hx129_2, hx129_3, hl129_3, hi129_3⟩ := at_T34 HR0.out x10_1 p129 q129
       cases e129
       replace hx129_0 := (HB.out.cell (World.block_lt_of_cell? w _ hx129_0)).trans hx129_0
       replace hx129_1 := (HB.out.cell (World.block_lt_of_cell? w _ hx129_1)).trans hx129_1
       replace hx129_2 := (HB.out.cell (World.block_lt_of_cell? w _ hx129_2)).trans hx129_2
       replace hx129_3 := (HB.out.cell (World.block_lt_of_cell? w _ hx129_3)).trans hx129_3
       have HR129_3 := Aside0.mk hi129_3
       have HC129_3 := Aside0.mk hl129_3
       clear hi129_3 hl129_3
       replace p129 := zay p129
       replace q129 := zay q129
       go_wp2_with (first | ((with_reducible refine zcc (N := 7) rfl ?_); refine zct ?hg (N := 7) ?hd (cs := #[.string (⟨#[]⟩ : ByteArray), .int .i64 0, .int .i64 0, .slice none 0 0]) (t := 34) ?hr ?_; (case hd => rfl); (case hg => rfl); (case hr => first | (go_simp; done) | (go_simp; rfl)); intro gb130 hg w9 hbox hb; have xb_ := below_ofs (by repeat (first | (with_reducible first | exact HB.out | apply zae | apply zab | apply zac) | exact HB.out)) hb; have n0_ := Aside0.mk (zai xb_ hb); have n1_ := Aside0.mk (hbox); have n2_ := Aside0.mk ((by rw [hg]; exact (zam xb_) : w.heap.size ≤ gb130)); have n3_ := Aside0.mk ((by rw [hg]; exact (zam xb_) : w.heap.size ≤ gb130)); clear HB; have HB := n0_; have BK130 := n1_; have GW130 := n2_; have GE130 := n3_; clear n0_ n1_ n2_ n3_; clear xb_ hb hbox hg; have hcz10_0 : w9.cell? ⟨gb130, 0, none⟩ = some (.string (⟨#[]⟩ : ByteArray)) := (zaf BK130.out 0).trans rfl; have hcz10_1 : w9.cell? ⟨gb130, 1, none⟩ = some (.int .i64 0) := (zaf BK130.out 1).trans rfl; have hcz10_2 : w9.cell? ⟨gb130, 2, none⟩ = some (.int .i64 0) := (zaf BK130.out 2).trans rfl; have hcz10_3 : w9.cell? ⟨gb130, 3, none⟩ = some (.slice none 0 0) := (zaf BK130.out 3).trans rfl; have hfz10_0 := zah BK130.out 0; have hfz10_1 := zah BK130.out 1; have hfz10_2 := zah BK130.out 2; have hfz10_3 := zah BK130.out 3))
       go_roundg k1
       case measure => have := HK1.out; omega
       case rel => exact ⟨(x5_1), (wrap64 (x10_1 + 1)), (by first | rfl | (simp; done) | (simp [*]; done)), (by first | rfl | (simp; done) | (simp [*]; done)), H', ⟨by have := HK1.out; omega⟩, ⟨by repeat (first | (with_reducible first | exact HB.out | apply zae | apply zab | apply zac | refine zal ?_ GE130.out) | exact HB.out)⟩⟩
     ·rw [if_neg c5] at H
      exact absurd H (by simp)
    ·rw [if_neg c4] at H
     exact absurd H (by simp)
   ·rw [if_neg c3] at H
    have c3b0 : decide (x10_1 < (l0.length : Int)) = false := zbj c3
    clear c3
    obtain rfl := Option.some.inj H
    go_wp2
    go_ret
    exact ⟨by first | rfl | (simp [zbb, zbc] <;> rfl) | (simp [*, zbb, zbc] <;> rfl), by repeat (first | (with_reducible first | exact HB.out | apply zae | apply zab | apply zac) | exact HB.out)⟩
def stringslite_IndexByte.f (a0 : ByteArray) (a1 : Int) : Option (Int) := some (Lib.indexByte a0.data.toList a1.toNat.toUInt8)
set_option maxHeartbeats 8000000 in
set_option maxRecDepth 100000 in
theorem stringslite_IndexByte.calls (a0 : ByteArray) (a1 : Int) (r : Int) (w : World) (h : stringslite_IndexByte.f a0 a1 = some r) :
  Calls Try.prog 149 #[.string a0, .int .u8 a1] w fun e w' => e = .returned (.int .i64 r) ∧ Drawn0 w w' := by
 obtain rfl := Option.some.inj h
 clear h
 go_enter Try.func149, Try.ntmps149
 go_wp2
 rw [run_callFunc_extern Try.func156 (by kernel_rfl) (by kernel_rfl) (by kernel_rfl) (e := Extern.BytealgIndexByte.indexByte) (by kernel_rfl), Lib.run_indexByteString]
 simp only [Result.andThen]
 rw [Oper.upon_value]
 go_wp2
 go_ret
 exact ⟨rfl, Drawn0.refl _⟩
def strings_IndexByte.f (a0 : ByteArray) (a1 : Int) : Option (Int) := (stringslite_IndexByte.f a0 a1).bind fun t177 => (some t177)
set_option maxHeartbeats 8000000 in
set_option maxRecDepth 100000 in
theorem strings_IndexByte.calls (a0 : ByteArray) (a1 : Int) (r : Int) (w : World) (h : strings_IndexByte.f a0 a1 = some r) :
  Calls Try.prog 137 #[.string a0, .int .u8 a1] w fun e w' => e = .returned (.int .i64 r) ∧ Drawn0 w w' := by
 have H : ((stringslite_IndexByte.f a0 a1).bind fun t177 => (some t177)) = some r := h
 clear h
 replace H := zak.mp H
 obtain ⟨t177, A30, H⟩ := H
 try dsimp only at H
 have A3 := Aside0.mk A30
 clear A30
 obtain rfl := Option.some.inj H
 go_enter Try.func137, Try.ntmps137
 go_wp2_with (first | ((with_reducible refine zbv (f := 149) rfl ?_); refine goesL_ (some 7) rfl rfl Try.func149 (by kernel_rfl) rfl #[.string a0, .int .u8 a1] rfl (by (try simp only [zat, zbe, zbh]); first | done | rfl) ?_; (with_reducible refine (stringslite_IndexByte.calls a0 a1 t177 _ A3.out).mono ?_); rintro e w' ⟨rfl, ⟨nd, rfl⟩⟩; refine ⟨_, rfl, ?_⟩))
 go_ret
 exact ⟨by first | rfl | (simp; done) | (simp [*]; done), by repeat (first | exact Drawn0.refl _ | apply Drawn0.step)⟩
end Go.Proofs.Ytlalkldjpniakaa.P
