import Derived.Test.Ytdineaebljpfaaal5
namespace Go.Proofs.Ytdineaebljpfaaa.P
open Go.RowKit Go.Proofs.YtdineaebljpfaaaW.PrintWords Go.Proofs.YtdineaebljpfaaaW.PrintLast Go.Proofs.YtdineaebljpfaaaW.PrintMore
attribute [local go_sem] max2_int min2_int max_two min_two zeq zer max_four min_four   -- for this text's walks alone
set_option linter.unusedVariables false
set_option linter.unusedSimpArgs false

def impl_in.f (a0 : Int) (a1 : Int) (a2 : Int) : Option (Bool) := if a0 ≥ a1 then (some (decide (a0 ≤ a2))) else (some false)
set_option maxHeartbeats 8000000 in
set_option maxRecDepth 100000 in
theorem impl_in.calls (a0 : Int) (a1 : Int) (a2 : Int) (r : Bool) (w : World) (h : impl_in.f a0 a1 a2 = some r) :
  Calls Try.prog 46 #[.int .i64 a0, .int .i64 a1, .int .i64 a2] w fun e w' => e = .returned (.bool r) ∧ Drawn0 w w' := by
 have H : (if a0 ≥ a1 then (some (decide (a0 ≤ a2))) else (some false)) = some r := h
 clear h
 by_cases c4 : a0 ≥ a1
 ·rw [if_pos c4] at H
  have c4b0 : decide (a1 ≤ a0) = true := zbo c4
  clear c4
  obtain rfl := Option.some.inj H
  go_enter Try.func46, Try.ntmps46
  go_wp2
  go_ret
  exact ⟨by first | rfl | (simp; done) | (simp [*]; done), by repeat (first | exact Drawn0.refl _ | apply Drawn0.step)⟩
 ·rw [if_neg c4] at H
  have c4b0 : decide (a1 ≤ a0) = false := zcv c4
  clear c4
  obtain rfl := Option.some.inj H
  go_enter Try.func46, Try.ntmps46
  go_wp2
  go_ret
  exact ⟨by first | rfl | (simp; done) | (simp [*]; done), by repeat (first | exact Drawn0.refl _ | apply Drawn0.step)⟩
def impl_LetterOk.f (a0_0 : Int) (l0_1 : List Int) (l0_2 : List Int) : Option (Bool) := (impl_in.f a0_0 0 65535).bind fun t128 => (if t128 = true then (if (l0_1.length : Int) = 32 then ((impl_in.f (l0_2.length : Int) 16 1516).bind fun t129 => (some t129)) else (some false)) else (some false))
set_option maxHeartbeats 8000000 in
set_option maxRecDepth 100000 in
theorem impl_LetterOk.calls (a0_0 : Int) (A0_1 : Option Addr) (c0_1 : Nat) (l0_1 : List Int) (A0_2 : Option Addr) (c0_2 : Nat) (l0_2 : List Int) (r : Bool) (w : World) (hr0_1 : Kd.C (Kd.int .u8) w A0_1 l0_1.length l0_1) (hc0_1 : l0_1.length ≤ c0_1) (hr0_2 : Kd.C (Kd.int .u8) w A0_2 l0_2.length l0_2) (hc0_2 : l0_2.length ≤ c0_2) (h : impl_LetterOk.f a0_0 l0_1 l0_2 = some r) :
  Calls Try.prog 36 #[.agg #[.int .i64 a0_0, .slice A0_1 l0_1.length c0_1, .slice A0_2 l0_2.length c0_2]] w fun e w' => e = .returned (.bool r) ∧ Below w.heap.size w w' := by
 have hu24 := Try.underlying24
 have HR0_1 := Aside0.mk hr0_1
 have HC0_1 := Aside0.mk hc0_1
 clear hr0_1 hc0_1
 have HR0_2 := Aside0.mk hr0_2
 have HC0_2 := Aside0.mk hc0_2
 clear hr0_2 hc0_2
 have HB := Aside0.mk (zcq w.heap.size w)
 have H : ((impl_in.f a0_0 0 65535).bind fun t128 => (if t128 = true then (if (l0_1.length : Int) = 32 then ((impl_in.f (l0_2.length : Int) 16 1516).bind fun t129 => (some t129)) else (some false)) else (some false))) = some r := h
 clear h
 replace H := zbm.mp H
 obtain ⟨t128, A20, H⟩ := H
 try dsimp only at H
 have A2 := Aside0.mk A20
 clear A20
 by_cases c3 : t128 = true
 ·subst c3
  have H1 : (if (l0_1.length : Int) = 32 then ((impl_in.f (l0_2.length : Int) 16 1516).bind fun t129 => (some t129)) else (some false)) = some r := by rw [if_pos rfl] at H; exact H
  clear H
  have H := H1
  clear H1
  by_cases c4 : (l0_1.length : Int) = 32
  ·rw [if_pos c4] at H
   have c4b0 : ((l0_1.length : Int) == 32) = true := beq_iff_eq.mpr c4
   have c4b1 : ((l0_1.length : Int) != 32) = false := zed.mpr c4
   clear c4
   replace H := zbm.mp H
   obtain ⟨t129, A50, H⟩ := H
   try dsimp only at H
   have A5 := Aside0.mk A50
   clear A50
   obtain rfl := Option.some.inj H
   go_enter Try.func36, Try.ntmps36
   go_wp2_with (first | ((with_reducible refine zef (N := 1) rfl ?_); (try (refine gate_guard (by rfl) ?_; dsimp only)); refine zdw ?hg (N := 1) ?hd (cs := #[.int .i64 a0_0, .slice A0_1 l0_1.length c0_1, .slice A0_2 l0_2.length c0_2]) (t := 24) ?hr ?_; (case hd => rfl); (case hg => rfl); (case hr => first | (go_simp; done) | (go_simp; rfl)); intro gb127 hg w6 hbox hb; have xb_ := below_ofs (by repeat (first | (with_reducible first | exact HB.out | apply zah | apply zab | apply zaf) | exact HB.out)) hb; have n0_ := Aside0.mk (zbh xb_ hb); have n1_ := Aside0.mk (hbox); have n2_ := Aside0.mk ((by rw [hg]; exact (zat xb_) : w.heap.size ≤ gb127)); have n3_ := Aside0.mk ((by rw [hg]; exact (zat xb_) : w.heap.size ≤ gb127)); clear HB; have HB := n0_; have BK127 := n1_; have GW127 := n2_; have GE127 := n3_; clear n0_ n1_ n2_ n3_; clear xb_ hb hbox hg; have hcz7_0 : w6.cell? ⟨gb127, 0, none⟩ = some (.int .i64 a0_0) := (zbc BK127.out 0).trans rfl; have hcz7_1 : w6.cell? ⟨gb127, 1, none⟩ = some (.slice A0_1 l0_1.length c0_1) := (zbc BK127.out 1).trans rfl; have hcz7_2 : w6.cell? ⟨gb127, 2, none⟩ = some (.slice A0_2 l0_2.length c0_2) := (zbc BK127.out 2).trans rfl; have hfz7_0 := zau BK127.out 0; have hfz7_1 := zau BK127.out 1; have hfz7_2 := zau BK127.out 2) | ((with_reducible refine zcl (f := 46) rfl ?_); refine goesL_ (some 5) rfl rfl Try.func46 (by kernel_rfl) rfl #[.int .i64 a0_0, .int .i64 0, .int .i64 65535] rfl (by (try simp only [zbg, zbs, zbt]); first | done | rfl) ?_; (with_reducible refine (impl_in.calls a0_0 0 65535 true _ A2.out).mono ?_); rintro e w' ⟨rfl, ⟨nd, rfl⟩⟩; refine ⟨_, rfl, ?_⟩) | (go_at_call 46; (with_reducible refine (impl_in.calls (l0_2.length : Int) 16 1516 t129 _ A5.out).mono ?_); rintro e w' ⟨rfl, ⟨nd, rfl⟩⟩))
   go_ret
   exact ⟨by first | rfl | (simp [zcd, zce] <;> rfl) | (simp [*, zcd, zce] <;> rfl), by repeat (first | (with_reducible first | exact HB.out | apply zah | apply zab | apply zaf | refine zag ?_ GE127.out) | exact HB.out)⟩
  ·rw [if_neg c4] at H
   have c4b0 : ((l0_1.length : Int) == 32) = false := zdr.mpr c4
   have c4b1 : ((l0_1.length : Int) != 32) = true := bne_iff_ne.mpr c4
   obtain rfl := Option.some.inj H
   go_enter Try.func36, Try.ntmps36
   go_wp2_with (first | ((with_reducible refine zef (N := 1) rfl ?_); (try (refine gate_guard (by rfl) ?_; dsimp only)); refine zdw ?hg (N := 1) ?hd (cs := #[.int .i64 a0_0, .slice A0_1 l0_1.length c0_1, .slice A0_2 l0_2.length c0_2]) (t := 24) ?hr ?_; (case hd => rfl); (case hg => rfl); (case hr => first | (go_simp; done) | (go_simp; rfl)); intro gb127 hg w8 hbox hb; have xb_ := below_ofs (by repeat (first | (with_reducible first | exact HB.out | apply zah | apply zab | apply zaf) | exact HB.out)) hb; have n0_ := Aside0.mk (zbh xb_ hb); have n1_ := Aside0.mk (hbox); have n2_ := Aside0.mk ((by rw [hg]; exact (zat xb_) : w.heap.size ≤ gb127)); have n3_ := Aside0.mk ((by rw [hg]; exact (zat xb_) : w.heap.size ≤ gb127)); clear HB; have HB := n0_; have BK127 := n1_; have GW127 := n2_; have GE127 := n3_; clear n0_ n1_ n2_ n3_; clear xb_ hb hbox hg; have hcz9_0 : w8.cell? ⟨gb127, 0, none⟩ = some (.int .i64 a0_0) := (zbc BK127.out 0).trans rfl; have hcz9_1 : w8.cell? ⟨gb127, 1, none⟩ = some (.slice A0_1 l0_1.length c0_1) := (zbc BK127.out 1).trans rfl; have hcz9_2 : w8.cell? ⟨gb127, 2, none⟩ = some (.slice A0_2 l0_2.length c0_2) := (zbc BK127.out 2).trans rfl; have hfz9_0 := zau BK127.out 0; have hfz9_1 := zau BK127.out 1; have hfz9_2 := zau BK127.out 2) | ((with_reducible refine zcl (f := 46) rfl ?_); refine goesL_ (some 5) rfl rfl Try.func46 (by kernel_rfl) rfl #[.int .i64 a0_0, .int .i64 0, .int .i64 65535] rfl (by (try simp only [zbg, zbs, zbt]); first | done | rfl) ?_; (with_reducible refine (impl_in.calls a0_0 0 65535 true _ A2.out).mono ?_); rintro e w' ⟨rfl, ⟨nd, rfl⟩⟩; refine ⟨_, rfl, ?_⟩))
   go_ret
   exact ⟨by first | rfl | (simp [zcd, zce] <;> rfl) | (simp [*, zcd, zce] <;> rfl), by repeat (first | (with_reducible first | exact HB.out | apply zah | apply zab | apply zaf | refine zag ?_ GE127.out) | exact HB.out)⟩
 ·replace c3 := zdk.mpr c3
  subst c3
  have H1 : (some false) = some r := by rw [if_neg (show ¬ (false = true) by decide)] at H; exact H
  clear H
  have H := H1
  clear H1
  obtain rfl := Option.some.inj H
  go_enter Try.func36, Try.ntmps36
  go_wp2_with (first | ((with_reducible refine zef (N := 1) rfl ?_); (try (refine gate_guard (by rfl) ?_; dsimp only)); refine zdw ?hg (N := 1) ?hd (cs := #[.int .i64 a0_0, .slice A0_1 l0_1.length c0_1, .slice A0_2 l0_2.length c0_2]) (t := 24) ?hr ?_; (case hd => rfl); (case hg => rfl); (case hr => first | (go_simp; done) | (go_simp; rfl)); intro gb127 hg w10 hbox hb; have xb_ := below_ofs (by repeat (first | (with_reducible first | exact HB.out | apply zah | apply zab | apply zaf) | exact HB.out)) hb; have n0_ := Aside0.mk (zbh xb_ hb); have n1_ := Aside0.mk (hbox); have n2_ := Aside0.mk ((by rw [hg]; exact (zat xb_) : w.heap.size ≤ gb127)); have n3_ := Aside0.mk ((by rw [hg]; exact (zat xb_) : w.heap.size ≤ gb127)); clear HB; have HB := n0_; have BK127 := n1_; have GW127 := n2_; have GE127 := n3_; clear n0_ n1_ n2_ n3_; clear xb_ hb hbox hg; have hcz11_0 : w10.cell? ⟨gb127, 0, none⟩ = some (.int .i64 a0_0) := (zbc BK127.out 0).trans rfl; have hcz11_1 : w10.cell? ⟨gb127, 1, none⟩ = some (.slice A0_1 l0_1.length c0_1) := (zbc BK127.out 1).trans rfl; have hcz11_2 : w10.cell? ⟨gb127, 2, none⟩ = some (.slice A0_2 l0_2.length c0_2) := (zbc BK127.out 2).trans rfl; have hfz11_0 := zau BK127.out 0; have hfz11_1 := zau BK127.out 1; have hfz11_2 := zau BK127.out 2) | ((with_reducible refine zcl (f := 46) rfl ?_); refine goesL_ (some 5) rfl rfl Try.func46 (by kernel_rfl) rfl #[.int .i64 a0_0, .int .i64 0, .int .i64 65535] rfl (by (try simp only [zbg, zbs, zbt]); first | done | rfl) ?_; (with_reducible refine (impl_in.calls a0_0 0 65535 false _ A2.out).mono ?_); rintro e w' ⟨rfl, ⟨nd, rfl⟩⟩; refine ⟨_, rfl, ?_⟩))
  go_ret
  exact ⟨by first | rfl | (simp [zcd, zce] <;> rfl) | (simp [*, zcd, zce] <;> rfl), by repeat (first | (with_reducible first | exact HB.out | apply zah | apply zab | apply zaf | refine zag ?_ GE127.out) | exact HB.out)⟩
end Go.Proofs.Ytdineaebljpfaaa.P
