import Derived.Test.Ytlalkldjpniakaap6
namespace Go.Proofs.Ytlalkldjpniakaa.P
open Go.RowKit Go.Proofs.YtlalkldjpniakaaW.PrintWords Go.Proofs.YtlalkldjpniakaaW.PrintLast Go.Proofs.YtlalkldjpniakaaW.PrintMore
attribute [local go_sem] max2_int min2_int max_two min_two max_three min_three max_four min_four   -- for this text's walks alone
set_option linter.unusedVariables false
set_option linter.unusedSimpArgs false

def laws_markPost.f (l0_0 : List (S34)) (a0_1 : Int) (l0_2 : List Int) (a0_3 : Int) (a1 : Int) : Option (Int) := if l0_0.length = 0 ∧ l0_2.length = 0 then some a1 else none
set_option maxHeartbeats 8000000 in
set_option maxRecDepth 100000 in
theorem laws_markPost.items (A : Option Addr) (c : Nat) (m : Int) (w : World) : Calls Try.prog 40 #[.slice A 0 c, .int .i64 m] w fun e w' => e = .returned (.int .i64 m) ∧ Drawn0 w w' := by
 go_enter Try.func40, Try.ntmps40
 go_wp2
 go_loopg [5, 1] 0 (fun g s5 s1 wr => s5 = .int .i64 0 ∧ s1 = .int .i64 m ∧ Drawn0 w wr)
 case atStart => exact ⟨rfl, rfl, Drawn0.refl _⟩
 case round =>
  obtain ⟨rfl, rfl, ⟨n, rfl⟩⟩ := hrel
  go_wp2
  go_ret
  exact ⟨rfl, by repeat (first | exact Drawn0.refl _ | apply Drawn0.step)⟩
set_option maxHeartbeats 8000000 in
set_option maxRecDepth 100000 in
theorem laws_markPost.bytes (A : Option Addr) (c : Nat) (m : Int) (w : World) : Calls Try.prog 52 #[.slice A 0 c, .int .i64 m] w fun e w' => e = .returned (.int .i64 m) ∧ Drawn0 w w' := by
 go_enter Try.func52, Try.ntmps52
 go_wp2
 go_loopg [5, 1] 0 (fun g s5 s1 wr => s5 = .int .i64 0 ∧ s1 = .int .i64 m ∧ Drawn0 w wr)
 case atStart => exact ⟨rfl, rfl, Drawn0.refl _⟩
 case round =>
  obtain ⟨rfl, rfl, ⟨n, rfl⟩⟩ := hrel
  go_wp2
  go_ret
  exact ⟨rfl, by repeat (first | exact Drawn0.refl _ | apply Drawn0.step)⟩
set_option maxHeartbeats 8000000 in
set_option maxRecDepth 100000 in
theorem laws_markPost.calls (A0_0 : Option Addr) (c0_0 : Nat) (l0_0 : List (S34)) (a0_1 : Int) (A0_2 : Option Addr) (c0_2 : Nat) (l0_2 : List Int) (a0_3 : Int) (a1 : Int) (r : Int) (w : World) (hr0_0 : Kd.C k34 w A0_0 l0_0.length l0_0) (hc0_0 : l0_0.length ≤ c0_0) (hr0_2 : Kd.C (Kd.int .u8) w A0_2 l0_2.length l0_2) (hc0_2 : l0_2.length ≤ c0_2) (h : laws_markPost.f l0_0 a0_1 l0_2 a0_3 a1 = some r) :
  Calls Try.prog 31 #[.agg #[.slice A0_0 l0_0.length c0_0, .int .i64 a0_1, .slice A0_2 l0_2.length c0_2, .int .i64 a0_3], .int .i64 a1] w fun e w' => e = .returned (.int .i64 r) ∧ Below w.heap.size w w' := by
 unfold laws_markPost.f at h
 by_cases q : l0_0.length = 0 ∧ l0_2.length = 0
 ·rw [if_pos q] at h
  obtain rfl := Option.some.inj h
  rw [q.1, q.2]
  clear h hr0_0 hr0_2 hc0_0 hc0_2 q
  have HB := Aside0.mk (Below.refl w.heap.size w)
  go_enter Try.func31, Try.ntmps31
  go_wp2_with (first | ((with_reducible refine zbd (f := 40) rfl ?_); refine goesL_ (some 8) rfl rfl Try.func40 (by kernel_rfl) rfl #[.slice A0_0 0 c0_0, .int .i64 a1] rfl (by (try simp only [zat, zay, zbb]); first | done | rfl) ?_; (with_reducible refine (laws_markPost.items A0_0 c0_0 a1 _).mono ?_); rintro e w' ⟨rfl, ⟨nd, rfl⟩⟩; refine ⟨_, rfl, ?_⟩) | ((with_reducible refine zbd (f := 52) rfl ?_); refine goesL_ (some 12) rfl rfl Try.func52 (by kernel_rfl) rfl #[.slice A0_2 0 c0_2, .int .i64 a1] rfl (by (try simp only [zat, zay, zbb]); first | done | rfl) ?_; (with_reducible refine (laws_markPost.bytes A0_2 c0_2 a1 _).mono ?_); rintro e w' ⟨rfl, ⟨nd, rfl⟩⟩; refine ⟨_, rfl, ?_⟩))
  go_ret
  exact ⟨rfl, by repeat (first | (with_reducible first | exact HB.out | apply zah | apply zab | apply zag) | exact HB.out)⟩
 ·rw [if_neg q] at h; cases h
def laws_heldPost.f (l0_0 : List (S34)) (a0_1 : Int) (l0_2 : List Int) (a0_3 : Int) (a1 : Int) : Option (Int) := if l0_0.length = 0 ∧ l0_2.length = 0 ∧ 0 ≤ a1 then some a1 else none
set_option maxHeartbeats 8000000 in
set_option maxRecDepth 100000 in
theorem laws_heldPost.items (A : Option Addr) (c : Nat) (m : Int) (w : World) : Calls Try.prog 41 #[.slice A 0 c, .int .i64 m] w fun e w' => e = .returned (.int .i64 m) ∧ Drawn0 w w' := by
 go_enter Try.func41, Try.ntmps41
 go_wp2
 go_loopg [5, 1] 0 (fun g s5 s1 wr => s5 = .int .i64 0 ∧ s1 = .int .i64 m ∧ Drawn0 w wr)
 case atStart => exact ⟨rfl, rfl, Drawn0.refl _⟩
 case round =>
  obtain ⟨rfl, rfl, ⟨n, rfl⟩⟩ := hrel
  go_wp2
  go_ret
  exact ⟨rfl, by repeat (first | exact Drawn0.refl _ | apply Drawn0.step)⟩
set_option maxHeartbeats 8000000 in
set_option maxRecDepth 100000 in
theorem laws_heldPost.bytes (A : Option Addr) (c : Nat) (m : Int) (w : World) : Calls Try.prog 53 #[.slice A 0 c, .int .i64 m] w fun e w' => e = .returned (.int .i64 m) ∧ Drawn0 w w' := by
 go_enter Try.func53, Try.ntmps53
 go_wp2
 go_loopg [5, 1] 0 (fun g s5 s1 wr => s5 = .int .i64 0 ∧ s1 = .int .i64 m ∧ Drawn0 w wr)
 case atStart => exact ⟨rfl, rfl, Drawn0.refl _⟩
 case round =>
  obtain ⟨rfl, rfl, ⟨n, rfl⟩⟩ := hrel
  go_wp2
  go_ret
  exact ⟨rfl, by repeat (first | exact Drawn0.refl _ | apply Drawn0.step)⟩
set_option maxHeartbeats 8000000 in
set_option maxRecDepth 100000 in
theorem laws_heldPost.calls (A0_0 : Option Addr) (c0_0 : Nat) (l0_0 : List (S34)) (a0_1 : Int) (A0_2 : Option Addr) (c0_2 : Nat) (l0_2 : List Int) (a0_3 : Int) (a1 : Int) (r : Int) (w : World) (hr0_0 : Kd.C k34 w A0_0 l0_0.length l0_0) (hc0_0 : l0_0.length ≤ c0_0) (hr0_2 : Kd.C (Kd.int .u8) w A0_2 l0_2.length l0_2) (hc0_2 : l0_2.length ≤ c0_2) (h : laws_heldPost.f l0_0 a0_1 l0_2 a0_3 a1 = some r) :
  Calls Try.prog 32 #[.agg #[.slice A0_0 l0_0.length c0_0, .int .i64 a0_1, .slice A0_2 l0_2.length c0_2, .int .i64 a0_3], .int .i64 a1] w fun e w' => e = .returned (.int .i64 r) ∧ Below w.heap.size w w' := by
 unfold laws_heldPost.f at h
 by_cases q : l0_0.length = 0 ∧ l0_2.length = 0 ∧ 0 ≤ a1
 ·rw [if_pos q] at h
  obtain rfl := Option.some.inj h
  rw [q.1, q.2.1]
  have hneg : ¬ (a1 < 0) := by omega
  clear h hr0_0 hr0_2 hc0_0 hc0_2 q
  have HB := Aside0.mk (Below.refl w.heap.size w)
  go_enter Try.func32, Try.ntmps32
  go_wp2_with (first | ((with_reducible refine zbd (f := 41) rfl ?_); refine goesL_ (some 8) rfl rfl Try.func41 (by kernel_rfl) rfl #[.slice A0_0 0 c0_0, .int .i64 a1] rfl (by (try simp only [zat, zay, zbb]); first | done | rfl) ?_; (with_reducible refine (laws_heldPost.items A0_0 c0_0 a1 _).mono ?_); rintro e w' ⟨rfl, ⟨nd, rfl⟩⟩; refine ⟨_, rfl, ?_⟩) | ((with_reducible refine zbd (f := 53) rfl ?_); refine goesL_ (some 14) rfl rfl Try.func53 (by kernel_rfl) rfl #[.slice A0_2 0 c0_2, .int .i64 a1] rfl (by (try simp only [zat, zay, zbb]); first | done | rfl) ?_; (with_reducible refine (laws_heldPost.bytes A0_2 c0_2 a1 _).mono ?_); rintro e w' ⟨rfl, ⟨nd, rfl⟩⟩; refine ⟨_, rfl, ?_⟩))
  go_ret
  exact ⟨rfl, by repeat (first | (with_reducible first | exact HB.out | apply zah | apply zab | apply zag) | exact HB.out)⟩
 ·rw [if_neg q] at h; cases h
end Go.Proofs.Ytlalkldjpniakaa.P
