import Derived.Test.Ytlalkldjpniakaata26
import Derived.Test.Ytlalkldjpniakaata30
import Derived.Test.Ytlalkldjpniakaata32
/- Unhex, by the program and by the reference; for texts of at most 2^40 bytes. -/
namespace Go.Proofs.Ytlalkldjpniakaa.B
open Go.RowKit Go.Proofs.Ytlalkldjpniakaa.P Go.Proofs.YtlalkldjpniakaaW.PrintWords Go.Proofs.YtlalkldjpniakaaW.PrintLast Go.Proofs.YtlalkldjpniakaaW.PrintMore
def sgn (c : Int) : Int := if 48 ≤ c ∧ c ≤ 57 then c - 48 else if 97 ≤ c ∧ c ≤ 102 then c - 87 else -1
theorem sgn_range (c : Int) : -1 ≤ sgn c ∧ sgn c < 16 := by
  unfold sgn
  split
  · omega
  · split <;> omega
theorem bt_rng (s : ByteArray) (i : Int) : 0 ≤ bt s i ∧ bt s i < 256 := by
  unfold bt; split
  · have := (s[i.toNat]'(by assumption)).toNat_lt; omega
  · omega
theorem specSign (c : Int) (h0 : 0 ≤ c) (h1 : c < 256) (k : Nat) : spec_l1Sign.f (k + 1) c = some (sgn c) := by
  have e0 : wrap64 c = c := wrap_eq _ (by omega) (by omega)
  unfold spec_l1Sign.f sgn
  simp only [spec_l1Sign.j0, e0, decide_eq_true_eq]
  repeat' split
  all_goals first | rfl | contradiction | (exfalso; omega) | (rw [wrap_eq _ (by omega) (by omega)])
theorem implSign256 : ∀ n : Fin 256, Lib.indexByte [48, 49, 50, 51, 52, 53, 54, 55, 56, 57, 97, 98, 99, 100, 101, 102] n.val.toUInt8 = sgn (n.val : Int) := by
  decide +kernel
theorem implSign (c : Int) (h0 : 0 ≤ c) (h1 : c < 256) : strings_IndexByte.f (⟨#[48, 49, 50, 51, 52, 53, 54, 55, 56, 57, 97, 98, 99, 100, 101, 102]⟩ : ByteArray) c = some (sgn c) := by
  have h := implSign256 ⟨c.toNat, by omega⟩
  simp only [strings_IndexByte.f, stringslite_IndexByte.f, Option.bind_some]
  rw [show ((c.toNat : Nat) : Int) = c from by omega] at h
  exact congrArg some h
theorem two16 : ∀ a b : Fin 16, (wrap64 ((wrap64 (16 * (a.val : Int))) + (b.val : Int))) % 256 = (Go.bits .or .i64 (wrap64 ((a.val : Int) * 16)) (b.val : Int)) % 256 := by
  decide +kernel
theorem two (a b : Int) (ha : 0 ≤ a ∧ a < 16) (hb : 0 ≤ b ∧ b < 16) : (Go.bits .or .i64 (wrap64 (a * 16)) b) % 256 = (wrap64 ((wrap64 (16 * a)) + b)) % 256 := by
  have h := two16 ⟨a.toNat, by omega⟩ ⟨b.toNat, by omega⟩
  simp only [] at h
  rw [show ((a.toNat : Nat) : Int) = a from by omega, show ((b.toNat : Nat) : Int) = b from by omega] at h
  exact h.symm
theorem unhex_l0 (s : ByteArray) (hs : s.size ≤ 1099511627776) : ∀ (n i : Nat) (acc : List Int), s.size - i ≤ n → i ≤ s.size → i % 2 = 0 → acc.length + (s.size - i) ≤ 4398046511104 →
    ∃ r : List Int × Bool, r.1.length ≤ acc.length + (s.size - i) ∧ (s.size % 2 = 1 → r = ([], false)) ∧ (∀ k, n + 2 < k → spec_Unhex.l0 k s acc (i : Int) = some r) ∧ (∀ k, n + 2 < k → s.size % 2 = 0 → impl_Unhex.l0 k s acc (i : Int) = some r) ∧ (r.2 = true → 2 * r.1.length = 2 * acc.length + (s.size - i))
  | 0, i, acc, hn, hi, h2, hc => by
    have he : i = s.size := by omega
    subst he
    refine ⟨(acc, true), by simp, fun h => by omega, fun k hk => ?_, fun k hk _ => ?_, fun _ => by simp⟩
    · obtain ⟨k, rfl⟩ : ∃ m, k = m + 1 := ⟨k - 1, by omega⟩
      simp only [spec_Unhex.l0]; rw [wrap_eq _ (by omega) (by omega), if_neg (by omega), if_pos (by omega)]
    · obtain ⟨k, rfl⟩ : ∃ m, k = m + 1 := ⟨k - 1, by omega⟩
      simp only [impl_Unhex.l0]; rw [if_neg (by omega)]
  | n + 1, i, acc, hn, hi, h2, hc => by
    by_cases hd : i + 1 < s.size
    · have e1 : wrap64 ((i : Int) + 1) = i + 1 := wrap_eq _ (by omega) (by omega)
      have e2 : wrap64 ((i : Int) + 2) = ((i + 2 : Nat) : Int) := by rw [wrap_eq _ (by omega) (by omega)]; rfl
      obtain ⟨a0, a1⟩ := bt_rng s i
      obtain ⟨b0, b1⟩ := bt_rng s ((i : Int) + 1)
      obtain ⟨sa0, sa1⟩ := sgn_range (bt s i)
      obtain ⟨sb0, sb1⟩ := sgn_range (bt s ((i : Int) + 1))
      by_cases bad : sgn (bt s i) < 0 ∨ sgn (bt s ((i : Int) + 1)) < 0
      · refine ⟨([], false), by simp, fun _ => rfl, fun k hk => ?_, fun k hk _ => ?_, fun h => by cases h⟩
        · obtain ⟨k, rfl⟩ : ∃ m, k = m + 2 := ⟨k - 2, by omega⟩
          simp only [spec_Unhex.l0, e1, specSign _ a0 a1, specSign _ b0 b1, Option.bind_some]
          rw [if_pos (by omega), if_pos (by omega), if_pos (by omega), if_pos (by omega)]
          by_cases hx : sgn (bt s i) < 0
          · rw [if_pos hx]
          · rw [if_neg hx, if_pos (by omega)]
        · obtain ⟨k, rfl⟩ : ∃ m, k = m + 1 := ⟨k - 1, by omega⟩
          simp only [impl_Unhex.l0, e1, implSign _ a0 a1, implSign _ b0 b1, Option.bind_some]
          rw [if_pos (by omega), if_pos (by omega), if_pos (by omega), if_pos (by omega)]
          by_cases hx : sgn (bt s i) < 0
          · rw [if_pos hx]
          · rw [if_neg hx, if_pos (by omega)]
      · obtain ⟨r, hr0, hr1, hr2, hr3, hr4⟩ := unhex_l0 s hs n (i + 2) (acc ++ [(wrap64 ((wrap64 (16 * sgn (bt s i))) + sgn (bt s ((i : Int) + 1)))) % 256]) (by omega) (by omega) (by omega) (by simp; omega)
        refine ⟨r, by simp at hr0; omega, hr1, fun k hk => ?_, fun k hk h => ?_, fun h => by have h4 := hr4 h; rw [List.length_append, List.length_singleton] at h4; omega⟩
        · obtain ⟨k, rfl⟩ : ∃ m, k = m + 2 := ⟨k - 2, by omega⟩
          simp only [spec_Unhex.l0.eq_2, e1, e2, specSign _ a0 a1, specSign _ b0 b1, Option.bind_some]
          rw [if_pos (by omega), if_pos (by omega), if_pos (by omega), if_pos (by omega), if_neg (by omega), if_neg (by omega), if_pos (by omega)]
          exact hr2 (k + 1) (by omega)
        · obtain ⟨k, rfl⟩ : ∃ m, k = m + 1 := ⟨k - 1, by omega⟩
          simp only [impl_Unhex.l0, e1, e2, implSign _ a0 a1, implSign _ b0 b1, Option.bind_some]
          rw [if_pos (by omega), if_pos (by omega), if_pos (by omega), if_pos (by omega), if_neg (by omega), if_neg (by omega), if_pos (by omega), two _ _ (by omega) (by omega)]
          exact hr3 k (by omega) h
    · by_cases ho : i = s.size
      · subst ho
        refine ⟨(acc, true), by simp, fun h => by omega, fun k hk => ?_, fun k hk _ => ?_, fun _ => by simp⟩
        · obtain ⟨k, rfl⟩ : ∃ m, k = m + 1 := ⟨k - 1, by omega⟩
          simp only [spec_Unhex.l0]; rw [wrap_eq _ (by omega) (by omega), if_neg (by omega), if_pos (by omega)]
        · obtain ⟨k, rfl⟩ : ∃ m, k = m + 1 := ⟨k - 1, by omega⟩
          simp only [impl_Unhex.l0]; rw [if_neg (by omega)]
      · refine ⟨([], false), by simp, fun _ => rfl, fun k hk => ?_, fun k hk h => by omega, fun h => by cases h⟩
        obtain ⟨k, rfl⟩ : ∃ m, k = m + 1 := ⟨k - 1, by omega⟩
        simp only [spec_Unhex.l0]; rw [wrap_eq _ (by omega) (by omega), if_neg (by omega), if_neg (by omega)]
theorem unhex (s : ByteArray) (hs : s.size ≤ 1099511627776) : ∃ r : List Int × Bool, r.1.length ≤ s.size ∧ (r.2 = true → 2 * r.1.length = s.size) ∧ ∀ k, s.size + 3 < k → spec_Unhex.f k s = some r ∧ impl_Unhex.f k s = some r := by
  obtain ⟨r, h0, h1, h2, h3, h4⟩ := unhex_l0 s hs s.size 0 [] (by omega) (by omega) rfl (by simp; omega)
  refine ⟨r, by simpa using h0, fun h => by simpa using h4 h, fun k hk => ⟨h2 k (by omega), ?_⟩⟩
  unfold impl_Unhex.f
  by_cases he : s.size % 2 = 0
  · rw [if_pos (by omega)]; exact h3 k (by omega) he
  · rw [if_neg (by omega), h1 (by omega)]
end Go.Proofs.Ytlalkldjpniakaa.B
namespace Go.Proofs.Ytlalkldjpniakaa.P
open Go.RowKit Go.Proofs.YtlalkldjpniakaaW.PrintWords Go.Proofs.YtlalkldjpniakaaW.PrintLast Go.Proofs.YtlalkldjpniakaaW.PrintMore
attribute [local go_sem] zdi zdj zea zeb zcy zcz zdk zdl   -- for this text's walks alone
set_option linter.unusedVariables false
set_option linter.unusedSimpArgs false

def spec_l1In.f (a0 : Int) (a1 : Int) (a2 : Int) : Option (Bool) := if a0 ≥ a1 then (some (decide (a0 ≤ a2))) else (some false)
set_option maxHeartbeats 8000000 in
set_option maxRecDepth 100000 in
theorem spec_l1In.calls (a0 : Int) (a1 : Int) (a2 : Int) (r : Bool) (w : World) (h : spec_l1In.f a0 a1 a2 = some r) :
  Calls Try.prog 89 #[.int .i64 a0, .int .i64 a1, .int .i64 a2] w fun e w' => e = .returned (.bool r) ∧ Drawn0 w w' := by
 have H : (if a0 ≥ a1 then (some (decide (a0 ≤ a2))) else (some false)) = some r := h
 clear h
 by_cases c4 : a0 ≥ a1
 ·rw [if_pos c4] at H
  have c4b0 : decide (a1 ≤ a0) = true := zas c4
  clear c4
  obtain rfl := Option.some.inj H
  go_enter Try.func89, Try.ntmps89
  go_wp2
  go_ret
  exact ⟨by first | rfl | (simp; done) | (simp [*]; done), by repeat (first | exact Drawn0.refl _ | apply Drawn0.step)⟩
 ·rw [if_neg c4] at H
  have c4b0 : decide (a1 ≤ a0) = false := zbh c4
  clear c4
  obtain rfl := Option.some.inj H
  go_enter Try.func89, Try.ntmps89
  go_wp2
  go_ret
  exact ⟨by first | rfl | (simp; done) | (simp [*]; done), by repeat (first | exact Drawn0.refl _ | apply Drawn0.step)⟩
def impl_in.f (a0 : Int) (a1 : Int) (a2 : Int) : Option (Bool) := if a0 ≥ a1 then (some (decide (a0 ≤ a2))) else (some false)
set_option maxHeartbeats 8000000 in
set_option maxRecDepth 100000 in
theorem impl_in.calls (a0 : Int) (a1 : Int) (a2 : Int) (r : Bool) (w : World) (h : impl_in.f a0 a1 a2 = some r) :
  Calls Try.prog 91 #[.int .i64 a0, .int .i64 a1, .int .i64 a2] w fun e w' => e = .returned (.bool r) ∧ Drawn0 w w' := by
 have H : (if a0 ≥ a1 then (some (decide (a0 ≤ a2))) else (some false)) = some r := h
 clear h
 by_cases c4 : a0 ≥ a1
 ·rw [if_pos c4] at H
  have c4b0 : decide (a1 ≤ a0) = true := zas c4
  clear c4
  obtain rfl := Option.some.inj H
  go_enter Try.func91, Try.ntmps91
  go_wp2
  go_ret
  exact ⟨by first | rfl | (simp; done) | (simp [*]; done), by repeat (first | exact Drawn0.refl _ | apply Drawn0.step)⟩
 ·rw [if_neg c4] at H
  have c4b0 : decide (a1 ≤ a0) = false := zbh c4
  clear c4
  obtain rfl := Option.some.inj H
  go_enter Try.func91, Try.ntmps91
  go_wp2
  go_ret
  exact ⟨by first | rfl | (simp; done) | (simp [*]; done), by repeat (first | exact Drawn0.refl _ | apply Drawn0.step)⟩
end Go.Proofs.Ytlalkldjpniakaa.P
/- 'from lo to hi', by the program and by the reference; for every three numbers. -/
namespace Go.Proofs.Ytlalkldjpniakaa.B
open Go.RowKit Go.Proofs.Ytlalkldjpniakaa.P Go.Proofs.YtlalkldjpniakaaW.PrintWords Go.Proofs.YtlalkldjpniakaaW.PrintLast Go.Proofs.YtlalkldjpniakaaW.PrintMore
theorem specIn (a b c : Int) : spec_l1In.f a b c = some (decide (b ≤ a ∧ a ≤ c)) := by
  unfold spec_l1In.f
  by_cases h : a ≥ b
  · rw [if_pos h]; simp [show b ≤ a from h]
  · rw [if_neg h]; simp [show ¬ b ≤ a from h]
theorem implIn (a b c : Int) : impl_in.f a b c = some (decide (b ≤ a ∧ a ≤ c)) := specIn a b c
end Go.Proofs.Ytlalkldjpniakaa.B
namespace Go.Proofs.Ytlalkldjpniakaa.P
open Go.RowKit Go.Proofs.YtlalkldjpniakaaW.PrintWords Go.Proofs.YtlalkldjpniakaaW.PrintLast Go.Proofs.YtlalkldjpniakaaW.PrintMore
attribute [local go_sem] zdi zdj zea zeb zcy zcz zdk zdl   -- for this text's walks alone
set_option linter.unusedVariables false
set_option linter.unusedSimpArgs false

def spec_l13Route.f (k : Nat) (a0 : ByteArray) : Option (Bool) := (spec_Unhex.f k a0).bind fun bt169 => (if bt169.2 = true then (some ((bt169.1.length : Int) == 8)) else (some false))
theorem spec_l13Route.mono : ∀ a0 k, LeO (spec_l13Route.f k a0) (spec_l13Route.f (k + 1) a0) := by
 intro a0 k
 unfold spec_l13Route.f
 repeat' first
   | (with_reducible exact spec_Unhex.mono _ _)
   | (with_reducible exact zcl _)
   | (with_reducible exact zda _)
   | (with_reducible refine zdn ?_ ?_)
   | (with_reducible refine zcm ?_ (fun _ => ?_))
set_option maxHeartbeats 8000000 in
set_option maxRecDepth 100000 in
theorem spec_l13Route.calls (k : Nat) (a0 : ByteArray) (r : Bool) (w : World) (h : spec_l13Route.f k a0 = some r) :
  Calls Try.prog 88 #[.string a0] w fun e w' => e = .returned (.bool r) ∧ Below w.heap.size w w' := by
 have HB := Aside0.mk (zbt w.heap.size w)
 have H : ((spec_Unhex.f k a0).bind fun bt169 => (if bt169.2 = true then (some ((bt169.1.length : Int) == 8)) else (some false))) = some r := h
 clear h
 replace H := zak.mp H
 obtain ⟨⟨t169, t170⟩, A20, H⟩ := H
 try dsimp only at H
 have A2 := Aside0.mk A20
 clear A20
 by_cases c3 : t170 = true
 ·subst c3
  have H1 : (some ((t169.length : Int) == 8)) = some r := by rw [if_pos rfl] at H; exact H
  clear H
  have H := H1
  clear H1
  obtain rfl := Option.some.inj H
  go_enter Try.func88, Try.ntmps88
  go_wp2_with (first | ((with_reducible refine zbs (f := 106) rfl ?_); refine goesL_ (some 7) rfl rfl Try.func106 (by kernel_rfl) rfl #[.string a0] rfl (by (try simp only [zax, zbe, zbg]); first | done | rfl) ?_; (with_reducible refine (spec_Unhex.calls k a0 t169 true _ A2.out).mono ?_); rintro e w4 ⟨v171, rfl, ho0, hb⟩; refine ⟨_, rfl, ?_⟩; have xb_ := below_ofs (by repeat (first | (with_reducible first | exact HB.out | apply zad | apply zab | apply zac) | exact HB.out)) hb; have n0_ := Aside0.mk (zby ho0 (zam xb_)); have n1_ := Aside0.mk (zai xb_ hb); clear HB; have HO172 := n0_; have HB := n1_; clear n0_ n1_; clear xb_ hb ho0; obtain ⟨Ao5, co5, eo5⟩ := zcj HO172.out; subst eo5))
  go_ret
  exact ⟨by first | rfl | (simp [zbb, zbc] <;> rfl) | (simp [*, zbb, zbc] <;> rfl), by repeat (first | (with_reducible first | exact HB.out | apply zad | apply zab | apply zac) | exact HB.out)⟩
 ·replace c3 := zdp.mpr c3
  subst c3
  have H1 : (some false) = some r := by rw [if_neg (show ¬ (false = true) by decide)] at H; exact H
  clear H
  have H := H1
  clear H1
  obtain rfl := Option.some.inj H
  go_enter Try.func88, Try.ntmps88
  go_wp2_with (first | ((with_reducible refine zbs (f := 106) rfl ?_); refine goesL_ (some 7) rfl rfl Try.func106 (by kernel_rfl) rfl #[.string a0] rfl (by (try simp only [zax, zbe, zbg]); first | done | rfl) ?_; (with_reducible refine (spec_Unhex.calls k a0 t169 false _ A2.out).mono ?_); rintro e w6 ⟨v171, rfl, ho0, hb⟩; refine ⟨_, rfl, ?_⟩; have xb_ := below_ofs (by repeat (first | (with_reducible first | exact HB.out | apply zad | apply zab | apply zac) | exact HB.out)) hb; have n0_ := Aside0.mk (zby ho0 (zam xb_)); have n1_ := Aside0.mk (zai xb_ hb); clear HB; have HO172 := n0_; have HB := n1_; clear n0_ n1_; clear xb_ hb ho0))
  go_ret
  exact ⟨by first | rfl | (simp [zbb, zbc] <;> rfl) | (simp [*, zbb, zbc] <;> rfl), by repeat (first | (with_reducible first | exact HB.out | apply zad | apply zab | apply zac) | exact HB.out)⟩
end Go.Proofs.Ytlalkldjpniakaa.P
