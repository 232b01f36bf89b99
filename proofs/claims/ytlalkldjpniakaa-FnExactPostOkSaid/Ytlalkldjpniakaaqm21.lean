import Derived.Test.Ytlalkldjpniakaaqm20
import Derived.Test.Ytlalkldjpniakaaqm11
namespace Go.Proofs.Ytlalkldjpniakaa.P
open Go.RowKit Go.Proofs.YtlalkldjpniakaaW.PrintWords Go.Proofs.YtlalkldjpniakaaW.PrintLast Go.Proofs.YtlalkldjpniakaaW.PrintMore
attribute [local go_sem] zcm zcn zdd zde zbw zbx zco zcp   -- for this text's walks alone
set_option linter.unusedVariables false
set_option linter.unusedSimpArgs false
set_option maxHeartbeats 8000000
set_option maxRecDepth 100000

def laws_markByteS.l0 : Nat → List Int → Int → Int → Option (Int × List Int)
 | 0, _, _, _ => none
 | k + 1, x0, x1, x5 => if x5 < (x0.length : Int) then (if 0 ≤ x5 then (laws_markByteS.l0 k (x0.set (x5 : Int).toNat ((x1) % 256)) (wrap64 (x1 + 1)) (wrap64 (x5 + 1))) else (none)) else (some (x1, x0))
def laws_markByteS.f (k : Nat) (l0 : List Int) (a1 : Int) : Option (Int × List Int) := laws_markByteS.l0 k l0 a1 0
theorem laws_markByteS.mono_l : ∀ k, (∀ y0 y1 y2, LeO (laws_markByteS.l0 k y0 y1 y2) (laws_markByteS.l0 (k + 1) y0 y1 y2))
 | 0 => fun _ _ _ r h => by simp [laws_markByteS.l0] at h
 | k + 1 => by
  have ih0 := laws_markByteS.mono_l k
  ·intro y0 y1 y2
   unfold laws_markByteS.l0
   exact mt
theorem laws_markByteS.mono : ∀ a0 a1 k, LeO (laws_markByteS.f k a0 a1) (laws_markByteS.f (k + 1) a0 a1) := by
 intro a0 a1 k
 have ih0 := laws_markByteS.mono_l k
 unfold laws_markByteS.f
 exact mt
theorem laws_markByteS.calls (k : Nat) (P0_ : Nat → Prop) (u9000_ : Value) (l0 : List Int) (a1 : Int) (r1 : Int) (r2 : List Int) (w0 w : World) (hB : Below w0.heap.size w0 w) (ho0 : Kd.R (Kd.int .u8) 5 w w0.heap.size P0_ u9000_ l0) (h : laws_markByteS.f k l0 a1 = some (r1, r2)) :
  Calls Try.prog 52 #[u9000_, .int .i64 a1] w fun e w' => e = .returned (.int .i64 r1) ∧ Kd.R (Kd.int .u8) 5 w' w0.heap.size (fun k_ => (P0_ k_ ∨ w.heap.size ≤ k_)) u9000_ r2 ∧ Below w0.heap.size w0 w' ∧ Kept w w' (fun k_ => P0_ k_) := by
 have HO0 := Aside0.mk (show Kd.R (Kd.int .u8) 5 w w0.heap.size (fun k_ => (P0_ k_ ∨ w.heap.size ≤ k_)) u9000_ l0 from zav ho0 (fun k_ hk => (.inl hk)))
 have HK := Aside0.mk (Kept.refl w (fun k_ => P0_ k_))
 have HW0 := Aside0.mk hB.size
 have HB := Aside0.mk hB
 clear hB
 have H : (laws_markByteS.l0 k l0 a1 0) = some (r1, r2) := h
 clear h
 have H' := Aside0.mk H
 clear H
 go_enter Try.func52, Try.ntmps52
 go_wp2
 go_loopg [1, 5] k (fun kq v1 v5 w' => ∃ (x0_1 : List Int) (x1_1 : Int) (x5_1 : Int), v1 = .int .i64 x1_1 ∧ v5 = .int .i64 x5_1 ∧ Aside0 (laws_markByteS.l0 kq x0_1 x1_1 x5_1 = some (r1, r2)) ∧ Aside0 (kq ≤ k) ∧ Aside0 (Kd.R (Kd.int .u8) 5 w' w0.heap.size (fun k_ => (P0_ k_ ∨ w.heap.size ≤ k_)) u9000_ x0_1) ∧ Aside0 (Kept w w' (fun k_ => P0_ k_)) ∧ Aside0 (Below w0.heap.size w0 w'))
 case atStart => exact ⟨(l0), (a1), (0), jer, jer, H', ⟨zaf _⟩, ⟨pR HO0.out⟩, ⟨by repeat (first | (with_reducible first | exact HK.out | apply Kept.alloc | apply Kept.drewN | apply Kept.drew) | exact HK.out)⟩, ⟨bq⟩⟩
 case round =>
  clear H'
  try clear p2
  obtain ⟨x0_1, x1_1, x5_1, rfl, rfl, HA, HK1, HO_0, HK, HB⟩ := hrel
  cases gk with
  | zero => exact absurd HA.out (by simp [laws_markByteS.l0])
  | succ k1 =>
   have H := HA.out
   clear HA
   simp only [laws_markByteS.l0] at H
   by_cases c3 : x5_1 < (x0_1.length : Int)
   ·rw [if_pos c3] at H
    have c3b0 := zae c3
    clear c3
    by_cases c4 : 0 ≤ x5_1
    ·rw [if_pos c4] at H
     have c4b0 := zae c4
     clear c4
     obtain ⟨y224, hy224⟩ : ∃ y_ : List Int, y_ = (x0_1.set (x5_1 : Int).toNat ((x1_1) % 256)) := ⟨_, rfl⟩
     replace H : (laws_markByteS.l0 k1 y224 (wrap64 (x1_1 + 1)) (wrap64 (x5_1 + 1))) = some (r1, r2) := jrw hy224 H
     have Ny224 := Aside0.mk hy224
     clear hy224
     have H' := Aside0.mk H
     clear H
     obtain ⟨Ao6, co6, eo6⟩ := zbm HO_0.out
     subst eo6
     have p5 : 0 ≤ (x5_1 : Int) := zac jab
     have q5 : (x5_1 : Int) < ((x0_1.length : Int) : Int) := zac jab
     obtain ⟨go5, co5, eo5, gb5, gl5, cl5, HG5⟩ := Kd.R_form HO_0.out (by omega)
     (first | cases eo5 | (injection eo5 with ea_ en_ ec_; (first | subst ea_ | (injection ea_ with ea_; subst ea_)); subst ec_; clear en_))
     have GB5 := Aside0.mk gb5
     have GG5 := Aside0.mk HG5
     clear gb5 gl5 HG5
     have HMgo5 := Aside0.mk (show (P0_ go5 ∨ w.heap.size ≤ go5) from (HO_0.out.1 _ rfl))
     obtain ⟨hx5_0, hf5_0⟩ := Kd.R_celln 0 HO_0.out (x5_1 : Int) p5 q5
     replace p5 := zbd p5
     replace q5 := zbd q5
     have HP7 := Kd.R_putg HO_0.out (x5_1 : Int) ((x1_1) % 256)
     go_wp2_with (first | ((with_reducible refine zdp (t := 5) (p := 16) rfl ?_); refine store_event (t := 5) (p := 16) (v := ?vo_w8) (w1 := (wr.setCell ⟨go5, (x5_1 : Int).toNat, none⟩ (.int .u8 ((x1_1) % 256)))) ?hg ?ho ?hn ?hr ?_; (case ho => rfl); (case hg => rfl); (case hn => rfl); (case hr => first | (go_simp; done) | (go_simp; rfl)); intro w8 hw; have hg : wr.grownBy w8 (some go5) := (by rw [hw]; exact HP7.2); have hp_ : Kd.R (Kd.int .u8) 5 w8 w0.heap.size (fun k_ => (P0_ k_ ∨ w.heap.size ≤ k_)) (.slice (some ⟨go5, 0, none⟩) x0_1.length co6) y224 := (by rw [hw, Ny224.out]; exact HP7.1); clear HP7; have n_ := jA3 (hp_) (by rw [hw]; exact below_set (HB.out) GB5.out : Below w0.heap.size w0 w8) (Kept.of_grown (S := (fun k_ => P0_ k_)) hg (by repeat (first | (with_reducible first | exact HK.out | apply Kept.alloc | apply Kept.drewN | apply Kept.drew) | exact HK.out)) (fun k_ e_ => (HO_0.out.1 k_ e_))); clear HO_0 HB HK; obtain ⟨HO_0, HB, HK⟩ := n_; clear hg hw hp_))
     go_roundg k1
     case measure => have := HK1.out; omega
     case rel => exact ⟨(y224), (wrap64 (x1_1 + 1)), (wrap64 (x5_1 + 1)), jer, jer, H', ⟨by have := HK1.out; omega⟩, ⟨pR HO_0.out⟩, ⟨by repeat (first | (with_reducible first | exact HK.out | apply Kept.alloc | apply Kept.drewN | apply Kept.drew) | exact HK.out)⟩, ⟨bq⟩⟩
    ·rw [if_neg c4] at H
     exact absurd H (by simp)
   ·rw [if_neg c3] at H
    have c3b0 := zas c3
    clear c3
    simp only [zbz, zcj] at H
    obtain ⟨rfl, rfl⟩ := H
    obtain ⟨Ao9, co9, eo9⟩ := zbm HO_0.out
    subst eo9
    go_wp2
    go_ret
    exact ⟨jex, by (with_reducible repeat (first | apply zbo | apply zbp | apply zbs)); exact HO_0.out, by repeat (first | (with_reducible first | exact HB.out | apply below_alloc | apply pw_below_drewN | apply zev) | exact HB.out), by repeat (first | (with_reducible first | exact HK.out | apply Kept.alloc | apply Kept.drewN | apply Kept.drew) | exact HK.out)⟩
def laws_heldByteS.l0 : Nat → List Int → Int → Int → Option (Int)
 | 0, _, _, _ => none
 | k + 1, x0, x1, x5 => if x5 < (x0.length : Int) then (if 0 ≤ x5 then (if (rd x0 x5) = ((x1) % 256) then (laws_heldByteS.l0 k x0 (wrap64 (x1 + 1)) (wrap64 (x5 + 1))) else (some (-1))) else (none)) else (some x1)
def laws_heldByteS.f (k : Nat) (l0 : List Int) (a1 : Int) : Option (Int) := laws_heldByteS.l0 k l0 a1 0
theorem laws_heldByteS.mono_l : ∀ k, (∀ y0 y1 y2, LeO (laws_heldByteS.l0 k y0 y1 y2) (laws_heldByteS.l0 (k + 1) y0 y1 y2))
 | 0 => fun _ _ _ r h => by simp [laws_heldByteS.l0] at h
 | k + 1 => by
  have ih0 := laws_heldByteS.mono_l k
  ·intro y0 y1 y2
   unfold laws_heldByteS.l0
   exact mt
theorem laws_heldByteS.mono : ∀ a0 a1 k, LeO (laws_heldByteS.f k a0 a1) (laws_heldByteS.f (k + 1) a0 a1) := by
 intro a0 a1 k
 have ih0 := laws_heldByteS.mono_l k
 unfold laws_heldByteS.f
 exact mt
theorem laws_heldByteS.calls (k : Nat) (A0 : Option Addr) (c0 : Nat) (l0 : List Int) (a1 : Int) (r : Int) (w : World) (hr0 : Kd.C (Kd.int .u8) w A0 l0.length l0) (hc0 : l0.length ≤ c0) (h : laws_heldByteS.f k l0 a1 = some r) :
  Calls Try.prog 53 #[.slice A0 l0.length c0, .int .i64 a1] w fun e w' => e = .returned (.int .i64 r) ∧ Drawn0 w w' := by
 have HR0 := Aside0.mk hr0
 have HC0 := Aside0.mk hc0
 clear hr0 hc0
 have H : (laws_heldByteS.l0 k l0 a1 0) = some r := h
 clear h
 have H' := Aside0.mk H
 clear H
 go_enter Try.func53, Try.ntmps53
 go_wp2
 go_loopg [1, 5] k (fun kq v1 v5 w' => ∃ (x1_1 : Int) (x5_1 : Int), v1 = .int .i64 x1_1 ∧ v5 = .int .i64 x5_1 ∧ Aside0 (laws_heldByteS.l0 kq l0 x1_1 x5_1 = some r) ∧ Aside0 (kq ≤ k) ∧ Drawn0 w w')
 case atStart => exact ⟨(a1), (0), jer, jer, H', ⟨zaf _⟩, by repeat (first | exact Drawn0.refl _ | apply Drawn0.step)⟩
 case round =>
  clear H'
  try clear p2
  obtain ⟨x1_1, x5_1, rfl, rfl, HA, HK1, ⟨m1, rfl⟩⟩ := hrel
  cases gk with
  | zero => exact absurd HA.out (by simp [laws_heldByteS.l0])
  | succ k1 =>
   have H := HA.out
   clear HA
   simp only [laws_heldByteS.l0] at H
   by_cases c3 : x5_1 < (l0.length : Int)
   ·rw [if_pos c3] at H
    have c3b0 := zae c3
    clear c3
    by_cases c4 : 0 ≤ x5_1
    ·rw [if_pos c4] at H
     have c4b0 := zae c4
     clear c4
     by_cases c5 : (rd l0 x5_1) = ((x1_1) % 256)
     ·rw [if_pos c5] at H
      have c5b0 := beqT c5
      have c5b1 := zau.mpr c5
      clear c5
      have H' := Aside0.mk H
      clear H
      have p228 : 0 ≤ (x5_1 : Int) := zac jab
      have q228 : x5_1 < (l0.length : Int) := zac jab
      obtain ⟨ad228, e228, hx228_0⟩ := zek HR0.out x5_1 p228 q228
      cases e228
      replace p228 := zbd p228
      replace q228 := zbd q228
      go_wp2
      go_roundg k1
      case measure => have := HK1.out; omega
      case rel => exact ⟨(wrap64 (x1_1 + 1)), (wrap64 (x5_1 + 1)), jer, jer, H', ⟨by have := HK1.out; omega⟩, by repeat (first | exact Drawn0.refl _ | apply Drawn0.step)⟩
     ·rw [if_neg c5] at H
      have c5b0 := zao.mpr c5
      have c5b1 := zcs.mpr c5
      obtain rfl := Option.some.inj H
      have p228 : 0 ≤ (x5_1 : Int) := zac jab
      have q228 : x5_1 < (l0.length : Int) := zac jab
      obtain ⟨ad228, e228, hx228_0⟩ := zek HR0.out x5_1 p228 q228
      cases e228
      replace p228 := zbd p228
      replace q228 := zbd q228
      go_wp2
      go_ret
      exact ⟨by first | rfl | (simp; done) | (simp [*]; done), by repeat (first | exact Drawn0.refl _ | apply Drawn0.step)⟩
    ·rw [if_neg c4] at H
     exact absurd H (by simp)
   ·rw [if_neg c3] at H
    have c3b0 := zas c3
    clear c3
    obtain rfl := Option.some.inj H
    go_wp2
    go_ret
    exact ⟨by first | rfl | (simp; done) | (simp [*]; done), by repeat (first | exact Drawn0.refl _ | apply Drawn0.step)⟩
end Go.Proofs.Ytlalkldjpniakaa.P
/- What the laws' own helpers over bytes compute: copies, comparisons, marks; for lists of at most 2^40 numbers. -/
namespace Go.Proofs.Ytlalkldjpniakaa.B
open Go.RowKit Go.Proofs.YtlalkldjpniakaaW.PrintWords Go.Proofs.YtlalkldjpniakaaW.PrintLast Go.Proofs.YtlalkldjpniakaaW.PrintMore Go.Proofs.Ytlalkldjpniakaa.P

theorem toByteS_l0 : ∀ (rest rest' pre : List Int) (k : Nat), rest'.length = rest.length → pre.length + rest.length ≤ 1099511627776 → rest.length < k →
    laws_toByteS.l0 k (pre ++ rest) (pre ++ rest') (pre.length : Int) = some (pre ++ rest)
  | [], rest', pre, k, hl, hb, hk => by
    obtain ⟨k, rfl⟩ : ∃ m, k = m + 1 := ⟨k - 1, by omega⟩
    obtain rfl : rest' = [] := List.eq_nil_of_length_eq_zero (by simpa using hl)
    simp only [laws_toByteS.l0]; rw [if_neg (nlt_end pre)]
  | a :: rest, rest', pre, k, hl, hb, hk => by
    obtain ⟨k, rfl⟩ : ∃ m, k = m + 1 := ⟨k - 1, by simp at hk; omega⟩
    cases rest' with
    | nil => simp at hl
    | cons b rest' =>
      simp only [List.length_cons] at hl hb hk
      have ih := toByteS_l0 rest rest' (pre ++ [a]) k (by omega) (by simp; omega) (by omega)
      simp only [laws_toByteS.l0]
      rw [if_pos (lt_mid pre a rest), if_pos (pre_nonneg pre), if_pos (lt_mid pre b rest'), rd_mid, set_mid, wrap_step pre a (by omega), snoc_app pre a rest, snoc_app pre a rest']
      exact ih
theorem toByteS (l : List Int) (hn : l.length ≤ 1099511627776) (k : Nat) (hk : l.length < k) : laws_toByteS.f k l = some l := by
  unfold laws_toByteS.f
  rw [if_pos (by omega), if_pos (by simp; omega)]
  have h := toByteS_l0 l (List.replicate l.length 0) [] k (by simp) (by simpa using hn) hk
  simpa using h

theorem eqByteS_l0 : ∀ (a b pre : List Int) (k : Nat), a.length = b.length → pre.length + a.length ≤ 1099511627776 → a.length < k →
    laws_eqByteS.l0 k (pre ++ a) (pre ++ b) (pre.length : Int) = some (decide (a = b))
  | [], b, pre, k, hl, hb, hk => by
    obtain ⟨k, rfl⟩ : ∃ m, k = m + 1 := ⟨k - 1, by omega⟩
    obtain rfl : b = [] := List.eq_nil_of_length_eq_zero (by simpa using hl.symm)
    simp only [laws_eqByteS.l0]; rw [if_neg (nlt_end pre)]; simp
  | x :: a, b, pre, k, hl, hb, hk => by
    obtain ⟨k, rfl⟩ : ∃ m, k = m + 1 := ⟨k - 1, by simp at hk; omega⟩
    cases b with
    | nil => simp at hl
    | cons y b =>
      simp only [List.length_cons] at hl hb hk
      simp only [laws_eqByteS.l0]
      rw [if_pos (lt_mid pre x a), if_pos (pre_nonneg pre), if_pos (lt_mid pre y b), rd_mid, rd_mid]
      by_cases e : x = y
      · subst e
        rw [if_pos rfl, wrap_step pre x (by omega), snoc_app pre x a, snoc_app pre x b, eqByteS_l0 a b (pre ++ [x]) k (by omega) (by simp; omega) (by omega)]
        simp
      · rw [if_neg e]; simp [e]
theorem eqByteS (a b : List Int) (hn : a.length ≤ 1099511627776) (k : Nat) (hk : a.length < k) : laws_eqByteS.f k a b = some (decide (a = b)) := by
  unfold laws_eqByteS.f
  by_cases e : a.length = b.length
  · rw [if_pos (by omega)]
    have h := eqByteS_l0 a b [] k e (by simpa using hn) hk
    simpa using h
  · rw [if_neg (by omega)]
    have : a ≠ b := fun h => e (by rw [h])
    simp [this]
theorem eqByteS_same (a : List Int) (hn : a.length ≤ 1099511627776) (k : Nat) (hk : a.length < k) : laws_eqByteS.f k a a = some true := by
  rw [eqByteS a a hn k hk]; simp

theorem markByteS_l0 : ∀ (rest pre : List Int) (m : Int) (k : Nat), 0 ≤ m → m + rest.length ≤ 4611686018427387904 → pre.length + rest.length ≤ 1099511627776 → rest.length < k →
    laws_markByteS.l0 k (pre ++ rest) m (pre.length : Int) = some (m + rest.length, pre ++ marks rest.length m)
  | [], pre, m, k, h0, hm, hb, hk => by
    obtain ⟨k, rfl⟩ : ∃ m, k = m + 1 := ⟨k - 1, by omega⟩
    simp only [laws_markByteS.l0]; rw [if_neg (nlt_end pre)]; simp [marks]
  | a :: rest, pre, m, k, h0, hm, hb, hk => by
    obtain ⟨k, rfl⟩ : ∃ m, k = m + 1 := ⟨k - 1, by simp at hk; omega⟩
    simp only [List.length_cons] at hm hb hk
    have ih := markByteS_l0 rest (pre ++ [m % 256]) (m + 1) k (by omega) (by omega) (by simp; omega) (by omega)
    simp only [laws_markByteS.l0]
    rw [if_pos (lt_mid pre a rest), if_pos (pre_nonneg pre), set_mid, wrap_step pre (m % 256) (by omega), wrap_eq (m + 1) (by omega) (by omega), snoc_app pre (m % 256) rest, ih]
    simp only [List.length_cons, marks, List.append_assoc, List.singleton_append]
    congr 2
    omega
theorem markByteS (l : List Int) (m : Int) (h0 : 0 ≤ m) (hm : m ≤ 1152921504606846976) (hn : l.length ≤ 1099511627776) (k : Nat) (hk : l.length < k) :
    laws_markByteS.f k l m = some (m + l.length, marks l.length m) := by
  unfold laws_markByteS.f
  have h := markByteS_l0 l [] m k h0 (by omega) (by simpa using hn) hk
  simpa using h

theorem heldByteS_l0 : ∀ (n : Nat) (pre : List Int) (m : Int) (k : Nat), 0 ≤ m → m + n ≤ 4611686018427387904 → pre.length + n ≤ 1099511627776 → n < k →
    laws_heldByteS.l0 k (pre ++ marks n m) m (pre.length : Int) = some (m + n)
  | 0, pre, m, k, h0, hm, hb, hk => by
    obtain ⟨k, rfl⟩ : ∃ m, k = m + 1 := ⟨k - 1, by omega⟩
    rw [show marks 0 m = [] from rfl]; simp only [laws_heldByteS.l0]; rw [if_neg (nlt_end pre)]; simp
  | n + 1, pre, m, k, h0, hm, hb, hk => by
    obtain ⟨k, rfl⟩ : ∃ m, k = m + 1 := ⟨k - 1, by omega⟩
    have ih := heldByteS_l0 n (pre ++ [m % 256]) (m + 1) k (by omega) (by omega) (by simp; omega) (by omega)
    rw [show marks (n + 1) m = m % 256 :: marks n (m + 1) from rfl]
    simp only [laws_heldByteS.l0]
    rw [if_pos (lt_mid pre _ _), if_pos (pre_nonneg pre), rd_mid, if_pos rfl, wrap_step pre (m % 256) (by omega), wrap_eq (m + 1) (by omega) (by omega), snoc_app pre (m % 256) (marks n (m + 1)), ih]
    congr 1
    omega
theorem heldByteS (n : Nat) (m : Int) (h0 : 0 ≤ m) (hm : m ≤ 1152921504606846976) (hn : n ≤ 1099511627776) (k : Nat) (hk : n < k) :
    laws_heldByteS.f k (marks n m) m = some (m + n) := by
  unfold laws_heldByteS.f
  have h := heldByteS_l0 n [] m k h0 (by omega) (by simpa using hn) hk
  simpa using h
end Go.Proofs.Ytlalkldjpniakaa.B
/- What the laws' own helpers over items compute: sizes, copies, comparisons. -/
namespace Go.Proofs.Ytlalkldjpniakaa.B
open Go.RowKit Go.Proofs.Ytlalkldjpniakaa.P Go.Proofs.YtlalkldjpniakaaW.PrintWords Go.Proofs.YtlalkldjpniakaaW.PrintLast Go.Proofs.YtlalkldjpniakaaW.PrintMore
theorem szByteS (l : List Int) (a : Int) (hl : l.length ≤ maxLen) (h0 : 0 ≤ a) (h1 : a ≤ 1048576) : laws_szByteS.f l a = some (if (l.length : Int) > a then -1 else a - l.length) := by
  unfold laws_szByteS.f
  unfold maxLen at hl
  rw [wrap_eq _ (by omega) (by omega)]
  by_cases h : (l.length : Int) > a
  · rw [if_pos (by omega), if_pos h]
  · rw [if_neg (by omega), if_neg h]
/-- The size of an item: what is left, or less than nothing. -/
theorem szItem (s : ByteArray) (n m : Int) (l : List Int) (a : Int) (hs : s.size ≤ maxLen) (hl : l.length ≤ maxLen) (h0 : 0 ≤ a) (h1 : a ≤ 1048576) :
    laws_szItem.f s n m l a = some (-1) ∨ (laws_szItem.f s n m l a = some (a - s.size - l.length) ∧ (s.size : Int) + l.length ≤ a) := by
  unfold laws_szItem.f
  have hs' := hs
  unfold maxLen at hs'
  rw [wrap_eq _ (by omega) (by omega)]
  by_cases h : a - (s.size : Int) < 0
  · rw [if_pos h]; exact .inl rfl
  · rw [if_neg h, szByteS l _ hl (by omega) (by omega), Option.bind_some]
    by_cases h2 : (l.length : Int) > a - (s.size : Int)
    · rw [if_pos h2, if_pos (by omega)]; exact .inl rfl
    · rw [if_neg h2, if_neg (by omega)]; exact .inr ⟨rfl, by omega⟩
def okIt (x : S31) : Prop := x.f0.size ≤ maxLen ∧ x.f3.length ≤ maxLen
def fits (x : S31) : Prop := x.f0.size ≤ 1048576 ∧ x.f3.length ≤ 1048576
/-- The item as it is built anew. -/
def it (x : S31) : S34 := ⟨x.f0, x.f1, x.f2, x.f3⟩
theorem rdT31_mid (pre : List S31) (x : S31) (rest : List S31) : rd_T31 (pre ++ x :: rest) (pre.length : Int) = x := by
  unfold rd_T31; simp [List.getD_eq_getElem?_getD]
theorem rdT34_mid (pre : List S34) (x : S34) (rest : List S34) : rd_T34 (pre ++ x :: rest) (pre.length : Int) = x := by
  unfold rd_T34; simp [List.getD_eq_getElem?_getD]
theorem set_midT (pre : List S34) (a b : S34) (rest : List S34) : (pre ++ b :: rest).set ((pre.length : Int).toNat) a = pre ++ a :: rest := by simp
theorem szItemS_l0 : ∀ (rest pre : List S31) (a : Int) (k : Nat), (∀ y ∈ rest, okIt y) → 0 ≤ a → a ≤ 1048576 → pre.length + rest.length ≤ 4611686018427387904 → rest.length < k →
    ∃ r, laws_szItemS.l0 k (pre ++ rest) a (pre.length : Int) = some r ∧ (¬ r < 0 → ∀ y ∈ rest, fits y)
  | [], pre, a, k, hg, h0, h1, hb, hk => by
    obtain ⟨k, rfl⟩ : ∃ m, k = m + 1 := ⟨k - 1, by omega⟩
    refine ⟨a, ?_, by simp⟩
    simp only [laws_szItemS.l0]; rw [if_neg (nlt_end pre)]
  | x :: rest, pre, a, k, hg, h0, h1, hb, hk => by
    obtain ⟨k, rfl⟩ : ∃ m, k = m + 1 := ⟨k - 1, by simp at hk; omega⟩
    simp only [List.length_cons] at hb hk
    have hx := hg x List.mem_cons_self
    simp only [laws_szItemS.l0]
    rw [if_pos (lt_mid pre x rest), if_pos (pre_nonneg pre), rdT31_mid]
    rcases szItem x.f0 x.f1 x.f2 x.f3 a hx.1 hx.2 h0 h1 with e | ⟨e, hle⟩
    · rw [e, Option.bind_some, if_pos (by omega)]
      exact ⟨-1, rfl, fun h => absurd (by omega) h⟩
    · rw [e, Option.bind_some, if_neg (by omega), wrap_step pre x (by omega), snoc_app pre x rest]
      obtain ⟨r, hr, hf⟩ := szItemS_l0 rest (pre ++ [x]) (a - x.f0.size - x.f3.length) k (fun y hy => hg y (List.mem_cons_of_mem _ hy)) (by omega) (by omega) (by simp; omega) (by omega)
      refine ⟨r, hr, fun h y hy => ?_⟩
      rcases List.mem_cons.1 hy with rfl | hy
      · unfold fits; omega
      · exact hf h y hy
theorem szItemS (l : List S31) (a : Int) (hl : l.length ≤ maxLen) (hg : ∀ y ∈ l, okIt y) (h0 : 0 ≤ a) (h1 : a ≤ 1048576) (k : Nat) (hk : l.length < k) :
    ∃ r, laws_szItemS.f k l a = some r ∧ (¬ r < 0 → l.length ≤ 1048576 ∧ ∀ y ∈ l, fits y) := by
  unfold laws_szItemS.f
  have hl' := hl
  unfold maxLen at hl'
  rw [wrap_eq _ (by omega) (by omega)]
  by_cases h : a - (l.length : Int) < 0
  · rw [if_pos h]; exact ⟨-1, rfl, fun h => absurd (by omega) h⟩
  · rw [if_neg h]
    obtain ⟨r, hr, hf⟩ := szItemS_l0 l [] (a - l.length) k hg (by omega) (by omega) (by simp; omega) hk
    exact ⟨r, hr, fun h => ⟨by omega, hf h⟩⟩
theorem toItem (s : ByteArray) (n m : Int) (l : List Int) (hl : l.length ≤ 1048576) (k : Nat) (hk : 1048576 < k) : laws_toItem.f k s n m l = some (s, n, m, l) := by
  unfold laws_toItem.f
  rw [toByteS l (by omega) k (by omega)]; rfl
theorem toItemS_l0 : ∀ (rest : List S31) (rest' : List S34) (pre : List S31) (k : Nat), (∀ y ∈ rest, fits y) → rest'.length = rest.length → pre.length + rest.length ≤ 1099511627776 → rest.length + 1048576 < k →
    laws_toItemS.l0 k (pre ++ rest) (pre.map it ++ rest') (pre.length : Int) = some ((pre ++ rest).map it)
  | [], rest', pre, k, hf, hl, hb, hk => by
    obtain ⟨k, rfl⟩ : ∃ m, k = m + 1 := ⟨k - 1, by omega⟩
    obtain rfl : rest' = [] := List.eq_nil_of_length_eq_zero (by simpa using hl)
    simp only [laws_toItemS.l0]; rw [if_neg (nlt_end pre)]; simp
  | x :: rest, rest', pre, k, hf, hl, hb, hk => by
    obtain ⟨k, rfl⟩ : ∃ m, k = m + 1 := ⟨k - 1, by simp at hk; omega⟩
    cases rest' with
    | nil => simp at hl
    | cons b rest' =>
      simp only [List.length_cons] at hl hb hk
      have hx := hf x List.mem_cons_self
      have ih := toItemS_l0 rest rest' (pre ++ [x]) k (fun y hy => hf y (List.mem_cons_of_mem _ hy)) (by omega) (by simp; omega) (by omega)
      have hp : pre.length = (pre.map it).length := by simp
      simp only [laws_toItemS.l0]
      rw [if_pos (lt_mid pre x rest), if_pos (pre_nonneg pre), rdT31_mid, toItem _ _ _ _ hx.2 k (by omega), Option.bind_some, if_pos (by rw [hp]; exact lt_mid _ b rest'), wrap_step pre x (by omega)]
      rw [show (pre.map it ++ b :: rest').set ((pre.length : Int).toNat) (⟨x.f0, x.f1, x.f2, x.f3⟩ : S34) = (pre ++ [x]).map it ++ rest' from by rw [hp, set_midT, List.map_append, List.append_assoc]; rfl, snoc_app pre x rest]
      exact ih
theorem toItemS (l : List S31) (hl : l.length ≤ 1048576) (hf : ∀ y ∈ l, fits y) (k : Nat) (hk : 2097152 < k) : laws_toItemS.f k l = some (l.map it) := by
  unfold laws_toItemS.f
  rw [if_pos (by omega), if_pos (by omega)]
  have h := toItemS_l0 l (List.replicate l.length z34) [] k hf (by simp) (by simp; omega) (by omega)
  rw [Int.toNat_natCast]
  exact h
theorem eqItem_same (s : ByteArray) (n m : Int) (l : List Int) (hl : l.length ≤ 1048576) (k : Nat) (hk : 1048576 < k) : laws_eqItem.f k s n m l s n m l = some true := by
  unfold laws_eqItem.f
  rw [if_pos rfl, if_pos rfl, if_pos rfl, eqByteS_same l (by omega) k (by omega)]; rfl
theorem eqItemS_l0 : ∀ (rest pre : List S34) (k : Nat), (∀ y ∈ rest, y.f3.length ≤ 1048576) → pre.length + rest.length ≤ 1099511627776 → rest.length + 1048576 < k → laws_eqItemS.l0 k (pre ++ rest) (pre ++ rest) (pre.length : Int) = some true
  | [], pre, k, hf, hb, hk => by
    obtain ⟨k, rfl⟩ : ∃ m, k = m + 1 := ⟨k - 1, by omega⟩
    simp only [laws_eqItemS.l0]; rw [if_neg (nlt_end pre)]
  | x :: rest, pre, k, hf, hb, hk => by
    obtain ⟨k, rfl⟩ : ∃ m, k = m + 1 := ⟨k - 1, by simp at hk; omega⟩
    simp only [List.length_cons] at hb hk
    have ih := eqItemS_l0 rest (pre ++ [x]) k (fun y hy => hf y (List.mem_cons_of_mem _ hy)) (by simp; omega) (by omega)
    simp only [laws_eqItemS.l0]
    rw [if_pos (lt_mid pre x rest), if_pos (pre_nonneg pre), if_pos (lt_mid pre x rest), rdT34_mid, eqItem_same _ _ _ _ (hf x List.mem_cons_self) k (by omega), Option.bind_some, if_pos rfl, wrap_step pre x (by omega), snoc_app pre x rest]
    exact ih
theorem eqItemS_same (l : List S34) (hl : l.length ≤ 1048576) (hf : ∀ y ∈ l, y.f3.length ≤ 1048576) (k : Nat) (hk : 2097152 < k) : laws_eqItemS.f k l l = some true := by
  unfold laws_eqItemS.f
  rw [if_pos rfl]
  exact eqItemS_l0 l [] k hf (by simp; omega) (by omega)
end Go.Proofs.Ytlalkldjpniakaa.B
/- Of, by the program and by the reference: how many items have a route; for lists of at most 2^40 items. -/
namespace Go.Proofs.Ytlalkldjpniakaa.B
open Go.RowKit Go.Proofs.Ytlalkldjpniakaa.P Go.Proofs.YtlalkldjpniakaaW.PrintWords Go.Proofs.YtlalkldjpniakaaW.PrintLast Go.Proofs.YtlalkldjpniakaaW.PrintMore
def ofL (a : ByteArray) : List S34 → Int
  | [] => 0
  | x :: l => (if x.f0.toList = a.toList then 1 else 0) + ofL a l
theorem ofL_bounds (a : ByteArray) : ∀ l : List S34, 0 ≤ ofL a l ∧ ofL a l ≤ l.length
  | [] => by simp [ofL]
  | x :: l => by
    have := ofL_bounds a l
    simp only [ofL, List.length_cons]
    split <;> omega
theorem specOf_l0 (a : ByteArray) : ∀ (rest pre : List S34) (n : Int) (k : Nat), 0 ≤ n → n + rest.length ≤ 1099511627776 → pre.length + rest.length ≤ 1099511627776 → rest.length < k →
    spec_Of.l0 k (pre ++ rest) a n (pre.length : Int) = some (n + ofL a rest)
  | [], pre, n, k, h0, hn, hb, hk => by
    obtain ⟨k, rfl⟩ : ∃ m, k = m + 1 := ⟨k - 1, by omega⟩
    simp only [spec_Of.l0]; rw [if_neg (nlt_end pre)]; simp [ofL]
  | x :: rest, pre, n, k, h0, hn, hb, hk => by
    obtain ⟨k, rfl⟩ : ∃ m, k = m + 1 := ⟨k - 1, by simp at hk; omega⟩
    simp only [List.length_cons] at hb hk hn
    simp only [spec_Of.l0]
    rw [if_pos (lt_mid pre x rest), if_pos (pre_nonneg pre), rdT34_mid, wrap_step pre x (by omega), snoc_app pre x rest]
    unfold spec_l1Bit.f
    by_cases e : x.f0.toList = a.toList
    · have ih := specOf_l0 a rest (pre ++ [x]) (n + 1) k (by omega) (by omega) (by simp; omega) (by omega)
      rw [if_pos (by simpa using e), Option.bind_some, wrap_eq _ (by omega) (by omega), ih]
      simp only [ofL]; rw [if_pos e]; congr 1; omega
    · have ih := specOf_l0 a rest (pre ++ [x]) n k (by omega) (by omega) (by simp; omega) (by omega)
      rw [if_neg (by simpa using e), Option.bind_some, wrap_eq _ (by omega) (by omega), Int.add_zero, ih]
      simp only [ofL]; rw [if_neg e]; congr 1; omega
theorem specOf (l : List S34) (a : ByteArray) (hl : l.length ≤ 1099511627776) (k : Nat) (hk : l.length < k) : spec_Of.f k l a = some (ofL a l) := by
  have h := specOf_l0 a l [] 0 k (by omega) (by omega) (by simp; omega) hk
  simpa [spec_Of.f] using h
theorem implOf_l0 (a : ByteArray) : ∀ (rest pre : List S34) (n m : Int) (k : Nat), m = (((pre ++ rest).length : Nat) : Int) → 0 ≤ n → n + rest.length ≤ 1099511627776 → pre.length + rest.length ≤ 1099511627776 → rest.length < k →
    impl_Of.l0 k a n (pre ++ rest) m (pre.length : Int) = some (n + ofL a rest)
  | [], pre, n, m, k, hm, h0, hn, hb, hk => by
    obtain ⟨k, rfl⟩ : ∃ m, k = m + 1 := ⟨k - 1, by omega⟩
    simp only [impl_Of.l0]; rw [hm, if_neg (nlt_end pre)]; simp [ofL]
  | x :: rest, pre, n, m, k, hm, h0, hn, hb, hk => by
    obtain ⟨k, rfl⟩ : ∃ m, k = m + 1 := ⟨k - 1, by simp at hk; omega⟩
    simp only [List.length_cons] at hb hk hn
    simp only [impl_Of.l0]
    rw [if_pos (by rw [hm]; exact lt_mid pre x rest), if_pos (pre_nonneg pre), if_pos (lt_mid pre x rest), rdT34_mid, wrap_step pre x (by omega), snoc_app pre x rest]
    by_cases e : x.f0.toList = a.toList
    · have ih := implOf_l0 a rest (pre ++ [x]) (n + 1) m k (by rw [hm]; simp) (by omega) (by omega) (by simp; omega) (by omega)
      rw [if_pos e, wrap_eq _ (by omega) (by omega), ih]
      simp only [ofL]; rw [if_pos e]; congr 1; omega
    · have ih := implOf_l0 a rest (pre ++ [x]) n m k (by rw [hm]; simp) (by omega) (by omega) (by simp; omega) (by omega)
      rw [if_neg e, ih]
      simp only [ofL]; rw [if_neg e]; congr 1; omega
theorem implOf (l : List S34) (a : ByteArray) (hl : l.length ≤ 1099511627776) (k : Nat) (hk : l.length < k) : impl_Of.f k l a = some (ofL a l) := by
  have h := implOf_l0 a l [] 0 _ k rfl (by omega) (by omega) (by simp; omega) hk
  simpa [impl_Of.f] using h
end Go.Proofs.Ytlalkldjpniakaa.B
/- QueueOk, by the program and by the reference: one answer; for lists of at most 2^40 items whose routes are no longer than 2^40. -/
namespace Go.Proofs.Ytlalkldjpniakaa.B
open Go.RowKit Go.Proofs.Ytlalkldjpniakaa.P Go.Proofs.YtlalkldjpniakaaW.PrintWords Go.Proofs.YtlalkldjpniakaaW.PrintLast Go.Proofs.YtlalkldjpniakaaW.PrintMore
/-- Whether an item is in order. -/
noncomputable def okB (x : S34) : Bool := if h : x.f0.size ≤ 1099511627776 then (itemOk x.f0 x.f1 x.f2 x.f3 h).choose else false
theorem okB_spec (x : S34) (h : x.f0.size ≤ 1099511627776) (k : Nat) (hk : x.f0.size + 3 < k) : spec_ItemOk.f k x.f0 x.f1 x.f2 x.f3 = some (okB x) := by
  unfold okB
  rw [dif_pos h]
  exact ((itemOk x.f0 x.f1 x.f2 x.f3 h).choose_spec k hk).1
theorem okB_impl (x : S34) (h : x.f0.size ≤ 1099511627776) (k : Nat) (hk : x.f0.size + 3 < k) : impl_ItemOk.f k x.f0 x.f1 x.f2 x.f3 = some (okB x) := by
  unfold okB
  rw [dif_pos h]
  exact ((itemOk x.f0 x.f1 x.f2 x.f3 h).choose_spec k hk).2
/-- Whether the items that follow may follow. -/
noncomputable def queueL (L : List S34) : List S34 → List S34 → Bool
  | [], _ => true
  | x :: rest, pre => okB x && (!decide (ofL x.f0 L > 4) && (!(decide (x.f1 > 0) && pre.any (likeI x.f0 x.f1)) && queueL L rest (pre ++ [x])))
theorem specQueueOk_l1 (x : S34) (rest : List S34) (r : Bool) : ∀ (p2 p1 : List S34), (p1 ++ p2).length ≤ 1099511627776 → Ev (fun k => spec_QueueOk.l0 k (p1 ++ p2 ++ x :: rest) (wrap64 (((p1 ++ p2).length : Nat) + 1))) r →
    Ev (fun k => spec_QueueOk.l1 k (p1 ++ p2 ++ x :: rest) ((p1 ++ p2).length : Nat) (p1.length : Nat)) (!(decide (x.f1 > 0) && p2.any (likeI x.f0 x.f1)) && r)
  | [], p1, hb, h => by
    refine evUp ?_
    simp only [spec_QueueOk.l1]
    refine evNeg (by simp) ?_
    simpa using h
  | y :: p2, p1, hb, h => by
    refine evUp ?_
    simp only [spec_QueueOk.l1]
    have hlen : (p1 ++ y :: p2).length = p1.length + (p2.length + 1) := by simp
    have hlen2 : (p1 ++ y :: p2 ++ x :: rest).length = p1.length + (p2.length + 1) + (rest.length + 1) := by simp; omega
    refine evPos (by omega) (evPos (by omega) (evPos (by omega) (evPos (by omega) (evPos (by omega) ?_))))
    have e1 : rd_T34 (p1 ++ y :: p2 ++ x :: rest) ((p1.length : Nat) : Int) = y := by
      rw [List.append_assoc]; exact rdT34_mid p1 y (p2 ++ x :: rest)
    have e2 : rd_T34 (p1 ++ y :: p2 ++ x :: rest) (((p1 ++ y :: p2).length : Nat) : Int) = x := rdT34_mid (p1 ++ y :: p2) x rest
    simp only [e1, e2]
    have ih := specQueueOk_l1 x rest r p2 (p1 ++ [y]) (by simpa using hb) (by simpa using h)
    have es : wrap64 ((p1.length : Int) + 1) = (((p1 ++ [y]).length : Nat) : Int) := wrap_step p1 y (by omega)
    rw [show p1 ++ [y] ++ p2 = p1 ++ y :: p2 by simp] at ih
    simp only [es]
    by_cases c1 : y.f0.toList = x.f0.toList
    · refine evPos c1 ?_
      by_cases c2 : y.f1 = x.f1
      · refine evPos c2 ?_
        by_cases c3 : x.f1 > 0
        · refine evPos c3 ?_
          have : (!(decide (x.f1 > 0) && (y :: p2).any (likeI x.f0 x.f1)) && r) = false := by simp [likeI, c1, c2, c3]
          rw [this]; exact evConst _
        · refine evNeg c3 ?_
          have : (!(decide (x.f1 > 0) && (y :: p2).any (likeI x.f0 x.f1)) && r) = (!(decide (x.f1 > 0) && p2.any (likeI x.f0 x.f1)) && r) := by simp [c3]
          rw [this]; exact ih
      · refine evNeg c2 ?_
        have : (!(decide (x.f1 > 0) && (y :: p2).any (likeI x.f0 x.f1)) && r) = (!(decide (x.f1 > 0) && p2.any (likeI x.f0 x.f1)) && r) := by
          have hlk : likeI x.f0 x.f1 y = false := by unfold likeI; rw [beq_eq_false_iff_ne.2 c2, Bool.and_false]
          simp only [List.any_cons, hlk, Bool.false_or]
        rw [this]; exact ih
    · refine evNeg c1 ?_
      have : (!(decide (x.f1 > 0) && (y :: p2).any (likeI x.f0 x.f1)) && r) = (!(decide (x.f1 > 0) && p2.any (likeI x.f0 x.f1)) && r) := by
        have hlk : likeI x.f0 x.f1 y = false := by unfold likeI; rw [beq_eq_false_iff_ne.2 c1, Bool.false_and]
        simp only [List.any_cons, hlk, Bool.false_or]
      rw [this]; exact ih
theorem specQueueOk_l0 (L : List S34) (hL : L.length ≤ 1099511627776) (hx : ∀ y ∈ L, y.f0.size ≤ 1099511627776) : ∀ (rest pre : List S34), L = pre ++ rest → Ev (fun k => spec_QueueOk.l0 k L (pre.length : Nat)) (queueL L rest pre && decide ((L.length : Int) ≤ 10))
  | [], pre, e => by
    refine evUp ?_
    simp only [spec_QueueOk.l0]
    refine evNeg (by rw [e]; simp) ?_
    simp only [queueL, Bool.true_and]
    exact evConst _
  | x :: rest, pre, e => by
    have ih := specQueueOk_l0 L hL hx rest (pre ++ [x]) (by rw [e]; simp)
    have hxx := hx x (by rw [e]; simp)
    have hl : L.length = pre.length + (rest.length + 1) := by rw [e]; simp
    have e2 : rd_T34 L ((pre.length : Nat) : Int) = x := by rw [e]; exact rdT34_mid pre x rest
    have es : wrap64 ((pre.length : Int) + 1) = (((pre ++ [x]).length : Nat) : Int) := wrap_step pre x (by omega)
    refine evUp ?_
    simp only [spec_QueueOk.l0]
    refine evPos (by omega) (evPos (by omega) ?_)
    simp only [e2]
    refine evBind (a := okB x) (evOf _ fun k hk => okB_spec x hxx k hk) ?_
    have hj : ∀ b : Bool, Ev (fun k => spec_QueueOk.j1 k L (pre.length : Nat) b) (!b && (!(decide (x.f1 > 0) && pre.any (likeI x.f0 x.f1)) && (queueL L rest (pre ++ [x]) && decide ((L.length : Int) ≤ 10)))) := by
      intro b
      refine evUp ?_
      simp only [spec_QueueOk.j1]
      cases b with
      | true => exact evPos rfl (evConst _)
      | false =>
        refine evNeg (by simp) ?_
        have h1 := specQueueOk_l1 x rest (queueL L rest (pre ++ [x]) && decide ((L.length : Int) ≤ 10)) pre [] (by simpa using (by omega : pre.length ≤ 1099511627776)) (by simpa [← e, es] using ih)
        simpa [← e] using h1
    cases hb : okB x with
    | false =>
      refine evNeg (by simp) ?_
      have h2 := hj true
      simpa [queueL, hb] using h2
    | true =>
      refine evPos rfl (evBind (a := ofL x.f0 L) (evOf _ fun k hk => specOf L x.f0 hL k hk) ?_)
      have h2 := hj (decide (ofL x.f0 L > 4))
      simpa [queueL, hb, Bool.and_assoc] using h2
theorem implQueueOk_l0 (L : List S34) (hL : L.length ≤ 1099511627776) (hx : ∀ y ∈ L, y.f0.size ≤ 1099511627776) : ∀ (rest pre : List S34), L = pre ++ rest → Ev (fun k => impl_QueueOk.l0 k L pre.length) (queueL L rest pre)
  | [], pre, e => by
    refine evUp ?_
    simp only [impl_QueueOk.l0]
    refine evNeg (by rw [e]; simp) ?_
    simp only [queueL]
    exact evConst _
  | x :: rest, pre, e => by
    have ih := implQueueOk_l0 L hL hx rest (pre ++ [x]) (by rw [e]; simp)
    have hxx := hx x (by rw [e]; simp)
    have hl : L.length = pre.length + (rest.length + 1) := by rw [e]; simp
    have e2 : rd_T34 L ((pre.length : Nat) : Int) = x := by rw [e]; exact rdT34_mid pre x rest
    have e3 : L.take pre.length = pre := by rw [e]; simp
    have e4 : (pre ++ [x]).length = pre.length + 1 := by simp
    rw [e4] at ih
    refine evUp ?_
    simp only [impl_QueueOk.l0]
    refine evPos (by omega) ?_
    simp only [e2, e3]
    refine evBind (a := okB x) (evOf _ fun k hk => okB_impl x hxx k hk) ?_
    cases hb : okB x with
    | false =>
      refine evNeg (by simp) ?_
      simp only [queueL, hb, Bool.false_and]
      exact evConst _
    | true =>
      refine evPos rfl (evBind (a := ofL x.f0 L) (evOf _ fun k hk => implOf L x.f0 hL k hk) ?_)
      by_cases c : ofL x.f0 L > 4
      · refine evPos c ?_
        simp only [queueL, c, decide_true, Bool.not_true, Bool.false_and, Bool.and_false]
        exact evConst _
      · refine evNeg c ?_
        by_cases c1 : x.f1 > 0
        · refine evPos c1 ?_
          by_cases c2 : pre.any (likeI x.f0 x.f1) = true
          · refine evPos c2 ?_
            have : queueL L (x :: rest) pre = false := by simp only [queueL, c1, c2]; simp
            rw [this]; exact evConst _
          · refine evNeg c2 ?_
            have : queueL L (x :: rest) pre = queueL L rest (pre ++ [x]) := by simp only [queueL, hb, c, c1]; simp [c2]
            rw [this]; exact ih
        · refine evNeg c1 ?_
          have : queueL L (x :: rest) pre = queueL L rest (pre ++ [x]) := by simp only [queueL, hb, c, c1]; simp
          rw [this]; exact ih
noncomputable def queueOkL (L : List S34) : Bool := queueL L L [] && decide ((L.length : Int) ≤ 10)
theorem specQueueOk (L : List S34) (hL : L.length ≤ 1099511627776) (hx : ∀ y ∈ L, y.f0.size ≤ 1099511627776) : Ev (fun k => spec_QueueOk.f k L) (queueOkL L) := specQueueOk_l0 L hL hx L [] rfl
theorem implQueueOk (L : List S34) (hL : L.length ≤ 1099511627776) (hx : ∀ y ∈ L, y.f0.size ≤ 1099511627776) : Ev (fun k => impl_QueueOk.f k L) (queueOkL L) := by
  unfold impl_QueueOk.f queueOkL
  by_cases c : (L.length : Int) > 10
  · refine evPos c ?_
    have : ¬ (L.length : Int) ≤ 10 := by omega
    simp only [this, decide_false, Bool.and_false]
    exact evConst _
  · refine evNeg c ?_
    have : (L.length : Int) ≤ 10 := by omega
    simp only [this, decide_true, Bool.and_true]
    exact implQueueOk_l0 L hL hx L [] rfl
end Go.Proofs.Ytlalkldjpniakaa.B
/- A queue's functions, by the program and by the reference: Due, Put, Take; for lists of at most 2^20 items, none longer than 2^40. -/
namespace Go.Proofs.Ytlalkldjpniakaa.B
open Go.RowKit Go.Proofs.Ytlalkldjpniakaa.P Go.Proofs.YtlalkldjpniakaaW.PrintWords Go.Proofs.YtlalkldjpniakaaW.PrintLast Go.Proofs.YtlalkldjpniakaaW.PrintMore
set_option linter.unusedSimpArgs false
set_option maxHeartbeats 8000000
set_option maxRecDepth 100000
def small (x : S34) : Prop := x.f0.size ≤ 1099511627776 ∧ x.f3.length ≤ 1099511627776
theorem specItem (a : ByteArray) (n m : Int) (b : List Int) (hb : b.length ≤ 1099511627776) : spec_l13Item.f a n m b = some (a, n, m, b) := by
  unfold spec_l13Item.f
  simp only [Option.bind_some, List.length_nil, List.nil_append]
  rw [if_pos (by omega)]
theorem implItem (a : ByteArray) (n m : Int) (b : List Int) (hb : b.length ≤ 1099511627776) : impl_cloneItem.f a n m b = some (a, n, m, b) := by
  unfold impl_cloneItem.f slices_Clone_byte_byte.f
  rw [if_pos (by omega), Option.bind_some]
theorem specQueue_l0 : ∀ (rest pre : List S34), (∀ x ∈ rest, small x) → (pre ++ rest).length ≤ 2097152 → Ev (fun k => spec_l13Queue.l0 k (pre ++ rest) pre (pre.length : Nat)) (pre ++ rest)
  | [], pre, hs, hl => by
    refine evUp ?_
    simp only [spec_l13Queue.l0]
    refine evNeg (by simp) ?_
    rw [List.append_nil]
    exact evConst _
  | x :: rest, pre, hs, hl => by
    have hl2 : (pre ++ x :: rest).length = pre.length + (rest.length + 1) := by simp
    have ih := specQueue_l0 rest (pre ++ [x]) (fun y hy => hs y (List.mem_cons_of_mem _ hy)) (by simp; omega)
    have es : wrap64 ((pre.length : Int) + 1) = (((pre ++ [x]).length : Nat) : Int) := wrap_step pre x (by omega)
    rw [← snoc_app] at ih
    refine evUp ?_
    simp only [spec_l13Queue.l0, rdT34_mid, es, specItem x.f0 x.f1 x.f2 x.f3 (hs x List.mem_cons_self).2, Option.bind_some]
    exact evPos (by omega) (evPos (by omega) (evPos (by omega) ih))
theorem specQueue (l : List S34) (hs : ∀ x ∈ l, small x) (hl : l.length ≤ 2097152) : Ev (fun k => spec_l13Queue.f k l) l := specQueue_l0 l [] hs hl
theorem implItems_l0 (L : List S34) (n : Int) (hn : n = (L.length : Int)) (hl : L.length ≤ 2097152) (hs : ∀ x ∈ L, small x) : ∀ (rest pre : List S34), L = pre ++ rest → Ev (fun k => impl_cloneItems.l0 k pre L n (pre.length : Nat)) L
  | [], pre, e => by
    refine evUp ?_
    simp only [impl_cloneItems.l0]
    have : L = pre := by rw [e, List.append_nil]
    rw [this] at hn ⊢
    exact evNeg (by omega) (evConst _)
  | x :: rest, pre, e => by
    have hl2 : L.length = pre.length + (rest.length + 1) := by rw [e]; simp
    have ih := implItems_l0 L n hn hl hs rest (pre ++ [x]) (by rw [e]; simp)
    have es : wrap64 ((pre.length : Int) + 1) = (((pre ++ [x]).length : Nat) : Int) := wrap_step pre x (by omega)
    have e2 : rd_T34 L ((pre.length : Nat) : Int) = x := by rw [e]; exact rdT34_mid pre x rest
    refine evUp ?_
    simp only [impl_cloneItems.l0, e2, es, implItem x.f0 x.f1 x.f2 x.f3 (hs x (by rw [e]; simp)).2, Option.bind_some]
    exact evPos (by omega) (evPos (by omega) (evPos (by omega) (evPos (by omega) ih)))
theorem implItems (l : List S34) (hs : ∀ x ∈ l, small x) (hl : l.length ≤ 2097152) : Ev (fun k => impl_cloneItems.f k l) l := implItems_l0 l _ rfl hl hs l [] rfl
/-! ### Due -/
def dueL (n : Int) (l : List S34) : List S34 := l.filter fun x => !decide (x.f2 < n)
theorem specDue_l0 (n : Int) (L : List S34) (hl : L.length ≤ 2097152) (hs : ∀ x ∈ L, small x) : ∀ (rest pre acc : List S34), L = pre ++ rest → acc.length ≤ pre.length → Ev (fun k => spec_Due.l0 k L n acc (pre.length : Nat)) (acc ++ dueL n rest)
  | [], pre, acc, e, ha => by
    refine evUp ?_
    simp only [spec_Due.l0, dueL, List.filter_nil, List.append_nil]
    exact evNeg (by rw [e]; simp) (evConst _)
  | x :: rest, pre, acc, e, ha => by
    have hl2 : L.length = pre.length + (rest.length + 1) := by rw [e]; simp
    have es : wrap64 ((pre.length : Int) + 1) = (((pre ++ [x]).length : Nat) : Int) := wrap_step pre x (by omega)
    have e2 : rd_T34 L ((pre.length : Nat) : Int) = x := by rw [e]; exact rdT34_mid pre x rest
    refine evUp ?_
    simp only [spec_Due.l0, e2, es, specItem x.f0 x.f1 x.f2 x.f3 (hs x (by rw [e]; simp)).2, Option.bind_some]
    refine evPos (by omega) (evPos (by omega) ?_)
    by_cases c : x.f2 ≥ n
    · refine evPos c (evPos (by omega) ?_)
      have ih := specDue_l0 n L hl hs rest (pre ++ [x]) (acc ++ [x]) (by rw [e]; simp) (by simp; omega)
      have : acc ++ dueL n (x :: rest) = acc ++ [x] ++ dueL n rest := by
        unfold dueL
        rw [List.filter_cons_of_pos (by simp; omega)]; simp
      rw [this]; exact ih
    · refine evNeg c ?_
      have ih := specDue_l0 n L hl hs rest (pre ++ [x]) acc (by rw [e]; simp) (by simp; omega)
      have : dueL n (x :: rest) = dueL n rest := by
        unfold dueL
        rw [List.filter_cons_of_neg (by simp; omega)]
      rw [this]; exact ih
theorem specDue (n : Int) (l : List S34) (hs : ∀ x ∈ l, small x) (hl : l.length ≤ 2097152) : Ev (fun k => spec_Due.f k l n) (dueL n l) := specDue_l0 n l hl hs l [] [] rfl (Nat.le_refl _)
theorem implDue (n : Int) (l : List S34) (hs : ∀ x ∈ l, small x) (hl : l.length ≤ 2097152) : Ev (fun k => impl_Due.f k l n) (dueL n l) := by
  unfold impl_Due.f
  exact evBind (implItems l hs hl) (evConst _)
theorem dueL_due {n : Int} {l : List S34} {x : S34} (h : x ∈ dueL n l) : ¬ x.f2 < n := by
  have := (List.mem_filter.1 h).2
  simpa using this
/-! ### Put -/
noncomputable def putL (L : List S34) (a : ByteArray) (n m : Int) (b : List Int) : List S34 × Bool := if queueOkL (putI a n L ++ [⟨a, n, m, b⟩]) = true then (putI a n L ++ [⟨a, n, m, b⟩], true) else (L, false)
theorem putI_mem {a : ByteArray} {n : Int} {l : List S34} {x : S34} (h : x ∈ putI a n l) : x ∈ l := by
  unfold putI at h
  split at h
  · exact (List.mem_filter.1 h).1
  · exact h
theorem putI_len (a : ByteArray) (n : Int) (l : List S34) : (putI a n l).length ≤ l.length := by
  unfold putI
  split
  · exact List.length_filter_le _ _
  · exact Nat.le_refl _
theorem putL_small {L : List S34} {a : ByteArray} {n m : Int} {b : List Int} (hs : ∀ x ∈ L, small x) (hx : small ⟨a, n, m, b⟩) : ∀ x ∈ (putL L a n m b).1, small x := by
  intro x h
  unfold putL at h
  split at h
  · rcases List.mem_append.1 h with h | h
    · exact hs x (putI_mem h)
    · rw [List.mem_singleton.1 h]; exact hx
  · exact hs x h
theorem putL_len (L : List S34) (a : ByteArray) (n m : Int) (b : List Int) : (putL L a n m b).1.length ≤ L.length + 1 := by
  unfold putL
  have := putI_len a n L
  split
  · simp; omega
  · simp
theorem putI_keep {a : ByteArray} {n : Int} {x : S34} (l : List S34) (h : n ≤ 0 ∨ likeI a n x = false) : putI a n (x :: l) = x :: putI a n l := by
  unfold putI
  by_cases c : n > 0
  · rw [if_pos c, if_pos c, List.filter_cons_of_pos]
    rcases h with h | h
    · omega
    · rw [h]; rfl
  · rw [if_neg c, if_neg c]
theorem putI_skip {a : ByteArray} {n : Int} {x : S34} (l : List S34) (h0 : n > 0) (h : likeI a n x = true) : putI a n (x :: l) = putI a n l := by
  unfold putI
  rw [if_pos h0, if_pos h0, List.filter_cons_of_neg]
  rw [h]; decide
theorem specPut_l0 (a : ByteArray) (n m : Int) (b : List Int) (hx : small ⟨a, n, m, b⟩) (L : List S34) (hl : L.length ≤ 1048577) (hs : ∀ x ∈ L, small x) : ∀ (rest pre acc : List S34), L = pre ++ rest → acc.length ≤ pre.length → acc ++ putI a n rest = putI a n L →
    Ev (fun k => spec_Put.l0 k L acc (pre.length : Nat) a n m b) (putL L a n m b)
  | [], pre, acc, e, ha, hp => by
    have hp2 : acc = putI a n L := by rw [← hp]; unfold putI; split <;> simp
    have hpl := putI_len a n L
    refine evUp ?_
    simp only [spec_Put.l0, specItem a n m b hx.2, Option.bind_some]
    refine evNeg (by rw [e]; simp) (evPos (by rw [hp2]; omega) ?_)
    rw [hp2]
    have hsm : ∀ y ∈ putI a n L ++ [(⟨a, n, m, b⟩ : S34)], y.f0.size ≤ 1099511627776 := by
      intro y hy
      rcases List.mem_append.1 hy with h | h
      · exact (hs y (putI_mem h)).1
      · rw [List.mem_singleton.1 h]; exact hx.1
    refine evBind (specQueueOk _ (by simp; omega) hsm) ?_
    unfold putL
    by_cases c : queueOkL (putI a n L ++ [⟨a, n, m, b⟩]) = true
    · rw [if_pos c]; exact evPos c (evConst _)
    · rw [if_neg c]
      exact evNeg c (evBind (specQueue L hs (by omega)) (evConst _))
  | x :: rest, pre, acc, e, ha, hp => by
    have hl2 : L.length = pre.length + (rest.length + 1) := by rw [e]; simp
    have es : wrap64 ((pre.length : Int) + 1) = (((pre ++ [x]).length : Nat) : Int) := wrap_step pre x (by omega)
    have e2 : rd_T34 L ((pre.length : Nat) : Int) = x := by rw [e]; exact rdT34_mid pre x rest
    have ihk := fun h : n ≤ 0 ∨ likeI a n x = false => specPut_l0 a n m b hx L hl hs rest (pre ++ [x]) (acc ++ [x]) (by rw [e]; simp) (by simp; omega) (by rw [← hp, putI_keep rest h]; simp)
    refine evUp ?_
    simp only [spec_Put.l0, e2, es, specItem x.f0 x.f1 x.f2 x.f3 (hs x (by rw [e]; simp)).2, Option.bind_some]
    refine evPos (by omega) ?_
    by_cases c : n ≤ 0
    · exact evPos c (evPos (by omega) (evPos (by omega) (ihk (.inl c))))
    · refine evNeg c (evPos (by omega) ?_)
      by_cases c1 : x.f0.toList = a.toList
      · refine evPos c1 ?_
        by_cases c2 : x.f1 = n
        · refine evPos c2 ?_
          have hlk : likeI a n x = true := by unfold likeI; rw [beq_iff_eq.2 c1, beq_iff_eq.2 c2]; rfl
          exact specPut_l0 a n m b hx L hl hs rest (pre ++ [x]) acc (by rw [e]; simp) (by simp; omega) (by rw [← hp, putI_skip rest (by omega) hlk])
        · refine evNeg c2 (evPos (by omega) (ihk (.inr ?_)))
          unfold likeI; rw [beq_eq_false_iff_ne.2 c2, Bool.and_false]
      · refine evNeg c1 (evPos (by omega) (ihk (.inr ?_)))
        unfold likeI; rw [beq_eq_false_iff_ne.2 c1, Bool.false_and]
theorem specPut (a : ByteArray) (n m : Int) (b : List Int) (hx : small ⟨a, n, m, b⟩) (L : List S34) (hl : L.length ≤ 1048577) (hs : ∀ x ∈ L, small x) : Ev (fun k => spec_Put.f k L a n m b) (putL L a n m b) :=
  specPut_l0 a n m b hx L hl hs L [] [] rfl (Nat.le_refl _) rfl
theorem implPut (a : ByteArray) (n m : Int) (b : List Int) (hx : small ⟨a, n, m, b⟩) (L : List S34) (hl : L.length ≤ 1048577) (hs : ∀ x ∈ L, small x) : Ev (fun k => impl_Put.f k L a n m b) (putL L a n m b) := by
  have hpl := putI_len a n L
  have hsm : ∀ y ∈ putI a n L ++ [(⟨a, n, m, b⟩ : S34)], y.f0.size ≤ 1099511627776 := by
    intro y hy
    rcases List.mem_append.1 hy with h | h
    · exact (hs y (putI_mem h)).1
    · rw [List.mem_singleton.1 h]; exact hx.1
  unfold impl_Put.f
  simp only [implItem a n m b hx.2, Option.bind_some]
  refine evBind (implItems L hs (by omega)) (evPos (by omega) (evBind (implQueueOk _ (by simp; omega) hsm) ?_))
  unfold putL
  by_cases c : queueOkL (putI a n L ++ [⟨a, n, m, b⟩]) = true
  · rw [if_pos c, if_pos c]; exact evConst _
  · rw [if_neg c, if_neg c]; exact evConst _
/-! ### Take -/
def takeL (a : ByteArray) : List S34 → List S34 → ByteArray × Int × Int × List Int × List S34 × Bool
  | [], pre => (⟨#[]⟩, 0, 0, [], pre, false)
  | x :: rest, pre => if x.f0.toList = a.toList then (x.f0, x.f1, x.f2, x.f3, pre ++ rest, true) else takeL a rest (pre ++ [x])
theorem takeL_miss (a : ByteArray) : ∀ (l pre : List S34), (∀ x ∈ l, x.f0.toList ≠ a.toList) → takeL a l pre = (⟨#[]⟩, 0, 0, [], pre ++ l, false)
  | [], pre, _ => by simp [takeL]
  | x :: l, pre, h => by
    simp only [takeL]
    rw [if_neg (h x List.mem_cons_self), takeL_miss a l (pre ++ [x]) (fun y hy => h y (List.mem_cons_of_mem _ hy))]
    simp
theorem takeL_hit (a : ByteArray) (x : S34) (hx : x.f0.toList = a.toList) (r : List S34) : ∀ (p pre : List S34), (∀ y ∈ p, y.f0.toList ≠ a.toList) → takeL a (p ++ x :: r) pre = (x.f0, x.f1, x.f2, x.f3, pre ++ p ++ r, true)
  | [], pre, _ => by
    simp only [List.nil_append, takeL]
    rw [if_pos hx]; simp
  | y :: p, pre, h => by
    simp only [List.cons_append, takeL]
    rw [if_neg (h y List.mem_cons_self), takeL_hit a x hx r p (pre ++ [y]) (fun z hz => h z (List.mem_cons_of_mem _ hz))]
    simp
theorem specTake_l0 (a : ByteArray) (L : List S34) (hl : L.length ≤ 1048577) (hs : ∀ x ∈ L, small x) : ∀ (rest pre : List S34), L = pre ++ rest → Ev (fun k => spec_Take.l0 k L a (pre.length : Nat)) (takeL a rest pre)
  | [], pre, e => by
    refine evUp ?_
    simp only [spec_Take.l0, takeL]
    refine evNeg (by rw [e]; simp) ?_
    have : L = pre := by rw [e, List.append_nil]
    rw [this] at hs hl ⊢
    exact evBind (specQueue pre hs (by omega)) (evConst _)
  | x :: rest, pre, e => by
    have hl2 : L.length = pre.length + (rest.length + 1) := by rw [e]; simp
    have es : wrap64 ((pre.length : Int) + 1) = (((pre ++ [x]).length : Nat) : Int) := wrap_step pre x (by omega)
    have es2 : (((pre ++ [x]).length : Nat) : Int) = (pre.length : Int) + 1 := by simp
    have e2 : rd_T34 L ((pre.length : Nat) : Int) = x := by rw [e]; exact rdT34_mid pre x rest
    have e3 : L.take ((pre.length : Nat) : Int).toNat = pre := by rw [e]; simp
    have e4 : L.drop (((pre ++ [x]).length : Nat) : Int).toNat = rest := by
      rw [e, Int.toNat_natCast, show pre ++ x :: rest = (pre ++ [x]) ++ rest by simp]
      exact List.drop_left
    refine evUp ?_
    simp only [spec_Take.l0, e2, es, e3, e4, specItem x.f0 x.f1 x.f2 x.f3 (hs x (by rw [e]; simp)).2, Option.bind_some, takeL]
    refine evPos (by omega) (evPos (by omega) ?_)
    by_cases c : x.f0.toList = a.toList
    · rw [if_pos c]
      refine evPos c (evPos (by omega) (evBind (specQueue pre (fun y hy => hs y (by rw [e]; simp [hy])) (by omega)) (evPos (by omega) (evPos (by omega) (evBind (specQueue rest (fun y hy => hs y (by rw [e]; simp [hy])) (by omega)) (evPos (by omega) (evConst _)))))))
    · rw [if_neg c]
      exact evNeg c (specTake_l0 a L hl hs rest (pre ++ [x]) (by rw [e]; simp))
theorem specTake (a : ByteArray) (L : List S34) (hl : L.length ≤ 1048577) (hs : ∀ x ∈ L, small x) : Ev (fun k => spec_Take.f k L a) (takeL a L []) := specTake_l0 a L hl hs L [] rfl
/-- What is taken. -/
theorem takeL_cases (a : ByteArray) (L : List S34) : (takeL a L [] = (⟨#[]⟩, 0, 0, [], L, false) ∧ idxI (fun x => x.f0.toList == a.toList) L = -1 ∧ ∀ x ∈ L, x.f0.toList ≠ a.toList) ∨
    ∃ (p r : List S34) (x : S34), L = p ++ x :: r ∧ x.f0.toList = a.toList ∧ (∀ y ∈ p, y.f0.toList ≠ a.toList) ∧ idxI (fun x => x.f0.toList == a.toList) L = (p.length : Int) ∧ takeL a L [] = (x.f0, x.f1, x.f2, x.f3, p ++ r, true) := by
  rcases idxI_cases (fun x => x.f0.toList == a.toList) L with ⟨h, ha⟩ | ⟨k, hk, h, hp, ha⟩
  · have hm : ∀ x ∈ L, x.f0.toList ≠ a.toList := by
      intro x hx
      obtain ⟨j, hj, rfl⟩ := List.mem_iff_getElem.1 hx
      have := ha j hj
      rw [List.getD_eq_getElem?_getD, List.getElem?_eq_getElem hj] at this
      exact beq_eq_false_iff_ne.1 this
    exact .inl ⟨by rw [takeL_miss a L [] hm]; simp, h, hm⟩
  · refine .inr ⟨L.take k, L.drop (k + 1), L[k], ?_, ?_, ?_, ?_, ?_⟩
    · rw [← List.drop_eq_getElem_cons hk, List.take_append_drop]
    · rw [List.getD_eq_getElem?_getD, List.getElem?_eq_getElem hk] at hp
      exact beq_iff_eq.1 hp
    · intro y hy
      obtain ⟨j, hj, rfl⟩ := List.mem_iff_getElem.1 hy
      rw [List.length_take] at hj
      have := ha j (by omega)
      rw [List.getD_eq_getElem?_getD, List.getElem?_eq_getElem (by omega)] at this
      rw [List.getElem_take]
      exact beq_eq_false_iff_ne.1 this
    · rw [h, List.length_take]; congr 1; omega
    · have e : L = L.take k ++ L[k] :: L.drop (k + 1) := by rw [← List.drop_eq_getElem_cons hk, List.take_append_drop]
      have h2 := takeL_hit a L[k] (by rw [List.getD_eq_getElem?_getD, List.getElem?_eq_getElem hk] at hp; exact beq_iff_eq.1 hp) (L.drop (k + 1)) (L.take k) [] (fun y hy => by
        obtain ⟨j, hj, rfl⟩ := List.mem_iff_getElem.1 hy
        rw [List.length_take] at hj
        have := ha j (by omega)
        rw [List.getD_eq_getElem?_getD, List.getElem?_eq_getElem (by omega)] at this
        rw [List.getElem_take]
        exact beq_eq_false_iff_ne.1 this)
      rw [← e] at h2
      simpa using h2
theorem implTake (a : ByteArray) (L : List S34) (hl : L.length ≤ 1048577) (hs : ∀ x ∈ L, small x) : Ev (fun k => impl_Take.f k L a) (takeL a L []) := by
  unfold impl_Take.f
  refine evBind (implItems L hs (by omega)) ?_
  rcases takeL_cases a L with ⟨h, hi, _⟩ | ⟨p, r, x, e, hx, hp, hi, h⟩
  · rw [h, hi, if_pos (by omega)]
    exact evConst _
  · have e2 : rd_T34 L ((p.length : Nat) : Int) = x := by rw [e]; exact rdT34_mid p x r
    have hl2 : L.length = p.length + (r.length + 1) := by rw [e]; simp
    have e5 : L.eraseIdx p.length = p ++ r := by
      rw [List.eraseIdx_eq_take_drop_succ, e]
      simp
    rw [h, hi, if_neg (by omega), Int.toNat_natCast, if_pos (by omega), e2, implItem x.f0 x.f1 x.f2 x.f3 (hs x (by rw [e]; simp)).2, Option.bind_some, e5]
    exact evConst _
end Go.Proofs.Ytlalkldjpniakaa.B
/- Play, by the program and by the reference: one queue, one time, one end; for bytes of at most 2^20. -/
namespace Go.Proofs.Ytlalkldjpniakaa.B
open Go.RowKit Go.Proofs.Ytlalkldjpniakaa.P Go.Proofs.YtlalkldjpniakaaW.PrintWords Go.Proofs.YtlalkldjpniakaaW.PrintLast Go.Proofs.YtlalkldjpniakaaW.PrintMore
/-- A queue that is small enough for the laws. -/
def qOk (L : List S34) : Prop := L.length ≤ 1048576 ∧ ∀ x ∈ L, x.f0.size ≤ 1048576 ∧ x.f3.length ≤ 1048576
theorem qOk.small {L : List S34} (h : qOk L) : ∀ x ∈ L, small x := fun x hx => by have := h.2 x hx; exact ⟨by omega, by omega⟩
theorem qOk.put {L : List S34} (h : qOk L) (a : ByteArray) (n m : Int) (b : List Int) (ha : a.size ≤ 1048576) (hb : b.length ≤ 1048576) : qOk (putL L a n m b).1 := by
  unfold putL
  split
  · rename_i c
    unfold queueOkL at c
    have := of_decide_eq_true (Bool.and_eq_true_iff.1 c).2
    refine ⟨?_, fun x hx => ?_⟩
    · show (putI a n L ++ [(⟨a, n, m, b⟩ : S34)]).length ≤ _
      omega
    · rcases List.mem_append.1 hx with hx | hx
      · exact h.2 x (putI_mem hx)
      · rw [List.mem_singleton.1 hx]; exact ⟨ha, hb⟩
  · exact h
theorem qOk.due {L : List S34} (h : qOk L) (n : Int) : qOk (dueL n L) :=
  ⟨Nat.le_trans (List.length_filter_le _ _) h.1, fun x hx => h.2 x (List.mem_filter.1 hx).1⟩
theorem qOk.take {L : List S34} (h : qOk L) (a : ByteArray) : qOk (takeL a L []).2.2.2.2.1 := by
  rcases takeL_cases a L with ⟨e, _, _⟩ | ⟨p, q, x, eL, _, _, _, e⟩
  · rw [e]; exact h
  · rw [e]
    have hlen : L.length = p.length + (q.length + 1) := by rw [eL]; simp
    have := h.1
    refine ⟨by show (p ++ q).length ≤ _; simp; omega, fun y hy => h.2 y ?_⟩
    rw [eL]
    rcases List.mem_append.1 hy with h | h <;> simp [h]
theorem play_l0 (l : List Int) (hl : l.length ≤ 1048576) (hb : ∀ x ∈ l, 0 ≤ x ∧ x < 256) : ∀ (n : Nat) (Q : List S34) (t a : Int), qOk Q → ((l.length : Int) - a).toNat < n →
    ∃ r, Ev (fun k => spec_Play.l0 k l Q t a) r ∧ Ev (fun k => impl_Play.l0 k l Q t a) r ∧ qOk r.1
  | 0, _, _, _, _, h => absurd h (Nat.not_lt_zero _)
  | n + 1, Q, t, a, hQ, hn => by
    obtain ⟨⟨r1, r2, r3, r4, r5, r6, r7⟩, hS, hI, hg⟩ := lineOf l a hl hb
    rcases hg with e | ⟨e7, ha0, ha6, h6, h2, h5, _, _⟩
    · simp only [Prod.mk.injEq] at e
      obtain ⟨_, _, _, _, _, _, rfl⟩ := e
      refine ⟨(Q, t, a), evUp ?_, evUp ?_, hQ⟩
      · simp only [spec_Play.l0]
        exact evBind hS (evNeg Bool.false_ne_true (evConst _))
      · simp only [impl_Play.l0]
        exact evBind hI (evNeg Bool.false_ne_true (evConst _))
    · simp only at e7 ha6 h6 h2 h5
      subst e7
      have hlt : ((l.length : Int) - r6).toNat < n := by omega
      have hx : small ⟨r2, r3, r4, r5⟩ := ⟨by show r2.size ≤ _; omega, by show r5.length ≤ _; omega⟩
      by_cases c1 : r1 = 1
      · obtain ⟨r, i1, i2, i3⟩ := play_l0 l hl hb n (putL Q r2 r3 r4 r5).1 t r6 (hQ.put r2 r3 r4 r5 (by omega) (by omega)) hlt
        refine ⟨r, evUp ?_, evUp ?_, i3⟩
        · simp only [spec_Play.l0]
          refine evBind hS (evPos rfl (evBind (a := ((putL Q r2 r3 r4 r5).1, t)) ?_ i1))
          unfold spec_l14Play.f spec_l14Item.f
          refine evPos c1 (evBind (a := (r2, r3, r4, r5)) ?_ (evBind (specPut r2 r3 r4 r5 hx Q (by have := hQ.1; omega) hQ.small) (evConst _)))
          show Ev (fun _ => if ([] : List Int).length + r5.length < 140737488355328 then some (r2, r3, r4, ([] : List Int) ++ r5) else none) (r2, r3, r4, r5)
          exact evPos (by rw [List.length_nil]; omega) (evConst _)
        · simp only [impl_Play.l0]
          refine evBind hI (evPos rfl (evPos c1 (evBind (a := (r2, r3, r4, r5)) ?_ (evBind (implPut r2 r3 r4 r5 hx Q (by have := hQ.1; omega) hQ.small) i2))))
          have eC : slices_Clone_byte_byte.f r5 = some r5 := by unfold slices_Clone_byte_byte.f; rw [if_pos (by omega)]
          show Ev (fun _ => (slices_Clone_byte_byte.f r5).bind fun t => some (r2, r3, r4, t)) (r2, r3, r4, r5)
          rw [eC]
          exact evConst _
      by_cases c2 : r1 = 2
      · obtain ⟨r, i1, i2, i3⟩ := play_l0 l hl hb n (takeL r2 Q []).2.2.2.2.1 t r6 (hQ.take r2) hlt
        refine ⟨r, evUp ?_, evUp ?_, i3⟩
        · simp only [spec_Play.l0]
          refine evBind hS (evPos rfl (evBind (a := ((takeL r2 Q []).2.2.2.2.1, t)) ?_ i1))
          unfold spec_l14Play.f
          exact evNeg c1 (evPos c2 (evBind (specTake r2 Q (by have := hQ.1; omega) hQ.small) (evConst _)))
        · simp only [impl_Play.l0]
          exact evBind hI (evPos rfl (evNeg c1 (evPos c2 (evBind (implTake r2 Q (by have := hQ.1; omega) hQ.small) i2))))
      by_cases c3 : r1 = 3
      · by_cases c4 : r4 ≥ t
        · obtain ⟨r, i1, i2, i3⟩ := play_l0 l hl hb n (dueL r4 Q) r4 r6 (hQ.due r4) hlt
          refine ⟨r, evUp ?_, evUp ?_, i3⟩
          · simp only [spec_Play.l0]
            refine evBind hS (evPos rfl (evBind (a := (dueL r4 Q, r4)) ?_ i1))
            unfold spec_l14Play.f
            exact evNeg c1 (evNeg c2 (evPos c3 (evPos c4 (evBind (specDue r4 Q hQ.small (by have := hQ.1; omega)) (evConst _)))))
          · simp only [impl_Play.l0]
            exact evBind hI (evPos rfl (evNeg c1 (evNeg c2 (evPos c3 (evPos c4 (evBind (implDue r4 Q hQ.small (by have := hQ.1; omega)) i2))))))
        · obtain ⟨r, i1, i2, i3⟩ := play_l0 l hl hb n Q t r6 hQ hlt
          refine ⟨r, evUp ?_, evUp ?_, i3⟩
          · simp only [spec_Play.l0]
            refine evBind hS (evPos rfl (evBind (a := (Q, t)) ?_ i1))
            unfold spec_l14Play.f
            exact evNeg c1 (evNeg c2 (evPos c3 (evNeg c4 (evConst _))))
          · simp only [impl_Play.l0]
            exact evBind hI (evPos rfl (evNeg c1 (evNeg c2 (evPos c3 (evNeg c4 i2)))))
      · obtain ⟨r, i1, i2, i3⟩ := play_l0 l hl hb n Q t r6 hQ hlt
        refine ⟨r, evUp ?_, evUp ?_, i3⟩
        · simp only [spec_Play.l0]
          refine evBind hS (evPos rfl (evBind (a := (Q, t)) ?_ i1))
          unfold spec_l14Play.f
          exact evNeg c1 (evNeg c2 (evNeg c3 (evConst _)))
        · simp only [impl_Play.l0]
          exact evBind hI (evPos rfl (evNeg c1 (evNeg c2 (evNeg c3 i2))))
theorem play (l : List Int) (hl : l.length ≤ 1048576) (hb : ∀ x ∈ l, 0 ≤ x ∧ x < 256) : ∃ r, Ev (fun k => spec_Play.f k l) r ∧ Ev (fun k => impl_Play.f k l) r ∧ qOk r.1 :=
  play_l0 l hl hb (l.length + 1) [] 0 0 ⟨Nat.zero_le _, fun x hx => absurd hx List.not_mem_nil⟩ (by omega)
end Go.Proofs.Ytlalkldjpniakaa.B
/- PostOk, by the program and by the reference: one answer. -/
namespace Go.Proofs.Ytlalkldjpniakaa.B
open Go.RowKit Go.Proofs.Ytlalkldjpniakaa.P Go.Proofs.YtlalkldjpniakaaW.PrintWords Go.Proofs.YtlalkldjpniakaaW.PrintLast Go.Proofs.YtlalkldjpniakaaW.PrintMore
def like1 (x y : S34) : Bool := decide (x.f0.toList = y.f0.toList) && (decide (x.f1 = y.f1) && (decide (x.f2 = y.f2) && sameL x.f3 y.f3))
def likeQ : List S34 → List S34 → Bool
  | x :: l, y :: m => like1 x y && likeQ l m
  | [], [] => true
  | _, _ => false
theorem sameI1_like (x y : S34) : sameI1 x y = some (like1 x y) := by
  unfold sameI1 like1
  rw [implSame]
  split <;> simp [*]
  split <;> simp [*]
  split <;> simp [*]
theorem sameIs_like : ∀ (l m : List S34), l.length = m.length → sameIs l m = some (likeQ l m)
  | [], [], _ => rfl
  | x :: l, y :: m, h => by
    simp only [sameIs, likeQ, sameI1_like, Option.bind_some, sameIs_like l m (by simpa using h)]
    cases like1 x y <;> rfl
theorem likeQ_len : ∀ (l m : List S34), l.length ≠ m.length → likeQ l m = false
  | [], [], h => absurd rfl h
  | [], _ :: _, _ => rfl
  | _ :: _, [], _ => rfl
  | x :: l, y :: m, h => by simp only [likeQ, likeQ_len l m (by simpa using h), Bool.and_false]
theorem implSameItems (l m : List S34) : impl_sameItems.f l m = some (likeQ l m) := by
  unfold impl_sameItems.f
  by_cases h : l.length = m.length
  · rw [if_pos (by omega), sameIs_like l m h]
  · rw [if_neg (by omega), likeQ_len l m h]
theorem specQueues_l0 : ∀ (l m p q : List S34), p.length = q.length → p.length + l.length ≤ 1099511627776 → Ev (fun k => spec_l15Queues.l0 k (p ++ l) (q ++ m) (p.length : Int)) (likeQ l m)
  | x :: l, y :: m, p, q, h, hl => by
    have hq : (p.length : Int) < ((q ++ y :: m).length : Int) := by rw [h]; exact lt_mid q y m
    refine evUp ?_
    simp only [spec_l15Queues.l0]
    refine evPos (lt_mid p x l) ?_
    rw [decide_eq_true hq]
    refine evUp ?_
    simp only [spec_l15Queues.j1]
    have ry : rd_T34 (q ++ y :: m) (p.length : Int) = y := by rw [h]; exact rdT34_mid q y m
    rw [rdT34_mid, ry, wrap_step p x (by simp at hl; omega)]
    refine evPos trivial (evPos (pre_nonneg p) (evPos (lt_mid p x l) (evPos hq ?_)))
    simp only [likeQ, like1]
    by_cases c1 : x.f0.toList = y.f0.toList
    · by_cases c2 : x.f1 = y.f1
      · by_cases c3 : x.f2 = y.f2
        · refine evPos c1 (evPos c2 (evPos c3 ?_))
          rw [specSame, decide_eq_true c1, decide_eq_true c2, decide_eq_true c3, Bool.true_and, Bool.true_and, Bool.true_and]
          refine evBind (a := sameL x.f3 y.f3) (evConst _) ?_
          cases sameL x.f3 y.f3
          · exact evNeg Bool.false_ne_true (evConst _)
          · refine evPos rfl ?_
            have ih := specQueues_l0 l m (p ++ [x]) (q ++ [y]) (by simp [h]) (by simp at hl ⊢; omega)
            rw [List.append_assoc, List.append_assoc] at ih
            exact ih
        · rw [decide_eq_false c3, Bool.false_and, Bool.and_false, Bool.and_false, Bool.false_and]
          exact evPos c1 (evPos c2 (evNeg c3 (evConst _)))
      · rw [decide_eq_false c2, Bool.false_and, Bool.and_false, Bool.false_and]
        exact evPos c1 (evNeg c2 (evConst _))
    · rw [decide_eq_false c1, Bool.false_and, Bool.false_and]
      exact evNeg c1 (evConst _)
  | [], m, p, q, h, hl => by
    refine evUp ?_
    simp only [spec_l15Queues.l0]
    refine evNeg (nlt_end p) (evUp ?_)
    simp only [spec_l15Queues.j1]
    refine evNeg Bool.false_ne_true ?_
    have e : (((p ++ ([] : List S34)).length : Int) == ((q ++ m).length : Int)) = likeQ [] m := by
      cases m with
      | nil => simp [likeQ, h]
      | cons y m => simp [likeQ, h]; omega
    rw [e]
    exact evConst _
  | x :: l, [], p, q, h, hl => by
    have hq : ¬ (p.length : Int) < ((q ++ ([] : List S34)).length : Int) := by simp [h]
    refine evUp ?_
    simp only [spec_l15Queues.l0]
    refine evPos (lt_mid p x l) ?_
    rw [decide_eq_false hq]
    refine evUp ?_
    simp only [spec_l15Queues.j1]
    refine evNeg Bool.false_ne_true ?_
    have e : (((p ++ x :: l).length : Int) == ((q ++ ([] : List S34)).length : Int)) = likeQ (x :: l) [] := by
      simp [likeQ, h]; omega
    rw [e]
    exact evConst _
theorem specQueues (l m : List S34) (hl : l.length ≤ 1099511627776) : Ev (fun k => spec_l15Queues.f k l m) (likeQ l m) := specQueues_l0 l m [] [] rfl (by simpa using hl)
theorem postOk (Q : List S34) (t : Int) (l : List Int) (a : Int) (hQ : qOk Q) (hb : ∀ x ∈ l, 0 ≤ x ∧ x < 256) : ∃ b, Ev (fun k => spec_PostOk.f k Q t l a) b ∧ Ev (fun k => impl_PostOk.f k Q t l a) b := by
  have hx : ∀ y ∈ Q, y.f0.size ≤ 1099511627776 := fun y hy => by have := (hQ.2 y hy).1; omega
  have e1 := specQueueOk Q (by have := hQ.1; omega) hx
  have e2 := implQueueOk Q (by have := hQ.1; omega) hx
  unfold spec_PostOk.f impl_PostOk.f
  simp only [specIn, implIn, Option.bind_some]
  have out1 : Ev (fun k => spec_PostOk.j0 k true Q t l a) false := evUp (by simp only [spec_PostOk.j0]; exact evPos trivial (evConst _))
  have out2 : Ev (fun k => impl_PostOk.j0 k true Q t l a) false := evUp (by simp only [impl_PostOk.j0]; exact evPos trivial (evConst _))
  by_cases c1 : queueOkL Q = true
  · by_cases c2 : 0 ≤ t ∧ t ≤ 100000
    · by_cases c3 : (l.length : Int) > 12000
      · exact ⟨false, evBind e1 (evPos c1 (evPos (decide_eq_true c2) (evPos c3 out1))), evBind e2 (evPos c1 (evPos (decide_eq_true c2) (evPos c3 out2)))⟩
      · by_cases c4 : 0 ≤ a ∧ a ≤ (l.length : Int)
        · obtain ⟨⟨R, u, z⟩, p1, p2, p3⟩ := play l (by omega) hb
          have hr : R.length ≤ 1099511627776 := by have := p3.1; simp only at this; omega
          by_cases c5 : z = (l.length : Int)
          · by_cases c6 : u = t
            · refine ⟨likeQ R Q, evBind e1 (evPos c1 (evPos (decide_eq_true c2) (evNeg c3 ?_))), evBind e2 (evPos c1 (evPos (decide_eq_true c2) (evNeg c3 ?_)))⟩
              · rw [decide_eq_true c4]
                refine evUp ?_
                simp only [spec_PostOk.j0]
                exact evNeg (by decide) (evBind p1 (evPos c5 (evPos c6 (evBind (specQueues R Q hr) (evConst _)))))
              · rw [decide_eq_true c4]
                refine evUp ?_
                simp only [impl_PostOk.j0]
                refine evNeg (by decide) (evBind p2 (evPos c5 (evPos c6 ?_)))
                rw [implSameItems]
                exact evConst _
            · refine ⟨false, evBind e1 (evPos c1 (evPos (decide_eq_true c2) (evNeg c3 ?_))), evBind e2 (evPos c1 (evPos (decide_eq_true c2) (evNeg c3 ?_)))⟩
              · rw [decide_eq_true c4]
                refine evUp ?_
                simp only [spec_PostOk.j0]
                exact evNeg (by decide) (evBind p1 (evPos c5 (evNeg c6 (evConst _))))
              · rw [decide_eq_true c4]
                refine evUp ?_
                simp only [impl_PostOk.j0]
                exact evNeg (by decide) (evBind p2 (evPos c5 (evNeg c6 (evConst _))))
          · refine ⟨false, evBind e1 (evPos c1 (evPos (decide_eq_true c2) (evNeg c3 ?_))), evBind e2 (evPos c1 (evPos (decide_eq_true c2) (evNeg c3 ?_)))⟩
            · rw [decide_eq_true c4]
              refine evUp ?_
              simp only [spec_PostOk.j0]
              exact evNeg (by decide) (evBind p1 (evNeg c5 (evConst _)))
            · rw [decide_eq_true c4]
              refine evUp ?_
              simp only [impl_PostOk.j0]
              exact evNeg (by decide) (evBind p2 (evNeg c5 (evConst _)))
        · have o1 : Ev (fun k => spec_PostOk.j0 k (!decide (0 ≤ a ∧ a ≤ (l.length : Int))) Q t l a) false := by rw [decide_eq_false c4]; exact out1
          have o2 : Ev (fun k => impl_PostOk.j0 k (!decide (0 ≤ a ∧ a ≤ (l.length : Int))) Q t l a) false := by rw [decide_eq_false c4]; exact out2
          exact ⟨false, evBind e1 (evPos c1 (evPos (decide_eq_true c2) (evNeg c3 o1))), evBind e2 (evPos c1 (evPos (decide_eq_true c2) (evNeg c3 o2)))⟩
    · have n2 : ¬ decide (0 ≤ t ∧ t ≤ 100000) = true := by rw [decide_eq_false c2]; exact Bool.false_ne_true
      exact ⟨false, evBind e1 (evPos c1 (evNeg n2 out1)), evBind e2 (evPos c1 (evNeg n2 out2))⟩
  · exact ⟨false, evBind e1 (evNeg c1 out1), evBind e2 (evNeg c1 out2)⟩
end Go.Proofs.Ytlalkldjpniakaa.B
