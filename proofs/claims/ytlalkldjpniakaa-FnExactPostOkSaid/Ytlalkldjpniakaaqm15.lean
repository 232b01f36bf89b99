import Derived.Test.Ytlalkldjpniakaaqm12
namespace Go.Proofs.Ytlalkldjpniakaa.P
open Go.RowKit Go.Proofs.YtlalkldjpniakaaW.PrintWords Go.Proofs.YtlalkldjpniakaaW.PrintLast Go.Proofs.YtlalkldjpniakaaW.PrintMore
attribute [local go_sem] zcm zcn zdd zde zbw zbx zco zcp   -- for this text's walks alone
set_option linter.unusedVariables false
set_option linter.unusedSimpArgs false
set_option maxHeartbeats 8000000
set_option maxRecDepth 100000

def impl_turned.l0 : Nat → List Int → List Int → List Int → Int → Int → Option (List Int)
 | 0, _, _, _, _, _ => none
 | k + 1, x0, x3, x9, x10, x11 => if x11 < x10 then (if 0 ≤ x11 then (if x11 < (x9.length : Int) then (if 0 ≤ (wrap64 ((wrap64 ((x0.length : Int) - 1)) - x11)) then (if (wrap64 ((wrap64 ((x0.length : Int) - 1)) - x11)) < (x3.length : Int) then (impl_turned.l0 k x0 (x3.set ((wrap64 ((wrap64 ((x0.length : Int) - 1)) - x11)) : Int).toNat (rd x9 x11)) x9 x10 (wrap64 (x11 + 1))) else (none)) else (none)) else (none)) else (none)) else (some x3)
def impl_turned.f (k : Nat) (l0 : List Int) : Option (List Int) := if 0 ≤ (l0.length : Int) then (if ((l0.length : Int) : Int).toNat ≤ 281474976710656 then (impl_turned.l0 k l0 (List.replicate ((l0.length : Int) : Int).toNat 0) l0 (l0.length : Int) 0) else (none)) else (none)
theorem impl_turned.mono_l : ∀ k, (∀ y0 y1 y2 y3 y4, LeO (impl_turned.l0 k y0 y1 y2 y3 y4) (impl_turned.l0 (k + 1) y0 y1 y2 y3 y4))
 | 0 => fun _ _ _ _ _ r h => by simp [impl_turned.l0] at h
 | k + 1 => by
  have ih0 := impl_turned.mono_l k
  ·intro y0 y1 y2 y3 y4
   unfold impl_turned.l0
   exact mt
theorem impl_turned.mono : ∀ a0 k, LeO (impl_turned.f k a0) (impl_turned.f (k + 1) a0) := by
 intro a0 k
 have ih0 := impl_turned.mono_l k
 unfold impl_turned.f
 exact mt
theorem impl_turned.calls (k : Nat) (A0 : Option Addr) (c0 : Nat) (l0 : List Int) (r : List Int) (w : World) (hr0 : Kd.C (Kd.int .u8) w A0 l0.length l0) (hc0 : l0.length ≤ c0) (h : impl_turned.f k l0 = some r) :
  Calls Try.prog 139 #[.slice A0 l0.length c0] w fun e w' => ∃ v0_ : Value, e = .returned (v0_) ∧ Kd.R (Kd.int .u8) 5 w' w.heap.size (fun _ => True) v0_ r ∧ Below w.heap.size w w' := by
 have HR0 := Aside0.mk hr0
 have HC0 := Aside0.mk hc0
 clear hr0 hc0
 have HB := Aside0.mk (zbk w.heap.size w)
 have H : (if 0 ≤ (l0.length : Int) then (if ((l0.length : Int) : Int).toNat ≤ 281474976710656 then (impl_turned.l0 k l0 (List.replicate ((l0.length : Int) : Int).toNat 0) l0 (l0.length : Int) 0) else (none)) else (none)) = some r := h
 clear h
 by_cases c2 : 0 ≤ (l0.length : Int)
 ·rw [if_pos c2] at H
  have c2b0 := zbd c2
  have c2b1 := zae c2
  clear c2
  by_cases c3 : ((l0.length : Int) : Int).toNat ≤ 281474976710656
  ·rw [if_pos c3] at H
   have c3b0 := zbd c3
   have c3b1 := zae c3
   clear c3
   obtain ⟨y537, hy537⟩ : ∃ y_ : List Int, y_ = (List.replicate ((l0.length : Int) : Int).toNat 0) := ⟨_, rfl⟩
   replace H : (impl_turned.l0 k l0 y537 l0 (l0.length : Int) 0) = some r := jrw hy537 H
   have Ny537 := Aside0.mk hy537
   clear hy537
   have H' := Aside0.mk H
   clear H
   go_enter Try.func139, Try.ntmps139
   go_wp2_with (first | (refine jgd 8 ?_; refine Kd.R_make (Kd.int .u8) _ 5 rfl (N := 8) rfl 29 _ _ rfl (l0.length : Int) rfl rfl Try.underlying29 (.int .u8 0) 1 info5 rfl (by decide) (by omega) 0 (ok := fun _ => True) (okp := fun _ => True) rfl (fun _ hk => hk) trivial (zac jab) (zeb (Nat.mul_le_mul_right _ (zac jab : (l0.length : Int).toNat ≤ 281474976710656)) (by omega)) (zbk _ _) (zaf _) ?_; intro v538 w4 ho5 hb hg_ hnew_; have xb_ := below_ofs bq hb; clear hg_ hnew_; (first | rw [← Ny537.out] at ho5 | (simp only [Int.reduceToNat] at ho5; rw [← Ny537.out] at ho5)); have n_ := jA2 (zbc ho5 (zak xb_)) (zab xb_ hb); clear HB; obtain ⟨HO539, HB⟩ := n_; clear xb_ hb ho5))
   go_loopg [11] k (fun kq v11 w' => ∃ (x3_1 : List Int) (x11_1 : Int), v11 = .int .i64 x11_1 ∧ Aside0 (impl_turned.l0 kq l0 x3_1 l0 (l0.length : Int) x11_1 = some r) ∧ Aside0 (kq ≤ k) ∧ Aside0 (Kd.R (Kd.int .u8) 5 w' w.heap.size (fun _ => True) v538 x3_1) ∧ Aside0 (Below w.heap.size w w'))
   case atStart => exact ⟨(y537), (0), jer, H', ⟨zaf _⟩, ⟨pR HO539.out⟩, ⟨bq⟩⟩
   case round =>
    clear H'
    try clear c1
    try clear c2
    try clear c2b0
    try clear c2b1
    try clear p2
    try clear c3
    try clear c3b0
    try clear c3b1
    obtain ⟨x3_1, x11_1, rfl, HA, HK1, HO_3, HB⟩ := hrel
    cases gk with
    | zero => exact absurd HA.out (by simp [impl_turned.l0])
    | succ k1 =>
     have H := HA.out
     clear HA
     simp only [impl_turned.l0] at H
     by_cases c6 : x11_1 < (l0.length : Int)
     ·rw [if_pos c6] at H
      have c6b0 := zae c6
      clear c6
      by_cases c7 : 0 ≤ x11_1
      ·rw [if_pos c7] at H
       have c7b0 := zae c7
       clear c7
       by_cases c8 : x11_1 < (l0.length : Int)
       ·rw [if_pos c8] at H
        have c8b0 := zae c8
        clear c8
        obtain ⟨ji9, hji9⟩ : ∃ j_ : Int, (wrap64 ((wrap64 ((l0.length : Int) - 1)) - x11_1)) = j_ := ⟨_, rfl⟩
        replace H : (if 0 ≤ (ji9) then (if (ji9) < (x3_1.length : Int) then (impl_turned.l0 k1 l0 (x3_1.set ((ji9) : Int).toNat (rd l0 x11_1)) l0 (l0.length : Int) (wrap64 (x11_1 + 1))) else (none)) else (none)) = some r := by first | (rw [hji9] at H; exact H) | (simp only [hji9] at H ⊢; exact H)
        have hji9w : (IntKind.i64.wrap ((wrap64 ((l0.length : Int) - 1)) - x11_1)) = ji9 := (i64_w _).trans hji9
        by_cases c10 : 0 ≤ (ji9)
        ·rw [if_pos c10] at H
         have c10b0 := zae c10
         clear c10
         by_cases c11 : (ji9) < (x3_1.length : Int)
         ·rw [if_pos c11] at H
          have c11b0 := zae c11
          clear c11
          obtain ⟨y541, hy541⟩ : ∃ y_ : List Int, y_ = (x3_1.set ((ji9) : Int).toNat (rd l0 x11_1)) := ⟨_, rfl⟩
          replace H : (impl_turned.l0 k1 l0 y541 l0 (l0.length : Int) (wrap64 (x11_1 + 1))) = some r := jrw hy541 H
          have Ny541 := Aside0.mk hy541
          clear hy541
          have H' := Aside0.mk H
          clear H
          have p540 : 0 ≤ (x11_1 : Int) := zac jab
          have q540 : x11_1 < (l0.length : Int) := zac jab
          obtain ⟨ad540, e540, hx540_0⟩ := zek HR0.out x11_1 p540 q540
          cases e540
          replace hx540_0 := jcB HB.out hx540_0
          replace p540 := zbd p540
          replace q540 := zbd q540
          have p12 : 0 ≤ ((ji9) : Int) := zac jab
          have q12 : ((ji9) : Int) < ((x3_1.length : Int) : Int) := zac jab
          obtain ⟨go12, co12, eo12, gb12, gl12, cl12, HG12⟩ := Kd.R_form HO_3.out (by omega)
          (first | cases eo12 | (injection eo12 with ea_ en_ ec_; (first | subst ea_ | (injection ea_ with ea_; subst ea_)); subst ec_; clear en_))
          have GB12 := Aside0.mk gb12
          have GG12 := Aside0.mk HG12
          clear gb12 gl12 HG12
          obtain ⟨hx12_0, hf12_0⟩ := Kd.R_celln 0 HO_3.out ((ji9) : Int) p12 q12
          replace p12 := zbd p12
          replace q12 := zbd q12
          have HP13 := Kd.R_putg HO_3.out ((ji9) : Int) (rd l0 x11_1)
          go_wp2_with (first | ((with_reducible refine zdp (t := 5) (p := 23) rfl ?_); refine store_event (t := 5) (p := 23) (v := ?vo_w14) (w1 := (wr.setCell ⟨go12, ((ji9) : Int).toNat, none⟩ (.int .u8 (rd l0 x11_1)))) ?hg ?ho ?hn ?hr ?_; (case ho => rfl); (case hg => rfl); (case hn => rfl); (case hr => first | (go_simp; done) | (go_simp; rfl)); intro w14 hw; have hg : wr.grownBy w14 (some go12) := (by rw [hw]; exact HP13.2); have hp_ : Kd.R (Kd.int .u8) 5 w14 w.heap.size (fun _ => True) (.slice (some ⟨go12, 0, none⟩) x3_1.length co12) y541 := (by rw [hw, Ny541.out]; exact HP13.1); clear HP13; have n_ := jA2 (hp_) (by rw [hw]; exact below_set (HB.out) GB12.out : Below w.heap.size w w14); clear HO_3 HB; obtain ⟨HO_3, HB⟩ := n_; clear hg hw hp_))
          go_roundg k1
          case measure => have := HK1.out; omega
          case rel => exact ⟨(y541), (wrap64 (x11_1 + 1)), jer, H', ⟨by have := HK1.out; omega⟩, ⟨pR HO_3.out⟩, ⟨bq⟩⟩
         ·rw [if_neg c11] at H
          exact absurd H (by simp)
        ·rw [if_neg c10] at H
         exact absurd H (by simp)
       ·rw [if_neg c8] at H
        exact absurd H (by simp)
      ·rw [if_neg c7] at H
       exact absurd H (by simp)
     ·rw [if_neg c6] at H
      have c6b0 := zas c6
      clear c6
      obtain rfl := Option.some.inj H
      go_wp2
      go_ret
      exact ⟨_, jex, by (with_reducible repeat (first | apply zbo | apply zbp | apply zbs)); exact HO_3.out, bq⟩
  ·rw [if_neg c3] at H
   exact absurd H (by simp)
 ·rw [if_neg c2] at H
  exact absurd H (by simp)
mutual
def impl_Little.j0 : Nat → Int → Int → Bool → Option (List Int)
 | 0, _, _, _ => none
 | k + 1, x0, x1, x12 => if x12 = true then (some ([] : List Int)) else (impl_Little.l0 k x0 (([] : List Int)) x1 0)
def impl_Little.l0 : Nat → Int → List Int → Int → Int → Option (List Int)
 | 0, _, _, _, _ => none
 | k + 1, x0, x5, x14, x15 => if x15 < x14 then (if x5.length < 140737488355328 then (impl_Little.l0 k (x0 / 256) (x5 ++ [(x0) % 256]) x14 (wrap64 (x15 + 1))) else (none)) else (some x5)
end
def impl_Little.f (k : Nat) (a0 : Int) (a1 : Int) : Option (List Int) := if a0 < 0 then (impl_Little.j0 k a0 a1 true) else ((impl_in.f a1 1 8).bind fun t542 => (impl_Little.j0 k a0 a1 (!t542)))
theorem impl_Little.mono_l : ∀ k, (∀ y0 y1 y2, LeO (impl_Little.j0 k y0 y1 y2) (impl_Little.j0 (k + 1) y0 y1 y2)) ∧ (∀ y0 y1 y2 y3, LeO (impl_Little.l0 k y0 y1 y2 y3) (impl_Little.l0 (k + 1) y0 y1 y2 y3))
 | 0 => ⟨fun _ _ _ r h => by simp [impl_Little.j0] at h, fun _ _ _ _ r h => by simp [impl_Little.l0] at h⟩
 | k + 1 => by
  obtain ⟨ih0, ih1⟩ := impl_Little.mono_l k
  refine ⟨?_, ?_⟩
  ·intro y0 y1 y2
   unfold impl_Little.j0
   exact mt
  ·intro y0 y1 y2 y3
   unfold impl_Little.l0
   exact mt
theorem impl_Little.mono : ∀ a0 a1 k, LeO (impl_Little.f k a0 a1) (impl_Little.f (k + 1) a0 a1) := by
 intro a0 a1 k
 obtain ⟨ih0, ih1⟩ := impl_Little.mono_l k
 unfold impl_Little.f
 exact mt
theorem impl_Little.calls (k : Nat) (a0 : Int) (a1 : Int) (r : List Int) (w : World) (h : impl_Little.f k a0 a1 = some r) :
  Calls Try.prog 140 #[.int .i64 a0, .int .i64 a1] w fun e w' => ∃ v0_ : Value, e = .returned (v0_) ∧ Kd.R (Kd.int .u8) 5 w' w.heap.size (fun _ => True) v0_ r ∧ Below w.heap.size w w' := by
 have HB := Aside0.mk (zbk w.heap.size w)
 have H : (if a0 < 0 then (impl_Little.j0 k a0 a1 true) else ((impl_in.f a1 1 8).bind fun t542 => (impl_Little.j0 k a0 a1 (!t542)))) = some r := h
 clear h
 have HC3 := Aside0.mk H
 clear H
 go_enter Try.func140, Try.ntmps140
 go_upto_region 1 with (fail)
 go_cut [12] (fun v12 wc => ∃ (kq : Nat) (x12_2 : Bool), v12 = .bool x12_2 ∧ Aside0 (impl_Little.j0 kq a0 a1 x12_2 = some r) ∧ Aside0 (kq ≤ k) ∧ Aside0 (Below w.heap.size w wc))
 case first =>
  have H := HC3.out
  clear HC3
  by_cases c4 : a0 < 0
  ·rw [if_pos c4] at H
   have c4b0 := zae c4
   clear c4
   (first | rw [c4b0] | (simp only [i64_w, i32_w]; rw [c4b0]) | skip)
   have H' := Aside0.mk H
   clear H
   go_wp2
   go_meet
   case rel => exact ⟨_, (true), jer, H', ⟨by first | omega | exact zaf _⟩, ⟨bq⟩⟩
  ·rw [if_neg c4] at H
   have c4b0 := zas c4
   clear c4
   (first | rw [c4b0] | (simp only [i64_w, i32_w]; rw [c4b0]) | skip)
   obtain ⟨t542, A5, H⟩ := bnd H
   have H' := Aside0.mk H
   clear H
   go_wp2_with (first | (go_at_call 91; (with_reducible refine (impl_in.calls a1 1 8 t542 _ A5.out).mono ?_); rintro e w' ⟨rfl, ⟨nd, rfl⟩⟩))
   go_meet
   case rel => exact ⟨_, (!t542), jer, H', ⟨by first | omega | exact zaf _⟩, ⟨bq⟩⟩
 case rest =>
  clear HC3
  try clear c1
  try clear p2
  try clear c4
  try clear c4b0
  obtain ⟨kq, x12_2, rfl, HA, HJ2, HB⟩ := hcut
  cases kq with
  | zero => exact absurd HA.out (by simp [impl_Little.j0])
  | succ kj2 =>
   have H := HA.out
   clear HA
   simp only [impl_Little.j0] at H
   by_cases c6 : x12_2 = true
   ·subst c6
    rw [if_pos rfl] at H
    obtain rfl := Option.some.inj H
    go_wp2
    go_ret
    exact ⟨_, jex, by first | exact zfz _ _ _ _ _ | exact Kd.N_nil _ _ _ _ _ | exact Kd.V_nil _ _ _ _ _ | exact Kd.Q_nil _ _ _ _ _ | exact Kd.S_nil _ _ _ _ _, bq⟩
   ·replace c6 := zbn.mpr c6
    subst c6
    rw [if_neg (show ¬ (false = true) by decide)] at H
    obtain ⟨y543, hy543⟩ : ∃ y_ : List Int, y_ = (([] : List Int)) := ⟨_, rfl⟩
    replace H : (impl_Little.l0 kj2 a0 y543 a1 0) = some r := jrw hy543 H
    have Ny543 := Aside0.mk hy543
    clear hy543
    have H' := Aside0.mk H
    clear H
    go_wp2_with (first | (refine jgd 13 ?_; refine jlt 13 (Kd.int .u8) 5 ?_; intro v544 w7 ho8 hb; have xb_ := below_ofs bq hb; (first | rw [← Ny543.out] at ho8 | (simp only [Int.reduceToNat] at ho8; rw [← Ny543.out] at ho8)); have n_ := jA2 (zbc ho8 (zak xb_)) (zab xb_ hb); clear HB; obtain ⟨HO545, HB⟩ := n_; clear xb_ hb ho8))
    go_loopg [0, 5, 15] kj2 (fun kq v0 v5 v15 w' => ∃ (x0_2 : Int) (x5_2 : List Int) (x15_2 : Int), v0 = .int .i64 x0_2 ∧ v15 = .int .i64 x15_2 ∧ Aside0 (impl_Little.l0 kq x0_2 x5_2 a1 x15_2 = some r) ∧ Aside0 (kq ≤ kj2) ∧ Aside0 (Kd.R (Kd.int .u8) 5 w' w.heap.size (fun _ => True) v5 x5_2) ∧ Aside0 (Below w.heap.size w w'))
    case atStart => exact ⟨(a0), (y543), (0), jer, jer, H', ⟨zaf _⟩, ⟨pR HO545.out⟩, ⟨bq⟩⟩
    case round =>
     clear H'
     try clear c1
     try clear p2
     try clear c4
     try clear c4b0
     try clear c6
     try clear p2
     obtain ⟨x0_2, x5_2, x15_2, rfl, rfl, HA, HK2, HO_5, HB⟩ := hrel
     cases gk with
     | zero => exact absurd HA.out (by simp [impl_Little.l0])
     | succ k2 =>
      have H := HA.out
      clear HA
      simp only [impl_Little.l0] at H
      by_cases c9 : x15_2 < a1
      ·rw [if_pos c9] at H
       have c9b0 := zae c9
       clear c9
       by_cases c10 : x5_2.length < 140737488355328
       ·rw [if_pos c10] at H
        have LMc10 := Aside0.mk c10
        clear c10
        obtain ⟨y546, hy546⟩ : ∃ y_ : List Int, y_ = (x5_2 ++ [(x0_2) % 256]) := ⟨_, rfl⟩
        replace H : (impl_Little.l0 k2 (x0_2 / 256) y546 a1 (wrap64 (x15_2 + 1))) = some r := jrw hy546 H
        have Ny546 := Aside0.mk hy546
        clear hy546
        have H' := Aside0.mk H
        clear H
        go_wp2_with (first | ((with_reducible refine zcc (b := .append) (xs := #[.tmp 17, .tmp 20]) rfl ?_); at_builtin; refine Kd.R_append (Kd.int .u8) (w0 := w) w.heap.size rfl (.tmp 17) (.tmp 20) 29 5 (.int .u8 0) 1 rfl Try.underlying29 info5 rfl (by decide) (by omega) u5 x5_2 ((x0_2) % 256) [.int .u8 ((x0_2) % 256)] (fun _ => True) (fun _ => False) rfl rfl ?aP (fun _ hk => hk.elim) ?aF ?aO ?aB ?aS ?aL ?_; (case aP => exact rfl); (case aB => exact bq); (case aF => exact (fun _ _ => trivial)); (case aO => exact (pR HO_5.out)); (case aS => exact (zak bq)); (case aL => have := LMc10.out; omega); intro v547 w11 ho hb hg hat; rw [← Ny546.out] at ho; have n_ := jA2 (hb) (ho); clear HB HO_5; obtain ⟨HB, HO548⟩ := n_; clear ho hb hg hat))
        go_roundg k2
        case measure => have := HJ2.out; have := HK2.out; omega
        case rel => exact ⟨(x0_2 / 256), (y546), (wrap64 (x15_2 + 1)), jer, jer, H', ⟨by have := HJ2.out; have := HK2.out; omega⟩, ⟨pR HO548.out⟩, ⟨bq⟩⟩
       ·rw [if_neg c10] at H
        exact absurd H (by simp)
      ·rw [if_neg c9] at H
       have c9b0 := zas c9
       clear c9
       obtain rfl := Option.some.inj H
       go_wp2
       go_ret
       exact ⟨_, jex, by (with_reducible repeat (first | apply zbo | apply zbp | apply zbs)); exact HO_5.out, bq⟩
def impl_Great.f (k : Nat) (a0 : Int) (a1 : Int) : Option (List Int) := (impl_Little.f k a0 a1).bind fun t549 => ((impl_turned.f k t549).bind fun t552 => (some t552))
theorem impl_Great.mono : ∀ a0 a1 k, LeO (impl_Great.f k a0 a1) (impl_Great.f (k + 1) a0 a1) := by
 intro a0 a1 k
 unfold impl_Great.f
 have m0 := @impl_Little.mono
 have m1 := @impl_turned.mono
 exact mt
theorem impl_Great.calls (k : Nat) (a0 : Int) (a1 : Int) (r : List Int) (w : World) (h : impl_Great.f k a0 a1 = some r) :
  Calls Try.prog 110 #[.int .i64 a0, .int .i64 a1] w fun e w' => ∃ v0_ : Value, e = .returned (v0_) ∧ Kd.R (Kd.int .u8) 5 w' w.heap.size (fun _ => True) v0_ r ∧ Below w.heap.size w w' := by
 have HB := Aside0.mk (zbk w.heap.size w)
 have H : ((impl_Little.f k a0 a1).bind fun t549 => ((impl_turned.f k t549).bind fun t552 => (some t552))) = some r := h
 clear h
 obtain ⟨t549, A3, H⟩ := bnd H
 obtain ⟨t552, A4, H⟩ := bnd H
 obtain rfl := Option.some.inj H
 go_enter Try.func110, Try.ntmps110
 go_wp2_with (first | (refine jgc 140 ?_; refine jgs 7 Try.func140 #[.int .i64 a0, .int .i64 a1] ?_; (with_reducible refine (impl_Little.calls k a0 a1 t549 _ A3.out).mono ?_); rintro e w5 ⟨v550, rfl, ho0, hb⟩; refine ⟨_, rfl, ?_⟩; have xb_ := below_ofs bq hb; have n_ := jA2 (zbc ho0 (zak xb_)) (zab xb_ hb); clear HB; obtain ⟨HO551, HB⟩ := n_; clear xb_ hb ho0; obtain ⟨Ao6, co6, eo6⟩ := zbm HO551.out; subst eo6) | (refine jgc 139 ?_; refine jgs 8 Try.func139 #[.slice Ao6 t549.length co6] ?_; (with_reducible refine (impl_turned.calls k _ _ t549 t552 _ ?side1 ?side2 A4.out).mono ?_); (case side1 => repeat (first | exact (zbq HO551.out).2.2 | (with_reducible first | apply zcv | apply zdi | apply zdu))); (case side2 => exact (zbq HO551.out).2.1); rintro e w7 ⟨v553, rfl, ho0, hb⟩; refine ⟨_, rfl, ?_⟩; have xb_ := below_ofs bq hb; have qHO551 := Kd.R_ofs (pR HO551.out) hb; have n_ := jA3 (zbr qHO551 (zbe ho0) hb) (zbc (zcz ho0 (zcd qHO551)) (zak xb_)) (zab xb_ hb); clear qHO551 HO551 HB; obtain ⟨HO551, HO554, HB⟩ := n_; clear xb_ hb ho0))
 go_ret
 exact ⟨_, jex, tqR HO554.out, bq⟩
end Go.Proofs.Ytlalkldjpniakaa.P
