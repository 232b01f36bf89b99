import Derived.Test.Ytlalkldjpniakaaqm3
import Derived.Shelf.Abstract
namespace Go.Proofs.Ytlalkldjpniakaa.P
open Go.RowKit Go.Proofs.YtlalkldjpniakaaW.PrintWords Go.Proofs.YtlalkldjpniakaaW.PrintLast Go.Proofs.YtlalkldjpniakaaW.PrintMore
attribute [local go_sem] zcm zcn zdd zde zbw zbx zco zcp   -- for this text's walks alone
set_option linter.unusedVariables false
set_option linter.unusedSimpArgs false
set_option maxHeartbeats 8000000
set_option maxRecDepth 100000

def laws_toByteS.l0 : Nat → List Int → List Int → Int → Option (List Int)
 | 0, _, _, _ => none
 | k + 1, x0, x3, x4 => if x4 < (x0.length : Int) then (if 0 ≤ x4 then (if x4 < (x3.length : Int) then (laws_toByteS.l0 k x0 (x3.set (x4 : Int).toNat (rd x0 x4)) (wrap64 (x4 + 1))) else (none)) else (none)) else (some x3)
def laws_toByteS.f (k : Nat) (l0 : List Int) : Option (List Int) := if 0 ≤ (l0.length : Int) then (if ((l0.length : Int) : Int).toNat ≤ 281474976710656 then (laws_toByteS.l0 k l0 (List.replicate ((l0.length : Int) : Int).toNat 0) 0) else (none)) else (none)
theorem laws_toByteS.mono_l : ∀ k, (∀ y0 y1 y2, LeO (laws_toByteS.l0 k y0 y1 y2) (laws_toByteS.l0 (k + 1) y0 y1 y2))
 | 0 => fun _ _ _ r h => by simp [laws_toByteS.l0] at h
 | k + 1 => by
  have ih0 := laws_toByteS.mono_l k
  ·intro y0 y1 y2
   unfold laws_toByteS.l0
   exact mt
theorem laws_toByteS.mono : ∀ a0 k, LeO (laws_toByteS.f k a0) (laws_toByteS.f (k + 1) a0) := by
 intro a0 k
 have ih0 := laws_toByteS.mono_l k
 unfold laws_toByteS.f
 exact mt
theorem laws_toByteS.calls (k : Nat) (A0 : Option Addr) (c0 : Nat) (l0 : List Int) (r : List Int) (w : World) (hr0 : Kd.C (Kd.int .u8) w A0 l0.length l0) (hc0 : l0.length ≤ c0) (h : laws_toByteS.f k l0 = some r) :
  Calls Try.prog 55 #[.slice A0 l0.length c0] w fun e w' => ∃ v0_ : Value, e = .returned (v0_) ∧ Kd.R (Kd.int .u8) 5 w' w.heap.size (fun _ => True) v0_ r ∧ Below w.heap.size w w' := by
 have HR0 := Aside0.mk hr0
 have HC0 := Aside0.mk hc0
 clear hr0 hc0
 have HB := Aside0.mk (zbk w.heap.size w)
 have H : (if 0 ≤ (l0.length : Int) then (if ((l0.length : Int) : Int).toNat ≤ 281474976710656 then (laws_toByteS.l0 k l0 (List.replicate ((l0.length : Int) : Int).toNat 0) 0) else (none)) else (none)) = some r := h
 clear h
 by_cases c2 : 0 ≤ (l0.length : Int)
 ·rw [if_pos c2] at H
  have c2b0 := zbd c2
  have c2b1 := zae c2
  clear c2
  by_cases c3 : ((l0.length : Int) : Int).toNat ≤ 281474976710656
  ·rw [if_pos c3] at H
   have c3b0 := zbd c3
   have c3b1 := zae c3
   clear c3
   obtain ⟨y107, hy107⟩ : ∃ y_ : List Int, y_ = (List.replicate ((l0.length : Int) : Int).toNat 0) := ⟨_, rfl⟩
   replace H : (laws_toByteS.l0 k l0 y107 0) = some r := jrw hy107 H
   have Ny107 := Aside0.mk hy107
   clear hy107
   have H' := Aside0.mk H
   clear H
   go_enter Try.func55, Try.ntmps55
   go_wp2_with (first | (refine jgd 7 ?_; refine Kd.R_make (Kd.int .u8) _ 5 rfl (N := 7) rfl 29 _ _ rfl (l0.length : Int) rfl rfl Try.underlying29 (.int .u8 0) 1 info5 rfl (by decide) (by omega) 0 (ok := fun _ => True) (okp := fun _ => True) rfl (fun _ hk => hk) trivial (zac jab) (zeb (Nat.mul_le_mul_right _ (zac jab : (l0.length : Int).toNat ≤ 281474976710656)) (by omega)) (zbk _ _) (zaf _) ?_; intro v108 w4 ho5 hb hg_ hnew_; have xb_ := below_ofs bq hb; clear hg_ hnew_; (first | rw [← Ny107.out] at ho5 | (simp only [Int.reduceToNat] at ho5; rw [← Ny107.out] at ho5)); have n_ := jA2 (zbc ho5 (zak xb_)) (zab xb_ hb); clear HB; obtain ⟨HO109, HB⟩ := n_; clear xb_ hb ho5))
   go_loopg [4] k (fun kq v4 w' => ∃ (x3_1 : List Int) (x4_1 : Int), v4 = .int .i64 x4_1 ∧ Aside0 (laws_toByteS.l0 kq l0 x3_1 x4_1 = some r) ∧ Aside0 (kq ≤ k) ∧ Aside0 (Kd.R (Kd.int .u8) 5 w' w.heap.size (fun _ => True) v108 x3_1) ∧ Aside0 (Below w.heap.size w w'))
   case atStart => exact ⟨(y107), (0), jer, H', ⟨zaf _⟩, ⟨pR HO109.out⟩, ⟨bq⟩⟩
   case round =>
    clear H'
    try clear c2
    try clear c2b0
    try clear c2b1
    try clear p2
    try clear c3
    try clear c3b0
    try clear c3b1
    try clear c5
    obtain ⟨x3_1, x4_1, rfl, HA, HK1, HO_3, HB⟩ := hrel
    cases gk with
    | zero => exact absurd HA.out (by simp [laws_toByteS.l0])
    | succ k1 =>
     have H := HA.out
     clear HA
     simp only [laws_toByteS.l0] at H
     by_cases c6 : x4_1 < (l0.length : Int)
     ·rw [if_pos c6] at H
      have c6b0 := zae c6
      clear c6
      by_cases c7 : 0 ≤ x4_1
      ·rw [if_pos c7] at H
       have c7b0 := zae c7
       clear c7
       by_cases c8 : x4_1 < (x3_1.length : Int)
       ·rw [if_pos c8] at H
        have c8b0 := zae c8
        clear c8
        obtain ⟨y111, hy111⟩ : ∃ y_ : List Int, y_ = (x3_1.set (x4_1 : Int).toNat (rd l0 x4_1)) := ⟨_, rfl⟩
        replace H : (laws_toByteS.l0 k1 l0 y111 (wrap64 (x4_1 + 1))) = some r := jrw hy111 H
        have Ny111 := Aside0.mk hy111
        clear hy111
        have H' := Aside0.mk H
        clear H
        have p110 : 0 ≤ (x4_1 : Int) := zac jab
        have q110 : x4_1 < (l0.length : Int) := zac jab
        obtain ⟨ad110, e110, hx110_0⟩ := zek HR0.out x4_1 p110 q110
        cases e110
        replace hx110_0 := jcB HB.out hx110_0
        replace p110 := zbd p110
        replace q110 := zbd q110
        have p9 : 0 ≤ (x4_1 : Int) := zac jab
        have q9 : (x4_1 : Int) < ((x3_1.length : Int) : Int) := zac jab
        obtain ⟨go9, co9, eo9, gb9, gl9, cl9, HG9⟩ := Kd.R_form HO_3.out (by omega)
        (first | cases eo9 | (injection eo9 with ea_ en_ ec_; (first | subst ea_ | (injection ea_ with ea_; subst ea_)); subst ec_; clear en_))
        have GB9 := Aside0.mk gb9
        have GG9 := Aside0.mk HG9
        clear gb9 gl9 HG9
        obtain ⟨hx9_0, hf9_0⟩ := Kd.R_celln 0 HO_3.out (x4_1 : Int) p9 q9
        replace p9 := zbd p9
        replace q9 := zbd q9
        have HP10 := Kd.R_putg HO_3.out (x4_1 : Int) (rd l0 x4_1)
        go_wp2_with (first | ((with_reducible refine zdp (t := 5) (p := 20) rfl ?_); refine store_event (t := 5) (p := 20) (v := ?vo_w11) (w1 := (wr.setCell ⟨go9, (x4_1 : Int).toNat, none⟩ (.int .u8 (rd l0 x4_1)))) ?hg ?ho ?hn ?hr ?_; (case ho => rfl); (case hg => rfl); (case hn => rfl); (case hr => first | (go_simp; done) | (go_simp; rfl)); intro w11 hw; have hg : wr.grownBy w11 (some go9) := (by rw [hw]; exact HP10.2); have hp_ : Kd.R (Kd.int .u8) 5 w11 w.heap.size (fun _ => True) (.slice (some ⟨go9, 0, none⟩) x3_1.length co9) y111 := (by rw [hw, Ny111.out]; exact HP10.1); clear HP10; have n_ := jA2 (hp_) (by rw [hw]; exact below_set (HB.out) GB9.out : Below w.heap.size w w11); clear HO_3 HB; obtain ⟨HO_3, HB⟩ := n_; clear hg hw hp_))
        go_roundg k1
        case measure => have := HK1.out; omega
        case rel => exact ⟨(y111), (wrap64 (x4_1 + 1)), jer, H', ⟨by have := HK1.out; omega⟩, ⟨pR HO_3.out⟩, ⟨bq⟩⟩
       ·rw [if_neg c8] at H
        exact absurd H (by simp)
      ·rw [if_neg c7] at H
       exact absurd H (by simp)
     ·rw [if_neg c6] at H
      have c6b0 := zas c6
      clear c6
      obtain rfl := Option.some.inj H
      go_wp2
      go_ret
      exact ⟨_, jex, by (with_reducible repeat (first | apply zbo | apply zbp | apply zbs)); exact HO_3.out, bq⟩
  ·rw [if_neg c3] at H
   exact absurd H (by simp)
 ·rw [if_neg c2] at H
  exact absurd H (by simp)
def laws_toItem.f (k : Nat) (a0_0 : ByteArray) (a0_1 : Int) (a0_2 : Int) (l0_3 : List Int) : Option (ByteArray × Int × Int × List Int) := (laws_toByteS.f k l0_3).bind fun t115 => (some (a0_0, a0_1, a0_2, t115))
theorem laws_toItem.mono : ∀ a0 a1 a2 a3 k, LeO (laws_toItem.f k a0 a1 a2 a3) (laws_toItem.f (k + 1) a0 a1 a2 a3) := by
 intro a0 a1 a2 a3 k
 unfold laws_toItem.f
 have m0 := @laws_toByteS.mono
 exact mt
theorem laws_toItem.calls (k : Nat) (a0_0 : ByteArray) (a0_1 : Int) (a0_2 : Int) (A0_3 : Option Addr) (c0_3 : Nat) (l0_3 : List Int) (r1 : ByteArray) (r2 : Int) (r3 : Int) (r4 : List Int) (w : World) (hr0_3 : Kd.C (Kd.int .u8) w A0_3 l0_3.length l0_3) (hc0_3 : l0_3.length ≤ c0_3) (h : laws_toItem.f k a0_0 a0_1 a0_2 l0_3 = some (r1, r2, r3, r4)) :
  Calls Try.prog 25 #[.agg #[.string a0_0, .int .i64 a0_1, .int .i64 a0_2, .slice A0_3 l0_3.length c0_3]] w fun e w' => ∃ v3_ : Value, e = .returned (.agg #[.string r1, .int .i64 r2, .int .i64 r3, v3_]) ∧ Kd.R (Kd.int .u8) 5 w' w.heap.size (fun _ => True) v3_ r4 ∧ Below w.heap.size w w' := by
 have hu31 := Try.underlying31
 have hu34 := Try.underlying34
 have HR0_3 := Aside0.mk hr0_3
 have HC0_3 := Aside0.mk hc0_3
 clear hr0_3 hc0_3
 have HB := Aside0.mk (zbk w.heap.size w)
 have H : ((laws_toByteS.f k l0_3).bind fun t115 => (some (a0_0, a0_1, a0_2, t115))) = some (r1, r2, r3, r4) := h
 clear h
 obtain ⟨t115, A2, H⟩ := bnd H
 simp only [zbz, zcj] at H
 obtain ⟨rfl, rfl, rfl, rfl⟩ := H
 go_enter Try.func25, Try.ntmps25
 go_wp2_with (first | (refine jgd 1 ?_; refine bx 1 (#[.string a0_0, .int .i64 a0_1, .int .i64 a0_2, .slice A0_3 l0_3.length c0_3]) 31 ?_; intro gb112 hg w3 hbox hb; have xb_ := below_ofs bq hb; have n_ := jA4 (zab xb_ hb) (hbox) (ge0 hg xb_ : w.heap.size ≤ gb112) (ge0 hg xb_ : w.heap.size ≤ gb112); clear HB; obtain ⟨HB, BK112, GW112, GE112⟩ := n_; clear xb_ hb hbox hg) | (refine jgd 2 ?_; refine bx 2 (#[.string (⟨#[]⟩ : ByteArray), .int .i64 0, .int .i64 0, .slice none 0 0]) 34 ?_; intro gb113 hg w4 hbox hb; have n_ := jA7 (jbb BK112.out hb) (zab (bs1 GE112.out) hb) (hbox) (ge0 hg (bs1 GE112.out) : w.heap.size ≤ gb113) (ge0 hg (bs1 GE112.out) : w.heap.size ≤ gb113) (nl hg (pB BK112.out) : gb112 ≠ gb113) (ng hg (pB BK112.out) : gb113 ≠ gb112); clear BK112 HB; obtain ⟨BK112, HB, BK113, GW113, GE113, NB112_113, NB113_112⟩ := n_; clear hb hbox hg) | (refine jgd 3 ?_; refine bx 3 (#[.string (⟨#[]⟩ : ByteArray), .int .i64 0, .int .i64 0, .slice none 0 0]) 34 ?_; intro gb114 hg w5 hbox hb; have n_ := jA10 (jbb BK112.out hb) (jbb BK113.out hb) (zab (bs2 GE112.out GE113.out) hb) (hbox) (ge0 hg (bs2 GE112.out GE113.out) : w.heap.size ≤ gb114) (ge0 hg (bs2 GE112.out GE113.out) : w.heap.size ≤ gb114) (nl hg (pB BK112.out) : gb112 ≠ gb114) (ng hg (pB BK112.out) : gb114 ≠ gb112) (nl hg (pB BK113.out) : gb113 ≠ gb114) (ng hg (pB BK113.out) : gb114 ≠ gb113); clear BK112 BK113 HB; obtain ⟨BK112, BK113, HB, BK114, GW114, GE114, NB112_114, NB114_112, NB113_114, NB114_113⟩ := n_; clear hb hbox hg; have hnb6 := NB112_113.out; have hnc6 := NB113_112.out; have hnb7 := NB112_114.out; have hnc7 := NB114_112.out; obtain ⟨hcz8_0, hcz8_1, hcz8_2, hcz8_3, hfz8_0, hfz8_1, hfz8_2, hfz8_3⟩ := cz4 BK112.out; have hnb9 := NB114_113.out; have hnc9 := NB113_114.out; obtain ⟨hcz10_0, hcz10_1, hcz10_2, hcz10_3, hfz10_0, hfz10_1, hfz10_2, hfz10_3⟩ := cz4 BK114.out) | (refine jgc 55 ?_; refine jgs 15 Try.func55 #[.slice A0_3 l0_3.length c0_3] ?_; (with_reducible refine (laws_toByteS.calls k _ _ l0_3 t115 _ ?side1 ?side2 A2.out).mono ?_); (case side1 => exact zaz HR0_3.out (bs3 GE112.out GE113.out GE114.out)); (case side2 => exact HC0_3.out); rintro e w11 ⟨v116, rfl, ho0, hb⟩; refine ⟨_, rfl, ?_⟩; have n_ := jA5 (zbc ho0 (zak (bs3 GE112.out GE113.out GE114.out))) (blk_below (g := gb112) (o := .cells #[.string a0_0, .int .i64 a0_1, .int .i64 a0_2, .slice A0_3 l0_3.length c0_3] 31 (0, 0)) (by (with_reducible repeat (first | refine zbg ?_ _ | refine zbl ?_ | refine zbh ?_ _)); refine blk_far ?_ NB112_114.out _; (with_reducible repeat (first | refine zbg ?_ _ | refine zbl ?_ | refine zbh ?_ _)); refine blk_far ?_ NB112_114.out _; (with_reducible repeat (first | refine zbg ?_ _ | refine zbl ?_ | refine zbh ?_ _)); refine blk_far ?_ NB112_114.out _; (with_reducible repeat (first | refine zbg ?_ _ | refine zbl ?_ | refine zbh ?_ _)); exact BK112.out) hb) (blk_below (g := gb113) (o := .cells #[.string (⟨#[]⟩ : ByteArray), .int .i64 0, .int .i64 0, .slice none 0 0] 34 (0, 0)) (by (with_reducible repeat (first | refine zbg ?_ _ | refine zbl ?_ | refine zbh ?_ _)); refine blk_far ?_ NB113_114.out _; (with_reducible repeat (first | refine zbg ?_ _ | refine zbl ?_ | refine zbh ?_ _)); refine blk_far ?_ NB113_114.out _; (with_reducible repeat (first | refine zbg ?_ _ | refine zbl ?_ | refine zbh ?_ _)); refine blk_far ?_ NB113_114.out _; (with_reducible repeat (first | refine zbg ?_ _ | refine zbl ?_ | refine zbh ?_ _)); exact BK113.out) hb) (blk_below (g := gb114) (o := .cells #[.string a0_0, .int .i64 a0_1, .int .i64 a0_2, .slice none 0 0] 34 (0, 0)) (by (with_reducible repeat (first | refine zbg ?_ _ | refine zbl ?_ | refine zbh ?_ _)); refine zdh (cs := #[.string a0_0, .int .i64 a0_1, .int .i64 0, .slice none 0 0]) ?_ 2 _ rfl; (with_reducible repeat (first | refine zbg ?_ _ | refine zbl ?_ | refine zbh ?_ _)); refine zdh (cs := #[.string a0_0, .int .i64 0, .int .i64 0, .slice none 0 0]) ?_ 1 _ rfl; (with_reducible repeat (first | refine zbg ?_ _ | refine zbl ?_ | refine zbh ?_ _)); refine zdh (cs := #[.string (⟨#[]⟩ : ByteArray), .int .i64 0, .int .i64 0, .slice none 0 0]) ?_ 0 _ rfl; (with_reducible repeat (first | refine zbg ?_ _ | refine zbl ?_ | refine zbh ?_ _)); exact BK114.out) hb) (zab (bs3 GE112.out GE113.out GE114.out) hb); clear BK112 BK113 BK114 HB; obtain ⟨HO117, BK112, BK113, BK114, HB⟩ := n_; clear hb ho0; obtain ⟨Ao12, co12, eo12⟩ := zbm HO117.out; subst eo12; obtain ⟨hcz13_0, hcz13_1, hcz13_2, hcz13_3, hfz13_0, hfz13_1, hfz13_2, hfz13_3⟩ := cz4 BK114.out; obtain ⟨hcz14_0, hcz14_1, hcz14_2, hcz14_3, hfz14_0, hfz14_1, hfz14_2, hfz14_3⟩ := cz4 BK113.out))
 refine zdx (results_cell_row rfl _ _ gb113 34 #[.string a0_0, .int .i64 a0_1, .int .i64 a0_2, .slice Ao12 t115.length co12] (0, 0) _ rfl (by (with_reducible repeat (first | refine zbg ?_ _ | refine zbl ?_ | refine zbh ?_ _)); refine zdh (cs := #[.string a0_0, .int .i64 a0_1, .int .i64 a0_2, .slice none 0 0]) ?_ 3 _ rfl; (with_reducible repeat (first | refine zbg ?_ _ | refine zbl ?_ | refine zbh ?_ _)); refine zdh (cs := #[.string a0_0, .int .i64 a0_1, .int .i64 0, .slice none 0 0]) ?_ 2 _ rfl; (with_reducible repeat (first | refine zbg ?_ _ | refine zbl ?_ | refine zbh ?_ _)); refine zdh (cs := #[.string a0_0, .int .i64 0, .int .i64 0, .slice none 0 0]) ?_ 1 _ rfl; (with_reducible repeat (first | refine zbg ?_ _ | refine zbl ?_ | refine zbh ?_ _)); refine zdh (cs := #[.string (⟨#[]⟩ : ByteArray), .int .i64 0, .int .i64 0, .slice none 0 0]) ?_ 0 _ rfl; (with_reducible repeat (first | refine zbg ?_ _ | refine zbl ?_ | refine zbh ?_ _)); refine blk_far ?_ NB113_114.out _; (with_reducible repeat (first | refine zbg ?_ _ | refine zbl ?_ | refine zbh ?_ _)); exact BK113.out) Try.underlying34 rfl (by kernel_rfl)) rfl ?_
 exact ⟨_, jex, by (with_reducible repeat (first | apply zbo | apply zbp | apply zbs)); exact zav (zbt (p := ⟨gb113, 3, none⟩) (zbt (p := ⟨gb113, 2, none⟩) (zbt (p := ⟨gb113, 1, none⟩) (zbt (p := ⟨gb113, 0, none⟩) (zbt (p := ⟨gb114, 3, none⟩) (zcb (zcb HO117.out BK114.out (by decide)) BK113.out (by decide)) (fun _ hk => hk.1.2) (.slice Ao12 t115.length co12)) (fun _ hk => hk.2) (.string a0_0)) (fun _ hk => hk.2) (.int .i64 a0_1)) (fun _ hk => hk.2) (.int .i64 a0_2)) (fun _ hk => hk.2) (.slice Ao12 t115.length co12)) (fun _ hk => trivial), (bs3 GE112.out GE113.out GE114.out)⟩
def laws_toItemS.l0 : Nat → List (S31) → List (S34) → Int → Option ((List (S34)))
 | 0, _, _, _ => none
 | k + 1, x0, x3, x4 => if x4 < (x0.length : Int) then (if 0 ≤ x4 then ((laws_toItem.f k ((rd_T31 x0 x4).f0) ((rd_T31 x0 x4).f1) ((rd_T31 x0 x4).f2) ((rd_T31 x0 x4).f3)).bind fun bt122 => (if x4 < (x3.length : Int) then (laws_toItemS.l0 k x0 (x3.set (x4 : Int).toNat (⟨bt122.1, bt122.2.1, bt122.2.2.1, bt122.2.2.2⟩ : S34)) (wrap64 (x4 + 1))) else (none))) else (none)) else (some x3)
def laws_toItemS.f (k : Nat) (l0 : List (S31)) : Option ((List (S34))) := if 0 ≤ (l0.length : Int) then (if ((l0.length : Int) : Int).toNat ≤ 5026338869833 then (laws_toItemS.l0 k l0 (List.replicate ((l0.length : Int) : Int).toNat z34) 0) else (none)) else (none)
theorem laws_toItemS.mono_l : ∀ k, (∀ y0 y1 y2, LeO (laws_toItemS.l0 k y0 y1 y2) (laws_toItemS.l0 (k + 1) y0 y1 y2))
 | 0 => fun _ _ _ r h => by simp [laws_toItemS.l0] at h
 | k + 1 => by
  have ih0 := laws_toItemS.mono_l k
  ·intro y0 y1 y2
   unfold laws_toItemS.l0
   have m0 := @laws_toItem.mono
   exact mt
theorem laws_toItemS.mono : ∀ a0 k, LeO (laws_toItemS.f k a0) (laws_toItemS.f (k + 1) a0) := by
 intro a0 k
 have ih0 := laws_toItemS.mono_l k
 unfold laws_toItemS.f
 have m0 := @laws_toItem.mono
 exact mt
theorem laws_toItemS.calls (k : Nat) (A0 : Option Addr) (c0 : Nat) (l0 : List (S31)) (r : List (S34)) (w : World) (hr0 : Kd.C k31 w A0 l0.length l0) (hc0 : l0.length ≤ c0) (h : laws_toItemS.f k l0 = some r) :
  Calls Try.prog 20 #[.slice A0 l0.length c0] w fun e w' => ∃ v0_ : Value, e = .returned (v0_) ∧ Kd.S k34 34 w' w.heap.size (fun _ => True) v0_ r ∧ Below w.heap.size w w' := by
 have hu31 := Try.underlying31
 have hu34 := Try.underlying34
 have HR0 := Aside0.mk hr0
 have HC0 := Aside0.mk hc0
 clear hr0 hc0
 have HB := Aside0.mk (zbk w.heap.size w)
 have H : (if 0 ≤ (l0.length : Int) then (if ((l0.length : Int) : Int).toNat ≤ 5026338869833 then (laws_toItemS.l0 k l0 (List.replicate ((l0.length : Int) : Int).toNat z34) 0) else (none)) else (none)) = some r := h
 clear h
 by_cases c2 : 0 ≤ (l0.length : Int)
 ·rw [if_pos c2] at H
  have c2b0 := zbd c2
  have c2b1 := zae c2
  clear c2
  by_cases c3 : ((l0.length : Int) : Int).toNat ≤ 5026338869833
  ·rw [if_pos c3] at H
   have c3b0 := zbd c3
   have c3b1 := zae c3
   clear c3
   obtain ⟨y118, hy118⟩ : ∃ y_ : List (S34), y_ = (List.replicate ((l0.length : Int) : Int).toNat z34) := ⟨_, rfl⟩
   replace H : (laws_toItemS.l0 k l0 y118 0) = some r := jrw hy118 H
   have Ny118 := Aside0.mk hy118
   clear hy118
   have H' := Aside0.mk H
   clear H
   go_enter Try.func20, Try.ntmps20
   go_wp2_with (first | (refine jgd 7 ?_; refine Kd.S_make k34 _ 34 rfl (N := 7) rfl 25 _ _ rfl (l0.length : Int) rfl rfl Try.underlying25 (.agg #[(.string ⟨#[]⟩), (.int .i64 0), (.int .i64 0), (.slice none 0 0)]) 56 info34 rfl (by decide) (by omega) z34 (ok := fun _ => True) (okp := fun _ => True) (k34_mkM _ _ _ z34 (zfz _ _ _ _ _)) (fun _ hk => hk) trivial (zac jab) (zeb (Nat.mul_le_mul_right _ (zac jab : (l0.length : Int).toNat ≤ 5026338869833)) (by omega)) (zbk _ _) (zaf _) ?_; intro v119 w4 ho5 hb hg_ hnew_; have xb_ := below_ofs bq hb; clear hg_ hnew_; (first | rw [← Ny118.out] at ho5 | (simp only [Int.reduceToNat] at ho5; rw [← Ny118.out] at ho5)); have n_ := jA2 (zeg ho5 (zak xb_)) (zab xb_ hb); clear HB; obtain ⟨HO120, HB⟩ := n_; clear xb_ hb ho5))
   go_loopg [4] k (fun kq v4 w' => ∃ (x3_1 : List (S34)) (x4_1 : Int), v4 = .int .i64 x4_1 ∧ Aside0 (laws_toItemS.l0 kq l0 x3_1 x4_1 = some r) ∧ Aside0 (kq ≤ k) ∧ Aside0 (Kd.S k34 34 w' w.heap.size (fun _ => True) v119 x3_1) ∧ Aside0 (Below w.heap.size w w'))
   case atStart => exact ⟨(y118), (0), jer, H', ⟨zaf _⟩, ⟨pS HO120.out⟩, ⟨bq⟩⟩
   case round =>
    clear H'
    try clear c2
    try clear c2b0
    try clear c2b1
    try clear p2
    try clear c3
    try clear c3b0
    try clear c3b1
    obtain ⟨x3_1, x4_1, rfl, HA, HK1, HO_3, HB⟩ := hrel
    cases gk with
    | zero => exact absurd HA.out (by simp [laws_toItemS.l0])
    | succ k1 =>
     have H := HA.out
     clear HA
     simp only [laws_toItemS.l0] at H
     by_cases c6 : x4_1 < (l0.length : Int)
     ·rw [if_pos c6] at H
      have c6b0 := zae c6
      clear c6
      by_cases c7 : 0 ≤ x4_1
      ·rw [if_pos c7] at H
       have c7b0 := zae c7
       clear c7
       obtain ⟨⟨t122, t123, t124, t125⟩, A8, H⟩ := bnd H
       try dsimp only at H
       by_cases c9 : x4_1 < (x3_1.length : Int)
       ·rw [if_pos c9] at H
        have c9b0 := zae c9
        clear c9
        obtain ⟨y128, hy128⟩ : ∃ y_ : List (S34), y_ = (x3_1.set (x4_1 : Int).toNat (⟨t122, t123, t124, t125⟩ : S34)) := ⟨_, rfl⟩
        replace H : (laws_toItemS.l0 k1 l0 y128 (wrap64 (x4_1 + 1))) = some r := jrw hy128 H
        have Ny128 := Aside0.mk hy128
        clear hy128
        have H' := Aside0.mk H
        clear H
        have p121 : 0 ≤ (x4_1 : Int) := zac jab
        have q121 : x4_1 < (l0.length : Int) := zac jab
        obtain ⟨ad121, A121_3, c121_3, e121, hx121_0, hx121_1, hx121_2, hx121_3, hl121_3, hi121_3⟩ := at_T31 HR0.out x4_1 p121 q121
        cases e121
        replace hx121_0 := jcB HB.out hx121_0
        replace hx121_1 := jcB HB.out hx121_1
        replace hx121_2 := jcB HB.out hx121_2
        replace hx121_3 := jcB HB.out hx121_3
        have HR121_3 := Aside0.mk hi121_3
        have HC121_3 := Aside0.mk hl121_3
        clear hi121_3 hl121_3
        replace p121 := zbd p121
        replace q121 := zbd q121
        have p10 : 0 ≤ (x4_1 : Int) := zac jab
        have q10 : (x4_1 : Int) < ((x3_1.length : Int) : Int) := zac jab
        obtain ⟨gq, cq, eq, gbq, glq, clq, HGq⟩ := Kd.S_form HO_3.out (by omega)
        (first | cases eq | (injection eq with ea_ en_ ec_; (first | subst ea_ | (injection ea_ with ea_; subst ea_)); subst ec_; clear en_))
        obtain ⟨okq, ceq, hclq, hMq, hccq, hfrq, hokq, hHq⟩ := Kd.S_elem HO_3.out z34 (x4_1 : Int) p10 q10
        have HH := Aside0.mk (Kd.H_widen hHq)
        have HP := Aside0.mk p10
        have HQ := Aside0.mk q10
        have HCL := Aside0.mk hclq
        have HBS := Aside0.mk (zak HB.out)
        clear hclq hMq hccq hfrq hokq hHq gbq glq HGq
        replace p10 := zbd p10
        replace q10 := zbd q10
        go_wp2_with (first | (refine jgc 25 ?_; refine jgs 20 Try.func25 #[.agg #[.string ((rd_T31 l0 x4_1).f0), .int .i64 ((rd_T31 l0 x4_1).f1), .int .i64 ((rd_T31 l0 x4_1).f2), .slice A121_3 ((rd_T31 l0 x4_1).f3).length c121_3]] ?_; (with_reducible refine (laws_toItem.calls k1 ((rd_T31 l0 x4_1).f0) ((rd_T31 l0 x4_1).f1) ((rd_T31 l0 x4_1).f2) _ _ ((rd_T31 l0 x4_1).f3) t122 t123 t124 t125 _ ?side1 ?side2 A8.out).mono ?_); (case side1 => exact jcs HR121_3.out); (case side2 => exact HC121_3.out); rintro e w11 ⟨v126, rfl, ho0, hb⟩; refine ⟨_, rfl, ?_⟩; have n0_ := Aside0.mk (Kd.H_below (by (with_reducible repeat (first | apply Kd.H_alloc | apply Kd.H_drewN | apply Kd.H_drew)); exact HH.out) hb); have n1_ := Aside0.mk ho0; have n2_ := Aside0.mk (zab bq hb); clear HH HB; have HH := n0_; have HV := n1_; have HB := n2_; clear n0_ n1_ n2_; clear hb ho0) | ((with_reducible refine zdp (t := 34) (p := 21) rfl ?_); refine Kd.H_store (g := gq) (n := x3_1.length) (cap := cq) (o' := x4_1.toNat * 4) (w0 := w) k34 w.heap.size ?a1 ?a2 34 (.tmp 21) (.tmp 20) ?a3 34 (x4_1 : Int) 0 x3_1 (⟨t122, t123, t124, t125⟩ : S34) (.agg #[.string t122, .int .i64 t123, .int .i64 t124, v126]) [.string t122, .int .i64 t123, .int .i64 t124, v126] ceq (fun _ => True) (fun k_ => okq k_ ∨ True ∧ wr.heap.size ≤ k_) (fun k_ => wr.heap.size ≤ k_) ?a4 ?off ?a5 ?a6 ?ti ?one ?HO ?h0 ?h1 ?le ?hM ?hok ?HB ?_; (case HO => exact HH.out); (case a1 => rfl); (case a2 => rfl); (case a3 => rfl); (case a4 => rfl); (case a5 => rfl); (case a6 => rfl); (case h0 => exact HP.out); (case h1 => exact HQ.out); (case HB => exact HB.out); (case off => rfl); (case ti => kernel_rfl); (case one => intro q_ hq_; simp only [zcu, zca, zeq] at hq_; rcases hq_ with rfl | rfl | rfl | rfl; rfl; rfl; rfl; (obtain ⟨Az_, cz_, ez_⟩ := zbm HV.out; rw [ez_]; rfl)); (case le => exact zaf _); (case hM => rw [List.take_zero, List.nil_append, List.drop_eq_nil_of_le (by rw [HCL.out]; exact zaf 4), List.append_nil]; exact k34_mkM _ _ _ (⟨t122, t123, t124, t125⟩ : S34) (zbc (zav (Kd.R_newM (M := fun k_ => wr.heap.size ≤ k_) HV.out (zaf _) (fun k_ h_ => h_)) (fun _ hk => by first | exact hk | exact hk.1 | exact hk.2)) HBS.out)); (case hok => exact fun k_ hk_ => .inr ⟨trivial, hk_⟩); intro w1_ hs_ hb_ hg_; rw [← Ny128.out] at hs_; have n0_ := Aside0.mk hs_; have n1_ := Aside0.mk hb_; clear HH HB; have HO_q := n0_; have HB := n1_; clear n0_ n1_ hs_ hb_ hg_))
        go_roundg k1
        case measure => have := HK1.out; omega
        case rel => exact ⟨(y128), (wrap64 (x4_1 + 1)), jer, H', ⟨by have := HK1.out; omega⟩, ⟨pS HO_q.out⟩, ⟨bq⟩⟩
       ·rw [if_neg c9] at H
        exact absurd H (by simp)
      ·rw [if_neg c7] at H
       exact absurd H (by simp)
     ·rw [if_neg c6] at H
      have c6b0 := zas c6
      clear c6
      obtain rfl := Option.some.inj H
      go_wp2
      go_ret
      exact ⟨_, jex, by (with_reducible repeat (first | apply zdk | apply zdl | apply zdr)); exact HO_3.out, bq⟩
  ·rw [if_neg c3] at H
   exact absurd H (by simp)
 ·rw [if_neg c2] at H
  exact absurd H (by simp)
def laws_toPost.f (k : Nat) (l0_0 : List (S31)) (a0_1 : Int) (l0_2 : List Int) (a0_3 : Int) : Option ((List (S34)) × Int × List Int × Int) := (laws_toItemS.f k l0_0).bind fun t1340 => ((laws_toByteS.f k l0_2).bind fun t1343 => (some (t1340, a0_1, t1343, a0_3)))
theorem laws_toPost.mono : ∀ a0 a1 a2 a3 k, LeO (laws_toPost.f k a0 a1 a2 a3) (laws_toPost.f (k + 1) a0 a1 a2 a3) := by
 intro a0 a1 a2 a3 k
 unfold laws_toPost.f
 have m0 := @laws_toByteS.mono
 have m1 := @laws_toItemS.mono
 exact mt
theorem laws_toPost.calls (k : Nat) (A0_0 : Option Addr) (c0_0 : Nat) (l0_0 : List (S31)) (a0_1 : Int) (A0_2 : Option Addr) (c0_2 : Nat) (l0_2 : List Int) (a0_3 : Int) (r1 : List (S34)) (r2 : Int) (r3 : List Int) (r4 : Int) (w : World) (hr0_0 : Kd.C k31 w A0_0 l0_0.length l0_0) (hc0_0 : l0_0.length ≤ c0_0) (hr0_2 : Kd.C (Kd.int .u8) w A0_2 l0_2.length l0_2) (hc0_2 : l0_2.length ≤ c0_2) (h : laws_toPost.f k l0_0 a0_1 l0_2 a0_3 = some (r1, r2, r3, r4)) :
  Calls Try.prog 79 #[.agg #[.slice A0_0 l0_0.length c0_0, .int .i64 a0_1, .slice A0_2 l0_2.length c0_2, .int .i64 a0_3]] w fun e w' => ∃ v0_ v2_ : Value, e = .returned (.agg #[v0_, .int .i64 r2, v2_, .int .i64 r4]) ∧ Kd.S k34 34 w' w.heap.size (fun k_ => some k_ ≠ (v2_ : Value).ownBlock) v0_ r1 ∧ Kd.R (Kd.int .u8) 5 w' w.heap.size (fun _ => True) v2_ r3 ∧ Below w.heap.size w w' := by
 have hu86 := Try.underlying86
 have hu39 := Try.underlying39
 have HR0_0 := Aside0.mk hr0_0
 have HC0_0 := Aside0.mk hc0_0
 clear hr0_0 hc0_0
 have HR0_2 := Aside0.mk hr0_2
 have HC0_2 := Aside0.mk hc0_2
 clear hr0_2 hc0_2
 have HB := Aside0.mk (zbk w.heap.size w)
 have H : ((laws_toItemS.f k l0_0).bind fun t1340 => ((laws_toByteS.f k l0_2).bind fun t1343 => (some (t1340, a0_1, t1343, a0_3)))) = some (r1, r2, r3, r4) := h
 clear h
 obtain ⟨t1340, A2, H⟩ := bnd H
 obtain ⟨t1343, A3, H⟩ := bnd H
 simp only [zbz, zcj] at H
 obtain ⟨rfl, rfl, rfl, rfl⟩ := H
 go_enter Try.func79, Try.ntmps79
 go_wp2_with (first | (refine jgd 1 ?_; refine bx 1 (#[.slice A0_0 l0_0.length c0_0, .int .i64 a0_1, .slice A0_2 l0_2.length c0_2, .int .i64 a0_3]) 86 ?_; intro gb1337 hg w4 hbox hb; have xb_ := below_ofs bq hb; have n_ := jA4 (zab xb_ hb) (hbox) (ge0 hg xb_ : w.heap.size ≤ gb1337) (ge0 hg xb_ : w.heap.size ≤ gb1337); clear HB; obtain ⟨HB, BK1337, GW1337, GE1337⟩ := n_; clear xb_ hb hbox hg) | (refine jgd 2 ?_; refine bx 2 (#[.slice none 0 0, .int .i64 0, .slice none 0 0, .int .i64 0]) 39 ?_; intro gb1338 hg w5 hbox hb; have n_ := jA7 (jbb BK1337.out hb) (zab (bs1 GE1337.out) hb) (hbox) (ge0 hg (bs1 GE1337.out) : w.heap.size ≤ gb1338) (ge0 hg (bs1 GE1337.out) : w.heap.size ≤ gb1338) (nl hg (pB BK1337.out) : gb1337 ≠ gb1338) (ng hg (pB BK1337.out) : gb1338 ≠ gb1337); clear BK1337 HB; obtain ⟨BK1337, HB, BK1338, GW1338, GE1338, NB1337_1338, NB1338_1337⟩ := n_; clear hb hbox hg) | (refine jgd 3 ?_; refine bx 3 (#[.slice none 0 0, .int .i64 0, .slice none 0 0, .int .i64 0]) 39 ?_; intro gb1339 hg w6 hbox hb; have n_ := jA10 (jbb BK1337.out hb) (jbb BK1338.out hb) (zab (bs2 GE1337.out GE1338.out) hb) (hbox) (ge0 hg (bs2 GE1337.out GE1338.out) : w.heap.size ≤ gb1339) (ge0 hg (bs2 GE1337.out GE1338.out) : w.heap.size ≤ gb1339) (nl hg (pB BK1337.out) : gb1337 ≠ gb1339) (ng hg (pB BK1337.out) : gb1339 ≠ gb1337) (nl hg (pB BK1338.out) : gb1338 ≠ gb1339) (ng hg (pB BK1338.out) : gb1339 ≠ gb1338); clear BK1337 BK1338 HB; obtain ⟨BK1337, BK1338, HB, BK1339, GW1339, GE1339, NB1337_1339, NB1339_1337, NB1338_1339, NB1339_1338⟩ := n_; clear hb hbox hg; have hnb7 := NB1337_1338.out; have hnc7 := NB1338_1337.out; have hnb8 := NB1337_1339.out; have hnc8 := NB1339_1337.out; obtain ⟨hcz9_0, hcz9_1, hcz9_2, hcz9_3, hfz9_0, hfz9_1, hfz9_2, hfz9_3⟩ := cz4 BK1337.out) | (refine jgc 20 ?_; refine jgs 6 Try.func20 #[.slice A0_0 l0_0.length c0_0] ?_; (with_reducible refine (laws_toItemS.calls k _ _ l0_0 t1340 _ ?side1 ?side2 A2.out).mono ?_); (case side1 => exact jcs HR0_0.out); (case side2 => exact HC0_0.out); rintro e w10 ⟨v1341, rfl, ho0, hb⟩; refine ⟨_, rfl, ?_⟩; have n_ := jA5 (zeg ho0 (zak (bs3 GE1337.out GE1338.out GE1339.out))) (jbb BK1337.out hb) (jbb BK1338.out hb) (jbb BK1339.out hb) (zab (bs3 GE1337.out GE1338.out GE1339.out) hb); clear BK1337 BK1338 BK1339 HB; obtain ⟨HO1342, BK1337, BK1338, BK1339, HB⟩ := n_; clear hb ho0; obtain ⟨Ao11, co11, eo11⟩ := Kd.S_slice HO1342.out; subst eo11; have hnb12 := NB1339_1338.out; have hnc12 := NB1338_1339.out; obtain ⟨hcz13_0, hcz13_1, hcz13_2, hcz13_3, hfz13_0, hfz13_1, hfz13_2, hfz13_3⟩ := cz4 BK1339.out; obtain ⟨hcz14_0, hcz14_1, hcz14_2, hcz14_3, hfz14_0, hfz14_1, hfz14_2, hfz14_3⟩ := cz4 BK1337.out) | (refine jgc 55 ?_; refine jgs 13 Try.func55 #[.slice A0_2 l0_2.length c0_2] ?_; (with_reducible refine (laws_toByteS.calls k _ _ l0_2 t1343 _ ?side1 ?side2 A3.out).mono ?_); (case side1 => exact zaz HR0_2.out (bs3 GE1337.out GE1338.out GE1339.out)); (case side2 => exact HC0_2.out); rintro e w15 ⟨v1344, rfl, ho0, hb⟩; refine ⟨_, rfl, ?_⟩; have n_ := jA6 (zea (by (with_reducible repeat (first | apply zdk | apply zdl | apply zdr)); exact (zcx (zci (p := ⟨gb1339, 1, none⟩) (zci (p := ⟨gb1339, 0, none⟩) (zfp HO1342.out BK1339.out (by decide)) (fun _ hk => hk.2) (.slice Ao11 t1340.length co11)) (fun _ hk => hk.2) (.int .i64 a0_1)) (fun _ h_ => h_.1))) (zbe ho0) hb) (zbc ho0 (zak (bs3 GE1337.out GE1338.out GE1339.out))) (blk_below (g := gb1337) (o := .cells #[.slice A0_0 l0_0.length c0_0, .int .i64 a0_1, .slice A0_2 l0_2.length c0_2, .int .i64 a0_3] 86 (0, 0)) (by (with_reducible repeat (first | refine zbg ?_ _ | refine zbl ?_ | refine zbh ?_ _)); refine blk_far ?_ NB1337_1339.out _; (with_reducible repeat (first | refine zbg ?_ _ | refine zbl ?_ | refine zbh ?_ _)); refine blk_far ?_ NB1337_1339.out _; (with_reducible repeat (first | refine zbg ?_ _ | refine zbl ?_ | refine zbh ?_ _)); exact BK1337.out) hb) (blk_below (g := gb1338) (o := .cells #[.slice none 0 0, .int .i64 0, .slice none 0 0, .int .i64 0] 39 (0, 0)) (by (with_reducible repeat (first | refine zbg ?_ _ | refine zbl ?_ | refine zbh ?_ _)); refine blk_far ?_ NB1338_1339.out _; (with_reducible repeat (first | refine zbg ?_ _ | refine zbl ?_ | refine zbh ?_ _)); refine blk_far ?_ NB1338_1339.out _; (with_reducible repeat (first | refine zbg ?_ _ | refine zbl ?_ | refine zbh ?_ _)); exact BK1338.out) hb) (blk_below (g := gb1339) (o := .cells #[.slice Ao11 t1340.length co11, .int .i64 a0_1, .slice none 0 0, .int .i64 0] 39 (0, 0)) (by (with_reducible repeat (first | refine zbg ?_ _ | refine zbl ?_ | refine zbh ?_ _)); refine zdh (cs := #[.slice Ao11 t1340.length co11, .int .i64 0, .slice none 0 0, .int .i64 0]) ?_ 1 _ rfl; (with_reducible repeat (first | refine zbg ?_ _ | refine zbl ?_ | refine zbh ?_ _)); refine zdh (cs := #[.slice none 0 0, .int .i64 0, .slice none 0 0, .int .i64 0]) ?_ 0 _ rfl; (with_reducible repeat (first | refine zbg ?_ _ | refine zbl ?_ | refine zbh ?_ _)); exact BK1339.out) hb) (zab (bs3 GE1337.out GE1338.out GE1339.out) hb); clear HO1342 BK1337 BK1338 BK1339 HB; obtain ⟨HO1342, HO1345, BK1337, BK1338, BK1339, HB⟩ := n_; clear hb ho0; obtain ⟨Ao16, co16, eo16⟩ := zbm HO1345.out; subst eo16; obtain ⟨hcz17_0, hcz17_1, hcz17_2, hcz17_3, hfz17_0, hfz17_1, hfz17_2, hfz17_3⟩ := cz4 BK1339.out; obtain ⟨hcz18_0, hcz18_1, hcz18_2, hcz18_3, hfz18_0, hfz18_1, hfz18_2, hfz18_3⟩ := cz4 BK1337.out; obtain ⟨hcz19_0, hcz19_1, hcz19_2, hcz19_3, hfz19_0, hfz19_1, hfz19_2, hfz19_3⟩ := cz4 BK1338.out))
 refine zdx (results_cell_row rfl _ _ gb1338 39 #[.slice Ao11 t1340.length co11, .int .i64 a0_1, .slice Ao16 t1343.length co16, .int .i64 a0_3] (0, 0) _ rfl (by (with_reducible repeat (first | refine zbg ?_ _ | refine zbl ?_ | refine zbh ?_ _)); refine zdh (cs := #[.slice Ao11 t1340.length co11, .int .i64 a0_1, .slice Ao16 t1343.length co16, .int .i64 0]) ?_ 3 _ rfl; (with_reducible repeat (first | refine zbg ?_ _ | refine zbl ?_ | refine zbh ?_ _)); refine zdh (cs := #[.slice Ao11 t1340.length co11, .int .i64 a0_1, .slice none 0 0, .int .i64 0]) ?_ 2 _ rfl; (with_reducible repeat (first | refine zbg ?_ _ | refine zbl ?_ | refine zbh ?_ _)); refine zdh (cs := #[.slice Ao11 t1340.length co11, .int .i64 0, .slice none 0 0, .int .i64 0]) ?_ 1 _ rfl; (with_reducible repeat (first | refine zbg ?_ _ | refine zbl ?_ | refine zbh ?_ _)); refine zdh (cs := #[.slice none 0 0, .int .i64 0, .slice none 0 0, .int .i64 0]) ?_ 0 _ rfl; (with_reducible repeat (first | refine zbg ?_ _ | refine zbl ?_ | refine zbh ?_ _)); refine blk_far ?_ NB1338_1339.out _; (with_reducible repeat (first | refine zbg ?_ _ | refine zbl ?_ | refine zbh ?_ _)); refine blk_far ?_ NB1338_1339.out _; (with_reducible repeat (first | refine zbg ?_ _ | refine zbl ?_ | refine zbh ?_ _)); exact BK1338.out) Try.underlying39 rfl (by kernel_rfl)) rfl ?_
 exact ⟨_, _, jex, by (with_reducible repeat (first | apply zdk | apply zdl | apply zdr)); exact zcx (zci (p := ⟨gb1338, 3, none⟩) (zci (p := ⟨gb1338, 2, none⟩) (zci (p := ⟨gb1338, 1, none⟩) (zci (p := ⟨gb1338, 0, none⟩) (zci (p := ⟨gb1339, 3, none⟩) (zci (p := ⟨gb1339, 2, none⟩) (zfp (zfp HO1342.out BK1339.out (by decide)) BK1338.out (by decide)) (fun _ hk => hk.1.2) (.slice Ao16 t1343.length co16)) (fun _ hk => hk.1.2) (.int .i64 a0_3)) (fun _ hk => hk.2) (.slice Ao11 t1340.length co11)) (fun _ hk => hk.2) (.int .i64 a0_1)) (fun _ hk => hk.2) (.slice Ao16 t1343.length co16)) (fun _ hk => hk.2) (.int .i64 a0_3)) (fun _ hk => hk.1.1.2), by (with_reducible repeat (first | apply zbo | apply zbp | apply zbs)); exact zav (zbt (p := ⟨gb1338, 3, none⟩) (zbt (p := ⟨gb1338, 2, none⟩) (zbt (p := ⟨gb1338, 1, none⟩) (zbt (p := ⟨gb1338, 0, none⟩) (zbt (p := ⟨gb1339, 3, none⟩) (zbt (p := ⟨gb1339, 2, none⟩) (zcb (zcb HO1345.out BK1339.out (by decide)) BK1338.out (by decide)) (fun _ hk => hk.1.2) (.slice Ao16 t1343.length co16)) (fun _ hk => hk.1.2) (.int .i64 a0_3)) (fun _ hk => hk.2) (.slice Ao11 t1340.length co11)) (fun _ hk => hk.2) (.int .i64 a0_1)) (fun _ hk => hk.2) (.slice Ao16 t1343.length co16)) (fun _ hk => hk.2) (.int .i64 a0_3)) (fun _ hk => trivial), (bs3 GE1337.out GE1338.out GE1339.out)⟩
def impl_in.f (a0 : Int) (a1 : Int) (a2 : Int) : Option (Bool) := if a0 ≥ a1 then (some (decide (a0 ≤ a2))) else (some false)
theorem impl_in.wk {P : Prop} (h : P := by
 go_enter Try.func91, Try.ntmps91
 go_wp2
 go_ret
 exact ⟨by first | rfl | (simp; done) | (simp [*]; done), by repeat (first | exact Drawn0.refl _ | apply Drawn0.step)⟩) : P := h
theorem impl_in.calls (a0 : Int) (a1 : Int) (a2 : Int) (r : Bool) (w : World) (h : impl_in.f a0 a1 a2 = some r) :
  Calls Try.prog 91 #[.int .i64 a0, .int .i64 a1, .int .i64 a2] w fun e w' => e = .returned (.bool r) ∧ Drawn0 w w' := by
 have H : (if a0 ≥ a1 then (some (decide (a0 ≤ a2))) else (some false)) = some r := h
 clear h
 by_cases c4 : a0 ≥ a1
 ·rw [if_pos c4] at H
  have c4b0 := zae c4
  clear c4
  obtain rfl := Option.some.inj H
  exact impl_in.wk
 ·rw [if_neg c4] at H
  have c4b0 := zas c4
  clear c4
  obtain rfl := Option.some.inj H
  exact impl_in.wk
end Go.Proofs.Ytlalkldjpniakaa.P
/- Searching a list of items with a function value that takes an item and keeps what was: slices.IndexFunc, slices.ContainsFunc; for every list. -/
namespace Go.Proofs.Ytlalkldjpniakaa.P
open Go.RowKit Go.Proofs.YtlalkldjpniakaaW.PrintWords Go.Proofs.YtlalkldjpniakaaW.PrintLast Go.Proofs.YtlalkldjpniakaaW.PrintMore
set_option linter.unusedVariables false
set_option linter.unusedSimpArgs false
set_option maxHeartbeats 8000000
set_option maxRecDepth 100000
/-- What is asked of a function value: at every item it answers p, wherever block gc (what it has caught) holds o; and it leaves what was. -/
def PredI (g : Nat) (lb : Array Value) (gc : Nat) (o : Obj) (p : S34 → Bool) : Prop :=
  ∀ (W : World) (x : S34) (A : Option Addr) (c : Nat), W.heap[gc]? = some o → Calls Try.prog g (#[.agg #[.string x.f0, .int .i64 x.f1, .int .i64 x.f2, .slice A x.f3.length c]] ++ lb) W fun e w' => e = .returned (.bool (p x)) ∧ Below W.heap.size W w'
/-- The first place at which p holds, or -1. -/
def idxI (p : S34 → Bool) (xs : List S34) : Int := match xs.findIdx? p with
  | some i => (i : Int)
  | none => -1
theorem idxI_hit {p : S34 → Bool} {xs : List S34} {k : Nat} (hk : k < xs.length) (h : p (xs.getD k z34) = true) (ha : ∀ j, j < k → p (xs.getD j z34) = false) : idxI p xs = (k : Int) := by
  have h1 : xs.findIdx? p = some k := by
    rw [List.findIdx?_eq_some_iff_getElem]
    refine ⟨hk, by simpa [List.getD_eq_getElem?_getD, hk] using h, fun j hj => ?_⟩
    have := ha j hj
    simpa [List.getD_eq_getElem?_getD, show j < xs.length by omega] using this
  unfold idxI
  rw [h1]
theorem idxI_miss {p : S34 → Bool} {xs : List S34} (ha : ∀ j, j < xs.length → p (xs.getD j z34) = false) : idxI p xs = -1 := by
  have h1 : xs.findIdx? p = none := by
    rw [List.findIdx?_eq_none_iff]
    intro x hx
    obtain ⟨j, hj, rfl⟩ := List.mem_iff_getElem.1 hx
    have := ha j hj
    simpa [List.getD_eq_getElem?_getD, hj] using this
  unfold idxI
  rw [h1]
theorem idxI_cases (p : S34 → Bool) (xs : List S34) : (idxI p xs = -1 ∧ ∀ j, j < xs.length → p (xs.getD j z34) = false) ∨ ∃ k : Nat, k < xs.length ∧ idxI p xs = (k : Int) ∧ p (xs.getD k z34) = true ∧ ∀ j, j < k → p (xs.getD j z34) = false := by
  cases h : xs.findIdx? p with
  | none =>
    rw [List.findIdx?_eq_none_iff] at h
    have ha : ∀ j, j < xs.length → p (xs.getD j z34) = false := fun j hj => by
      have := h (xs.getD j z34) (by simp [List.getD_eq_getElem?_getD, hj])
      simpa using this
    exact .inl ⟨idxI_miss ha, ha⟩
  | some k =>
    rw [List.findIdx?_eq_some_iff_getElem] at h
    obtain ⟨hk, h1, h2⟩ := h
    have ha : ∀ j, j < k → p (xs.getD j z34) = false := fun j hj => by
      have := h2 j hj
      simpa [List.getD_eq_getElem?_getD, show j < xs.length by omega] using this
    have hp : p (xs.getD k z34) = true := by simpa [List.getD_eq_getElem?_getD, hk] using h1
    exact .inr ⟨k, hk, idxI_hit hk hp ha, hp, ha⟩
theorem any_idxI (p : S34 → Bool) (xs : List S34) : xs.any p = decide (0 ≤ idxI p xs) := by
  rcases idxI_cases p xs with ⟨h, ha⟩ | ⟨k, hk, h, hp, _⟩
  · rw [h]
    rw [List.any_eq_false.2 fun x hx => ?_]
    · rfl
    · obtain ⟨j, hj, rfl⟩ := List.mem_iff_getElem.1 hx
      have := ha j hj
      simpa [List.getD_eq_getElem?_getD, hj] using this
  · rw [h, List.any_eq_true.2 ⟨xs.getD k z34, by simp [List.getD_eq_getElem?_getD, hk], hp⟩]
    exact (decide_eq_true (by omega)).symm
set_option maxHeartbeats 4000000 in
theorem items_index (p : S34 → Bool) (g : Nat) (lb : Array Value) (gc : Nat) (o : Obj) (hp : PredI g lb gc o p) (eg : ∀ args w, (callFunc g args).run Try.prog w = .ok (.enter g args) w) (A : Option Addr) (c : Nat) (xs : List S34) (w : World) (hr : Kd.C k34 w A xs.length xs) (hc : xs.length ≤ c) (ho : w.heap[gc]? = some o) :
    Calls Try.prog 102 #[.slice A xs.length c, .func (.func g) #[] lb] w fun e w' => e = .returned (.int .i64 (idxI p xs)) ∧ Below w.heap.size w w' := by
  have hu34 := Try.underlying34
  have HR := Aside0.mk hr
  have HP := Aside0.mk hp
  have HO := Aside0.mk ho
  have hlen := hr.2.1
  obtain ⟨n, hn⟩ : ∃ n, xs.length = n := ⟨_, rfl⟩
  rw [hn] at hlen ⊢
  have HN := Aside0.mk hn
  clear hr hc hp ho hn
  go_enter Try.func102, Try.ntmps102
  go_wp2
  go_loopg [5, 8] n (fun gg _ s8 wr => ∃ kk : Nat, kk ≤ n ∧ n - kk ≤ gg ∧ s8 = .int .i64 kk ∧ Aside0 (Below w.heap.size w wr) ∧ Aside0 (∀ j, j < kk → p (xs.getD j z34) = false))
  case atStart => exact ⟨0, Nat.zero_le _, by omega, rfl, ⟨Below.refl _ w⟩, ⟨fun j hj => absurd hj (Nat.not_lt_zero _)⟩⟩
  case round =>
    obtain ⟨kk, hkk, hg, rfl, HB, FA⟩ := hrel
    by_cases hlt : kk < n
    · have hltz : (kk : Int) < (n : Int) := by omega
      obtain ⟨ad, A3, c3, rfl, h0, h1, h2, h3, _, _⟩ := at_T34 HR.out (kk : Int) (by omega) (by rw [HN.out]; exact hltz)
      replace h0 := (HB.out.cell (World.block_lt_of_cell? w _ h0)).trans h0
      replace h1 := (HB.out.cell (World.block_lt_of_cell? w _ h1)).trans h1
      replace h2 := (HB.out.cell (World.block_lt_of_cell? w _ h2)).trans h2
      replace h3 := (HB.out.cell (World.block_lt_of_cell? w _ h3)).trans h3
      simp only [Int.toNat_natCast] at h0 h1 h2 h3
      have hgc : gc < w.heap.size := (Array.getElem?_eq_some_iff.1 HO.out).1
      have hcall := HP.out wr (rd_T34 xs (kk : Int)) A3 c3 ((HB.out.block gc hgc).trans HO.out)
      have hx : rd_T34 xs (kk : Int) = xs.getD kk z34 := by unfold rd_T34; rw [Int.toNat_natCast]
      have HX := Aside0.mk hx
      generalize rd_T34 xs (kk : Int) = y at h0 h1 h2 h3 hcall HX
      clear hx hgc
      cases hq : p y with
      | true =>
        rw [hq] at hcall
        go_wp2_with (go_at_fn g; refine hcall.mono ?_; rintro e w' ⟨rfl, hb'⟩)
        go_ret
        exact ⟨by rw [idxI_hit (p := p) (xs := xs) (k := kk) (by rw [HN.out]; exact hlt) (by rw [← HX.out]; exact hq) FA.out]; rfl, below_step HB.out hb'⟩
      | false =>
        rw [hq] at hcall
        go_wp2_with (go_at_fn g; refine hcall.mono ?_; rintro e w' ⟨rfl, hb'⟩)
        go_roundg (n - (kk + 1))
        case measure => omega
        case rel =>
          refine ⟨kk + 1, by omega, by omega, by go_num, ⟨below_step HB.out hb'⟩, ⟨fun j hj => ?_⟩⟩
          by_cases e : j = kk
          · subst e
            rw [← HX.out]; exact hq
          · exact FA.out j (by omega)
    · have hltz : ¬ (kk : Int) < (n : Int) := by omega
      obtain rfl : kk = n := by omega
      go_wp2
      go_ret
      exact ⟨by rw [idxI_miss (p := p) (xs := xs) (fun j hj => FA.out j (by rw [← HN.out]; exact hj))]; rfl, HB.out⟩
set_option maxHeartbeats 4000000 in
theorem items_any (p : S34 → Bool) (g : Nat) (lb : Array Value) (gc : Nat) (o : Obj) (hp : PredI g lb gc o p) (eg : ∀ args w, (callFunc g args).run Try.prog w = .ok (.enter g args) w) (A : Option Addr) (c : Nat) (xs : List S34) (w : World) (hr : Kd.C k34 w A xs.length xs) (hc : xs.length ≤ c) (ho : w.heap[gc]? = some o) :
    Calls Try.prog 99 #[.slice A xs.length c, .func (.func g) #[] lb] w fun e w' => e = .returned (.bool (xs.any p)) ∧ Below w.heap.size w w' := by
  have hI := items_index p g lb gc o hp eg A c xs w hr hc ho
  rw [any_idxI]
  generalize idxI p xs = r at hI ⊢
  clear hr hc ho hp
  go_enter Try.func99, Try.ntmps99
  go_wp2_with ((go_at_call 102; refine hI.mono ?_; rintro e w' ⟨rfl, hb'⟩))
  go_ret
  exact ⟨rfl, hb'⟩
end Go.Proofs.Ytlalkldjpniakaa.P
/- The function values that the queue's functions make, and slices.DeleteFunc, slices.Delete over a list of items of the call's own. -/
namespace Go.Proofs.Ytlalkldjpniakaa.P
open Go.RowKit Go.Proofs.YtlalkldjpniakaaW.PrintWords Go.Proofs.YtlalkldjpniakaaW.PrintLast Go.Proofs.YtlalkldjpniakaaW.PrintMore
set_option linter.unusedVariables false
set_option linter.unusedSimpArgs false
set_option maxHeartbeats 8000000
set_option maxRecDepth 100000
theorem cells_of_block {W : World} {g : Nat} {a b c d : Value} (h : W.heap[g]? = some (.cells #[a, b, c, d] 34 (0, 0))) : W.cell? ⟨g, 0, none⟩ = some a ∧ W.cell? ⟨g, 1, none⟩ = some b ∧ W.cell? ⟨g, 2, none⟩ = some c ∧ W.cell? ⟨g, 3, none⟩ = some d :=
  ⟨(blk_cell h 0).trans rfl, (blk_cell h 1).trans rfl, (blk_cell h 2).trans rfl, (blk_cell h 3).trans rfl⟩
/-- 'x.Due < now'. -/
theorem due_pred (now : Int) (gc : Nat) : PredI 97 #[.pointer (some ⟨gc, 0, none⟩)] gc (.cells #[.int .i64 now] 3 (0, 0)) (fun x => decide (x.f2 < now)) := by
  intro W x A c ho
  have hc : W.cell? ⟨gc, 0, none⟩ = some (.int .i64 now) := (blk_cell ho 0).trans rfl
  have hlt : gc < W.heap.size := (Array.getElem?_eq_some_iff.1 ho).1
  have hne : gc ≠ W.heap.size := by omega
  have hu34 := Try.underlying34
  clear ho
  obtain ⟨q0, q1, q2, q3⟩ := x
  show Calls Try.prog 97 #[.agg #[.string q0, .int .i64 q1, .int .i64 q2, .slice A q3.length c], .pointer (some ⟨gc, 0, none⟩)] W _
  go_enter Try.func97, Try.ntmps97
  go_wp2
  all_goals (go_ret; exact ⟨by simp_all, (Below.refl _ W).alloc (Nat.le_refl _) _⟩)
/-- 'x.Route == route'. -/
theorem take_pred (route : ByteArray) (gc : Nat) : PredI 103 #[.pointer (some ⟨gc, 0, none⟩)] gc (.cells #[.string route] 9 (0, 0)) (fun x => x.f0.toList == route.toList) := by
  intro W x A c ho
  have hc : W.cell? ⟨gc, 0, none⟩ = some (.string route) := (blk_cell ho 0).trans rfl
  have hlt : gc < W.heap.size := (Array.getElem?_eq_some_iff.1 ho).1
  have hne : gc ≠ W.heap.size := by omega
  have hu34 := Try.underlying34
  clear ho
  obtain ⟨q0, q1, q2, q3⟩ := x
  show Calls Try.prog 103 #[.agg #[.string q0, .int .i64 q1, .int .i64 q2, .slice A q3.length c], .pointer (some ⟨gc, 0, none⟩)] W _
  go_enter Try.func103, Try.ntmps103
  go_wp2
  all_goals (go_ret; exact ⟨by simp_all, (Below.refl _ W).alloc (Nat.le_refl _) _⟩)
/-- 'y.Route == x.Route && y.Topic == x.Topic'. -/
def likeI (r : ByteArray) (t : Int) (x : S34) : Bool := x.f0.toList == r.toList && x.f1 == t
theorem queue_pred (r : ByteArray) (t d : Int) (sl : Value) (gc : Nat) : PredI 100 #[.pointer (some ⟨gc, 0, none⟩)] gc (.cells #[.string r, .int .i64 t, .int .i64 d, sl] 34 (0, 0)) (likeI r t) := by
  intro W x A c ho
  obtain ⟨h0, h1, _, _⟩ := cells_of_block ho
  have hlt : gc < W.heap.size := (Array.getElem?_eq_some_iff.1 ho).1
  have hne : gc ≠ W.heap.size := by omega
  have hu34 := Try.underlying34
  clear ho
  obtain ⟨q0, q1, q2, q3⟩ := x
  show Calls Try.prog 100 #[.agg #[.string q0, .int .i64 q1, .int .i64 q2, .slice A q3.length c], .pointer (some ⟨gc, 0, none⟩)] W fun e w' => e = .returned (.bool (q0.toList == r.toList && q1 == t)) ∧ Below W.heap.size W w'
  cases e0 : (q0.toList == r.toList) with
  | true =>
    cases e1 : (q1 == t) with
    | true =>
      go_enter Try.func100, Try.ntmps100
      go_wp2
      all_goals (go_ret; exact ⟨by simp_all, (Below.refl _ W).alloc (Nat.le_refl _) _⟩)
    | false =>
      go_enter Try.func100, Try.ntmps100
      go_wp2
      all_goals (go_ret; exact ⟨by simp_all, (Below.refl _ W).alloc (Nat.le_refl _) _⟩)
  | false =>
    go_enter Try.func100, Try.ntmps100
    go_wp2
    all_goals (go_ret; exact ⟨by simp_all, (Below.refl _ W).alloc (Nat.le_refl _) _⟩)
theorem put_pred (r : ByteArray) (t d : Int) (sl : Value) (gc : Nat) : PredI 120 #[.pointer (some ⟨gc, 0, none⟩)] gc (.cells #[.string r, .int .i64 t, .int .i64 d, sl] 34 (0, 0)) (likeI r t) := by
  intro W x A c ho
  obtain ⟨h0, h1, _, _⟩ := cells_of_block ho
  have hlt : gc < W.heap.size := (Array.getElem?_eq_some_iff.1 ho).1
  have hne : gc ≠ W.heap.size := by omega
  have hu34 := Try.underlying34
  clear ho
  obtain ⟨q0, q1, q2, q3⟩ := x
  show Calls Try.prog 120 #[.agg #[.string q0, .int .i64 q1, .int .i64 q2, .slice A q3.length c], .pointer (some ⟨gc, 0, none⟩)] W fun e w' => e = .returned (.bool (q0.toList == r.toList && q1 == t)) ∧ Below W.heap.size W w'
  cases e0 : (q0.toList == r.toList) with
  | true =>
    cases e1 : (q1 == t) with
    | true =>
      go_enter Try.func120, Try.ntmps120
      go_wp2
      all_goals (go_ret; exact ⟨by simp_all, (Below.refl _ W).alloc (Nat.le_refl _) _⟩)
    | false =>
      go_enter Try.func120, Try.ntmps120
      go_wp2
      all_goals (go_ret; exact ⟨by simp_all, (Below.refl _ W).alloc (Nat.le_refl _) _⟩)
  | false =>
    go_enter Try.func120, Try.ntmps120
    go_wp2
    all_goals (go_ret; exact ⟨by simp_all, (Below.refl _ W).alloc (Nat.le_refl _) _⟩)
/-- A row of items of one's own, as rows of cells: what each leads to is told by f. -/
theorem raw_of_S {v : Value} {xs : List S34} {w : World} {base : Nat} {ok : Nat → Prop} (h : Kd.S k34 34 w base ok v xs) :
    ∃ (f : Nat → Nat) (rows : List (List Value)), rows.length = xs.length ∧ (Kd.raw 4).R 34 w base (fun k => some k = v.ownBlock) v rows ∧ (∀ k, v.ownBlock = some k → ok k) ∧ ∀ (j : Nat) (x : S34) (c : List Value), xs[j]? = some x → rows[j]? = some c → k34.M w base (fun k => (ok k ∧ some k ≠ v.ownBlock) ∧ f k = j) x c := by
  obtain ⟨f, h0, inner, ho, hr⟩ := h
  have hlz : xs.zipIdx.length = xs.length := List.length_zipIdx
  rw [hlz] at ho
  have hraw := Kd.reps_raw hr (fun x c hp => ⟨k34.K_len (k34.K_of_M hp), k34.K_one (k34.K_of_M hp)⟩)
  rw [hlz] at hraw
  refine ⟨f, Kd.chunks 4 xs.length inner, Kd.chunks_length _ _ _, ⟨fun k hk => hk.symm, inner, by rw [Kd.chunks_length]; exact ho, hraw⟩, h0, fun j x c hx hc => ?_⟩
  rw [Kd.chunks_get hc]
  exact hr.2 j (x, j) (Kd.zip_at hx)
theorem S_of_raw {v : Value} {xs : List S34} {rows : List (List Value)} {w : World} {base : Nat} {ok okr : Nat → Prop} (f : Nat → Nat) (hv : ∀ k, v.ownBlock = some k → ok k) (hraw : (Kd.raw 4).R 34 w base okr v rows) (hl : rows.length = xs.length)
    (hM : ∀ (j : Nat) (x : S34) (c : List Value), xs[j]? = some x → rows[j]? = some c → k34.M w base (fun k => (ok k ∧ some k ≠ v.ownBlock) ∧ f k = j) x c) : Kd.S k34 34 w base ok v xs := by
  obtain ⟨_, inner, ho, hr⟩ := hraw
  refine ⟨f, hv, inner, by rw [List.length_zipIdx, ← hl]; exact ho, ⟨by rw [List.length_zipIdx, ← hl]; exact hr.1, fun j p hj => ?_⟩⟩
  rw [List.getElem?_zipIdx, Nat.zero_add] at hj
  obtain ⟨q, hq, rfl⟩ := Option.map_eq_some_iff.1 hj
  have hjl : j < rows.length := by have := (List.getElem?_eq_some_iff.1 hq).1; omega
  have hc := (hr.2 j _ (List.getElem?_eq_getElem hjl)).1
  show k34.M w base (fun k => (ok k ∧ some k ≠ v.ownBlock) ∧ f k = j) q ((inner.drop (j * 4)).take 4)
  rw [show (inner.drop (j * 4)).take 4 = rows[j] from hc]
  exact hM j q _ hq (List.getElem?_eq_getElem hjl)
/-- A variable of four cells is written whole. -/
theorem box_put {ops : Array Oper} {rest : List Oper} {o : Oper} {a : Act} {Q : Exit → Act → World → Prop} {W : World} (hN : o.dst = none) (hgd : o.guard = none) (p x : Operand) (ho : o.op = .store 34 p x) {g : Nat} {a0 a1 a2 a3 b0 b1 b2 b3 : Value}
    (haddr : a.eval p = .pointer (some ⟨g, 0, none⟩)) (hx : a.eval x = .agg #[b0, b1, b2, b3]) (hb : W.heap[g]? = some (.cells #[a0, a1, a2, a3] 34 (0, 0)))
    (ha : ∀ u ∈ [a0, a1, a2, a3], u.oneCell' = true) (h1 : ∀ u ∈ [b0, b1, b2, b3], u.oneCell' = true) (hc : (Value.agg #[b0, b1, b2, b3]).cells.toList = [b0, b1, b2, b3])
    (h : ∀ w1, W.grownBy w1 (some g) → w1.cell? ⟨g, 0, none⟩ = some b0 → w1.cell? ⟨g, 1, none⟩ = some b1 → w1.cell? ⟨g, 2, none⟩ = some b2 → w1.cell? ⟨g, 3, none⟩ = some b3 → wpList Try.prog ops Q rest a w1) : wpList Try.prog ops Q (o :: rest) a W := by
  have hlt : g < W.heap.size := (Array.getElem?_eq_some_iff.1 hb).1
  have hR : (Kd.raw 4).R 34 W g (fun _ => True) (.slice (some ⟨g, 0, none⟩) 1 1) [[a0, a1, a2, a3]] := by
    refine ⟨fun _ _ => trivial, [a0, a1, a2, a3], ⟨rfl, .inr ⟨g, 1, #[a0, a1, a2, a3], rfl, Nat.le_refl _, hb, Nat.le_refl _, by unfold maxLen; omega, by show 1 * 4 ≤ 4; omega, rfl⟩⟩, ?_⟩
    refine ⟨rfl, fun j q hj => ?_⟩
    match j, hj with
    | 0, hj =>
      obtain rfl := Option.some.inj hj
      exact ⟨rfl, rfl, ha⟩
    | j + 1, hj => simp at hj
  refine Kd.R_store (Kd.raw 4) (w0 := W) g hN hgd 34 p x ho 34 (o' := 0) (0 : Int) 0 [[a0, a1, a2, a3]] [b0, b1, b2, b3] (.agg #[b0, b1, b2, b3]) [b0, b1, b2, b3] [a0, a1, a2, a3] (fun _ => True) (fun _ => False) haddr rfl hx hc (by kernel_rfl) h1 hR (by omega) (by omega) rfl ?_ (by simp [Kd.raw]) ⟨rfl, rfl, h1⟩ (fun _ hk => hk.elim) (Below.refl _ _) ?_
  · intro j u hj
    rw [blk_cell hb]
    simpa using hj
  · intro w1 hr _ hg
    obtain ⟨c, hcl, hM, hcc, _⟩ := Kd.R_elem hr [] 0 (by omega) (by omega)
    have hce : c = [b0, b1, b2, b3] := hM.1
    subst hce
    exact h w1 hg (hcc 0 b0 rfl) (hcc 1 b1 rfl) (hcc 2 b2 rfl) (hcc 3 b3 rfl)
end Go.Proofs.Ytlalkldjpniakaa.P
/- slices.DeleteFunc over a list of items of the call's own: what p holds of goes, the others stay in their order. -/
namespace Go.Proofs.Ytlalkldjpniakaa.P
open Go.RowKit Go.Proofs.YtlalkldjpniakaaW.PrintWords Go.Proofs.YtlalkldjpniakaaW.PrintLast Go.Proofs.YtlalkldjpniakaaW.PrintMore
set_option linter.unusedVariables false
set_option linter.unusedSimpArgs false
set_option maxHeartbeats 8000000
set_option maxRecDepth 100000
/-- The places below j that stay. -/
def keptI (p : S34 → Bool) (xs : List S34) (j : Nat) : List Nat := (List.range j).filter fun t => !p (xs.getD t z34)
theorem keptI_succ (p : S34 → Bool) (xs : List S34) (j : Nat) : keptI p xs (j + 1) = keptI p xs j ++ (if p (xs.getD j z34) = true then [] else [j]) := by
  unfold keptI
  rw [List.range_succ, List.filter_append]
  congr 1
  cases h : p (xs.getD j z34)
  · rw [List.filter_cons_of_pos (by rw [h]; rfl), if_neg (by decide)]; rfl
  · rw [List.filter_cons_of_neg (by rw [h]; decide), if_pos rfl]; rfl
theorem keptI_lt {p : S34 → Bool} {xs : List S34} {j t : Nat} (h : t ∈ keptI p xs j) : t < j := by
  unfold keptI at h
  exact List.mem_range.1 (List.mem_filter.1 h).1
theorem keptI_all {p : S34 → Bool} {xs : List S34} : ∀ (j : Nat), (∀ t, t < j → p (xs.getD t z34) = false) → keptI p xs j = List.range j := by
  intro j h
  unfold keptI
  rw [List.filter_eq_self]
  intro t ht
  rw [h t (List.mem_range.1 ht)]; rfl
theorem keptI_le (p : S34 → Bool) (xs : List S34) (j : Nat) : (keptI p xs j).length ≤ j := by
  unfold keptI
  have := List.length_filter_le (fun t => !p (xs.getD t z34)) (List.range j)
  simpa using this
theorem filter_kept (p : S34 → Bool) (xs : List S34) : xs.filter (fun x => !p x) = (keptI p xs xs.length).map fun t => xs.getD t z34 := by
  have h : xs = (List.range xs.length).map fun t => xs.getD t z34 := by
    apply List.ext_getElem
    · simp
    · intro i h1 h2
      simp [List.getD_eq_getElem?_getD, h1]
  unfold keptI
  conv => lhs; rw [h]
  rw [List.filter_map]
  rfl
/-- The rows of cells behind j rounds: the first i are those that stayed. -/
structure KInv (rows : List (List Value)) (p : S34 → Bool) (xs : List S34) (j i : Nat) (dk : List (List Value)) : Prop where
  len : dk.length = rows.length
  num : (keptI p xs j).length = i
  low : dk.take i = (keptI p xs j).map fun t => rows.getD t []
  high : dk.drop j = rows.drop j
theorem KInv.lt {rows : List (List Value)} {p : S34 → Bool} {xs : List S34} {j i : Nat} {dk : List (List Value)} (h : KInv rows p xs j i dk) : i ≤ j := by
  rw [← h.num]; exact keptI_le p xs j
theorem KInv.start {rows : List (List Value)} {p : S34 → Bool} {xs : List S34} {k : Nat} (hk : k < rows.length) (hp : p (xs.getD k z34) = true) (ha : ∀ t, t < k → p (xs.getD t z34) = false) : KInv rows p xs (k + 1) k rows := by
  have hs : keptI p xs (k + 1) = List.range k := by rw [keptI_succ, if_pos hp, List.append_nil, keptI_all k ha]
  refine ⟨rfl, by rw [hs, List.length_range], ?_, rfl⟩
  rw [hs]
  apply List.ext_getElem
  · simp; omega
  · intro i h1 h2
    simp at h1
    simp [List.getD_eq_getElem?_getD, show i < rows.length by omega]
theorem KInv.skip {rows : List (List Value)} {p : S34 → Bool} {xs : List S34} {j i : Nat} {dk : List (List Value)} (h : KInv rows p xs j i dk) (hp : p (xs.getD j z34) = true) : KInv rows p xs (j + 1) i dk := by
  have hs : keptI p xs (j + 1) = keptI p xs j := by rw [keptI_succ, if_pos hp, List.append_nil]
  refine ⟨h.len, by rw [hs]; exact h.num, by rw [hs]; exact h.low, ?_⟩
  have := congrArg (List.drop 1) h.high
  simpa [List.drop_drop, Nat.add_comm] using this
theorem KInv.keep {rows : List (List Value)} {p : S34 → Bool} {xs : List S34} {j i : Nat} {dk : List (List Value)} (h : KInv rows p xs j i dk) (hp : p (xs.getD j z34) = false) (hj : j < rows.length) : KInv rows p xs (j + 1) (i + 1) (dk.set i (rows.getD j [])) := by
  have hs : keptI p xs (j + 1) = keptI p xs j ++ [j] := by rw [keptI_succ, if_neg (by rw [hp]; decide)]
  have hi := h.lt
  have hl := h.len
  refine ⟨by rw [List.length_set]; exact h.len, by rw [hs, List.length_append, h.num]; rfl, ?_, ?_⟩
  · rw [hs, List.map_append, ← h.low, List.take_succ_eq_append_getElem (by rw [List.length_set]; omega), List.take_set_of_le (by omega), List.getElem_set_self]
    rfl
  · rw [List.drop_set_of_lt (by omega)]
    have := congrArg (List.drop 1) h.high
    simpa [List.drop_drop, Nat.add_comm] using this
theorem KInv.at_ {rows : List (List Value)} {p : S34 → Bool} {xs : List S34} {j i : Nat} {dk : List (List Value)} (h : KInv rows p xs j i dk) (hj : j < rows.length) : dk.getD j [] = rows.getD j [] := by
  have := congrArg (fun l => l[0]?) h.high
  simp only [List.getElem?_drop, Nat.add_zero] at this
  rw [List.getD_eq_getElem?_getD, List.getD_eq_getElem?_getD, this]
def zeros4 (n : Nat) : List Value := (Builtin.zeroCells #[.string ⟨#[]⟩, .int .i64 0, .int .i64 0, .slice none 0 0] n).toList
theorem zeros4_length (n : Nat) : (zeros4 n).length = n * 4 := by simp [zeros4, Builtin.zeroCells]
theorem run_clear4 (w : World) (ty : TypeId) (g o n c : Nat) (hn : 0 < n) (hc : ∀ j, j < n * 4 → (w.cell? ⟨g, o + j, none⟩).isSome = true) (hf : ∀ j, j < n * 4 → w.frozen? ⟨g, o + j, none⟩ = false) :
    (Builtin.clear_ #[25] ty #[.slice (some ⟨g, o, none⟩) n c]).run Try.prog w = .ok (.tuple #[]) (w.setCells g o (zeros4 n)) := by
  have hz : ∀ w, (zeroValue 34).run Try.prog w = .ok (.agg #[.string ⟨#[]⟩, .int .i64 0, .int .i64 0, .slice none 0 0]) w := by
    intro w
    kernel_rfl
  have hcs : (Value.agg #[.string ⟨#[]⟩, .int .i64 0, .int .i64 0, .slice none 0 0]).cells = #[.string ⟨#[]⟩, .int .i64 0, .int .i64 0, .slice none 0 0] := rfl
  obtain ⟨seg, hseg⟩ : ∃ seg, (Builtin.zeroCells #[.string ⟨#[]⟩, .int .i64 0, .int .i64 0, .slice none 0 0] n).toList = seg := ⟨_, rfl⟩
  have hl : seg.length = n * 4 := by rw [← hseg]; simp [Builtin.zeroCells]
  have h1 : ∀ v ∈ seg, v.oneCell' = true := by
    intro v hv
    rw [← hseg] at hv
    simp only [Builtin.zeroCells, Array.toList_map, List.mem_map] at hv
    obtain ⟨i, _, rfl⟩ := hv
    have h4 : i % 4 < 4 := Nat.mod_lt _ (by omega)
    show ((#[.string ⟨#[]⟩, .int .i64 0, .int .i64 0, .slice none 0 0] : Array Value)[i % 4]!).oneCell' = true
    match i % 4, h4 with
    | 0, _ => rfl
    | 1, _ => rfl
    | 2, _ => rfl
    | 3, _ => rfl
  have hst := run_storeCells_cells (P := Try.prog) g o seg 0 w (by rw [hl]; simpa using hc) (by rw [hl]; simpa using hf) h1
  simp only [Nat.add_zero] at hst
  unfold zeros4
  rw [hseg]
  obtain ⟨m, rfl⟩ : ∃ m, n = m + 1 := ⟨n - 1, by omega⟩
  simp [Builtin.clear_, run_underlying Try.underlying25, hz, hcs, hseg, hst]
theorem grown_trans {w w1 w2 : World} {r : Option Nat} (h : w.grownBy w1 r) (k : w1.grownBy w2 r) : w.grownBy w2 r :=
  ⟨k.os.trans h.os, k.tape.trans h.tape, k.output.trans h.output, Nat.le_trans h.size k.size, fun q hq hr => (k.block q (Nat.lt_of_lt_of_le hq h.size) hr).trans (h.block q hq hr)⟩
theorem grown_below {w w1 w2 : World} {r : Option Nat} (h : Below w.heap.size w w1) (k : w1.grownBy w2 r) : w.grownBy w2 r := grown_trans (grown_of_below h r) k
/-- What is written is newer than w. -/
theorem grown_new {w w1 w2 : World} {r : Option Nat} {gb : Nat} (h : w.grownBy w1 r) (k : w1.grownBy w2 (some gb)) (hle : w1.heap.size ≤ gb) : w.grownBy w2 r :=
  ⟨k.os.trans h.os, k.tape.trans h.tape, k.output.trans h.output, Nat.le_trans h.size k.size, fun q hq hr => (k.block q (Nat.lt_of_lt_of_le hq h.size) (fun e => by injection e with e; have := h.size; omega)).trans (h.block q hq hr)⟩
theorem grown_setCells4 (w : World) (g o : Nat) (seg : List Value) : w.grownBy (w.setCells g o seg) (some g) := by
  obtain ⟨s1, s2, s3, s4⟩ := setCells_same g seg o w
  exact ⟨s1, s2, s3, Nat.le_of_eq s4.symm, fun k _ hne => setCells_far seg o k (fun e => hne (by rw [e]))⟩
/-- What lies ahead of what is cleared stays. -/
theorem raw_cleared {w : World} {base g n cap : Nat} {okr : Nat → Prop} {rows : List (List Value)} (h : (Kd.raw 4).R 34 w base okr (.slice (some ⟨g, 0, none⟩) n cap) rows) (i : Nat) (hi : i ≤ n) (seg : List Value) (hs : seg.length = (n - i) * 4) :
    (Kd.raw 4).R 34 (w.setCells g (i * 4) seg) base okr (.slice (some ⟨g, 0, none⟩) i cap) (rows.take i) ∧ w.grownBy (w.setCells g (i * 4) seg) (some g) := by
  have hn := (Kd.R_reads' h).1
  have ht := Kd.R_take h (m := i) (by omega)
  obtain ⟨h0, inner, ho, hr⟩ := ht
  obtain ⟨_, inner2, ho2, hr2⟩ := h
  rcases ho2.2 with ⟨hv, _⟩ | ⟨g2, cap2, cur2, hv, hb2, hh2, hnc2, hm2, hsz2, htk2⟩
  · cases hv
  rcases ho.2 with ⟨hv', _⟩ | ⟨g3, cap3, cur3, hv3, hb3, hh3, hnc3, hm3, hsz3, htk3⟩
  · cases hv'
  injection hv with hva hvn hvc
  injection hva with hva
  injection hva with hvg
  injection hv3 with hva3 hvn3 hvc3
  injection hva3 with hva3
  injection hva3 with hvg3
  subst hvg hvg3 hvc hvc3
  rw [hh2] at hh3
  injection hh3 with hh3
  injection hh3 with hh3
  subst hh3
  have hsz : cap * 4 ≤ cur2.size := hsz2
  have m1 : n * 4 ≤ cap * 4 := Nat.mul_le_mul_right _ (by omega)
  have m2 : i * 4 + (n - i) * 4 = n * 4 := by rw [← Nat.add_mul]; congr 1; omega
  have m3 : i * 4 ≤ n * 4 := Nat.mul_le_mul_right _ hi
  obtain ⟨cur', c1, c2, c3⟩ := setCells_row seg (i * 4) w cur2 hh2 (by rw [hs]; omega)
  refine ⟨⟨h0, inner, ⟨ho.1, .inr ⟨g, cap, cur', by rw [← hvn3], hb2, c1, hnc3, hm2, by rw [c2]; exact hsz2, ?_⟩⟩, hr⟩, ?_⟩
  · rw [← htk3, c3, ← hvn3]
    show (cur2.toList.take (i * 4) ++ seg ++ cur2.toList.drop (i * 4 + seg.length)).take (i * 4) = cur2.toList.take (i * 4)
    rw [List.append_assoc, List.take_append_of_le_length (by rw [List.length_take, Array.length_toList]; omega), List.take_take, Nat.min_self]
  · exact grown_setCells4 w g (i * 4) seg
end Go.Proofs.Ytlalkldjpniakaa.P
