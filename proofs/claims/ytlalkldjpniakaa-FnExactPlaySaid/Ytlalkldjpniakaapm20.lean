import Derived.Test.Ytlalkldjpniakaapm19
import Derived.Test.Ytlalkldjpniakaapm18
namespace Go.Proofs.Ytlalkldjpniakaa.P
open Go.RowKit Go.Proofs.YtlalkldjpniakaaW.PrintWords Go.Proofs.YtlalkldjpniakaaW.PrintLast Go.Proofs.YtlalkldjpniakaaW.PrintMore
attribute [local go_sem] zcm zcn zdi zdj zbz zca zco zcp   -- for this text's walks alone
set_option linter.unusedVariables false
set_option linter.unusedSimpArgs false
set_option maxHeartbeats 8000000
set_option maxRecDepth 100000

def laws_toItem.f (k : Nat) (a0_0 : ByteArray) (a0_1 : Int) (a0_2 : Int) (l0_3 : List Int) : Option (ByteArray × Int × Int × List Int) := (laws_toByteS.f k l0_3).bind fun t115 => (some (a0_0, a0_1, a0_2, t115))
theorem laws_toItem.mono : ∀ a0 a1 a2 a3 k, LeO (laws_toItem.f k a0 a1 a2 a3) (laws_toItem.f (k + 1) a0 a1 a2 a3) := by
 intro a0 a1 a2 a3 k
 unfold laws_toItem.f
 have m0 := @laws_toByteS.mono
 exact mt
theorem laws_toItem.calls (k : Nat) (a0_0 : ByteArray) (a0_1 : Int) (a0_2 : Int) (A0_3 : Option Addr) (c0_3 : Nat) (l0_3 : List Int) (r1 : ByteArray) (r2 : Int) (r3 : Int) (r4 : List Int) (w : World) (hr0_3 : Kd.C (Kd.int .u8) w A0_3 l0_3.length l0_3) (hc0_3 : l0_3.length ≤ c0_3) (h : laws_toItem.f k a0_0 a0_1 a0_2 l0_3 = some (r1, r2, r3, r4)) :
  Calls Try.prog 25 #[.agg #[.string a0_0, .int .i64 a0_1, .int .i64 a0_2, .slice A0_3 l0_3.length c0_3]] w fun e w' => ∃ v3_ : Value, e = .returned (.agg #[.string r1, .int .i64 r2, .int .i64 r3, v3_]) ∧ Kd.R (Kd.int .u8) 5 w' w.heap.size (fun _ => True) v3_ r4 ∧ Below w.heap.size w w' := by
 have hu31 := Try.underlying31
 have hu34 := Try.underlying34
 have HR0_3 := Aside0.mk hr0_3
 have HC0_3 := Aside0.mk hc0_3
 clear hr0_3 hc0_3
 have HB := Aside0.mk (zbj w.heap.size w)
 have H : ((laws_toByteS.f k l0_3).bind fun t115 => (some (a0_0, a0_1, a0_2, t115))) = some (r1, r2, r3, r4) := h
 clear h
 obtain ⟨t115, A2, H⟩ := bnd H
 simp only [zbx, zcg] at H
 obtain ⟨rfl, rfl, rfl, rfl⟩ := H
 go_enter Try.func25, Try.ntmps25
 go_wp2_with (first | (refine jgd 1 ?_; refine bx 1 (#[.string a0_0, .int .i64 a0_1, .int .i64 a0_2, .slice A0_3 l0_3.length c0_3]) 31 ?_; intro gb112 hg w3 hbox hb; have xb_ := below_ofs bq hb; have n_ := jA4 (zad xb_ hb) (hbox) (ge0 hg xb_ : w.heap.size ≤ gb112) (ge0 hg xb_ : w.heap.size ≤ gb112); clear HB; obtain ⟨HB, BK112, GW112, GE112⟩ := n_; clear xb_ hb hbox hg) | (refine jgd 2 ?_; refine bx 2 (#[.string (⟨#[]⟩ : ByteArray), .int .i64 0, .int .i64 0, .slice none 0 0]) 34 ?_; intro gb113 hg w4 hbox hb; have n_ := jA7 (jbb BK112.out hb) (zad (bs1 GE112.out) hb) (hbox) (ge0 hg (bs1 GE112.out) : w.heap.size ≤ gb113) (ge0 hg (bs1 GE112.out) : w.heap.size ≤ gb113) (nl hg (pB BK112.out) : gb112 ≠ gb113) (ng hg (pB BK112.out) : gb113 ≠ gb112); clear BK112 HB; obtain ⟨BK112, HB, BK113, GW113, GE113, NB112_113, NB113_112⟩ := n_; clear hb hbox hg) | (refine jgd 3 ?_; refine bx 3 (#[.string (⟨#[]⟩ : ByteArray), .int .i64 0, .int .i64 0, .slice none 0 0]) 34 ?_; intro gb114 hg w5 hbox hb; have n_ := jA10 (jbb BK112.out hb) (jbb BK113.out hb) (zad (bs2 GE112.out GE113.out) hb) (hbox) (ge0 hg (bs2 GE112.out GE113.out) : w.heap.size ≤ gb114) (ge0 hg (bs2 GE112.out GE113.out) : w.heap.size ≤ gb114) (nl hg (pB BK112.out) : gb112 ≠ gb114) (ng hg (pB BK112.out) : gb114 ≠ gb112) (nl hg (pB BK113.out) : gb113 ≠ gb114) (ng hg (pB BK113.out) : gb114 ≠ gb113); clear BK112 BK113 HB; obtain ⟨BK112, BK113, HB, BK114, GW114, GE114, NB112_114, NB114_112, NB113_114, NB114_113⟩ := n_; clear hb hbox hg; have hnb6 := NB112_113.out; have hnc6 := NB113_112.out; have hnb7 := NB112_114.out; have hnc7 := NB114_112.out; obtain ⟨hcz8_0, hcz8_1, hcz8_2, hcz8_3, hfz8_0, hfz8_1, hfz8_2, hfz8_3⟩ := cz4 BK112.out; have hnb9 := NB114_113.out; have hnc9 := NB113_114.out; obtain ⟨hcz10_0, hcz10_1, hcz10_2, hcz10_3, hfz10_0, hfz10_1, hfz10_2, hfz10_3⟩ := cz4 BK114.out) | (refine jgc 55 ?_; refine jgs 15 Try.func55 #[.slice A0_3 l0_3.length c0_3] ?_; (with_reducible refine (laws_toByteS.calls k _ _ l0_3 t115 _ ?side1 ?side2 A2.out).mono ?_); (case side1 => exact zbb HR0_3.out (bs3 GE112.out GE113.out GE114.out)); (case side2 => exact HC0_3.out); rintro e w11 ⟨v116, rfl, ho0, hb⟩; refine ⟨_, rfl, ?_⟩; have n_ := jA5 (zaw ho0 (zah (bs3 GE112.out GE113.out GE114.out))) (blk_below (g := gb112) (o := .cells #[.string a0_0, .int .i64 a0_1, .int .i64 a0_2, .slice A0_3 l0_3.length c0_3] 31 (0, 0)) (by (with_reducible repeat (first | refine zbr ?_ _ | refine zbu ?_ | refine zbs ?_ _)); refine blk_far ?_ NB112_114.out _; (with_reducible repeat (first | refine zbr ?_ _ | refine zbu ?_ | refine zbs ?_ _)); refine blk_far ?_ NB112_114.out _; (with_reducible repeat (first | refine zbr ?_ _ | refine zbu ?_ | refine zbs ?_ _)); refine blk_far ?_ NB112_114.out _; (with_reducible repeat (first | refine zbr ?_ _ | refine zbu ?_ | refine zbs ?_ _)); exact BK112.out) hb) (blk_below (g := gb113) (o := .cells #[.string (⟨#[]⟩ : ByteArray), .int .i64 0, .int .i64 0, .slice none 0 0] 34 (0, 0)) (by (with_reducible repeat (first | refine zbr ?_ _ | refine zbu ?_ | refine zbs ?_ _)); refine blk_far ?_ NB113_114.out _; (with_reducible repeat (first | refine zbr ?_ _ | refine zbu ?_ | refine zbs ?_ _)); refine blk_far ?_ NB113_114.out _; (with_reducible repeat (first | refine zbr ?_ _ | refine zbu ?_ | refine zbs ?_ _)); refine blk_far ?_ NB113_114.out _; (with_reducible repeat (first | refine zbr ?_ _ | refine zbu ?_ | refine zbs ?_ _)); exact BK113.out) hb) (blk_below (g := gb114) (o := .cells #[.string a0_0, .int .i64 a0_1, .int .i64 a0_2, .slice none 0 0] 34 (0, 0)) (by (with_reducible repeat (first | refine zbr ?_ _ | refine zbu ?_ | refine zbs ?_ _)); refine zea (cs := #[.string a0_0, .int .i64 a0_1, .int .i64 0, .slice none 0 0]) ?_ 2 _ rfl; (with_reducible repeat (first | refine zbr ?_ _ | refine zbu ?_ | refine zbs ?_ _)); refine zea (cs := #[.string a0_0, .int .i64 0, .int .i64 0, .slice none 0 0]) ?_ 1 _ rfl; (with_reducible repeat (first | refine zbr ?_ _ | refine zbu ?_ | refine zbs ?_ _)); refine zea (cs := #[.string (⟨#[]⟩ : ByteArray), .int .i64 0, .int .i64 0, .slice none 0 0]) ?_ 0 _ rfl; (with_reducible repeat (first | refine zbr ?_ _ | refine zbu ?_ | refine zbs ?_ _)); exact BK114.out) hb) (zad (bs3 GE112.out GE113.out GE114.out) hb); clear BK112 BK113 BK114 HB; obtain ⟨HO117, BK112, BK113, BK114, HB⟩ := n_; clear hb ho0; obtain ⟨Ao12, co12, eo12⟩ := zbg HO117.out; subst eo12; obtain ⟨hcz13_0, hcz13_1, hcz13_2, hcz13_3, hfz13_0, hfz13_1, hfz13_2, hfz13_3⟩ := cz4 BK114.out; obtain ⟨hcz14_0, hcz14_1, hcz14_2, hcz14_3, hfz14_0, hfz14_1, hfz14_2, hfz14_3⟩ := cz4 BK113.out))
 refine zeg (results_cell_row rfl _ _ gb113 34 #[.string a0_0, .int .i64 a0_1, .int .i64 a0_2, .slice Ao12 t115.length co12] (0, 0) _ rfl (by (with_reducible repeat (first | refine zbr ?_ _ | refine zbu ?_ | refine zbs ?_ _)); refine zea (cs := #[.string a0_0, .int .i64 a0_1, .int .i64 a0_2, .slice none 0 0]) ?_ 3 _ rfl; (with_reducible repeat (first | refine zbr ?_ _ | refine zbu ?_ | refine zbs ?_ _)); refine zea (cs := #[.string a0_0, .int .i64 a0_1, .int .i64 0, .slice none 0 0]) ?_ 2 _ rfl; (with_reducible repeat (first | refine zbr ?_ _ | refine zbu ?_ | refine zbs ?_ _)); refine zea (cs := #[.string a0_0, .int .i64 0, .int .i64 0, .slice none 0 0]) ?_ 1 _ rfl; (with_reducible repeat (first | refine zbr ?_ _ | refine zbu ?_ | refine zbs ?_ _)); refine zea (cs := #[.string (⟨#[]⟩ : ByteArray), .int .i64 0, .int .i64 0, .slice none 0 0]) ?_ 0 _ rfl; (with_reducible repeat (first | refine zbr ?_ _ | refine zbu ?_ | refine zbs ?_ _)); refine blk_far ?_ NB113_114.out _; (with_reducible repeat (first | refine zbr ?_ _ | refine zbu ?_ | refine zbs ?_ _)); exact BK113.out) Try.underlying34 rfl (by kernel_rfl)) rfl ?_
 exact ⟨_, jex, by (with_reducible repeat (first | apply zap | apply zaq | apply zav)); exact zak (zch (p := ⟨gb113, 3, none⟩) (zch (p := ⟨gb113, 2, none⟩) (zch (p := ⟨gb113, 1, none⟩) (zch (p := ⟨gb113, 0, none⟩) (zch (p := ⟨gb114, 3, none⟩) (zby (zby HO117.out BK114.out (by decide)) BK113.out (by decide)) (fun _ hk => hk.1.2) (.slice Ao12 t115.length co12)) (fun _ hk => hk.2) (.string a0_0)) (fun _ hk => hk.2) (.int .i64 a0_1)) (fun _ hk => hk.2) (.int .i64 a0_2)) (fun _ hk => hk.2) (.slice Ao12 t115.length co12)) (fun _ hk => trivial), (bs3 GE112.out GE113.out GE114.out)⟩
def laws_toItemS.l0 : Nat → List (S31) → List (S34) → Int → Option ((List (S34)))
 | 0, _, _, _ => none
 | k + 1, x0, x3, x4 => if x4 < (x0.length : Int) then (if 0 ≤ x4 then ((laws_toItem.f k ((rd_T31 x0 x4).f0) ((rd_T31 x0 x4).f1) ((rd_T31 x0 x4).f2) ((rd_T31 x0 x4).f3)).bind fun bt122 => (if x4 < (x3.length : Int) then (laws_toItemS.l0 k x0 (x3.set (x4 : Int).toNat (⟨bt122.1, bt122.2.1, bt122.2.2.1, bt122.2.2.2⟩ : S34)) (wrap64 (x4 + 1))) else (none))) else (none)) else (some x3)
def laws_toItemS.f (k : Nat) (l0 : List (S31)) : Option ((List (S34))) := if 0 ≤ (l0.length : Int) then (if ((l0.length : Int) : Int).toNat ≤ 5026338869833 then (laws_toItemS.l0 k l0 (List.replicate ((l0.length : Int) : Int).toNat z34) 0) else (none)) else (none)
theorem laws_toItemS.mono_l : ∀ k, (∀ y0 y1 y2, LeO (laws_toItemS.l0 k y0 y1 y2) (laws_toItemS.l0 (k + 1) y0 y1 y2))
 | 0 => fun _ _ _ r h => by simp [laws_toItemS.l0] at h
 | k + 1 => by
  have ih0 := laws_toItemS.mono_l k
  ·intro y0 y1 y2
   unfold laws_toItemS.l0
   have m0 := @laws_toItem.mono
   exact mt
theorem laws_toItemS.mono : ∀ a0 k, LeO (laws_toItemS.f k a0) (laws_toItemS.f (k + 1) a0) := by
 intro a0 k
 have ih0 := laws_toItemS.mono_l k
 unfold laws_toItemS.f
 have m0 := @laws_toItem.mono
 exact mt
theorem laws_toItemS.calls (k : Nat) (A0 : Option Addr) (c0 : Nat) (l0 : List (S31)) (r : List (S34)) (w : World) (hr0 : Kd.C k31 w A0 l0.length l0) (hc0 : l0.length ≤ c0) (h : laws_toItemS.f k l0 = some r) :
  Calls Try.prog 20 #[.slice A0 l0.length c0] w fun e w' => ∃ v0_ : Value, e = .returned (v0_) ∧ Kd.S k34 34 w' w.heap.size (fun _ => True) v0_ r ∧ Below w.heap.size w w' := by
 have hu31 := Try.underlying31
 have hu34 := Try.underlying34
 have HR0 := Aside0.mk hr0
 have HC0 := Aside0.mk hc0
 clear hr0 hc0
 have HB := Aside0.mk (zbj w.heap.size w)
 have H : (if 0 ≤ (l0.length : Int) then (if ((l0.length : Int) : Int).toNat ≤ 5026338869833 then (laws_toItemS.l0 k l0 (List.replicate ((l0.length : Int) : Int).toNat z34) 0) else (none)) else (none)) = some r := h
 clear h
 by_cases c2 : 0 ≤ (l0.length : Int)
 ·rw [if_pos c2] at H
  have c2b0 := zay c2
  have c2b1 := zae c2
  clear c2
  by_cases c3 : ((l0.length : Int) : Int).toNat ≤ 5026338869833
  ·rw [if_pos c3] at H
   have c3b0 := zay c3
   have c3b1 := zae c3
   clear c3
   obtain ⟨y118, hy118⟩ : ∃ y_ : List (S34), y_ = (List.replicate ((l0.length : Int) : Int).toNat z34) := ⟨_, rfl⟩
   replace H : (laws_toItemS.l0 k l0 y118 0) = some r := jrw hy118 H
   have Ny118 := Aside0.mk hy118
   clear hy118
   have H' := Aside0.mk H
   clear H
   go_enter Try.func20, Try.ntmps20
   go_wp2_with (first | (refine jgd 7 ?_; refine Kd.S_make k34 _ 34 rfl (N := 7) rfl 25 _ _ rfl (l0.length : Int) rfl rfl Try.underlying25 (.agg #[(.string ⟨#[]⟩), (.int .i64 0), (.int .i64 0), (.slice none 0 0)]) 56 info34 rfl (by decide) (by omega) z34 (ok := fun _ => True) (okp := fun _ => True) (zgf _ _ _ z34 (zgi _ _ _ _ _)) (fun _ hk => hk) trivial (zaa jab) (zdd (Nat.mul_le_mul_right _ (zaa jab : (l0.length : Int).toNat ≤ 5026338869833)) (by omega)) (zbj _ _) (zaf _) ?_; intro v119 w4 ho5 hb hg_ hnew_; have xb_ := below_ofs bq hb; clear hg_ hnew_; (first | rw [← Ny118.out] at ho5 | (simp only [Int.reduceToNat] at ho5; rw [← Ny118.out] at ho5)); have n_ := jA2 (zeq ho5 (zah xb_)) (zad xb_ hb); clear HB; obtain ⟨HO120, HB⟩ := n_; clear xb_ hb ho5))
   go_loopg [4] k (fun kq v4 w' => ∃ (x3_1 : List (S34)) (x4_1 : Int), v4 = .int .i64 x4_1 ∧ Aside0 (laws_toItemS.l0 kq l0 x3_1 x4_1 = some r) ∧ Aside0 (kq ≤ k) ∧ Aside0 (Kd.S k34 34 w' w.heap.size (fun _ => True) v119 x3_1) ∧ Aside0 (Below w.heap.size w w'))
   case atStart => exact ⟨(y118), (0), jer, H', ⟨zaf _⟩, ⟨pS HO120.out⟩, ⟨bq⟩⟩
   case round =>
    clear H'
    try clear c2
    try clear c2b0
    try clear c2b1
    try clear p2
    try clear c3
    try clear c3b0
    try clear c3b1
    obtain ⟨x3_1, x4_1, rfl, HA, HK1, HO_3, HB⟩ := hrel
    cases gk with
    | zero => exact absurd HA.out (by simp [laws_toItemS.l0])
    | succ k1 =>
     have H := HA.out
     clear HA
     simp only [laws_toItemS.l0] at H
     by_cases c6 : x4_1 < (l0.length : Int)
     ·rw [if_pos c6] at H
      have c6b0 := zae c6
      clear c6
      by_cases c7 : 0 ≤ x4_1
      ·rw [if_pos c7] at H
       have c7b0 := zae c7
       clear c7
       obtain ⟨⟨t122, t123, t124, t125⟩, A8, H⟩ := bnd H
       try dsimp only at H
       by_cases c9 : x4_1 < (x3_1.length : Int)
       ·rw [if_pos c9] at H
        have c9b0 := zae c9
        clear c9
        obtain ⟨y128, hy128⟩ : ∃ y_ : List (S34), y_ = (x3_1.set (x4_1 : Int).toNat (⟨t122, t123, t124, t125⟩ : S34)) := ⟨_, rfl⟩
        replace H : (laws_toItemS.l0 k1 l0 y128 (wrap64 (x4_1 + 1))) = some r := jrw hy128 H
        have Ny128 := Aside0.mk hy128
        clear hy128
        have H' := Aside0.mk H
        clear H
        have p121 : 0 ≤ (x4_1 : Int) := zaa jab
        have q121 : x4_1 < (l0.length : Int) := zaa jab
        obtain ⟨ad121, A121_3, c121_3, e121, hx121_0, hx121_1, hx121_2, hx121_3, hl121_3, hi121_3⟩ := at_T31 HR0.out x4_1 p121 q121
        cases e121
        replace hx121_0 := jcB HB.out hx121_0
        replace hx121_1 := jcB HB.out hx121_1
        replace hx121_2 := jcB HB.out hx121_2
        replace hx121_3 := jcB HB.out hx121_3
        have HR121_3 := Aside0.mk hi121_3
        have HC121_3 := Aside0.mk hl121_3
        clear hi121_3 hl121_3
        replace p121 := zay p121
        replace q121 := zay q121
        have p10 : 0 ≤ (x4_1 : Int) := zaa jab
        have q10 : (x4_1 : Int) < ((x3_1.length : Int) : Int) := zaa jab
        obtain ⟨gq, cq, eq, gbq, glq, clq, HGq⟩ := Kd.S_form HO_3.out (by omega)
        (first | cases eq | (injection eq with ea_ en_ ec_; (first | subst ea_ | (injection ea_ with ea_; subst ea_)); subst ec_; clear en_))
        obtain ⟨okq, ceq, hclq, hMq, hccq, hfrq, hokq, hHq⟩ := Kd.S_elem HO_3.out z34 (x4_1 : Int) p10 q10
        have HH := Aside0.mk (Kd.H_widen hHq)
        have HP := Aside0.mk p10
        have HQ := Aside0.mk q10
        have HCL := Aside0.mk hclq
        have HBS := Aside0.mk (zah HB.out)
        clear hclq hMq hccq hfrq hokq hHq gbq glq HGq
        replace p10 := zay p10
        replace q10 := zay q10
        go_wp2_with (first | (refine jgc 25 ?_; refine jgs 20 Try.func25 #[.agg #[.string ((rd_T31 l0 x4_1).f0), .int .i64 ((rd_T31 l0 x4_1).f1), .int .i64 ((rd_T31 l0 x4_1).f2), .slice A121_3 ((rd_T31 l0 x4_1).f3).length c121_3]] ?_; (with_reducible refine (laws_toItem.calls k1 ((rd_T31 l0 x4_1).f0) ((rd_T31 l0 x4_1).f1) ((rd_T31 l0 x4_1).f2) _ _ ((rd_T31 l0 x4_1).f3) t122 t123 t124 t125 _ ?side1 ?side2 A8.out).mono ?_); (case side1 => exact jcs HR121_3.out); (case side2 => exact HC121_3.out); rintro e w11 ⟨v126, rfl, ho0, hb⟩; refine ⟨_, rfl, ?_⟩; have n0_ := Aside0.mk (Kd.H_below (by (with_reducible repeat (first | apply Kd.H_alloc | apply Kd.H_drewN | apply Kd.H_drew)); exact HH.out) hb); have n1_ := Aside0.mk ho0; have n2_ := Aside0.mk (zad bq hb); clear HH HB; have HH := n0_; have HV := n1_; have HB := n2_; clear n0_ n1_ n2_; clear hb ho0) | ((with_reducible refine zdy (t := 34) (p := 21) rfl ?_); refine Kd.H_store (g := gq) (n := x3_1.length) (cap := cq) (o' := x4_1.toNat * 4) (w0 := w) k34 w.heap.size ?a1 ?a2 34 (.tmp 21) (.tmp 20) ?a3 34 (x4_1 : Int) 0 x3_1 (⟨t122, t123, t124, t125⟩ : S34) (.agg #[.string t122, .int .i64 t123, .int .i64 t124, v126]) [.string t122, .int .i64 t123, .int .i64 t124, v126] ceq (fun _ => True) (fun k_ => okq k_ ∨ True ∧ wr.heap.size ≤ k_) (fun k_ => wr.heap.size ≤ k_) ?a4 ?off ?a5 ?a6 ?ti ?one ?HO ?h0 ?h1 ?le ?hM ?hok ?HB ?_; (case HO => exact HH.out); (case a1 => rfl); (case a2 => rfl); (case a3 => rfl); (case a4 => rfl); (case a5 => rfl); (case a6 => rfl); (case h0 => exact HP.out); (case h1 => exact HQ.out); (case HB => exact HB.out); (case off => rfl); (case ti => kernel_rfl); (case one => intro q_ hq_; simp only [zdc, zcf, zfh] at hq_; rcases hq_ with rfl | rfl | rfl | rfl; rfl; rfl; rfl; (obtain ⟨Az_, cz_, ez_⟩ := zbg HV.out; rw [ez_]; rfl)); (case le => exact zaf _); (case hM => rw [List.take_zero, List.nil_append, List.drop_eq_nil_of_le (by rw [HCL.out]; exact zaf 4), List.append_nil]; exact zgf _ _ _ (⟨t122, t123, t124, t125⟩ : S34) (zaw (zak (Kd.R_newM (M := fun k_ => wr.heap.size ≤ k_) HV.out (zaf _) (fun k_ h_ => h_)) (fun _ hk => by first | exact hk | exact hk.1 | exact hk.2)) HBS.out)); (case hok => exact fun k_ hk_ => .inr ⟨trivial, hk_⟩); intro w1_ hs_ hb_ hg_; rw [← Ny128.out] at hs_; have n0_ := Aside0.mk hs_; have n1_ := Aside0.mk hb_; clear HH HB; have HO_q := n0_; have HB := n1_; clear n0_ n1_ hs_ hb_ hg_))
        go_roundg k1
        case measure => have := HK1.out; omega
        case rel => exact ⟨(y128), (wrap64 (x4_1 + 1)), jer, H', ⟨by have := HK1.out; omega⟩, ⟨pS HO_q.out⟩, ⟨bq⟩⟩
       ·rw [if_neg c9] at H
        exact absurd H (by simp)
      ·rw [if_neg c7] at H
       exact absurd H (by simp)
     ·rw [if_neg c6] at H
      have c6b0 := zas c6
      clear c6
      obtain rfl := Option.some.inj H
      go_wp2
      go_ret
      exact ⟨_, jex, by (with_reducible repeat (first | apply zcy | apply zcz | apply zdr)); exact HO_3.out, bq⟩
  ·rw [if_neg c3] at H
   exact absurd H (by simp)
 ·rw [if_neg c2] at H
  exact absurd H (by simp)
end Go.Proofs.Ytlalkldjpniakaa.P
/- What the laws' own helpers over items compute: sizes, copies, comparisons. -/
namespace Go.Proofs.Ytlalkldjpniakaa.B
open Go.RowKit Go.Proofs.Ytlalkldjpniakaa.P Go.Proofs.YtlalkldjpniakaaW.PrintWords Go.Proofs.YtlalkldjpniakaaW.PrintLast Go.Proofs.YtlalkldjpniakaaW.PrintMore
theorem szByteS (l : List Int) (a : Int) (hl : l.length ≤ maxLen) (h0 : 0 ≤ a) (h1 : a ≤ 1048576) : laws_szByteS.f l a = some (if (l.length : Int) > a then -1 else a - l.length) := by
  unfold laws_szByteS.f
  unfold maxLen at hl
  rw [wrap_eq _ (by omega) (by omega)]
  by_cases h : (l.length : Int) > a
  · rw [if_pos (by omega), if_pos h]
  · rw [if_neg (by omega), if_neg h]
/-- The size of an item: what is left, or less than nothing. -/
theorem szItem (s : ByteArray) (n m : Int) (l : List Int) (a : Int) (hs : s.size ≤ maxLen) (hl : l.length ≤ maxLen) (h0 : 0 ≤ a) (h1 : a ≤ 1048576) :
    laws_szItem.f s n m l a = some (-1) ∨ (laws_szItem.f s n m l a = some (a - s.size - l.length) ∧ (s.size : Int) + l.length ≤ a) := by
  unfold laws_szItem.f
  have hs' := hs
  unfold maxLen at hs'
  rw [wrap_eq _ (by omega) (by omega)]
  by_cases h : a - (s.size : Int) < 0
  · rw [if_pos h]; exact .inl rfl
  · rw [if_neg h, szByteS l _ hl (by omega) (by omega), Option.bind_some]
    by_cases h2 : (l.length : Int) > a - (s.size : Int)
    · rw [if_pos h2, if_pos (by omega)]; exact .inl rfl
    · rw [if_neg h2, if_neg (by omega)]; exact .inr ⟨rfl, by omega⟩
def okIt (x : S31) : Prop := x.f0.size ≤ maxLen ∧ x.f3.length ≤ maxLen
def fits (x : S31) : Prop := x.f0.size ≤ 1048576 ∧ x.f3.length ≤ 1048576
/-- The item as it is built anew. -/
def it (x : S31) : S34 := ⟨x.f0, x.f1, x.f2, x.f3⟩
theorem rdT31_mid (pre : List S31) (x : S31) (rest : List S31) : rd_T31 (pre ++ x :: rest) (pre.length : Int) = x := by
  unfold rd_T31; simp [List.getD_eq_getElem?_getD]
theorem rdT34_mid (pre : List S34) (x : S34) (rest : List S34) : rd_T34 (pre ++ x :: rest) (pre.length : Int) = x := by
  unfold rd_T34; simp [List.getD_eq_getElem?_getD]
theorem set_midT (pre : List S34) (a b : S34) (rest : List S34) : (pre ++ b :: rest).set ((pre.length : Int).toNat) a = pre ++ a :: rest := by simp
theorem szItemS_l0 : ∀ (rest pre : List S31) (a : Int) (k : Nat), (∀ y ∈ rest, okIt y) → 0 ≤ a → a ≤ 1048576 → pre.length + rest.length ≤ 4611686018427387904 → rest.length < k →
    ∃ r, laws_szItemS.l0 k (pre ++ rest) a (pre.length : Int) = some r ∧ (¬ r < 0 → ∀ y ∈ rest, fits y)
  | [], pre, a, k, hg, h0, h1, hb, hk => by
    obtain ⟨k, rfl⟩ : ∃ m, k = m + 1 := ⟨k - 1, by omega⟩
    refine ⟨a, ?_, by simp⟩
    simp only [laws_szItemS.l0]; rw [if_neg (nlt_end pre)]
  | x :: rest, pre, a, k, hg, h0, h1, hb, hk => by
    obtain ⟨k, rfl⟩ : ∃ m, k = m + 1 := ⟨k - 1, by simp at hk; omega⟩
    simp only [List.length_cons] at hb hk
    have hx := hg x List.mem_cons_self
    simp only [laws_szItemS.l0]
    rw [if_pos (lt_mid pre x rest), if_pos (pre_nonneg pre), rdT31_mid]
    rcases szItem x.f0 x.f1 x.f2 x.f3 a hx.1 hx.2 h0 h1 with e | ⟨e, hle⟩
    · rw [e, Option.bind_some, if_pos (by omega)]
      exact ⟨-1, rfl, fun h => absurd (by omega) h⟩
    · rw [e, Option.bind_some, if_neg (by omega), wrap_step pre x (by omega), snoc_app pre x rest]
      obtain ⟨r, hr, hf⟩ := szItemS_l0 rest (pre ++ [x]) (a - x.f0.size - x.f3.length) k (fun y hy => hg y (List.mem_cons_of_mem _ hy)) (by omega) (by omega) (by simp; omega) (by omega)
      refine ⟨r, hr, fun h y hy => ?_⟩
      rcases List.mem_cons.1 hy with rfl | hy
      · unfold fits; omega
      · exact hf h y hy
theorem szItemS (l : List S31) (a : Int) (hl : l.length ≤ maxLen) (hg : ∀ y ∈ l, okIt y) (h0 : 0 ≤ a) (h1 : a ≤ 1048576) (k : Nat) (hk : l.length < k) :
    ∃ r, laws_szItemS.f k l a = some r ∧ (¬ r < 0 → l.length ≤ 1048576 ∧ ∀ y ∈ l, fits y) := by
  unfold laws_szItemS.f
  have hl' := hl
  unfold maxLen at hl'
  rw [wrap_eq _ (by omega) (by omega)]
  by_cases h : a - (l.length : Int) < 0
  · rw [if_pos h]; exact ⟨-1, rfl, fun h => absurd (by omega) h⟩
  · rw [if_neg h]
    obtain ⟨r, hr, hf⟩ := szItemS_l0 l [] (a - l.length) k hg (by omega) (by omega) (by simp; omega) hk
    exact ⟨r, hr, fun h => ⟨by omega, hf h⟩⟩
theorem toItem (s : ByteArray) (n m : Int) (l : List Int) (hl : l.length ≤ 1048576) (k : Nat) (hk : 1048576 < k) : laws_toItem.f k s n m l = some (s, n, m, l) := by
  unfold laws_toItem.f
  rw [toByteS l (by omega) k (by omega)]; rfl
theorem toItemS_l0 : ∀ (rest : List S31) (rest' : List S34) (pre : List S31) (k : Nat), (∀ y ∈ rest, fits y) → rest'.length = rest.length → pre.length + rest.length ≤ 1099511627776 → rest.length + 1048576 < k →
    laws_toItemS.l0 k (pre ++ rest) (pre.map it ++ rest') (pre.length : Int) = some ((pre ++ rest).map it)
  | [], rest', pre, k, hf, hl, hb, hk => by
    obtain ⟨k, rfl⟩ : ∃ m, k = m + 1 := ⟨k - 1, by omega⟩
    obtain rfl : rest' = [] := List.eq_nil_of_length_eq_zero (by simpa using hl)
    simp only [laws_toItemS.l0]; rw [if_neg (nlt_end pre)]; simp
  | x :: rest, rest', pre, k, hf, hl, hb, hk => by
    obtain ⟨k, rfl⟩ : ∃ m, k = m + 1 := ⟨k - 1, by simp at hk; omega⟩
    cases rest' with
    | nil => simp at hl
    | cons b rest' =>
      simp only [List.length_cons] at hl hb hk
      have hx := hf x List.mem_cons_self
      have ih := toItemS_l0 rest rest' (pre ++ [x]) k (fun y hy => hf y (List.mem_cons_of_mem _ hy)) (by omega) (by simp; omega) (by omega)
      have hp : pre.length = (pre.map it).length := by simp
      simp only [laws_toItemS.l0]
      rw [if_pos (lt_mid pre x rest), if_pos (pre_nonneg pre), rdT31_mid, toItem _ _ _ _ hx.2 k (by omega), Option.bind_some, if_pos (by rw [hp]; exact lt_mid _ b rest'), wrap_step pre x (by omega)]
      rw [show (pre.map it ++ b :: rest').set ((pre.length : Int).toNat) (⟨x.f0, x.f1, x.f2, x.f3⟩ : S34) = (pre ++ [x]).map it ++ rest' from by rw [hp, set_midT, List.map_append, List.append_assoc]; rfl, snoc_app pre x rest]
      exact ih
theorem toItemS (l : List S31) (hl : l.length ≤ 1048576) (hf : ∀ y ∈ l, fits y) (k : Nat) (hk : 2097152 < k) : laws_toItemS.f k l = some (l.map it) := by
  unfold laws_toItemS.f
  rw [if_pos (by omega), if_pos (by omega)]
  have h := toItemS_l0 l (List.replicate l.length z34) [] k hf (by simp) (by simp; omega) (by omega)
  rw [Int.toNat_natCast]
  exact h
theorem eqItem_same (s : ByteArray) (n m : Int) (l : List Int) (hl : l.length ≤ 1048576) (k : Nat) (hk : 1048576 < k) : laws_eqItem.f k s n m l s n m l = some true := by
  unfold laws_eqItem.f
  rw [if_pos rfl, if_pos rfl, if_pos rfl, eqByteS_same l (by omega) k (by omega)]; rfl
theorem eqItemS_l0 : ∀ (rest pre : List S34) (k : Nat), (∀ y ∈ rest, y.f3.length ≤ 1048576) → pre.length + rest.length ≤ 1099511627776 → rest.length + 1048576 < k → laws_eqItemS.l0 k (pre ++ rest) (pre ++ rest) (pre.length : Int) = some true
  | [], pre, k, hf, hb, hk => by
    obtain ⟨k, rfl⟩ : ∃ m, k = m + 1 := ⟨k - 1, by omega⟩
    simp only [laws_eqItemS.l0]; rw [if_neg (nlt_end pre)]
  | x :: rest, pre, k, hf, hb, hk => by
    obtain ⟨k, rfl⟩ : ∃ m, k = m + 1 := ⟨k - 1, by simp at hk; omega⟩
    simp only [List.length_cons] at hb hk
    have ih := eqItemS_l0 rest (pre ++ [x]) k (fun y hy => hf y (List.mem_cons_of_mem _ hy)) (by simp; omega) (by omega)
    simp only [laws_eqItemS.l0]
    rw [if_pos (lt_mid pre x rest), if_pos (pre_nonneg pre), if_pos (lt_mid pre x rest), rdT34_mid, eqItem_same _ _ _ _ (hf x List.mem_cons_self) k (by omega), Option.bind_some, if_pos rfl, wrap_step pre x (by omega), snoc_app pre x rest]
    exact ih
theorem eqItemS_same (l : List S34) (hl : l.length ≤ 1048576) (hf : ∀ y ∈ l, y.f3.length ≤ 1048576) (k : Nat) (hk : 2097152 < k) : laws_eqItemS.f k l l = some true := by
  unfold laws_eqItemS.f
  rw [if_pos rfl]
  exact eqItemS_l0 l [] k hf (by simp; omega) (by omega)
end Go.Proofs.Ytlalkldjpniakaa.B
/- Of, by the program and by the reference: how many items have a route; for lists of at most 2^40 items. -/
namespace Go.Proofs.Ytlalkldjpniakaa.B
open Go.RowKit Go.Proofs.Ytlalkldjpniakaa.P Go.Proofs.YtlalkldjpniakaaW.PrintWords Go.Proofs.YtlalkldjpniakaaW.PrintLast Go.Proofs.YtlalkldjpniakaaW.PrintMore
def ofL (a : ByteArray) : List S34 → Int
  | [] => 0
  | x :: l => (if x.f0.toList = a.toList then 1 else 0) + ofL a l
theorem ofL_bounds (a : ByteArray) : ∀ l : List S34, 0 ≤ ofL a l ∧ ofL a l ≤ l.length
  | [] => by simp [ofL]
  | x :: l => by
    have := ofL_bounds a l
    simp only [ofL, List.length_cons]
    split <;> omega
theorem specOf_l0 (a : ByteArray) : ∀ (rest pre : List S34) (n : Int) (k : Nat), 0 ≤ n → n + rest.length ≤ 1099511627776 → pre.length + rest.length ≤ 1099511627776 → rest.length < k →
    spec_Of.l0 k (pre ++ rest) a n (pre.length : Int) = some (n + ofL a rest)
  | [], pre, n, k, h0, hn, hb, hk => by
    obtain ⟨k, rfl⟩ : ∃ m, k = m + 1 := ⟨k - 1, by omega⟩
    simp only [spec_Of.l0]; rw [if_neg (nlt_end pre)]; simp [ofL]
  | x :: rest, pre, n, k, h0, hn, hb, hk => by
    obtain ⟨k, rfl⟩ : ∃ m, k = m + 1 := ⟨k - 1, by simp at hk; omega⟩
    simp only [List.length_cons] at hb hk hn
    simp only [spec_Of.l0]
    rw [if_pos (lt_mid pre x rest), if_pos (pre_nonneg pre), rdT34_mid, wrap_step pre x (by omega), snoc_app pre x rest]
    unfold spec_l1Bit.f
    by_cases e : x.f0.toList = a.toList
    · have ih := specOf_l0 a rest (pre ++ [x]) (n + 1) k (by omega) (by omega) (by simp; omega) (by omega)
      rw [if_pos (by simpa using e), Option.bind_some, wrap_eq _ (by omega) (by omega), ih]
      simp only [ofL]; rw [if_pos e]; congr 1; omega
    · have ih := specOf_l0 a rest (pre ++ [x]) n k (by omega) (by omega) (by simp; omega) (by omega)
      rw [if_neg (by simpa using e), Option.bind_some, wrap_eq _ (by omega) (by omega), Int.add_zero, ih]
      simp only [ofL]; rw [if_neg e]; congr 1; omega
theorem specOf (l : List S34) (a : ByteArray) (hl : l.length ≤ 1099511627776) (k : Nat) (hk : l.length < k) : spec_Of.f k l a = some (ofL a l) := by
  have h := specOf_l0 a l [] 0 k (by omega) (by omega) (by simp; omega) hk
  simpa [spec_Of.f] using h
theorem implOf_l0 (a : ByteArray) : ∀ (rest pre : List S34) (n m : Int) (k : Nat), m = (((pre ++ rest).length : Nat) : Int) → 0 ≤ n → n + rest.length ≤ 1099511627776 → pre.length + rest.length ≤ 1099511627776 → rest.length < k →
    impl_Of.l0 k a n (pre ++ rest) m (pre.length : Int) = some (n + ofL a rest)
  | [], pre, n, m, k, hm, h0, hn, hb, hk => by
    obtain ⟨k, rfl⟩ : ∃ m, k = m + 1 := ⟨k - 1, by omega⟩
    simp only [impl_Of.l0]; rw [hm, if_neg (nlt_end pre)]; simp [ofL]
  | x :: rest, pre, n, m, k, hm, h0, hn, hb, hk => by
    obtain ⟨k, rfl⟩ : ∃ m, k = m + 1 := ⟨k - 1, by simp at hk; omega⟩
    simp only [List.length_cons] at hb hk hn
    simp only [impl_Of.l0]
    rw [if_pos (by rw [hm]; exact lt_mid pre x rest), if_pos (pre_nonneg pre), if_pos (lt_mid pre x rest), rdT34_mid, wrap_step pre x (by omega), snoc_app pre x rest]
    by_cases e : x.f0.toList = a.toList
    · have ih := implOf_l0 a rest (pre ++ [x]) (n + 1) m k (by rw [hm]; simp) (by omega) (by omega) (by simp; omega) (by omega)
      rw [if_pos e, wrap_eq _ (by omega) (by omega), ih]
      simp only [ofL]; rw [if_pos e]; congr 1; omega
    · have ih := implOf_l0 a rest (pre ++ [x]) n m k (by rw [hm]; simp) (by omega) (by omega) (by simp; omega) (by omega)
      rw [if_neg e, ih]
      simp only [ofL]; rw [if_neg e]; congr 1; omega
theorem implOf (l : List S34) (a : ByteArray) (hl : l.length ≤ 1099511627776) (k : Nat) (hk : l.length < k) : impl_Of.f k l a = some (ofL a l) := by
  have h := implOf_l0 a l [] 0 _ k rfl (by omega) (by omega) (by simp; omega) hk
  simpa [impl_Of.f] using h
end Go.Proofs.Ytlalkldjpniakaa.B
/- QueueOk, by the program and by the reference: one answer; for lists of at most 2^40 items whose routes are no longer than 2^40. -/
namespace Go.Proofs.Ytlalkldjpniakaa.B
open Go.RowKit Go.Proofs.Ytlalkldjpniakaa.P Go.Proofs.YtlalkldjpniakaaW.PrintWords Go.Proofs.YtlalkldjpniakaaW.PrintLast Go.Proofs.YtlalkldjpniakaaW.PrintMore
/-- Whether an item is in order. -/
noncomputable def okB (x : S34) : Bool := if h : x.f0.size ≤ 1099511627776 then (itemOk x.f0 x.f1 x.f2 x.f3 h).choose else false
theorem okB_spec (x : S34) (h : x.f0.size ≤ 1099511627776) (k : Nat) (hk : x.f0.size + 3 < k) : spec_ItemOk.f k x.f0 x.f1 x.f2 x.f3 = some (okB x) := by
  unfold okB
  rw [dif_pos h]
  exact ((itemOk x.f0 x.f1 x.f2 x.f3 h).choose_spec k hk).1
theorem okB_impl (x : S34) (h : x.f0.size ≤ 1099511627776) (k : Nat) (hk : x.f0.size + 3 < k) : impl_ItemOk.f k x.f0 x.f1 x.f2 x.f3 = some (okB x) := by
  unfold okB
  rw [dif_pos h]
  exact ((itemOk x.f0 x.f1 x.f2 x.f3 h).choose_spec k hk).2
/-- Whether the items that follow may follow. -/
noncomputable def queueL (L : List S34) : List S34 → List S34 → Bool
  | [], _ => true
  | x :: rest, pre => okB x && (!decide (ofL x.f0 L > 4) && (!(decide (x.f1 > 0) && pre.any (likeI x.f0 x.f1)) && queueL L rest (pre ++ [x])))
theorem specQueueOk_l1 (x : S34) (rest : List S34) (r : Bool) : ∀ (p2 p1 : List S34), (p1 ++ p2).length ≤ 1099511627776 → Ev (fun k => spec_QueueOk.l0 k (p1 ++ p2 ++ x :: rest) (wrap64 (((p1 ++ p2).length : Nat) + 1))) r →
    Ev (fun k => spec_QueueOk.l1 k (p1 ++ p2 ++ x :: rest) ((p1 ++ p2).length : Nat) (p1.length : Nat)) (!(decide (x.f1 > 0) && p2.any (likeI x.f0 x.f1)) && r)
  | [], p1, hb, h => by
    refine evUp ?_
    simp only [spec_QueueOk.l1]
    refine evNeg (by simp) ?_
    simpa using h
  | y :: p2, p1, hb, h => by
    refine evUp ?_
    simp only [spec_QueueOk.l1]
    have hlen : (p1 ++ y :: p2).length = p1.length + (p2.length + 1) := by simp
    have hlen2 : (p1 ++ y :: p2 ++ x :: rest).length = p1.length + (p2.length + 1) + (rest.length + 1) := by simp; omega
    refine evPos (by omega) (evPos (by omega) (evPos (by omega) (evPos (by omega) (evPos (by omega) ?_))))
    have e1 : rd_T34 (p1 ++ y :: p2 ++ x :: rest) ((p1.length : Nat) : Int) = y := by
      rw [List.append_assoc]; exact rdT34_mid p1 y (p2 ++ x :: rest)
    have e2 : rd_T34 (p1 ++ y :: p2 ++ x :: rest) (((p1 ++ y :: p2).length : Nat) : Int) = x := rdT34_mid (p1 ++ y :: p2) x rest
    simp only [e1, e2]
    have ih := specQueueOk_l1 x rest r p2 (p1 ++ [y]) (by simpa using hb) (by simpa using h)
    have es : wrap64 ((p1.length : Int) + 1) = (((p1 ++ [y]).length : Nat) : Int) := wrap_step p1 y (by omega)
    rw [show p1 ++ [y] ++ p2 = p1 ++ y :: p2 by simp] at ih
    simp only [es]
    by_cases c1 : y.f0.toList = x.f0.toList
    · refine evPos c1 ?_
      by_cases c2 : y.f1 = x.f1
      · refine evPos c2 ?_
        by_cases c3 : x.f1 > 0
        · refine evPos c3 ?_
          have : (!(decide (x.f1 > 0) && (y :: p2).any (likeI x.f0 x.f1)) && r) = false := by simp [likeI, c1, c2, c3]
          rw [this]; exact evConst _
        · refine evNeg c3 ?_
          have : (!(decide (x.f1 > 0) && (y :: p2).any (likeI x.f0 x.f1)) && r) = (!(decide (x.f1 > 0) && p2.any (likeI x.f0 x.f1)) && r) := by simp [c3]
          rw [this]; exact ih
      · refine evNeg c2 ?_
        have : (!(decide (x.f1 > 0) && (y :: p2).any (likeI x.f0 x.f1)) && r) = (!(decide (x.f1 > 0) && p2.any (likeI x.f0 x.f1)) && r) := by
          have hlk : likeI x.f0 x.f1 y = false := by unfold likeI; rw [beq_eq_false_iff_ne.2 c2, Bool.and_false]
          simp only [List.any_cons, hlk, Bool.false_or]
        rw [this]; exact ih
    · refine evNeg c1 ?_
      have : (!(decide (x.f1 > 0) && (y :: p2).any (likeI x.f0 x.f1)) && r) = (!(decide (x.f1 > 0) && p2.any (likeI x.f0 x.f1)) && r) := by
        have hlk : likeI x.f0 x.f1 y = false := by unfold likeI; rw [beq_eq_false_iff_ne.2 c1, Bool.false_and]
        simp only [List.any_cons, hlk, Bool.false_or]
      rw [this]; exact ih
theorem specQueueOk_l0 (L : List S34) (hL : L.length ≤ 1099511627776) (hx : ∀ y ∈ L, y.f0.size ≤ 1099511627776) : ∀ (rest pre : List S34), L = pre ++ rest → Ev (fun k => spec_QueueOk.l0 k L (pre.length : Nat)) (queueL L rest pre && decide ((L.length : Int) ≤ 10))
  | [], pre, e => by
    refine evUp ?_
    simp only [spec_QueueOk.l0]
    refine evNeg (by rw [e]; simp) ?_
    simp only [queueL, Bool.true_and]
    exact evConst _
  | x :: rest, pre, e => by
    have ih := specQueueOk_l0 L hL hx rest (pre ++ [x]) (by rw [e]; simp)
    have hxx := hx x (by rw [e]; simp)
    have hl : L.length = pre.length + (rest.length + 1) := by rw [e]; simp
    have e2 : rd_T34 L ((pre.length : Nat) : Int) = x := by rw [e]; exact rdT34_mid pre x rest
    have es : wrap64 ((pre.length : Int) + 1) = (((pre ++ [x]).length : Nat) : Int) := wrap_step pre x (by omega)
    refine evUp ?_
    simp only [spec_QueueOk.l0]
    refine evPos (by omega) (evPos (by omega) ?_)
    simp only [e2]
    refine evBind (a := okB x) (evOf _ fun k hk => okB_spec x hxx k hk) ?_
    have hj : ∀ b : Bool, Ev (fun k => spec_QueueOk.j1 k L (pre.length : Nat) b) (!b && (!(decide (x.f1 > 0) && pre.any (likeI x.f0 x.f1)) && (queueL L rest (pre ++ [x]) && decide ((L.length : Int) ≤ 10)))) := by
      intro b
      refine evUp ?_
      simp only [spec_QueueOk.j1]
      cases b with
      | true => exact evPos rfl (evConst _)
      | false =>
        refine evNeg (by simp) ?_
        have h1 := specQueueOk_l1 x rest (queueL L rest (pre ++ [x]) && decide ((L.length : Int) ≤ 10)) pre [] (by simpa using (by omega : pre.length ≤ 1099511627776)) (by simpa [← e, es] using ih)
        simpa [← e] using h1
    cases hb : okB x with
    | false =>
      refine evNeg (by simp) ?_
      have h2 := hj true
      simpa [queueL, hb] using h2
    | true =>
      refine evPos rfl (evBind (a := ofL x.f0 L) (evOf _ fun k hk => specOf L x.f0 hL k hk) ?_)
      have h2 := hj (decide (ofL x.f0 L > 4))
      simpa [queueL, hb, Bool.and_assoc] using h2
theorem implQueueOk_l0 (L : List S34) (hL : L.length ≤ 1099511627776) (hx : ∀ y ∈ L, y.f0.size ≤ 1099511627776) : ∀ (rest pre : List S34), L = pre ++ rest → Ev (fun k => impl_QueueOk.l0 k L pre.length) (queueL L rest pre)
  | [], pre, e => by
    refine evUp ?_
    simp only [impl_QueueOk.l0]
    refine evNeg (by rw [e]; simp) ?_
    simp only [queueL]
    exact evConst _
  | x :: rest, pre, e => by
    have ih := implQueueOk_l0 L hL hx rest (pre ++ [x]) (by rw [e]; simp)
    have hxx := hx x (by rw [e]; simp)
    have hl : L.length = pre.length + (rest.length + 1) := by rw [e]; simp
    have e2 : rd_T34 L ((pre.length : Nat) : Int) = x := by rw [e]; exact rdT34_mid pre x rest
    have e3 : L.take pre.length = pre := by rw [e]; simp
    have e4 : (pre ++ [x]).length = pre.length + 1 := by simp
    rw [e4] at ih
    refine evUp ?_
    simp only [impl_QueueOk.l0]
    refine evPos (by omega) ?_
    simp only [e2, e3]
    refine evBind (a := okB x) (evOf _ fun k hk => okB_impl x hxx k hk) ?_
    cases hb : okB x with
    | false =>
      refine evNeg (by simp) ?_
      simp only [queueL, hb, Bool.false_and]
      exact evConst _
    | true =>
      refine evPos rfl (evBind (a := ofL x.f0 L) (evOf _ fun k hk => implOf L x.f0 hL k hk) ?_)
      by_cases c : ofL x.f0 L > 4
      · refine evPos c ?_
        simp only [queueL, c, decide_true, Bool.not_true, Bool.false_and, Bool.and_false]
        exact evConst _
      · refine evNeg c ?_
        by_cases c1 : x.f1 > 0
        · refine evPos c1 ?_
          by_cases c2 : pre.any (likeI x.f0 x.f1) = true
          · refine evPos c2 ?_
            have : queueL L (x :: rest) pre = false := by simp only [queueL, c1, c2]; simp
            rw [this]; exact evConst _
          · refine evNeg c2 ?_
            have : queueL L (x :: rest) pre = queueL L rest (pre ++ [x]) := by simp only [queueL, hb, c, c1]; simp [c2]
            rw [this]; exact ih
        · refine evNeg c1 ?_
          have : queueL L (x :: rest) pre = queueL L rest (pre ++ [x]) := by simp only [queueL, hb, c, c1]; simp
          rw [this]; exact ih
noncomputable def queueOkL (L : List S34) : Bool := queueL L L [] && decide ((L.length : Int) ≤ 10)
theorem specQueueOk (L : List S34) (hL : L.length ≤ 1099511627776) (hx : ∀ y ∈ L, y.f0.size ≤ 1099511627776) : Ev (fun k => spec_QueueOk.f k L) (queueOkL L) := specQueueOk_l0 L hL hx L [] rfl
theorem implQueueOk (L : List S34) (hL : L.length ≤ 1099511627776) (hx : ∀ y ∈ L, y.f0.size ≤ 1099511627776) : Ev (fun k => impl_QueueOk.f k L) (queueOkL L) := by
  unfold impl_QueueOk.f queueOkL
  by_cases c : (L.length : Int) > 10
  · refine evPos c ?_
    have : ¬ (L.length : Int) ≤ 10 := by omega
    simp only [this, decide_false, Bool.and_false]
    exact evConst _
  · refine evNeg c ?_
    have : (L.length : Int) ≤ 10 := by omega
    simp only [this, decide_true, Bool.and_true]
    exact implQueueOk_l0 L hL hx L [] rfl
end Go.Proofs.Ytlalkldjpniakaa.B
/- A queue's functions, by the program and by the reference: Due, Put, Take; for lists of at most 2^20 items, none longer than 2^40. -/
namespace Go.Proofs.Ytlalkldjpniakaa.B
open Go.RowKit Go.Proofs.Ytlalkldjpniakaa.P Go.Proofs.YtlalkldjpniakaaW.PrintWords Go.Proofs.YtlalkldjpniakaaW.PrintLast Go.Proofs.YtlalkldjpniakaaW.PrintMore
set_option linter.unusedSimpArgs false
set_option maxHeartbeats 8000000
set_option maxRecDepth 100000
def small (x : S34) : Prop := x.f0.size ≤ 1099511627776 ∧ x.f3.length ≤ 1099511627776
theorem specItem (a : ByteArray) (n m : Int) (b : List Int) (hb : b.length ≤ 1099511627776) : spec_l13Item.f a n m b = some (a, n, m, b) := by
  unfold spec_l13Item.f
  simp only [Option.bind_some, List.length_nil, List.nil_append]
  rw [if_pos (by omega)]
theorem implItem (a : ByteArray) (n m : Int) (b : List Int) (hb : b.length ≤ 1099511627776) : impl_cloneItem.f a n m b = some (a, n, m, b) := by
  unfold impl_cloneItem.f slices_Clone_byte_byte.f
  rw [if_pos (by omega), Option.bind_some]
theorem specQueue_l0 : ∀ (rest pre : List S34), (∀ x ∈ rest, small x) → (pre ++ rest).length ≤ 2097152 → Ev (fun k => spec_l13Queue.l0 k (pre ++ rest) pre (pre.length : Nat)) (pre ++ rest)
  | [], pre, hs, hl => by
    refine evUp ?_
    simp only [spec_l13Queue.l0]
    refine evNeg (by simp) ?_
    rw [List.append_nil]
    exact evConst _
  | x :: rest, pre, hs, hl => by
    have hl2 : (pre ++ x :: rest).length = pre.length + (rest.length + 1) := by simp
    have ih := specQueue_l0 rest (pre ++ [x]) (fun y hy => hs y (List.mem_cons_of_mem _ hy)) (by simp; omega)
    have es : wrap64 ((pre.length : Int) + 1) = (((pre ++ [x]).length : Nat) : Int) := wrap_step pre x (by omega)
    rw [← snoc_app] at ih
    refine evUp ?_
    simp only [spec_l13Queue.l0, rdT34_mid, es, specItem x.f0 x.f1 x.f2 x.f3 (hs x List.mem_cons_self).2, Option.bind_some]
    exact evPos (by omega) (evPos (by omega) (evPos (by omega) ih))
theorem specQueue (l : List S34) (hs : ∀ x ∈ l, small x) (hl : l.length ≤ 2097152) : Ev (fun k => spec_l13Queue.f k l) l := specQueue_l0 l [] hs hl
theorem implItems_l0 (L : List S34) (n : Int) (hn : n = (L.length : Int)) (hl : L.length ≤ 2097152) (hs : ∀ x ∈ L, small x) : ∀ (rest pre : List S34), L = pre ++ rest → Ev (fun k => impl_cloneItems.l0 k pre L n (pre.length : Nat)) L
  | [], pre, e => by
    refine evUp ?_
    simp only [impl_cloneItems.l0]
    have : L = pre := by rw [e, List.append_nil]
    rw [this] at hn ⊢
    exact evNeg (by omega) (evConst _)
  | x :: rest, pre, e => by
    have hl2 : L.length = pre.length + (rest.length + 1) := by rw [e]; simp
    have ih := implItems_l0 L n hn hl hs rest (pre ++ [x]) (by rw [e]; simp)
    have es : wrap64 ((pre.length : Int) + 1) = (((pre ++ [x]).length : Nat) : Int) := wrap_step pre x (by omega)
    have e2 : rd_T34 L ((pre.length : Nat) : Int) = x := by rw [e]; exact rdT34_mid pre x rest
    refine evUp ?_
    simp only [impl_cloneItems.l0, e2, es, implItem x.f0 x.f1 x.f2 x.f3 (hs x (by rw [e]; simp)).2, Option.bind_some]
    exact evPos (by omega) (evPos (by omega) (evPos (by omega) (evPos (by omega) ih)))
theorem implItems (l : List S34) (hs : ∀ x ∈ l, small x) (hl : l.length ≤ 2097152) : Ev (fun k => impl_cloneItems.f k l) l := implItems_l0 l _ rfl hl hs l [] rfl
/-! ### Due -/
def dueL (n : Int) (l : List S34) : List S34 := l.filter fun x => !decide (x.f2 < n)
theorem specDue_l0 (n : Int) (L : List S34) (hl : L.length ≤ 2097152) (hs : ∀ x ∈ L, small x) : ∀ (rest pre acc : List S34), L = pre ++ rest → acc.length ≤ pre.length → Ev (fun k => spec_Due.l0 k L n acc (pre.length : Nat)) (acc ++ dueL n rest)
  | [], pre, acc, e, ha => by
    refine evUp ?_
    simp only [spec_Due.l0, dueL, List.filter_nil, List.append_nil]
    exact evNeg (by rw [e]; simp) (evConst _)
  | x :: rest, pre, acc, e, ha => by
    have hl2 : L.length = pre.length + (rest.length + 1) := by rw [e]; simp
    have es : wrap64 ((pre.length : Int) + 1) = (((pre ++ [x]).length : Nat) : Int) := wrap_step pre x (by omega)
    have e2 : rd_T34 L ((pre.length : Nat) : Int) = x := by rw [e]; exact rdT34_mid pre x rest
    refine evUp ?_
    simp only [spec_Due.l0, e2, es, specItem x.f0 x.f1 x.f2 x.f3 (hs x (by rw [e]; simp)).2, Option.bind_some]
    refine evPos (by omega) (evPos (by omega) ?_)
    by_cases c : x.f2 ≥ n
    · refine evPos c (evPos (by omega) ?_)
      have ih := specDue_l0 n L hl hs rest (pre ++ [x]) (acc ++ [x]) (by rw [e]; simp) (by simp; omega)
      have : acc ++ dueL n (x :: rest) = acc ++ [x] ++ dueL n rest := by
        unfold dueL
        rw [List.filter_cons_of_pos (by simp; omega)]; simp
      rw [this]; exact ih
    · refine evNeg c ?_
      have ih := specDue_l0 n L hl hs rest (pre ++ [x]) acc (by rw [e]; simp) (by simp; omega)
      have : dueL n (x :: rest) = dueL n rest := by
        unfold dueL
        rw [List.filter_cons_of_neg (by simp; omega)]
      rw [this]; exact ih
theorem specDue (n : Int) (l : List S34) (hs : ∀ x ∈ l, small x) (hl : l.length ≤ 2097152) : Ev (fun k => spec_Due.f k l n) (dueL n l) := specDue_l0 n l hl hs l [] [] rfl (Nat.le_refl _)
theorem implDue (n : Int) (l : List S34) (hs : ∀ x ∈ l, small x) (hl : l.length ≤ 2097152) : Ev (fun k => impl_Due.f k l n) (dueL n l) := by
  unfold impl_Due.f
  exact evBind (implItems l hs hl) (evConst _)
theorem dueL_due {n : Int} {l : List S34} {x : S34} (h : x ∈ dueL n l) : ¬ x.f2 < n := by
  have := (List.mem_filter.1 h).2
  simpa using this
/-! ### Put -/
noncomputable def putL (L : List S34) (a : ByteArray) (n m : Int) (b : List Int) : List S34 × Bool := if queueOkL (putI a n L ++ [⟨a, n, m, b⟩]) = true then (putI a n L ++ [⟨a, n, m, b⟩], true) else (L, false)
theorem putI_mem {a : ByteArray} {n : Int} {l : List S34} {x : S34} (h : x ∈ putI a n l) : x ∈ l := by
  unfold putI at h
  split at h
  · exact (List.mem_filter.1 h).1
  · exact h
theorem putI_len (a : ByteArray) (n : Int) (l : List S34) : (putI a n l).length ≤ l.length := by
  unfold putI
  split
  · exact List.length_filter_le _ _
  · exact Nat.le_refl _
theorem putL_small {L : List S34} {a : ByteArray} {n m : Int} {b : List Int} (hs : ∀ x ∈ L, small x) (hx : small ⟨a, n, m, b⟩) : ∀ x ∈ (putL L a n m b).1, small x := by
  intro x h
  unfold putL at h
  split at h
  · rcases List.mem_append.1 h with h | h
    · exact hs x (putI_mem h)
    · rw [List.mem_singleton.1 h]; exact hx
  · exact hs x h
theorem putL_len (L : List S34) (a : ByteArray) (n m : Int) (b : List Int) : (putL L a n m b).1.length ≤ L.length + 1 := by
  unfold putL
  have := putI_len a n L
  split
  · simp; omega
  · simp
theorem putI_keep {a : ByteArray} {n : Int} {x : S34} (l : List S34) (h : n ≤ 0 ∨ likeI a n x = false) : putI a n (x :: l) = x :: putI a n l := by
  unfold putI
  by_cases c : n > 0
  · rw [if_pos c, if_pos c, List.filter_cons_of_pos]
    rcases h with h | h
    · omega
    · rw [h]; rfl
  · rw [if_neg c, if_neg c]
theorem putI_skip {a : ByteArray} {n : Int} {x : S34} (l : List S34) (h0 : n > 0) (h : likeI a n x = true) : putI a n (x :: l) = putI a n l := by
  unfold putI
  rw [if_pos h0, if_pos h0, List.filter_cons_of_neg]
  rw [h]; decide
theorem specPut_l0 (a : ByteArray) (n m : Int) (b : List Int) (hx : small ⟨a, n, m, b⟩) (L : List S34) (hl : L.length ≤ 1048577) (hs : ∀ x ∈ L, small x) : ∀ (rest pre acc : List S34), L = pre ++ rest → acc.length ≤ pre.length → acc ++ putI a n rest = putI a n L →
    Ev (fun k => spec_Put.l0 k L acc (pre.length : Nat) a n m b) (putL L a n m b)
  | [], pre, acc, e, ha, hp => by
    have hp2 : acc = putI a n L := by rw [← hp]; unfold putI; split <;> simp
    have hpl := putI_len a n L
    refine evUp ?_
    simp only [spec_Put.l0, specItem a n m b hx.2, Option.bind_some]
    refine evNeg (by rw [e]; simp) (evPos (by rw [hp2]; omega) ?_)
    rw [hp2]
    have hsm : ∀ y ∈ putI a n L ++ [(⟨a, n, m, b⟩ : S34)], y.f0.size ≤ 1099511627776 := by
      intro y hy
      rcases List.mem_append.1 hy with h | h
      · exact (hs y (putI_mem h)).1
      · rw [List.mem_singleton.1 h]; exact hx.1
    refine evBind (specQueueOk _ (by simp; omega) hsm) ?_
    unfold putL
    by_cases c : queueOkL (putI a n L ++ [⟨a, n, m, b⟩]) = true
    · rw [if_pos c]; exact evPos c (evConst _)
    · rw [if_neg c]
      exact evNeg c (evBind (specQueue L hs (by omega)) (evConst _))
  | x :: rest, pre, acc, e, ha, hp => by
    have hl2 : L.length = pre.length + (rest.length + 1) := by rw [e]; simp
    have es : wrap64 ((pre.length : Int) + 1) = (((pre ++ [x]).length : Nat) : Int) := wrap_step pre x (by omega)
    have e2 : rd_T34 L ((pre.length : Nat) : Int) = x := by rw [e]; exact rdT34_mid pre x rest
    have ihk := fun h : n ≤ 0 ∨ likeI a n x = false => specPut_l0 a n m b hx L hl hs rest (pre ++ [x]) (acc ++ [x]) (by rw [e]; simp) (by simp; omega) (by rw [← hp, putI_keep rest h]; simp)
    refine evUp ?_
    simp only [spec_Put.l0, e2, es, specItem x.f0 x.f1 x.f2 x.f3 (hs x (by rw [e]; simp)).2, Option.bind_some]
    refine evPos (by omega) ?_
    by_cases c : n ≤ 0
    · exact evPos c (evPos (by omega) (evPos (by omega) (ihk (.inl c))))
    · refine evNeg c (evPos (by omega) ?_)
      by_cases c1 : x.f0.toList = a.toList
      · refine evPos c1 ?_
        by_cases c2 : x.f1 = n
        · refine evPos c2 ?_
          have hlk : likeI a n x = true := by unfold likeI; rw [beq_iff_eq.2 c1, beq_iff_eq.2 c2]; rfl
          exact specPut_l0 a n m b hx L hl hs rest (pre ++ [x]) acc (by rw [e]; simp) (by simp; omega) (by rw [← hp, putI_skip rest (by omega) hlk])
        · refine evNeg c2 (evPos (by omega) (ihk (.inr ?_)))
          unfold likeI; rw [beq_eq_false_iff_ne.2 c2, Bool.and_false]
      · refine evNeg c1 (evPos (by omega) (ihk (.inr ?_)))
        unfold likeI; rw [beq_eq_false_iff_ne.2 c1, Bool.false_and]
theorem specPut (a : ByteArray) (n m : Int) (b : List Int) (hx : small ⟨a, n, m, b⟩) (L : List S34) (hl : L.length ≤ 1048577) (hs : ∀ x ∈ L, small x) : Ev (fun k => spec_Put.f k L a n m b) (putL L a n m b) :=
  specPut_l0 a n m b hx L hl hs L [] [] rfl (Nat.le_refl _) rfl
theorem implPut (a : ByteArray) (n m : Int) (b : List Int) (hx : small ⟨a, n, m, b⟩) (L : List S34) (hl : L.length ≤ 1048577) (hs : ∀ x ∈ L, small x) : Ev (fun k => impl_Put.f k L a n m b) (putL L a n m b) := by
  have hpl := putI_len a n L
  have hsm : ∀ y ∈ putI a n L ++ [(⟨a, n, m, b⟩ : S34)], y.f0.size ≤ 1099511627776 := by
    intro y hy
    rcases List.mem_append.1 hy with h | h
    · exact (hs y (putI_mem h)).1
    · rw [List.mem_singleton.1 h]; exact hx.1
  unfold impl_Put.f
  simp only [implItem a n m b hx.2, Option.bind_some]
  refine evBind (implItems L hs (by omega)) (evPos (by omega) (evBind (implQueueOk _ (by simp; omega) hsm) ?_))
  unfold putL
  by_cases c : queueOkL (putI a n L ++ [⟨a, n, m, b⟩]) = true
  · rw [if_pos c, if_pos c]; exact evConst _
  · rw [if_neg c, if_neg c]; exact evConst _
/-! ### Take -/
def takeL (a : ByteArray) : List S34 → List S34 → ByteArray × Int × Int × List Int × List S34 × Bool
  | [], pre => (⟨#[]⟩, 0, 0, [], pre, false)
  | x :: rest, pre => if x.f0.toList = a.toList then (x.f0, x.f1, x.f2, x.f3, pre ++ rest, true) else takeL a rest (pre ++ [x])
theorem takeL_miss (a : ByteArray) : ∀ (l pre : List S34), (∀ x ∈ l, x.f0.toList ≠ a.toList) → takeL a l pre = (⟨#[]⟩, 0, 0, [], pre ++ l, false)
  | [], pre, _ => by simp [takeL]
  | x :: l, pre, h => by
    simp only [takeL]
    rw [if_neg (h x List.mem_cons_self), takeL_miss a l (pre ++ [x]) (fun y hy => h y (List.mem_cons_of_mem _ hy))]
    simp
theorem takeL_hit (a : ByteArray) (x : S34) (hx : x.f0.toList = a.toList) (r : List S34) : ∀ (p pre : List S34), (∀ y ∈ p, y.f0.toList ≠ a.toList) → takeL a (p ++ x :: r) pre = (x.f0, x.f1, x.f2, x.f3, pre ++ p ++ r, true)
  | [], pre, _ => by
    simp only [List.nil_append, takeL]
    rw [if_pos hx]; simp
  | y :: p, pre, h => by
    simp only [List.cons_append, takeL]
    rw [if_neg (h y List.mem_cons_self), takeL_hit a x hx r p (pre ++ [y]) (fun z hz => h z (List.mem_cons_of_mem _ hz))]
    simp
theorem specTake_l0 (a : ByteArray) (L : List S34) (hl : L.length ≤ 1048577) (hs : ∀ x ∈ L, small x) : ∀ (rest pre : List S34), L = pre ++ rest → Ev (fun k => spec_Take.l0 k L a (pre.length : Nat)) (takeL a rest pre)
  | [], pre, e => by
    refine evUp ?_
    simp only [spec_Take.l0, takeL]
    refine evNeg (by rw [e]; simp) ?_
    have : L = pre := by rw [e, List.append_nil]
    rw [this] at hs hl ⊢
    exact evBind (specQueue pre hs (by omega)) (evConst _)
  | x :: rest, pre, e => by
    have hl2 : L.length = pre.length + (rest.length + 1) := by rw [e]; simp
    have es : wrap64 ((pre.length : Int) + 1) = (((pre ++ [x]).length : Nat) : Int) := wrap_step pre x (by omega)
    have es2 : (((pre ++ [x]).length : Nat) : Int) = (pre.length : Int) + 1 := by simp
    have e2 : rd_T34 L ((pre.length : Nat) : Int) = x := by rw [e]; exact rdT34_mid pre x rest
    have e3 : L.take ((pre.length : Nat) : Int).toNat = pre := by rw [e]; simp
    have e4 : L.drop (((pre ++ [x]).length : Nat) : Int).toNat = rest := by
      rw [e, Int.toNat_natCast, show pre ++ x :: rest = (pre ++ [x]) ++ rest by simp]
      exact List.drop_left
    refine evUp ?_
    simp only [spec_Take.l0, e2, es, e3, e4, specItem x.f0 x.f1 x.f2 x.f3 (hs x (by rw [e]; simp)).2, Option.bind_some, takeL]
    refine evPos (by omega) (evPos (by omega) ?_)
    by_cases c : x.f0.toList = a.toList
    · rw [if_pos c]
      refine evPos c (evPos (by omega) (evBind (specQueue pre (fun y hy => hs y (by rw [e]; simp [hy])) (by omega)) (evPos (by omega) (evPos (by omega) (evBind (specQueue rest (fun y hy => hs y (by rw [e]; simp [hy])) (by omega)) (evPos (by omega) (evConst _)))))))
    · rw [if_neg c]
      exact evNeg c (specTake_l0 a L hl hs rest (pre ++ [x]) (by rw [e]; simp))
theorem specTake (a : ByteArray) (L : List S34) (hl : L.length ≤ 1048577) (hs : ∀ x ∈ L, small x) : Ev (fun k => spec_Take.f k L a) (takeL a L []) := specTake_l0 a L hl hs L [] rfl
/-- What is taken. -/
theorem takeL_cases (a : ByteArray) (L : List S34) : (takeL a L [] = (⟨#[]⟩, 0, 0, [], L, false) ∧ idxI (fun x => x.f0.toList == a.toList) L = -1 ∧ ∀ x ∈ L, x.f0.toList ≠ a.toList) ∨
    ∃ (p r : List S34) (x : S34), L = p ++ x :: r ∧ x.f0.toList = a.toList ∧ (∀ y ∈ p, y.f0.toList ≠ a.toList) ∧ idxI (fun x => x.f0.toList == a.toList) L = (p.length : Int) ∧ takeL a L [] = (x.f0, x.f1, x.f2, x.f3, p ++ r, true) := by
  rcases idxI_cases (fun x => x.f0.toList == a.toList) L with ⟨h, ha⟩ | ⟨k, hk, h, hp, ha⟩
  · have hm : ∀ x ∈ L, x.f0.toList ≠ a.toList := by
      intro x hx
      obtain ⟨j, hj, rfl⟩ := List.mem_iff_getElem.1 hx
      have := ha j hj
      rw [List.getD_eq_getElem?_getD, List.getElem?_eq_getElem hj] at this
      exact beq_eq_false_iff_ne.1 this
    exact .inl ⟨by rw [takeL_miss a L [] hm]; simp, h, hm⟩
  · refine .inr ⟨L.take k, L.drop (k + 1), L[k], ?_, ?_, ?_, ?_, ?_⟩
    · rw [← List.drop_eq_getElem_cons hk, List.take_append_drop]
    · rw [List.getD_eq_getElem?_getD, List.getElem?_eq_getElem hk] at hp
      exact beq_iff_eq.1 hp
    · intro y hy
      obtain ⟨j, hj, rfl⟩ := List.mem_iff_getElem.1 hy
      rw [List.length_take] at hj
      have := ha j (by omega)
      rw [List.getD_eq_getElem?_getD, List.getElem?_eq_getElem (by omega)] at this
      rw [List.getElem_take]
      exact beq_eq_false_iff_ne.1 this
    · rw [h, List.length_take]; congr 1; omega
    · have e : L = L.take k ++ L[k] :: L.drop (k + 1) := by rw [← List.drop_eq_getElem_cons hk, List.take_append_drop]
      have h2 := takeL_hit a L[k] (by rw [List.getD_eq_getElem?_getD, List.getElem?_eq_getElem hk] at hp; exact beq_iff_eq.1 hp) (L.drop (k + 1)) (L.take k) [] (fun y hy => by
        obtain ⟨j, hj, rfl⟩ := List.mem_iff_getElem.1 hy
        rw [List.length_take] at hj
        have := ha j (by omega)
        rw [List.getD_eq_getElem?_getD, List.getElem?_eq_getElem (by omega)] at this
        rw [List.getElem_take]
        exact beq_eq_false_iff_ne.1 this)
      rw [← e] at h2
      simpa using h2
theorem implTake (a : ByteArray) (L : List S34) (hl : L.length ≤ 1048577) (hs : ∀ x ∈ L, small x) : Ev (fun k => impl_Take.f k L a) (takeL a L []) := by
  unfold impl_Take.f
  refine evBind (implItems L hs (by omega)) ?_
  rcases takeL_cases a L with ⟨h, hi, _⟩ | ⟨p, r, x, e, hx, hp, hi, h⟩
  · rw [h, hi, if_pos (by omega)]
    exact evConst _
  · have e2 : rd_T34 L ((p.length : Nat) : Int) = x := by rw [e]; exact rdT34_mid p x r
    have hl2 : L.length = p.length + (r.length + 1) := by rw [e]; simp
    have e5 : L.eraseIdx p.length = p ++ r := by
      rw [List.eraseIdx_eq_take_drop_succ, e]
      simp
    rw [h, hi, if_neg (by omega), Int.toNat_natCast, if_pos (by omega), e2, implItem x.f0 x.f1 x.f2 x.f3 (hs x (by rw [e]; simp)).2, Option.bind_some, e5]
    exact evConst _
end Go.Proofs.Ytlalkldjpniakaa.B
/- Play, by the program and by the reference: one queue, one time, one end; for bytes of at most 2^20. -/
namespace Go.Proofs.Ytlalkldjpniakaa.B
open Go.RowKit Go.Proofs.Ytlalkldjpniakaa.P Go.Proofs.YtlalkldjpniakaaW.PrintWords Go.Proofs.YtlalkldjpniakaaW.PrintLast Go.Proofs.YtlalkldjpniakaaW.PrintMore
/-- A queue that is small enough for the laws. -/
def qOk (L : List S34) : Prop := L.length ≤ 1048576 ∧ ∀ x ∈ L, x.f0.size ≤ 1048576 ∧ x.f3.length ≤ 1048576
theorem qOk.small {L : List S34} (h : qOk L) : ∀ x ∈ L, small x := fun x hx => by have := h.2 x hx; exact ⟨by omega, by omega⟩
theorem qOk.put {L : List S34} (h : qOk L) (a : ByteArray) (n m : Int) (b : List Int) (ha : a.size ≤ 1048576) (hb : b.length ≤ 1048576) : qOk (putL L a n m b).1 := by
  unfold putL
  split
  · rename_i c
    unfold queueOkL at c
    have := of_decide_eq_true (Bool.and_eq_true_iff.1 c).2
    refine ⟨?_, fun x hx => ?_⟩
    · show (putI a n L ++ [(⟨a, n, m, b⟩ : S34)]).length ≤ _
      omega
    · rcases List.mem_append.1 hx with hx | hx
      · exact h.2 x (putI_mem hx)
      · rw [List.mem_singleton.1 hx]; exact ⟨ha, hb⟩
  · exact h
theorem qOk.due {L : List S34} (h : qOk L) (n : Int) : qOk (dueL n L) :=
  ⟨Nat.le_trans (List.length_filter_le _ _) h.1, fun x hx => h.2 x (List.mem_filter.1 hx).1⟩
theorem qOk.take {L : List S34} (h : qOk L) (a : ByteArray) : qOk (takeL a L []).2.2.2.2.1 := by
  rcases takeL_cases a L with ⟨e, _, _⟩ | ⟨p, q, x, eL, _, _, _, e⟩
  · rw [e]; exact h
  · rw [e]
    have hlen : L.length = p.length + (q.length + 1) := by rw [eL]; simp
    have := h.1
    refine ⟨by show (p ++ q).length ≤ _; simp; omega, fun y hy => h.2 y ?_⟩
    rw [eL]
    rcases List.mem_append.1 hy with h | h <;> simp [h]
theorem play_l0 (l : List Int) (hl : l.length ≤ 1048576) (hb : ∀ x ∈ l, 0 ≤ x ∧ x < 256) : ∀ (n : Nat) (Q : List S34) (t a : Int), qOk Q → ((l.length : Int) - a).toNat < n →
    ∃ r, Ev (fun k => spec_Play.l0 k l Q t a) r ∧ Ev (fun k => impl_Play.l0 k l Q t a) r ∧ qOk r.1
  | 0, _, _, _, _, h => absurd h (Nat.not_lt_zero _)
  | n + 1, Q, t, a, hQ, hn => by
    obtain ⟨⟨r1, r2, r3, r4, r5, r6, r7⟩, hS, hI, hg⟩ := lineOf l a hl hb
    rcases hg with e | ⟨e7, ha0, ha6, h6, h2, h5, _, _⟩
    · simp only [Prod.mk.injEq] at e
      obtain ⟨_, _, _, _, _, _, rfl⟩ := e
      refine ⟨(Q, t, a), evUp ?_, evUp ?_, hQ⟩
      · simp only [spec_Play.l0]
        exact evBind hS (evNeg Bool.false_ne_true (evConst _))
      · simp only [impl_Play.l0]
        exact evBind hI (evNeg Bool.false_ne_true (evConst _))
    · simp only at e7 ha6 h6 h2 h5
      subst e7
      have hlt : ((l.length : Int) - r6).toNat < n := by omega
      have hx : small ⟨r2, r3, r4, r5⟩ := ⟨by show r2.size ≤ _; omega, by show r5.length ≤ _; omega⟩
      by_cases c1 : r1 = 1
      · obtain ⟨r, i1, i2, i3⟩ := play_l0 l hl hb n (putL Q r2 r3 r4 r5).1 t r6 (hQ.put r2 r3 r4 r5 (by omega) (by omega)) hlt
        refine ⟨r, evUp ?_, evUp ?_, i3⟩
        · simp only [spec_Play.l0]
          refine evBind hS (evPos rfl (evBind (a := ((putL Q r2 r3 r4 r5).1, t)) ?_ i1))
          unfold spec_l14Play.f spec_l14Item.f
          refine evPos c1 (evBind (a := (r2, r3, r4, r5)) ?_ (evBind (specPut r2 r3 r4 r5 hx Q (by have := hQ.1; omega) hQ.small) (evConst _)))
          show Ev (fun _ => if ([] : List Int).length + r5.length < 140737488355328 then some (r2, r3, r4, ([] : List Int) ++ r5) else none) (r2, r3, r4, r5)
          exact evPos (by rw [List.length_nil]; omega) (evConst _)
        · simp only [impl_Play.l0]
          refine evBind hI (evPos rfl (evPos c1 (evBind (a := (r2, r3, r4, r5)) ?_ (evBind (implPut r2 r3 r4 r5 hx Q (by have := hQ.1; omega) hQ.small) i2))))
          have eC : slices_Clone_byte_byte.f r5 = some r5 := by unfold slices_Clone_byte_byte.f; rw [if_pos (by omega)]
          show Ev (fun _ => (slices_Clone_byte_byte.f r5).bind fun t => some (r2, r3, r4, t)) (r2, r3, r4, r5)
          rw [eC]
          exact evConst _
      by_cases c2 : r1 = 2
      · obtain ⟨r, i1, i2, i3⟩ := play_l0 l hl hb n (takeL r2 Q []).2.2.2.2.1 t r6 (hQ.take r2) hlt
        refine ⟨r, evUp ?_, evUp ?_, i3⟩
        · simp only [spec_Play.l0]
          refine evBind hS (evPos rfl (evBind (a := ((takeL r2 Q []).2.2.2.2.1, t)) ?_ i1))
          unfold spec_l14Play.f
          exact evNeg c1 (evPos c2 (evBind (specTake r2 Q (by have := hQ.1; omega) hQ.small) (evConst _)))
        · simp only [impl_Play.l0]
          exact evBind hI (evPos rfl (evNeg c1 (evPos c2 (evBind (implTake r2 Q (by have := hQ.1; omega) hQ.small) i2))))
      by_cases c3 : r1 = 3
      · by_cases c4 : r4 ≥ t
        · obtain ⟨r, i1, i2, i3⟩ := play_l0 l hl hb n (dueL r4 Q) r4 r6 (hQ.due r4) hlt
          refine ⟨r, evUp ?_, evUp ?_, i3⟩
          · simp only [spec_Play.l0]
            refine evBind hS (evPos rfl (evBind (a := (dueL r4 Q, r4)) ?_ i1))
            unfold spec_l14Play.f
            exact evNeg c1 (evNeg c2 (evPos c3 (evPos c4 (evBind (specDue r4 Q hQ.small (by have := hQ.1; omega)) (evConst _)))))
          · simp only [impl_Play.l0]
            exact evBind hI (evPos rfl (evNeg c1 (evNeg c2 (evPos c3 (evPos c4 (evBind (implDue r4 Q hQ.small (by have := hQ.1; omega)) i2))))))
        · obtain ⟨r, i1, i2, i3⟩ := play_l0 l hl hb n Q t r6 hQ hlt
          refine ⟨r, evUp ?_, evUp ?_, i3⟩
          · simp only [spec_Play.l0]
            refine evBind hS (evPos rfl (evBind (a := (Q, t)) ?_ i1))
            unfold spec_l14Play.f
            exact evNeg c1 (evNeg c2 (evPos c3 (evNeg c4 (evConst _))))
          · simp only [impl_Play.l0]
            exact evBind hI (evPos rfl (evNeg c1 (evNeg c2 (evPos c3 (evNeg c4 i2)))))
      · obtain ⟨r, i1, i2, i3⟩ := play_l0 l hl hb n Q t r6 hQ hlt
        refine ⟨r, evUp ?_, evUp ?_, i3⟩
        · simp only [spec_Play.l0]
          refine evBind hS (evPos rfl (evBind (a := (Q, t)) ?_ i1))
          unfold spec_l14Play.f
          exact evNeg c1 (evNeg c2 (evNeg c3 (evConst _)))
        · simp only [impl_Play.l0]
          exact evBind hI (evPos rfl (evNeg c1 (evNeg c2 (evNeg c3 i2))))
theorem play (l : List Int) (hl : l.length ≤ 1048576) (hb : ∀ x ∈ l, 0 ≤ x ∧ x < 256) : ∃ r, Ev (fun k => spec_Play.f k l) r ∧ Ev (fun k => impl_Play.f k l) r ∧ qOk r.1 :=
  play_l0 l hl hb (l.length + 1) [] 0 0 ⟨Nat.zero_le _, fun x hx => absurd hx List.not_mem_nil⟩ (by omega)
end Go.Proofs.Ytlalkldjpniakaa.B
/- Marks in lists of items: what is marked from m on holds the marks from m on. -/
namespace Go.Proofs.Ytlalkldjpniakaa.B
open Go.RowKit Go.Proofs.Ytlalkldjpniakaa.P Go.Proofs.YtlalkldjpniakaaW.PrintWords Go.Proofs.YtlalkldjpniakaaW.PrintLast Go.Proofs.YtlalkldjpniakaaW.PrintMore
theorem markText_l0 : ∀ (n : Nat) (m : Int) (s : ByteArray), 0 ≤ m → m.toNat ≤ n → s.size + n ≤ 4611686018427387904 → ∃ t, Ev (fun k => laws_markText.l0 k m s) t := by
  have hz : ∀ (m : Int) (s : ByteArray), ¬ m > 0 → s.size ≤ 4611686018427387904 → ∃ t, Ev (fun k => laws_markText.l0 k m s) t := by
    intro m s hm hs
    refine ⟨_, evUp (r := (⟨#[109]⟩ : ByteArray) ++ s) ?_⟩
    simp only [laws_markText.l0]
    exact evNeg hm (evPos (by omega) (evConst _))
  intro n
  induction n with
  | zero => intro m s h0 hn hs; exact hz m s (by omega) (by omega)
  | succ n ih =>
    intro m s h0 hn hs
    by_cases hm : m > 0
    · have hd : Int.tdiv m 10 = m / 10 := Int.tdiv_eq_ediv_of_nonneg h0
      have hw : wrap64 (Int.tdiv m 10) = m / 10 := by rw [hd]; exact wrap_eq _ (by omega) (by omega)
      have h1 : ∀ x : Int, (strOfNums [x]).size = 1 := fun x => rfl
      have h2 : ∀ x : Int, (strOfNums [x] ++ s).size = 1 + s.size := fun x => by rw [ByteArray.size_append, h1]
      obtain ⟨t, ht⟩ := ih (m / 10) (strOfNums [(wrap64 (48 + (Int.tmod m 10))) % 256] ++ s) (by omega) (by omega) (by rw [h2]; omega)
      refine ⟨t, evUp ?_⟩
      simp only [laws_markText.l0, hw]
      exact evPos hm (evBind (evConst _) (evPos (by rw [h1]; omega) ht))
    · exact hz m s hm (by omega)
theorem markText (m : Int) (h0 : 0 ≤ m) (hm : m ≤ 2305843009213693952) : ∃ t, Ev (fun k => laws_markText.f k m) t := by
  unfold laws_markText.f
  by_cases h : m ≤ 0
  · exact ⟨_, evPos h (evConst _)⟩
  · obtain ⟨t, ht⟩ := markText_l0 m.toNat m (⟨#[]⟩ : ByteArray) h0 (Nat.le_refl _) (by show 0 + _ ≤ _; omega)
    exact ⟨t, evNeg h ht⟩
theorem markItemS_l0 : ∀ (rest pre : List S34) (m : Int), (∀ x ∈ rest, x.f3.length ≤ 1048576) → 0 ≤ m → m + rest.length * 1048579 ≤ 1152921504606846976 → pre.length + rest.length ≤ 1099511627776 →
    ∃ (m2 : Int) (rest2 : List S34), m ≤ m2 ∧ m2 ≤ m + rest.length * 1048579 ∧ rest2.length = rest.length ∧ Ev (fun k => laws_markItemS.l0 k (pre ++ rest) m (pre.length : Nat)) (m2, pre ++ rest2) ∧
      ∀ pre2 : List S34, pre2.length = pre.length → Ev (fun k => laws_heldItemS.l0 k (pre2 ++ rest2) m (pre2.length : Nat)) m2
  | [], pre, m, hs, h0, hm, hl => by
    refine ⟨m, [], Int.le_refl _, by simp, rfl, evUp ?_, fun pre2 _ => evUp ?_⟩
    · simp only [laws_markItemS.l0]
      exact evNeg (by simp) (evConst _)
    · simp only [laws_heldItemS.l0]
      exact evNeg (by simp) (evConst _)
  | x :: rest, pre, m, hs, h0, hm, hl => by
    simp only [List.length_cons] at hm hl
    obtain ⟨t, ht⟩ := markText m h0 (by omega)
    have hx : x.f3.length ≤ 1048576 := hs x List.mem_cons_self
    have w1 : wrap64 (m + 1) = m + 1 := wrap_eq _ (by omega) (by omega)
    have w2 : wrap64 (m + 1 + 1) = m + 2 := by rw [wrap_eq _ (by omega) (by omega)]; omega
    have w3 : wrap64 (m + 2 + 1) = m + 3 := by rw [wrap_eq _ (by omega) (by omega)]; omega
    obtain ⟨x2, hx2⟩ : ∃ x2 : S34, x2 = ⟨t, m + 1, m + 2, marks x.f3.length (m + 3)⟩ := ⟨_, rfl⟩
    obtain ⟨m2, rest2, h1, h1', h2, h3, h4⟩ := markItemS_l0 rest (pre ++ [x2]) (m + 3 + x.f3.length) (fun y hy => hs y (List.mem_cons_of_mem _ hy)) (by omega) (by omega) (by simp; omega)
    have hb : Ev (fun k => laws_markByteS.f k x.f3 (m + 3)) (m + 3 + (x.f3.length : Int), marks x.f3.length (m + 3)) := evOf x.f3.length fun k hk => markByteS x.f3 (m + 3) (by omega) (by omega) (by omega) k hk
    have hh : Ev (fun k => laws_heldByteS.f k (marks x.f3.length (m + 3)) (m + 3)) (m + 3 + (x.f3.length : Int)) := evOf x.f3.length fun k hk => heldByteS x.f3.length (m + 3) (by omega) (by omega) (by omega) k hk
    have es : wrap64 ((pre.length : Int) + 1) = (((pre ++ [x2]).length : Nat) : Int) := wrap_step pre x2 (by omega)
    refine ⟨m2, x2 :: rest2, by omega, by simp only [List.length_cons]; omega, by simp [h2], evUp ?_, fun pre2 hp2 => evUp ?_⟩
    · simp only [laws_markItemS.l0, rdT34_mid, w1, w2, w3, es]
      refine evPos (by simp; omega) (evPos (by omega) (evBind ht (evBind hb ?_)))
      have hset : (pre ++ x :: rest).set ((pre.length : Int).toNat) (⟨t, m + 1, m + 2, marks x.f3.length (m + 3)⟩ : S34) = (pre ++ [x2]) ++ rest := by
        rw [set_midT, ← hx2]; simp
      simp only [hset]
      rw [show pre ++ x2 :: rest2 = (pre ++ [x2]) ++ rest2 from by simp]
      exact h3
    · have es2 : wrap64 ((pre2.length : Int) + 1) = (((pre2 ++ [x2]).length : Nat) : Int) := wrap_step pre2 x2 (by omega)
      simp only [laws_heldItemS.l0, rdT34_mid, w1, w2, w3, es2]
      subst hx2
      refine evPos (by simp; omega) (evPos (by omega) (evBind ht (evPos rfl (evPos rfl (evPos rfl (evBind hh (evNeg (by omega) ?_)))))))
      have h5 := h4 (pre2 ++ [(⟨t, m + 1, m + 2, marks x.f3.length (m + 3)⟩ : S34)]) (by simp [hp2])
      rw [show pre2 ++ (⟨t, m + 1, m + 2, marks x.f3.length (m + 3)⟩ : S34) :: rest2 = (pre2 ++ [(⟨t, m + 1, m + 2, marks x.f3.length (m + 3)⟩ : S34)]) ++ rest2 from by simp]
      exact h5
theorem markItemS (l : List S34) (m : Int) (h0 : 0 ≤ m) (hm : m ≤ 1099511627776) (hl : l.length ≤ 2097152) (hs : ∀ x ∈ l, x.f3.length ≤ 1048576) :
    ∃ (m2 : Int) (l2 : List S34), m ≤ m2 ∧ l2.length = l.length ∧ Ev (fun k => laws_markItemS.f k l m) (m2, l2) ∧ Ev (fun k => laws_heldItemS.f k l2 m) m2 := by
  obtain ⟨m2, l2, h1, _, h2, h3, h4⟩ := markItemS_l0 l [] m hs h0 (by omega) (by simp; omega)
  exact ⟨m2, l2, h1, h2, h3, h4 [] rfl⟩
theorem markItemS2 (l : List S34) (m : Int) (h0 : 0 ≤ m) (hm : m ≤ 1099511627776) (hl : l.length ≤ 2097152) (hs : ∀ x ∈ l, x.f3.length ≤ 1048576) :
    ∃ (m2 : Int) (l2 : List S34), (m ≤ m2 ∧ m2 ≤ m + l.length * 1048579) ∧ l2.length = l.length ∧ Ev (fun k => laws_markItemS.f k l m) (m2, l2) ∧ Ev (fun k => laws_heldItemS.f k l2 m) m2 := by
  obtain ⟨m2, l2, h1, h1', h2, h3, h4⟩ := markItemS_l0 l [] m hs h0 (by omega) (by simp; omega)
  exact ⟨m2, l2, ⟨h1, h1'⟩, h2, h3, h4 [] rfl⟩
end Go.Proofs.Ytlalkldjpniakaa.B
