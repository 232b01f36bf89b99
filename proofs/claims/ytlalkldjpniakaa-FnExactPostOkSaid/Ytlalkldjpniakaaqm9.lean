import Derived.Test.Ytlalkldjpniakaaqm3
namespace Go.Proofs.Ytlalkldjpniakaa.P
open Go.RowKit Go.Proofs.YtlalkldjpniakaaW.PrintWords Go.Proofs.YtlalkldjpniakaaW.PrintLast Go.Proofs.YtlalkldjpniakaaW.PrintMore
attribute [local go_sem] zcm zcn zdd zde zbw zbx zco zcp   -- for this text's walks alone
set_option linter.unusedVariables false
set_option linter.unusedSimpArgs false
set_option maxHeartbeats 8000000
set_option maxRecDepth 100000

def spec_l13Item.f (a0_0 : ByteArray) (a0_1 : Int) (a0_2 : Int) (l0_3 : List Int) : Option (ByteArray × Int × Int × List Int) := (some (([] : List Int) : List Int)).bind fun y340 => (if y340.length + l0_3.length < 140737488355328 then (some (a0_0, a0_1, a0_2, (y340 ++ l0_3))) else (none))
theorem spec_l13Item.calls (a0_0 : ByteArray) (a0_1 : Int) (a0_2 : Int) (A0_3 : Option Addr) (c0_3 : Nat) (l0_3 : List Int) (r1 : ByteArray) (r2 : Int) (r3 : Int) (r4 : List Int) (w : World) (hr0_3 : Kd.C (Kd.int .u8) w A0_3 l0_3.length l0_3) (hc0_3 : l0_3.length ≤ c0_3) (h : spec_l13Item.f a0_0 a0_1 a0_2 l0_3 = some (r1, r2, r3, r4)) :
  Calls Try.prog 94 #[.agg #[.string a0_0, .int .i64 a0_1, .int .i64 a0_2, .slice A0_3 l0_3.length c0_3]] w fun e w' => ∃ v3_ : Value, e = .returned (.agg #[.string r1, .int .i64 r2, .int .i64 r3, v3_]) ∧ Kd.R (Kd.int .u8) 5 w' w.heap.size (fun _ => True) v3_ r4 ∧ Below w.heap.size w w' := by
 have hu34 := Try.underlying34
 have HR0_3 := Aside0.mk hr0_3
 have HC0_3 := Aside0.mk hc0_3
 clear hr0_3 hc0_3
 have HB := Aside0.mk (zbk w.heap.size w)
 have H : ((some (([] : List Int) : List Int)).bind fun y340 => (if y340.length + l0_3.length < 140737488355328 then (some (a0_0, a0_1, a0_2, (y340 ++ l0_3))) else (none))) = some (r1, r2, r3, r4) := h
 clear h
 obtain ⟨y340, hy340⟩ : ∃ y_ : List Int, y_ = (([] : List Int)) := ⟨_, rfl⟩
 replace H := bto hy340 H
 have Ny340 := Aside0.mk hy340
 clear hy340
 by_cases c2 : y340.length + l0_3.length < 140737488355328
 ·rw [if_pos c2] at H
  have LMc2 := Aside0.mk c2
  clear c2
  obtain ⟨y343, hy343⟩ : ∃ y_ : List Int, y_ = (y340 ++ l0_3) := ⟨_, rfl⟩
  replace H : (some (a0_0, a0_1, a0_2, y343)) = some (r1, r2, r3, r4) := jrw hy343 H
  have Ny343 := Aside0.mk hy343
  clear hy343
  simp only [zbz, zcj] at H
  obtain ⟨rfl, rfl, rfl, rfl⟩ := H
  go_enter Try.func94, Try.ntmps94
  go_wp2_with (first | (refine jgd 1 ?_; refine bx 1 (#[.string a0_0, .int .i64 a0_1, .int .i64 a0_2, .slice A0_3 l0_3.length c0_3]) 34 ?_; intro gb338 hg w3 hbox hb; have xb_ := below_ofs bq hb; have n_ := jA4 (zab xb_ hb) (hbox) (ge0 hg xb_ : w.heap.size ≤ gb338) (ge0 hg xb_ : w.heap.size ≤ gb338); clear HB; obtain ⟨HB, BK338, GW338, GE338⟩ := n_; clear xb_ hb hbox hg) | (refine jgd 2 ?_; refine bx 2 (#[.string (⟨#[]⟩ : ByteArray), .int .i64 0, .int .i64 0, .slice none 0 0]) 34 ?_; intro gb339 hg w4 hbox hb; have n_ := jA7 (jbb BK338.out hb) (zab (bs1 GE338.out) hb) (hbox) (ge0 hg (bs1 GE338.out) : w.heap.size ≤ gb339) (ge0 hg (bs1 GE338.out) : w.heap.size ≤ gb339) (nl hg (pB BK338.out) : gb338 ≠ gb339) (ng hg (pB BK338.out) : gb339 ≠ gb338); clear BK338 HB; obtain ⟨BK338, HB, BK339, GW339, GE339, NB338_339, NB339_338⟩ := n_; clear hb hbox hg) | (refine jgd 3 ?_; refine jlt 3 (Kd.int .u8) 5 ?_; intro v341 w5 ho6 hb; (first | rw [← Ny340.out] at ho6 | (simp only [Int.reduceToNat] at ho6; rw [← Ny340.out] at ho6)); have n_ := jA4 (zbc ho6 (zak (bs2 GE338.out GE339.out))) (jbb BK338.out hb) (jbb BK339.out hb) (zab (bs2 GE338.out GE339.out) hb); clear BK338 BK339 HB; obtain ⟨HO342, BK338, BK339, HB⟩ := n_; clear hb ho6; have hnb7 := NB338_339.out; have hnc7 := NB339_338.out; obtain ⟨hcz8_0, hcz8_1, hcz8_2, hcz8_3, hfz8_0, hfz8_1, hfz8_2, hfz8_3⟩ := cz4 BK338.out) | ((with_reducible refine zcc (b := .append) (xs := #[.tmp 3, .tmp 5]) rfl ?_); at_builtin; refine zef (Kd.int .u8) (w0 := w) w.heap.size rfl (.tmp 3) (.tmp 5) 29 5 (.int .u8 0) 1 rfl Try.underlying29 info5 rfl (by decide) (by omega) v341 y340 l0_3 _ _ _ (fun _ => True) (fun _ => False) rfl rfl ?aO ?aR (fun _ _ h => h) (fun _ h => h.elim) ?aF ?aB ?aS ?aL ?_; (case aR => exact jcs HR0_3.out); (case aB => exact (bs2 GE338.out GE339.out)); (case aF => exact (fun _ _ => trivial)); (case aO => exact (pR HO342.out)); (case aS => exact (zak (bs2 GE338.out GE339.out))); (case aL => have := LMc2.out; omega); intro v344 w9 ho hb hg hat; rw [← Ny343.out] at ho; have n_ := jA4 (zei (pB BK338.out) hg (zfn HO342.out BK338.out (by decide))) (zei (pB BK339.out) hg (zfn HO342.out BK339.out (by decide))) (hb) (ho); clear BK338 BK339 HB HO342; obtain ⟨BK338, BK339, HB, HO345⟩ := n_; clear ho hb hg hat; obtain ⟨Ao10, co10, eo10⟩ := zbm HO345.out; subst eo10; obtain ⟨hcz11_0, hcz11_1, hcz11_2, hcz11_3, hfz11_0, hfz11_1, hfz11_2, hfz11_3⟩ := cz4 BK338.out; obtain ⟨hcz12_0, hcz12_1, hcz12_2, hcz12_3, hfz12_0, hfz12_1, hfz12_2, hfz12_3⟩ := cz4 BK339.out))
  refine zdx (results_cell_row rfl _ _ gb339 34 #[.string a0_0, .int .i64 a0_1, .int .i64 a0_2, .slice Ao10 y343.length co10] (0, 0) _ rfl (by (with_reducible repeat (first | refine zbg ?_ _ | refine zbl ?_ | refine zbh ?_ _)); refine zdh (cs := #[.string a0_0, .int .i64 a0_1, .int .i64 a0_2, .slice none 0 0]) ?_ 3 _ rfl; (with_reducible repeat (first | refine zbg ?_ _ | refine zbl ?_ | refine zbh ?_ _)); refine zdh (cs := #[.string a0_0, .int .i64 a0_1, .int .i64 0, .slice none 0 0]) ?_ 2 _ rfl; (with_reducible repeat (first | refine zbg ?_ _ | refine zbl ?_ | refine zbh ?_ _)); refine zdh (cs := #[.string a0_0, .int .i64 0, .int .i64 0, .slice none 0 0]) ?_ 1 _ rfl; (with_reducible repeat (first | refine zbg ?_ _ | refine zbl ?_ | refine zbh ?_ _)); refine zdh (cs := #[.string (⟨#[]⟩ : ByteArray), .int .i64 0, .int .i64 0, .slice none 0 0]) ?_ 0 _ rfl; (with_reducible repeat (first | refine zbg ?_ _ | refine zbl ?_ | refine zbh ?_ _)); refine blk_far ?_ NB339_338.out _; (with_reducible repeat (first | refine zbg ?_ _ | refine zbl ?_ | refine zbh ?_ _)); exact BK339.out) Try.underlying34 rfl (by kernel_rfl)) rfl ?_
  exact ⟨_, jex, by (with_reducible repeat (first | apply zbo | apply zbp | apply zbs)); exact zav (zbt (p := ⟨gb339, 3, none⟩) (zbt (p := ⟨gb339, 2, none⟩) (zbt (p := ⟨gb339, 1, none⟩) (zbt (p := ⟨gb339, 0, none⟩) (zbt (p := ⟨gb338, 3, none⟩) (zcb (zcb HO345.out BK338.out (by decide)) BK339.out (by decide)) (fun _ hk => hk.1.2) (.slice Ao10 y343.length co10)) (fun _ hk => hk.2) (.string a0_0)) (fun _ hk => hk.2) (.int .i64 a0_1)) (fun _ hk => hk.2) (.int .i64 a0_2)) (fun _ hk => hk.2) (.slice Ao10 y343.length co10)) (fun _ hk => trivial), (bs2 GE338.out GE339.out)⟩
 ·rw [if_neg c2] at H
  exact absurd H (by simp)
def spec_Due.l0 : Nat → List (S34) → Int → List (S34) → Int → Option ((List (S34)))
 | 0, _, _, _, _ => none
 | k + 1, x0, x1, x5, x6 => if x6 < (x0.length : Int) then (if 0 ≤ x6 then (if ((rd_T34 x0 x6).f2) ≥ x1 then ((spec_l13Item.f ((rd_T34 x0 x6).f0) ((rd_T34 x0 x6).f1) ((rd_T34 x0 x6).f2) ((rd_T34 x0 x6).f3)).bind fun bt351 => (if x5.length < 2513169434916 then (spec_Due.l0 k x0 x1 (x5 ++ [(⟨bt351.1, bt351.2.1, bt351.2.2.1, bt351.2.2.2⟩ : S34)]) (wrap64 (x6 + 1))) else (none))) else (spec_Due.l0 k x0 x1 x5 (wrap64 (x6 + 1)))) else (none)) else (some x5)
def spec_Due.f (k : Nat) (l0 : List (S34)) (a1 : Int) : Option ((List (S34))) := spec_Due.l0 k l0 a1 (([] : List (S34))) 0
theorem spec_Due.mono_l : ∀ k, (∀ y0 y1 y2 y3, LeO (spec_Due.l0 k y0 y1 y2 y3) (spec_Due.l0 (k + 1) y0 y1 y2 y3))
 | 0 => fun _ _ _ _ r h => by simp [spec_Due.l0] at h
 | k + 1 => by
  have ih0 := spec_Due.mono_l k
  ·intro y0 y1 y2 y3
   unfold spec_Due.l0
   exact mt
theorem spec_Due.mono : ∀ a0 a1 k, LeO (spec_Due.f k a0 a1) (spec_Due.f (k + 1) a0 a1) := by
 intro a0 a1 k
 have ih0 := spec_Due.mono_l k
 unfold spec_Due.f
 exact mt
theorem spec_Due.calls (k : Nat) (A0 : Option Addr) (c0 : Nat) (l0 : List (S34)) (a1 : Int) (r : List (S34)) (w : World) (hr0 : Kd.C k34 w A0 l0.length l0) (hc0 : l0.length ≤ c0) (h : spec_Due.f k l0 a1 = some r) :
  Calls Try.prog 38 #[.slice A0 l0.length c0, .int .i64 a1] w fun e w' => ∃ v0_ : Value, e = .returned (v0_) ∧ Kd.S k34 34 w' w.heap.size (fun _ => True) v0_ r ∧ Below w.heap.size w w' := by
 have hu34 := Try.underlying34
 have HR0 := Aside0.mk hr0
 have HC0 := Aside0.mk hc0
 clear hr0 hc0
 have HB := Aside0.mk (zbk w.heap.size w)
 have H : (spec_Due.l0 k l0 a1 (([] : List (S34))) 0) = some r := h
 clear h
 obtain ⟨y346, hy346⟩ : ∃ y_ : List (S34), y_ = (([] : List (S34))) := ⟨_, rfl⟩
 replace H : (spec_Due.l0 k l0 a1 y346 0) = some r := jrw hy346 H
 have Ny346 := Aside0.mk hy346
 clear hy346
 have H' := Aside0.mk H
 clear H
 go_enter Try.func38, Try.ntmps38
 go_wp2_with (first | (refine jgd 7 ?_; refine Kd.S_lit k34 _ 34 ?hg (N := 7) ?hd (xs := ([] : List (S34))) (inner := []) (ok := fun _ => True) (okp := fun _ => True) ?hr ?hp (fun _ hk => hk) trivial (zbk _ _) (zaf _) (by simp) ?_; (case hd => rfl); (case hg => rfl); (case hr => first | (go_simp; done) | (go_simp; rfl)); (case hp => exact (Reps.none _ _)); intro v347 w3 ho4 hb hg_ hnew_; have xb_ := below_ofs bq hb; clear hg_ hnew_; (first | rw [← Ny346.out] at ho4 | (simp only [Int.reduceToNat] at ho4; rw [← Ny346.out] at ho4)); have n_ := jA2 (zeg ho4 (zak xb_)) (zab xb_ hb); clear HB; obtain ⟨HO348, HB⟩ := n_; clear xb_ hb ho4))
 go_loopg [5, 6] k (fun kq v5 v6 w' => ∃ (x5_1 : List (S34)) (x6_1 : Int), v6 = .int .i64 x6_1 ∧ Aside0 (spec_Due.l0 kq l0 a1 x5_1 x6_1 = some r) ∧ Aside0 (kq ≤ k) ∧ Aside0 (Kd.S k34 34 w' w.heap.size (fun _ => True) v5 x5_1) ∧ Aside0 (Below w.heap.size w w'))
 case atStart => exact ⟨(y346), (0), jer, H', ⟨zaf _⟩, ⟨pS HO348.out⟩, ⟨bq⟩⟩
 case round =>
  clear H'
  try clear p2
  try clear c3
  obtain ⟨x5_1, x6_1, rfl, HA, HK1, HO_5, HB⟩ := hrel
  cases gk with
  | zero => exact absurd HA.out (by simp [spec_Due.l0])
  | succ k1 =>
   have H := HA.out
   clear HA
   simp only [spec_Due.l0] at H
   by_cases c5 : x6_1 < (l0.length : Int)
   ·rw [if_pos c5] at H
    have c5b0 := zae c5
    clear c5
    by_cases c6 : 0 ≤ x6_1
    ·rw [if_pos c6] at H
     have c6b0 := zae c6
     clear c6
     by_cases c7 : ((rd_T34 l0 x6_1).f2) ≥ a1
     ·rw [if_pos c7] at H
      have c7b0 := zae c7
      clear c7
      obtain ⟨⟨t351, t352, t353, t354⟩, A8, H⟩ := bnd H
      try dsimp only at H
      by_cases c9 : x5_1.length < 2513169434916
      ·rw [if_pos c9] at H
       have LMc9 := Aside0.mk c9
       clear c9
       obtain ⟨y357, hy357⟩ : ∃ y_ : List (S34), y_ = (x5_1 ++ [(⟨t351, t352, t353, t354⟩ : S34)]) := ⟨_, rfl⟩
       replace H : (spec_Due.l0 k1 l0 a1 y357 (wrap64 (x6_1 + 1))) = some r := jrw hy357 H
       have Ny357 := Aside0.mk hy357
       clear hy357
       have H' := Aside0.mk H
       clear H
       obtain ⟨p349, q349, ad349, A349_3, c349_3, e349, hx349_0, hx349_1, hx349_2, hx349_3, HC349_3, HR349_3⟩ := jel HR0.out HB.out x6_1
       cases e349
       obtain ⟨p350, q350, ad350, A350_3, c350_3, e350, hx350_0, hx350_1, hx350_2, hx350_3, HC350_3, HR350_3⟩ := jel HR0.out HB.out x6_1
       obtain rfl : ad349 = ad350 := (by injection e350)
       have ea_ := Option.some.inj (hx349_3.symm.trans hx350_3)
       injection ea_ with ea_ en_ ec_
       subst ea_
       subst ec_
       clear en_
       go_wp2_with (first | (refine jgc 94 ?_; refine jgs 26 Try.func94 #[.agg #[.string ((rd_T34 l0 x6_1).f0), .int .i64 ((rd_T34 l0 x6_1).f1), .int .i64 ((rd_T34 l0 x6_1).f2), .slice A349_3 ((rd_T34 l0 x6_1).f3).length c349_3]] ?_; (with_reducible refine (spec_l13Item.calls ((rd_T34 l0 x6_1).f0) ((rd_T34 l0 x6_1).f1) ((rd_T34 l0 x6_1).f2) _ _ ((rd_T34 l0 x6_1).f3) t351 t352 t353 t354 _ ?side1 ?side2 A8.out).mono ?_); (case side1 => exact jcs HR350_3.out); (case side2 => exact HC350_3.out); rintro e w10 ⟨v355, rfl, ho0, hb⟩; refine ⟨_, rfl, ?_⟩; have xb_ := below_ofs bq hb; have n_ := jA3 (zea (pS HO_5.out) (zbe ho0) hb) (zbc ho0 (zak xb_)) (zab xb_ hb); clear HO_5 HB; obtain ⟨HO_5, HO356, HB⟩ := n_; clear xb_ hb ho0; obtain ⟨Ao12, co12, eo12⟩ := zbm HO356.out; subst eo12) | ((with_reducible refine zcc (b := .append) (xs := #[.tmp 21, .tmp 27]) rfl ?_); at_builtin; refine zex k34 (w0 := w) w.heap.size rfl (.tmp 21) (.tmp 27) 25 34 (.agg #[(.string ⟨#[]⟩), (.int .i64 0), (.int .i64 0), (.slice none 0 0)]) 56 rfl Try.underlying25 info34 rfl (by decide) (by omega) u5 x5_1 (⟨t351, t352, t353, t354⟩ : S34) [.string t351, .int .i64 t352, .int .i64 t353, .slice Ao12 t354.length co12] (fun _ => True) (fun k_ => some k_ = (.slice Ao12 t354.length co12 : Value).ownBlock) rfl rfl ?aP (fun k_ hk_ => ((zav (ok' := fun k_ => ((fun _ => True)) k_ ∧ some k_ ≠ (u5 : Value).ownBlock) (zds (HO356.out) (zec HO_5.out) (by decide)) (fun k_ hk => ⟨trivial, hk.2⟩))).1 k_ hk_.symm) ?aF ?aO ?aB ?aS ?aL ?_; (case aP => exact k34_mkM _ _ _ (⟨t351, t352, t353, t354⟩ : S34) (zav (zfe rfl (zav (ok' := fun k_ => ((fun _ => True)) k_ ∧ some k_ ≠ (u5 : Value).ownBlock) (zds (HO356.out) (zec HO_5.out) (by decide)) (fun k_ hk => ⟨trivial, hk.2⟩))) (fun _ h_ => h_))); (case aB => exact bq); (case aF => exact (fun _ _ => trivial)); (case aO => exact (by (with_reducible repeat (first | apply zdk | apply zdl | apply zdr)); exact zcx HO_5.out (fun k_ hk => ⟨trivial, fun e_ => hk.2 e_⟩))); (case aS => exact (zak bq)); (case aL => have := LMc9.out; omega); intro v358 w11 ho hb hg hat; rw [← Ny357.out] at ho; have n_ := jA2 (hb) (ho); clear HB HO_5 HO356; obtain ⟨HB, HO359⟩ := n_; clear ho hb hg hat))
       go_roundg k1
       case measure => have := HK1.out; omega
       case rel => exact ⟨(y357), (wrap64 (x6_1 + 1)), jer, H', ⟨by have := HK1.out; omega⟩, ⟨pS HO359.out⟩, ⟨bq⟩⟩
      ·rw [if_neg c9] at H
       exact absurd H (by simp)
     ·rw [if_neg c7] at H
      have c7b0 := zas c7
      clear c7
      have H' := Aside0.mk H
      clear H
      obtain ⟨p349, q349, ad349, A349_3, c349_3, e349, hx349_0, hx349_1, hx349_2, hx349_3, HC349_3, HR349_3⟩ := jel HR0.out HB.out x6_1
      cases e349
      go_wp2
      go_roundg k1
      case measure => have := HK1.out; omega
      case rel => exact ⟨(x5_1), (wrap64 (x6_1 + 1)), jer, H', ⟨by have := HK1.out; omega⟩, ⟨pS HO_5.out⟩, ⟨bq⟩⟩
    ·rw [if_neg c6] at H
     exact absurd H (by simp)
   ·rw [if_neg c5] at H
    have c5b0 := zas c5
    clear c5
    obtain rfl := Option.some.inj H
    go_wp2
    go_ret
    exact ⟨_, jex, by (with_reducible repeat (first | apply zdk | apply zdl | apply zdr)); exact HO_5.out, bq⟩
def spec_l13Queue.l0 : Nat → List (S34) → List (S34) → Int → Option ((List (S34)))
 | 0, _, _, _ => none
 | k + 1, x0, x3, x4 => if x4 < (x0.length : Int) then (if 0 ≤ x4 then ((spec_l13Item.f ((rd_T34 x0 x4).f0) ((rd_T34 x0 x4).f1) ((rd_T34 x0 x4).f2) ((rd_T34 x0 x4).f3)).bind fun bt402 => (if x3.length < 2513169434916 then (spec_l13Queue.l0 k x0 (x3 ++ [(⟨bt402.1, bt402.2.1, bt402.2.2.1, bt402.2.2.2⟩ : S34)]) (wrap64 (x4 + 1))) else (none))) else (none)) else (some x3)
def spec_l13Queue.f (k : Nat) (l0 : List (S34)) : Option ((List (S34))) := spec_l13Queue.l0 k l0 (([] : List (S34))) 0
theorem spec_l13Queue.mono_l : ∀ k, (∀ y0 y1 y2, LeO (spec_l13Queue.l0 k y0 y1 y2) (spec_l13Queue.l0 (k + 1) y0 y1 y2))
 | 0 => fun _ _ _ r h => by simp [spec_l13Queue.l0] at h
 | k + 1 => by
  have ih0 := spec_l13Queue.mono_l k
  ·intro y0 y1 y2
   unfold spec_l13Queue.l0
   exact mt
theorem spec_l13Queue.mono : ∀ a0 k, LeO (spec_l13Queue.f k a0) (spec_l13Queue.f (k + 1) a0) := by
 intro a0 k
 have ih0 := spec_l13Queue.mono_l k
 unfold spec_l13Queue.f
 exact mt
theorem spec_l13Queue.calls (k : Nat) (A0 : Option Addr) (c0 : Nat) (l0 : List (S34)) (r : List (S34)) (w : World) (hr0 : Kd.C k34 w A0 l0.length l0) (hc0 : l0.length ≤ c0) (h : spec_l13Queue.f k l0 = some r) :
  Calls Try.prog 101 #[.slice A0 l0.length c0] w fun e w' => ∃ v0_ : Value, e = .returned (v0_) ∧ Kd.S k34 34 w' w.heap.size (fun _ => True) v0_ r ∧ Below w.heap.size w w' := by
 have hu34 := Try.underlying34
 have HR0 := Aside0.mk hr0
 have HC0 := Aside0.mk hc0
 clear hr0 hc0
 have HB := Aside0.mk (zbk w.heap.size w)
 have H : (spec_l13Queue.l0 k l0 (([] : List (S34))) 0) = some r := h
 clear h
 obtain ⟨y398, hy398⟩ : ∃ y_ : List (S34), y_ = (([] : List (S34))) := ⟨_, rfl⟩
 replace H : (spec_l13Queue.l0 k l0 y398 0) = some r := jrw hy398 H
 have Ny398 := Aside0.mk hy398
 clear hy398
 have H' := Aside0.mk H
 clear H
 go_enter Try.func101, Try.ntmps101
 go_wp2_with (first | (refine jgd 5 ?_; refine Kd.S_lit k34 _ 34 ?hg (N := 5) ?hd (xs := ([] : List (S34))) (inner := []) (ok := fun _ => True) (okp := fun _ => True) ?hr ?hp (fun _ hk => hk) trivial (zbk _ _) (zaf _) (by simp) ?_; (case hd => rfl); (case hg => rfl); (case hr => first | (go_simp; done) | (go_simp; rfl)); (case hp => exact (Reps.none _ _)); intro v399 w2 ho3 hb hg_ hnew_; have xb_ := below_ofs bq hb; clear hg_ hnew_; (first | rw [← Ny398.out] at ho3 | (simp only [Int.reduceToNat] at ho3; rw [← Ny398.out] at ho3)); have n_ := jA2 (zeg ho3 (zak xb_)) (zab xb_ hb); clear HB; obtain ⟨HO400, HB⟩ := n_; clear xb_ hb ho3))
 go_loopg [3, 4] k (fun kq v3 v4 w' => ∃ (x3_1 : List (S34)) (x4_1 : Int), v4 = .int .i64 x4_1 ∧ Aside0 (spec_l13Queue.l0 kq l0 x3_1 x4_1 = some r) ∧ Aside0 (kq ≤ k) ∧ Aside0 (Kd.S k34 34 w' w.heap.size (fun _ => True) v3 x3_1) ∧ Aside0 (Below w.heap.size w w'))
 case atStart => exact ⟨(y398), (0), jer, H', ⟨zaf _⟩, ⟨pS HO400.out⟩, ⟨bq⟩⟩
 case round =>
  clear H'
  try clear c1
  try clear p2
  obtain ⟨x3_1, x4_1, rfl, HA, HK1, HO_3, HB⟩ := hrel
  cases gk with
  | zero => exact absurd HA.out (by simp [spec_l13Queue.l0])
  | succ k1 =>
   have H := HA.out
   clear HA
   simp only [spec_l13Queue.l0] at H
   by_cases c4 : x4_1 < (l0.length : Int)
   ·rw [if_pos c4] at H
    have c4b0 := zae c4
    clear c4
    by_cases c5 : 0 ≤ x4_1
    ·rw [if_pos c5] at H
     have c5b0 := zae c5
     clear c5
     obtain ⟨⟨t402, t403, t404, t405⟩, A6, H⟩ := bnd H
     try dsimp only at H
     by_cases c7 : x3_1.length < 2513169434916
     ·rw [if_pos c7] at H
      have LMc7 := Aside0.mk c7
      clear c7
      obtain ⟨y408, hy408⟩ : ∃ y_ : List (S34), y_ = (x3_1 ++ [(⟨t402, t403, t404, t405⟩ : S34)]) := ⟨_, rfl⟩
      replace H : (spec_l13Queue.l0 k1 l0 y408 (wrap64 (x4_1 + 1))) = some r := jrw hy408 H
      have Ny408 := Aside0.mk hy408
      clear hy408
      have H' := Aside0.mk H
      clear H
      obtain ⟨p401, q401, ad401, A401_3, c401_3, e401, hx401_0, hx401_1, hx401_2, hx401_3, HC401_3, HR401_3⟩ := jel HR0.out HB.out x4_1
      cases e401
      go_wp2_with (first | (refine jgc 94 ?_; refine jgs 17 Try.func94 #[.agg #[.string ((rd_T34 l0 x4_1).f0), .int .i64 ((rd_T34 l0 x4_1).f1), .int .i64 ((rd_T34 l0 x4_1).f2), .slice A401_3 ((rd_T34 l0 x4_1).f3).length c401_3]] ?_; (with_reducible refine (spec_l13Item.calls ((rd_T34 l0 x4_1).f0) ((rd_T34 l0 x4_1).f1) ((rd_T34 l0 x4_1).f2) _ _ ((rd_T34 l0 x4_1).f3) t402 t403 t404 t405 _ ?side1 ?side2 A6.out).mono ?_); (case side1 => exact jcs HR401_3.out); (case side2 => exact HC401_3.out); rintro e w8 ⟨v406, rfl, ho0, hb⟩; refine ⟨_, rfl, ?_⟩; have xb_ := below_ofs bq hb; have n_ := jA3 (zea (pS HO_3.out) (zbe ho0) hb) (zbc ho0 (zak xb_)) (zab xb_ hb); clear HO_3 HB; obtain ⟨HO_3, HO407, HB⟩ := n_; clear xb_ hb ho0; obtain ⟨Ao10, co10, eo10⟩ := zbm HO407.out; subst eo10) | ((with_reducible refine zcc (b := .append) (xs := #[.tmp 12, .tmp 18]) rfl ?_); at_builtin; refine zex k34 (w0 := w) w.heap.size rfl (.tmp 12) (.tmp 18) 25 34 (.agg #[(.string ⟨#[]⟩), (.int .i64 0), (.int .i64 0), (.slice none 0 0)]) 56 rfl Try.underlying25 info34 rfl (by decide) (by omega) u3 x3_1 (⟨t402, t403, t404, t405⟩ : S34) [.string t402, .int .i64 t403, .int .i64 t404, .slice Ao10 t405.length co10] (fun _ => True) (fun k_ => some k_ = (.slice Ao10 t405.length co10 : Value).ownBlock) rfl rfl ?aP (fun k_ hk_ => ((zav (ok' := fun k_ => ((fun _ => True)) k_ ∧ some k_ ≠ (u3 : Value).ownBlock) (zds (HO407.out) (zec HO_3.out) (by decide)) (fun k_ hk => ⟨trivial, hk.2⟩))).1 k_ hk_.symm) ?aF ?aO ?aB ?aS ?aL ?_; (case aP => exact k34_mkM _ _ _ (⟨t402, t403, t404, t405⟩ : S34) (zav (zfe rfl (zav (ok' := fun k_ => ((fun _ => True)) k_ ∧ some k_ ≠ (u3 : Value).ownBlock) (zds (HO407.out) (zec HO_3.out) (by decide)) (fun k_ hk => ⟨trivial, hk.2⟩))) (fun _ h_ => h_))); (case aB => exact bq); (case aF => exact (fun _ _ => trivial)); (case aO => exact (by (with_reducible repeat (first | apply zdk | apply zdl | apply zdr)); exact zcx HO_3.out (fun k_ hk => ⟨trivial, fun e_ => hk.2 e_⟩))); (case aS => exact (zak bq)); (case aL => have := LMc7.out; omega); intro v409 w9 ho hb hg hat; rw [← Ny408.out] at ho; have n_ := jA2 (hb) (ho); clear HB HO_3 HO407; obtain ⟨HB, HO410⟩ := n_; clear ho hb hg hat))
      go_roundg k1
      case measure => have := HK1.out; omega
      case rel => exact ⟨(y408), (wrap64 (x4_1 + 1)), jer, H', ⟨by have := HK1.out; omega⟩, ⟨pS HO410.out⟩, ⟨bq⟩⟩
     ·rw [if_neg c7] at H
      exact absurd H (by simp)
    ·rw [if_neg c5] at H
     exact absurd H (by simp)
   ·rw [if_neg c4] at H
    have c4b0 := zas c4
    clear c4
    obtain rfl := Option.some.inj H
    go_wp2
    go_ret
    exact ⟨_, jex, by (with_reducible repeat (first | apply zdk | apply zdl | apply zdr)); exact HO_3.out, bq⟩
def spec_Take.l0 : Nat → List (S34) → ByteArray → Int → Option (ByteArray × Int × Int × List Int × (List (S34)) × Bool)
 | 0, _, _, _ => none
 | k + 1, x0, x1, x7 => if x7 < (x0.length : Int) then (if 0 ≤ x7 then (if ((rd_T34 x0 x7).f0).toList = x1.toList then (if x7 ≤ (x0.length : Int) then ((spec_l13Queue.f k (x0.take (x7 : Int).toNat)).bind fun t420 => (if 0 ≤ (wrap64 (x7 + 1)) then (if (wrap64 (x7 + 1)) ≤ (x0.length : Int) then ((spec_l13Queue.f k (x0.drop ((wrap64 (x7 + 1)) : Int).toNat)).bind fun t427 => (if t420.length + t427.length < 2513169434916 then ((spec_l13Item.f ((rd_T34 x0 x7).f0) ((rd_T34 x0 x7).f1) ((rd_T34 x0 x7).f2) ((rd_T34 x0 x7).f3)).bind fun bt434 => (some (bt434.1, bt434.2.1, bt434.2.2.1, bt434.2.2.2, (t420 ++ t427), true))) else (none))) else (none)) else (none))) else (none)) else (spec_Take.l0 k x0 x1 (wrap64 (x7 + 1)))) else (none)) else ((spec_l13Queue.f k x0).bind fun t412 => (some ((⟨#[]⟩ : ByteArray), 0, 0, ([] : List Int), t412, false)))
def spec_Take.f (k : Nat) (l0 : List (S34)) (a1 : ByteArray) : Option (ByteArray × Int × Int × List Int × (List (S34)) × Bool) := spec_Take.l0 k l0 a1 0
theorem spec_Take.mono_l : ∀ k, (∀ y0 y1 y2, LeO (spec_Take.l0 k y0 y1 y2) (spec_Take.l0 (k + 1) y0 y1 y2))
 | 0 => fun _ _ _ r h => by simp [spec_Take.l0] at h
 | k + 1 => by
  have ih0 := spec_Take.mono_l k
  ·intro y0 y1 y2
   unfold spec_Take.l0
   have m0 := @spec_l13Queue.mono
   exact mt
theorem spec_Take.mono : ∀ a0 a1 k, LeO (spec_Take.f k a0 a1) (spec_Take.f (k + 1) a0 a1) := by
 intro a0 a1 k
 have ih0 := spec_Take.mono_l k
 unfold spec_Take.f
 have m0 := @spec_l13Queue.mono
 exact mt
def spec_Take.T5 : Bool × List (List Nat × List Nat) := (true, [([], []), ([], []), ([0, 1], [0, 1]), ([2], [2]), ([], []), ([], []), ([5], [5]), ([4, 6], [4, 6]), ([7, 3], [7]), ([3, 8, 8], [3, 8]), ([9, 9, 0, 1, 2, 3, 4, 5, 6, 7, 8, 9], [9])])
def spec_Take.B5 : List Nat := [0, 0, 3, 7, 0, 0, 32, 112, 255, 511, 1023]
theorem spec_Take.tab5 : rtab .any (opsOf Try.f44 5) = spec_Take.T5 := by kernel_rfl
theorem spec_Take.bits5 : waitsOk spec_Take.T5.2 spec_Take.B5 = true := by kernel_rfl
theorem spec_Take.calls (k : Nat) (A0 : Option Addr) (c0 : Nat) (l0 : List (S34)) (a1 : ByteArray) (r1 : ByteArray) (r2 : Int) (r3 : Int) (r4 : List Int) (r5 : List (S34)) (r6 : Bool) (w : World) (hr0 : Kd.C k34 w A0 l0.length l0) (hc0 : l0.length ≤ c0) (h : spec_Take.f k l0 a1 = some (r1, r2, r3, r4, r5, r6)) :
  Calls Try.prog 44 #[.slice A0 l0.length c0, .string a1] w fun e w' => ∃ v3_ v4_ : Value, e = .returned (.tuple #[.agg #[.string r1, .int .i64 r2, .int .i64 r3, v3_], v4_, .bool r6]) ∧ Kd.R (Kd.int .u8) 5 w' w.heap.size (fun k_ => (w.heap.size ≤ k_)) v3_ r4 ∧ Kd.N k34 34 w' w.heap.size (fun k_ => (w.heap.size ≤ k_) ∧ some k_ ≠ (v3_ : Value).ownBlock) v4_ r5 ∧ Below w.heap.size w w' := by
 have hu34 := Try.underlying34
 have HR0 := Aside0.mk hr0
 have HC0 := Aside0.mk hc0
 clear hr0 hc0
 have HB := Aside0.mk (zbk w.heap.size w)
 have H : (spec_Take.l0 k l0 a1 0) = some (r1, r2, r3, r4, r5, r6) := h
 clear h
 have H' := Aside0.mk H
 clear H
 go_enter Try.func44, Try.ntmps44
 go_wp2_with (first | (refine jgd 4 ?_; refine bx 4 (#[.string (⟨#[]⟩ : ByteArray), .int .i64 0, .int .i64 0, .slice none 0 0]) 34 ?_; intro gb411 hg w3 hbox hb; have xb_ := below_ofs bq hb; have n_ := jA4 (zab xb_ hb) (hbox) (ge0 hg xb_ : w.heap.size ≤ gb411) (ge0 hg xb_ : w.heap.size ≤ gb411); clear HB; obtain ⟨HB, BK411, GW411, GE411⟩ := n_; clear xb_ hb hbox hg))
 go_loopg [7] k (fun kq v7 w' => ∃ (x7_1 : Int) (x412000_1 : ByteArray) (x412001_1 : Int) (x412002_1 : Int), v7 = .int .i64 x7_1 ∧ Aside0 (spec_Take.l0 kq l0 a1 x7_1 = some (r1, r2, r3, r4, r5, r6)) ∧ Aside0 (kq ≤ k) ∧ Aside0 (w'.heap[gb411]? = some (.cells #[.string x412000_1, .int .i64 x412001_1, .int .i64 x412002_1, (.slice none 0 0)] 34 (0, 0))) ∧ Aside0 (Below w.heap.size w w'))
 case atStart => exact ⟨(0), ((⟨#[]⟩ : ByteArray)), (0), (0), jer, H', ⟨zaf _⟩, ⟨pB BK411.out⟩, ⟨bs1 GE411.out⟩⟩
 case round =>
  clear H'
  try clear p2
  obtain ⟨x7_1, x412000_1, x412001_1, x412002_1, rfl, HA, HK1, BK411, HB⟩ := hrel
  cases gk with
  | zero => exact absurd HA.out (by simp [spec_Take.l0])
  | succ k1 =>
   have H := HA.out
   clear HA
   simp only [spec_Take.l0] at H
   by_cases c4 : x7_1 < (l0.length : Int)
   ·rw [if_pos c4] at H
    have c4b0 := zae c4
    clear c4
    by_cases c5 : 0 ≤ x7_1
    ·rw [if_pos c5] at H
     have c5b0 := zae c5
     clear c5
     by_cases c6 : ((rd_T34 l0 x7_1).f0).toList = a1.toList
     ·rw [if_pos c6] at H
      have c6b0 := beqT c6
      have c6b1 := zau.mpr c6
      clear c6
      have c7b0 := zbd (zac jab : 0 ≤ x7_1)
      by_cases c8 : x7_1 ≤ (l0.length : Int)
      ·rw [if_pos c8] at H
       have c8b0 := zbd c8
       have c8b1 := zae c8
       clear c8
       obtain ⟨y416, hy416⟩ : ∃ y_ : List (S34), y_ = (l0.take (x7_1 : Int).toNat) := ⟨_, rfl⟩
       replace H : ((spec_l13Queue.f k1 y416).bind fun t420 => (if 0 ≤ (wrap64 (x7_1 + 1)) then (if (wrap64 (x7_1 + 1)) ≤ (l0.length : Int) then ((spec_l13Queue.f k1 (l0.drop ((wrap64 (x7_1 + 1)) : Int).toNat)).bind fun t427 => (if t420.length + t427.length < 2513169434916 then ((spec_l13Item.f ((rd_T34 l0 x7_1).f0) ((rd_T34 l0 x7_1).f1) ((rd_T34 l0 x7_1).f2) ((rd_T34 l0 x7_1).f3)).bind fun bt434 => (some (bt434.1, bt434.2.1, bt434.2.2.1, bt434.2.2.2, (t420 ++ t427), true))) else (none))) else (none)) else (none))) = some (r1, r2, r3, r4, r5, r6) := jrw hy416 H
       have Ny416 := Aside0.mk hy416
       clear hy416
       obtain ⟨t420, A9, H⟩ := bnd H
       obtain ⟨ji10, hji10⟩ : ∃ j_ : Int, (wrap64 (x7_1 + 1)) = j_ := ⟨_, rfl⟩
       replace H : (if 0 ≤ (ji10) then (if (ji10) ≤ (l0.length : Int) then ((spec_l13Queue.f k1 (l0.drop ((ji10) : Int).toNat)).bind fun t427 => (if t420.length + t427.length < 2513169434916 then ((spec_l13Item.f ((rd_T34 l0 x7_1).f0) ((rd_T34 l0 x7_1).f1) ((rd_T34 l0 x7_1).f2) ((rd_T34 l0 x7_1).f3)).bind fun bt434 => (some (bt434.1, bt434.2.1, bt434.2.2.1, bt434.2.2.2, (t420 ++ t427), true))) else (none))) else (none)) else (none)) = some (r1, r2, r3, r4, r5, r6) := by first | (rw [hji10] at H; exact H) | (simp only [hji10] at H ⊢; exact H)
       (try rw [hji10] at A9)
       have hji10w : (IntKind.i64.wrap (x7_1 + 1)) = ji10 := (i64_w _).trans hji10
       by_cases c11 : 0 ≤ (ji10)
       ·rw [if_pos c11] at H
        have c11b0 := zbd c11
        have c11b1 := zae c11
        clear c11
        by_cases c12 : (ji10) ≤ (l0.length : Int)
        ·rw [if_pos c12] at H
         have c12b0 := zbd c12
         have c12b1 := zae c12
         clear c12
         obtain ⟨y423, hy423⟩ : ∃ y_ : List (S34), y_ = (l0.drop ((ji10) : Int).toNat) := ⟨_, rfl⟩
         replace H : ((spec_l13Queue.f k1 y423).bind fun t427 => (if t420.length + t427.length < 2513169434916 then ((spec_l13Item.f ((rd_T34 l0 x7_1).f0) ((rd_T34 l0 x7_1).f1) ((rd_T34 l0 x7_1).f2) ((rd_T34 l0 x7_1).f3)).bind fun bt434 => (some (bt434.1, bt434.2.1, bt434.2.2.1, bt434.2.2.2, (t420 ++ t427), true))) else (none))) = some (r1, r2, r3, r4, r5, r6) := jrw hy423 H
         have Ny423 := Aside0.mk hy423
         clear hy423
         obtain ⟨t427, A13, H⟩ := bnd H
         by_cases c14 : t420.length + t427.length < 2513169434916
         ·rw [if_pos c14] at H
          have LMc14 := Aside0.mk c14
          clear c14
          obtain ⟨y430, hy430⟩ : ∃ y_ : List (S34), y_ = (t420 ++ t427) := ⟨_, rfl⟩
          replace H : ((spec_l13Item.f ((rd_T34 l0 x7_1).f0) ((rd_T34 l0 x7_1).f1) ((rd_T34 l0 x7_1).f2) ((rd_T34 l0 x7_1).f3)).bind fun bt434 => (some (bt434.1, bt434.2.1, bt434.2.2.1, bt434.2.2.2, y430, true))) = some (r1, r2, r3, r4, r5, r6) := jrw hy430 H
          have Ny430 := Aside0.mk hy430
          clear hy430
          obtain ⟨⟨t434, t435, t436, t437⟩, A15, H⟩ := bnd H
          try dsimp only at H
          simp only [zbz, zcj] at H
          obtain ⟨rfl, rfl, rfl, rfl, rfl, rfl⟩ := H
          obtain ⟨p415, q415, ad415, A415_3, c415_3, e415, hx415_0, hx415_1, hx415_2, hx415_3, HC415_3, HR415_3⟩ := jel HR0.out HB.out x7_1
          cases e415
          try go_wp2
          have n_ := jA2 (zbl BK411.out) (zev HB.out)
          clear BK411 HB
          obtain ⟨BK411, HB⟩ := n_
          have q17 : (x7_1 : Int) ≤ ((l0.length : Int) : Int) := zac jab
          obtain ⟨i017, hi017, _, hsz17, _⟩ := info_parts info34
          have hroom17 : l0.length ≤ c0 := HC0.out
          have hC17 : Kd.C k34 _ (some ad415) l0.length l0 := HR0.out
          have hcut17 := cut_to (P := Try.prog) 25 34 .i64 Try.underlying25 hi017 (some ad415) l0.length c0 x7_1 (zac jab) q17 hroom17
          have hr17 := Kd.C_take (m := (x7_1 : Int).toNat) hC17 (by omega)
          have hy17 : y416.length = (x7_1 : Int).toNat := (by rw [Ny416.out, List.length_take]; omega)
          rw [← Ny416.out] at hr17
          rw [← hy17] at hcut17
          have HR419 := Aside0.mk hr17
          have HC419 := Aside0.mk (show y416.length ≤ c0 from by omega)
          clear hr17 hC17 hroom17 hi017 hsz17
          have KY17 := Aside0.mk hy17
          clear hy17
          replace q17 := zbd q17
          have q18 : ((ji10) : Int) ≤ ((l0.length : Int) : Int) := zac jab
          obtain ⟨i018, hi018, _, hsz18, _⟩ := info_parts info34
          have hroom18 : l0.length ≤ c0 := HC0.out
          have hC18 : Kd.C k34 _ (some ad415) l0.length l0 := HR0.out
          have q018 : (0 : Int) ≤ ((ji10) : Int) := zac jab
          have hcut18 := cut_from (P := Try.prog) 25 34 .i64 Try.underlying25 hi018 4 hsz18 (some ad415) l0.length c0 (ji10) q018 q18
          have hr18 := Kd.C_drop (m := ((ji10) : Int).toNat) (c := c0) hC18 (by omega) hroom18
          obtain ⟨A18, hA18⟩ : ∃ A1, A1 = (if c0 = ((ji10) : Int).toNat then (some ad415) else ((some ad415) : Option Addr).map (·.add (((ji10) : Int).toNat * 4))) := ⟨_, rfl⟩
          obtain ⟨c18, hc18⟩ : ∃ c1, c1 = c0 - ((ji10) : Int).toNat := ⟨_, rfl⟩
          have hy18 : y423.length = l0.length - ((ji10) : Int).toNat := (by rw [Ny423.out, List.length_drop] <;> omega)
          rw [show (l0).drop ((ji10) : Int).toNat = y423 from Ny423.out.symm] at hr18
          replace hr18 : Kd.C k34 _ A18 y423.length y423 := (by rw [hA18]; exact hr18)
          rw [← hy18, ← hA18, ← hc18] at hcut18
          have HR426 := Aside0.mk hr18
          have HC426 := Aside0.mk (show y423.length ≤ c18 from by rw [hy18, hc18]; exact Nat.sub_le_sub_right hroom18 _)
          clear hr18 hC18 hroom18 hi018 hsz18 hc18
          have KY18 := Aside0.mk hy18
          have KA18 := Aside0.mk hA18
          clear hy18 hA18
          replace q18 := zbd q18
          refine start_ (n := 11) (S := fun w' => True) (ds := []) #[false, false, false, false, false, false, false, false, false, false, false] (by kernel_rfl) rfl rfl trivial (fun hHeld => ?_); refine zgf spec_Take.tab5 spec_Take.bits5 (fun HT_ HW_ => ?_)
          generalize wr.drew = w16 at BK411 HB HR419 HR426 hHeld ⊢
          refine pu 0 22 HT_.out ?_
          refine pu 1 23 HT_.out ?_
          refine pu 2 24 HT_.out ?_
          refine pu 4 26 HT_.out ?_
          refine pu 5 27 HT_.out ?_
          refine pu 6 28 HT_.out ?_
          refine pu 7 29 HT_.out ?_
          refine one_ (i := 3) (N := some 25) #[true, true, true, true, true, true, true, true, false, false, false] rfl rfl (one_of HT_.out (by kernel_rfl)) (by decide) (fun K hK => ?_)
          refine goes_ Try.func101 (by kernel_rfl) rfl #[.slice (some ad415) y416.length c0] (by rfl) rfl rfl jhl ?_
          with_reducible refine (spec_l13Queue.calls k1 _ _ y416 t420 _ ?side1 ?side2 A9.out).mono ?_
          (case side1 => exact jcs HR419.out)
          (case side2 => exact HC419.out)
          rintro e w19 ⟨v421, rfl, ho0, hb⟩
          refine ⟨_, rfl, ?_⟩
          have n_ := jA3 (Kd.N_lower (zgh (ok' := fun k_ => (w.heap.size ≤ k_) ∧ k_ ≠ gb411) (Kd.S_N (zfv ho0)) (fun k_ hk_ => ⟨(zeb (zak (bs1 GE411.out)) hk_.2.1), (zey (pB BK411.out) k_ hk_.2.1)⟩)) (zak (bs1 GE411.out))) (jbb BK411.out hb) (zab (bs1 GE411.out) hb)
          clear BK411 HB
          obtain ⟨HO422, BK411, HB⟩ := n_
          (try clear hb)
          (try clear hb2)
          (try clear hk)
          (try clear hi)
          (try clear ho0)
          refine hK.out _ _ trivial (fun hHeld => ?_)
          clear hK K
          refine norm_ (a' := ?_) ?_ ?_
          rotate_left
          ·show Act.put _ (some 25) _ = _
           simp only [Act.put, zal, zaw, zax, i64_w, i32_w]
           rfl
          refine one_ (i := 8) (N := some 30) #[true, true, true, true, true, true, true, true, true, false, false] rfl rfl (one_of HT_.out (by kernel_rfl)) (by decide) (fun K hK => ?_)
          refine goes_ Try.func101 (by kernel_rfl) rfl #[.slice A18 y423.length c18] (by rfl) rfl rfl jhl ?_
          with_reducible refine (spec_l13Queue.calls k1 _ _ y423 t427 _ ?side1 ?side2 A13.out).mono ?_
          (case side1 => exact jcs HR426.out)
          (case side2 => exact HC426.out)
          rintro e w20 ⟨v428, rfl, ho0, hb⟩
          refine ⟨_, rfl, ?_⟩
          have n_ := jA4 (Kd.N_elder' (pN HO422.out) (by first | exact Kd.N_base ho0 | exact Kd.S_base ho0) hb) (Kd.N_lower (zgh (ok' := fun k_ => (w.heap.size ≤ k_) ∧ some k_ ≠ (v421 : Value).ownBlock ∧ k_ ≠ gb411) (Kd.S_N (zfv ho0)) (fun k_ hk_ => ⟨(zeb (zak (bs1 GE411.out)) hk_.2.1), (zdn (Kd.N_lt (pN HO422.out)) k_ hk_.2.1), (zey (pB BK411.out) k_ hk_.2.1)⟩)) (zak (bs1 GE411.out))) (jbb BK411.out hb) (zab (bs1 GE411.out) hb)
          clear HO422 BK411 HB
          obtain ⟨HO422, HO429, BK411, HB⟩ := n_
          (try clear hb)
          (try clear hb2)
          (try clear hk)
          (try clear hi)
          (try clear ho0)
          obtain ⟨Ao22, co22, eo22⟩ := Kd.N_slice HO429.out
          (first | subst eo22 | (injection eo22 with f1_ f2_ f3_; have f4_ := f1_.symm; have f5_ := f3_.symm; clear f1_ f2_ f3_; subst f4_; subst f5_))
          refine hK.out _ _ trivial (fun hHeld => ?_)
          clear hK K
          refine norm_ (a' := ?_) ?_ ?_
          rotate_left
          ·show Act.put _ (some 30) _ = _
           simp only [Act.put, zal, zaw, zax, i64_w, i32_w]
           rfl
          refine one_ (i := 9) (N := some 31) #[true, true, true, true, true, true, true, true, true, true, false] rfl rfl (one_of HT_.out (by kernel_rfl)) (by decide) (fun K hK => ?_)
          refine Kd.N_append_rows_step k34 (w0 := w) w.heap.size (by rfl) (.tmp 25) (.tmp 30) 25 34 (.agg #[(.string ⟨#[]⟩), (.int .i64 0), (.int .i64 0), (.slice none 0 0)]) 56 rfl Try.underlying25 info34 rfl (by decide) (by omega) v421 t420 t427 _ _ _ (fun k_ => (w.heap.size ≤ k_) ∧ k_ ≠ gb411) (fun k_ => ((fun k_ => (w.heap.size ≤ k_) ∧ k_ ≠ gb411)) k_ ∧ some k_ ≠ (v421 : Value).ownBlock) rfl rfl ?aO ?aR (fun _ hk => hk) ?aF ?aB ?aS ?aL ?_
          (case aR => exact (by skip; exact Kd.N_F (zgh (ok' := (fun k_ => ((fun k_ => (w.heap.size ≤ k_) ∧ k_ ≠ gb411)) k_ ∧ some k_ ≠ (v421 : Value).ownBlock)) (HO429.out) (fun k_ hk => ⟨⟨hk.1, hk.2.2⟩, hk.2.1⟩))))
          (case aB => exact (bs1 GE411.out))
          (case aF => exact (fun k_ hk => ⟨(zeb (zak (bs1 GE411.out)) hk), zey (pB BK411.out) k_ hk⟩))
          (case aO => exact (by (with_reducible repeat (first | apply Kd.N_alloc | apply Kd.N_drewN | apply Kd.N_drew)); exact zgh HO422.out (fun _ hk => ⟨hk.1.1, hk.1.2⟩)))
          (case aS => exact (zak (bs1 GE411.out)))
          (case aL => have := LMc14.out; omega)
          intro v431 w21 ho hb hg hat
          rw [← Ny430.out] at ho
          have n_ := jA4 (zei (pB BK411.out) hg (Kd.N_away HO422.out (fun _ hk => hk.1.2))) (Kd.N_afterv (ok := (fun k_ => (w.heap.size ≤ k_) ∧ k_ ≠ gb411)) (by (with_reducible repeat (first | apply Kd.N_alloc | apply Kd.N_drewN | apply Kd.N_drew)); exact zgh HO429.out (fun _ hk => ⟨⟨hk.1, hk.2.2⟩, hk.2.1⟩)) hg hat) (hb) (ho)
          clear BK411 HO429 HB HO422
          obtain ⟨BK411, HO429, HB, HO432⟩ := n_
          clear ho hb hg hat
          refine hK.out _ _ trivial (fun hHeld => ?_)
          clear hK K
          refine norm_ (a' := ?_) ?_ ?_
          rotate_left
          ·show Act.put _ (some 31) _ = _
           simp only [Act.put, zal, zaw, zax, i64_w, i32_w]
           rfl
          refine pu 10 8 HT_.out ?_
          refine done_ (done_of HT_.out (by kernel_rfl)) ?_
          obtain ⟨p433, q433, ad433, A433_3, c433_3, e433, hx433_0, hx433_1, hx433_2, hx433_3, HC433_3, HR433_3⟩ := jel HR0.out HB.out x7_1
          obtain rfl : ad415 = ad433 := (by injection e433)
          try go_wp2_with (first | (refine jgc 94 ?_; refine jgs 36 Try.func94 #[.agg #[.string ((rd_T34 l0 x7_1).f0), .int .i64 ((rd_T34 l0 x7_1).f1), .int .i64 ((rd_T34 l0 x7_1).f2), .slice A433_3 ((rd_T34 l0 x7_1).f3).length c433_3]] ?_; (with_reducible refine (spec_l13Item.calls ((rd_T34 l0 x7_1).f0) ((rd_T34 l0 x7_1).f1) ((rd_T34 l0 x7_1).f2) _ _ ((rd_T34 l0 x7_1).f3) t434 t435 t436 t437 _ ?side1 ?side2 A15.out).mono ?_); (case side1 => exact jcs HR433_3.out); (case side2 => exact HC433_3.out); rintro e w23 ⟨v438, rfl, ho0, hb⟩; refine ⟨_, rfl, ?_⟩; have n_ := jA5 (Kd.N_elder' (pN HO429.out) (zbe ho0) hb) (Kd.N_elder' (pN HO432.out) (zbe ho0) hb) (zbc (Kd.R_newM (M := fun k_ => (w.heap.size ≤ k_)) ho0 (zak (bs1 GE411.out)) (fun k_ h_ => h_)) (zak (bs1 GE411.out))) (jbb BK411.out hb) (zab (bs1 GE411.out) hb); clear HO429 HO432 BK411 HB; obtain ⟨HO429, HO432, HO439, BK411, HB⟩ := n_; (try clear hb); (try clear hb2); (try clear hk); (try clear hi); (try clear ho0); obtain ⟨hcz24_0, hcz24_1, hcz24_2, hcz24_3, hfz24_0, hfz24_1, hfz24_2, hfz24_3⟩ := cz4 BK411.out; obtain ⟨Ao25, co25, eo25⟩ := zbm HO439.out; subst eo25))
          refine zdx (zfd rfl _ _ gb411 34 #[.string t434, .int .i64 t435, .int .i64 t436, .slice Ao25 t437.length co25] (0, 0) _ rfl (by (with_reducible repeat (first | refine zbg ?_ _ | refine zbl ?_ | refine zbh ?_ _)); refine zdh (cs := #[.string t434, .int .i64 t435, .int .i64 t436, .slice none 0 0]) ?_ 3 _ rfl; (with_reducible repeat (first | refine zbg ?_ _ | refine zbl ?_ | refine zbh ?_ _)); refine zdh (cs := #[.string t434, .int .i64 t435, .int .i64 x412002_1, .slice none 0 0]) ?_ 2 _ rfl; (with_reducible repeat (first | refine zbg ?_ _ | refine zbl ?_ | refine zbh ?_ _)); refine zdh (cs := #[.string t434, .int .i64 x412001_1, .int .i64 x412002_1, .slice none 0 0]) ?_ 1 _ rfl; (with_reducible repeat (first | refine zbg ?_ _ | refine zbl ?_ | refine zbh ?_ _)); refine zdh (cs := #[.string x412000_1, .int .i64 x412001_1, .int .i64 x412002_1, .slice none 0 0]) ?_ 0 _ rfl; (with_reducible repeat (first | refine zbg ?_ _ | refine zbl ?_ | refine zbh ?_ _)); exact BK411.out) Try.underlying34 rfl (by kernel_rfl)) rfl ?_
          exact ⟨_, _, by first | rfl | (simp [errW_none, errW_some] <;> rfl) | (simp only [← hji10]; first | rfl | (simp [errW_none, errW_some] <;> rfl)) | (simp [*, errW_none, errW_some] <;> rfl), by (with_reducible repeat (first | apply zbo | apply zbp | apply zbs)); exact zav (zbt (p := ⟨gb411, 3, none⟩) (zbt (p := ⟨gb411, 2, none⟩) (zbt (p := ⟨gb411, 1, none⟩) (zbt (p := ⟨gb411, 0, none⟩) (zcb HO439.out BK411.out (by decide)) (fun _ hk => hk.2) (.string t434)) (fun _ hk => hk.2) (.int .i64 t435)) (fun _ hk => hk.2) (.int .i64 t436)) (fun _ hk => hk.2) (.slice Ao25 t437.length co25)) (fun _ hk => hk.1.1), by (with_reducible repeat (first | apply Kd.N_alloc | apply Kd.N_drewN | apply Kd.N_drew)); exact zgh (Kd.N_far (p := ⟨gb411, 3, none⟩) (Kd.N_far (p := ⟨gb411, 2, none⟩) (Kd.N_far (p := ⟨gb411, 1, none⟩) (Kd.N_far (p := ⟨gb411, 0, none⟩) (zgh HO432.out (fun k_ hk => (⟨hk, hk.1.2⟩ : _ ∧ k_ ≠ gb411))) (fun _ hk => hk.2) (.string t434)) (fun _ hk => hk.2) (.int .i64 t435)) (fun _ hk => hk.2) (.int .i64 t436)) (fun _ hk => hk.2) (.slice Ao25 t437.length co25)) (fun _ hk => ⟨hk.1.1.1, hk.1.2⟩), (bs1 GE411.out)⟩
         ·rw [if_neg c14] at H
          exact absurd H (by simp)
        ·rw [if_neg c12] at H
         exact absurd H (by simp)
       ·rw [if_neg c11] at H
        exact absurd H (by simp)
      ·rw [if_neg c8] at H
       exact absurd H (by simp)
     ·rw [if_neg c6] at H
      have c6b0 := zao.mpr c6
      have c6b1 := zcs.mpr c6
      have H' := Aside0.mk H
      clear H
      obtain ⟨p415, q415, ad415, A415_3, c415_3, e415, hx415_0, hx415_1, hx415_2, hx415_3, HC415_3, HR415_3⟩ := jel HR0.out HB.out x7_1
      cases e415
      go_wp2
      go_roundg k1
      case measure => have := HK1.out; omega
      case rel => exact ⟨(wrap64 (x7_1 + 1)), (x412000_1), (x412001_1), (x412002_1), jer, H', ⟨by have := HK1.out; omega⟩, ⟨pB BK411.out⟩, ⟨bs1 GE411.out⟩⟩
    ·rw [if_neg c5] at H
     exact absurd H (by simp)
   ·rw [if_neg c4] at H
    have c4b0 := zas c4
    clear c4
    obtain ⟨t412, A26, H⟩ := bnd H
    simp only [zbz, zcj] at H
    obtain ⟨rfl, rfl, rfl, rfl, rfl, rfl⟩ := H
    go_wp2_with (first | (refine jgc 101 ?_; refine jgs 40 Try.func101 #[.slice A0 l0.length c0] ?_; (with_reducible refine (spec_l13Queue.calls k1 _ _ l0 t412 _ ?side1 ?side2 A26.out).mono ?_); (case side1 => exact jcs HR0.out); (case side2 => exact HC0.out); rintro e w27 ⟨v413, rfl, ho0, hb⟩; refine ⟨_, rfl, ?_⟩; have n_ := jA3 (Kd.N_lower (zgh (ok' := fun k_ => (w.heap.size ≤ k_) ∧ k_ ≠ gb411) (Kd.S_N (zfv ho0)) (fun k_ hk_ => ⟨(zeb (zak (bs1 GE411.out)) hk_.2.1), (zey (pB BK411.out) k_ hk_.2.1)⟩)) (zak (bs1 GE411.out))) (jbb BK411.out hb) (zab (bs1 GE411.out) hb); clear BK411 HB; obtain ⟨HO414, BK411, HB⟩ := n_; clear hb ho0; obtain ⟨hcz28_0, hcz28_1, hcz28_2, hcz28_3, hfz28_0, hfz28_1, hfz28_2, hfz28_3⟩ := cz4 BK411.out))
    refine zdx (zfd rfl _ _ gb411 34 #[.string (⟨#[]⟩ : ByteArray), .int .i64 0, .int .i64 0, .slice none 0 0] (0, 0) _ rfl (by (with_reducible repeat (first | refine zbg ?_ _ | refine zbl ?_ | refine zbh ?_ _)); refine zdh (cs := #[.string (⟨#[]⟩ : ByteArray), .int .i64 0, .int .i64 0, .slice none 0 0]) ?_ 3 _ rfl; (with_reducible repeat (first | refine zbg ?_ _ | refine zbl ?_ | refine zbh ?_ _)); refine zdh (cs := #[.string (⟨#[]⟩ : ByteArray), .int .i64 0, .int .i64 x412002_1, .slice none 0 0]) ?_ 2 _ rfl; (with_reducible repeat (first | refine zbg ?_ _ | refine zbl ?_ | refine zbh ?_ _)); refine zdh (cs := #[.string (⟨#[]⟩ : ByteArray), .int .i64 x412001_1, .int .i64 x412002_1, .slice none 0 0]) ?_ 1 _ rfl; (with_reducible repeat (first | refine zbg ?_ _ | refine zbl ?_ | refine zbh ?_ _)); refine zdh (cs := #[.string x412000_1, .int .i64 x412001_1, .int .i64 x412002_1, .slice none 0 0]) ?_ 0 _ rfl; (with_reducible repeat (first | refine zbg ?_ _ | refine zbl ?_ | refine zbh ?_ _)); exact BK411.out) Try.underlying34 rfl (by kernel_rfl)) rfl ?_
    exact ⟨_, _, jex, by first | exact zfz _ _ _ _ _ | exact Kd.N_nil _ _ _ _ _ | exact Kd.V_nil _ _ _ _ _ | exact Kd.Q_nil _ _ _ _ _ | exact Kd.S_nil _ _ _ _ _, by (with_reducible repeat (first | apply Kd.N_alloc | apply Kd.N_drewN | apply Kd.N_drew)); exact zgh (Kd.N_far (p := ⟨gb411, 3, none⟩) (Kd.N_far (p := ⟨gb411, 2, none⟩) (Kd.N_far (p := ⟨gb411, 1, none⟩) (Kd.N_far (p := ⟨gb411, 0, none⟩) (zgh HO414.out (fun k_ hk => (⟨hk, hk.2⟩ : _ ∧ k_ ≠ gb411))) (fun _ hk => hk.2) (.string (⟨#[]⟩ : ByteArray))) (fun _ hk => hk.2) (.int .i64 0)) (fun _ hk => hk.2) (.int .i64 0)) (fun _ hk => hk.2) (.slice none 0 0)) (fun _ hk => ⟨hk.1.1, (by simp [Value.ownBlock])⟩), (bs1 GE411.out)⟩
end Go.Proofs.Ytlalkldjpniakaa.P
