import Derived.Test.Ytlalkldjpniakaapm9
import Derived.Test.Ytlalkldjpniakaapm11
import Derived.Shelf.Abstract
namespace Go.Proofs.Ytlalkldjpniakaa.P
open Go.RowKit Go.Proofs.YtlalkldjpniakaaW.PrintWords Go.Proofs.YtlalkldjpniakaaW.PrintLast Go.Proofs.YtlalkldjpniakaaW.PrintMore
attribute [local go_sem] zcm zcn zdi zdj zbz zca zco zcp   -- for this text's walks alone
set_option linter.unusedVariables false
set_option linter.unusedSimpArgs false
set_option maxHeartbeats 8000000
set_option maxRecDepth 100000

def spec_Play.l0 : Nat → List Int → List (S34) → Int → Int → Option ((List (S34)) × Int × Int)
 | 0, _, _, _, _ => none
 | k + 1, x0, x5, x6, x7 => (spec_LineOf.f k x0 x7).bind fun bt1108 => (if bt1108.2.2.2.2.2.2 = true then ((spec_l14Play.f k x5 x6 bt1108.1 bt1108.2.1 bt1108.2.2.1 bt1108.2.2.2.1 bt1108.2.2.2.2.1).bind fun bt1118 => (spec_Play.l0 k x0 bt1118.1 bt1118.2 bt1108.2.2.2.2.2.1)) else (some (x5, x6, x7)))
def spec_Play.f (k : Nat) (l0 : List Int) : Option ((List (S34)) × Int × Int) := spec_Play.l0 k l0 (([] : List (S34))) 0 0
theorem spec_Play.mono_l : ∀ k, (∀ y0 y1 y2 y3, LeO (spec_Play.l0 k y0 y1 y2 y3) (spec_Play.l0 (k + 1) y0 y1 y2 y3))
 | 0 => fun _ _ _ _ r h => by simp [spec_Play.l0] at h
 | k + 1 => by
  have ih0 := spec_Play.mono_l k
  ·intro y0 y1 y2 y3
   unfold spec_Play.l0
   have m0 := @spec_LineOf.mono
   have m1 := @spec_l14Play.mono
   exact mt
theorem spec_Play.mono : ∀ a0 k, LeO (spec_Play.f k a0) (spec_Play.f (k + 1) a0) := by
 intro a0 k
 have ih0 := spec_Play.mono_l k
 unfold spec_Play.f
 have m0 := @spec_LineOf.mono
 have m1 := @spec_l14Play.mono
 exact mt
theorem spec_Play.calls (k : Nat) (A0 : Option Addr) (c0 : Nat) (l0 : List Int) (r1 : List (S34)) (r2 : Int) (r3 : Int) (w : World) (hr0 : Kd.C (Kd.int .u8) w A0 l0.length l0) (hc0 : l0.length ≤ c0) (h : spec_Play.f k l0 = some (r1, r2, r3)) :
  Calls Try.prog 69 #[.slice A0 l0.length c0] w fun e w' => ∃ v0_ : Value, e = .returned (.tuple #[v0_, .int .i64 r2, .int .i64 r3]) ∧ Kd.V k34 34 w' w.heap.size (fun k_ => (w.heap.size ≤ k_)) v0_ r1 ∧ Below w.heap.size w w' := by
 have hu48 := Try.underlying48
 have HR0 := Aside0.mk hr0
 have HC0 := Aside0.mk hc0
 clear hr0 hc0
 have HB := Aside0.mk (zbj w.heap.size w)
 have H : (spec_Play.l0 k l0 (([] : List (S34))) 0 0) = some (r1, r2, r3) := h
 clear h
 obtain ⟨y1105, hy1105⟩ : ∃ y_ : List (S34), y_ = (([] : List (S34))) := ⟨_, rfl⟩
 replace H : (spec_Play.l0 k l0 y1105 0 0) = some (r1, r2, r3) := jrw hy1105 H
 have Ny1105 := Aside0.mk hy1105
 clear hy1105
 have H' := Aside0.mk H
 clear H
 go_enter Try.func69, Try.ntmps69
 go_wp2_with (first | (refine jgd 11 ?_; refine Kd.S_lit k34 _ 34 ?hg (N := 11) ?hd (xs := ([] : List (S34))) (inner := []) (ok := fun _ => True) (okp := fun _ => True) ?hr ?hp (fun _ hk => hk) trivial (zbj _ _) (zaf _) (by simp) ?_; (case hd => rfl); (case hg => rfl); (case hr => first | (go_simp; done) | (go_simp; rfl)); (case hp => exact (zgg _ _)); intro v1106 w2 ho3 hb hg_ hnew_; have xb_ := below_ofs bq hb; clear hg_ hnew_; (first | rw [← Ny1105.out] at ho3 | (simp only [Int.reduceToNat] at ho3; rw [← Ny1105.out] at ho3)); have n_ := jA2 (zeq (Kd.S_newM (M := fun k_ => (w.heap.size ≤ k_)) ho3 (zah xb_) (fun k_ h_ => h_)) (zah xb_)) (zad xb_ hb); clear HB; obtain ⟨HO1107, HB⟩ := n_; clear xb_ hb ho3))
 go_loopg [5, 6, 7] k (fun kq v5 v6 v7 w' => ∃ (x5_1 : List (S34)) (x6_1 : Int) (x7_1 : Int), v6 = .int .i64 x6_1 ∧ v7 = .int .i64 x7_1 ∧ Aside0 (spec_Play.l0 kq l0 x5_1 x6_1 x7_1 = some (r1, r2, r3)) ∧ Aside0 (kq ≤ k) ∧ Aside0 (Kd.V k34 34 w' w.heap.size (fun k_ => (w.heap.size ≤ k_)) v5 x5_1) ∧ Aside0 (Below w.heap.size w w'))
 case atStart => exact ⟨(y1105), (0), (0), jer, jer, H', ⟨zaf _⟩, ⟨Kd.S_V (by (with_reducible repeat (first | apply zcy | apply zcz | apply zdr)); exact zcs HO1107.out (fun _ hk => hk.1))⟩, ⟨bq⟩⟩
 case round =>
  clear H'
  try clear p2
  obtain ⟨x5_1, x6_1, x7_1, rfl, rfl, HA, HK1, HO_5, HB⟩ := hrel
  cases gk with
  | zero => exact absurd HA.out (by simp [spec_Play.l0])
  | succ k1 =>
   have H := HA.out
   clear HA
   simp only [spec_Play.l0] at H
   obtain ⟨⟨t1108, t1109, t1110, t1111, t1112, t1115, t1116⟩, A4, H⟩ := bnd H
   try dsimp only at H
   by_cases c5 : t1116 = true
   ·subst c5
    rw [if_pos rfl] at H
    obtain ⟨⟨t1118, t1121⟩, A6, H⟩ := bnd H
    try dsimp only at H
    have H' := Aside0.mk H
    clear H
    go_wp2_with (first | (refine jgc 54 ?_; refine jgs 15 Try.func54 #[.slice A0 l0.length c0, .int .i64 x7_1] ?_; (with_reducible refine (spec_LineOf.calls k1 _ _ l0 x7_1 t1108 t1109 t1110 t1111 t1112 t1115 true _ ?side1 ?side2 A4.out).mono ?_); (case side1 => exact jcs HR0.out); (case side2 => exact HC0.out); rintro e w7 ⟨v1113, rfl, ho0, hb⟩; refine ⟨_, rfl, ?_⟩; have xb_ := below_ofs bq hb; have n_ := jA3 (zga (pV HO_5.out) (zba ho0) hb) (zaw (Kd.R_newM (M := fun k_ => (w.heap.size ≤ k_)) ho0 (zah xb_) (fun k_ h_ => h_)) (zah xb_)) (zad xb_ hb); clear HO_5 HB; obtain ⟨HO_5, HO1114, HB⟩ := n_; clear xb_ hb ho0) | (refine jgd 8 ?_; refine bx 8 (#[.int .i64 0, .string (⟨#[]⟩ : ByteArray), .int .i64 0, .int .i64 0, .slice none 0 0]) 48 ?_; intro gb1117 hg w8 hbox hb; have xb_ := below_ofs bq hb; have n_ := jA6 (zez (Kd.V_elderB (pV HO_5.out) gb1117 (zes hg.symm)) hb) (zdz (pR HO1114.out) hb) (zad xb_ hb) (hbox) (ge0 hg xb_ : w.heap.size ≤ gb1117) (ge0 hg xb_ : w.heap.size ≤ gb1117); clear HO_5 HO1114 HB; obtain ⟨HO_5, HO1114, HB, BK1117, GW1117, GE1117⟩ := n_; clear xb_ hb hbox hg; obtain ⟨hcz9_0, hcz9_1, hcz9_2, hcz9_3, hcz9_4, hfz9_0, hfz9_1, hfz9_2, hfz9_3, hfz9_4⟩ := cz5 BK1117.out; obtain ⟨Ao10, co10, eo10⟩ := zbg HO1114.out; subst eo10) | ((with_reducible refine zdy (t := 48) (p := 8) rfl ?_); refine store_event (t := 48) (p := 8) (v := ?vo_w11) (w1 := (((((w8.setCell ⟨gb1117, 0, none⟩ (.int .i64 t1108)).setCell ⟨gb1117, 1, none⟩ (.string t1109)).setCell ⟨gb1117, 2, none⟩ (.int .i64 t1110)).setCell ⟨gb1117, 3, none⟩ (.int .i64 t1111)).setCell ⟨gb1117, 4, none⟩ (.slice Ao10 t1112.length co10))) ?hg ?ho ?hn ?hr ?_; (case ho => rfl); (case hg => rfl); (case hn => rfl); (case hr => first | (go_simp; done) | (go_simp; rfl)); intro w11 hw; have n0_ : Aside0 (Kd.V k34 34 w11 w.heap.size (fun k_ => (w.heap.size ≤ k_) ∧ some k_ ≠ (.slice Ao10 t1112.length co10 : Value).ownBlock ∧ k_ ≠ gb1117) u5 x5_1) := ⟨(by rw [hw]; exact (by (with_reducible repeat (first | apply zej | apply zek | apply zer)); exact zcw (Kd.V_far (p := ⟨gb1117, 4, none⟩) (Kd.V_far (p := ⟨gb1117, 3, none⟩) (Kd.V_far (p := ⟨gb1117, 2, none⟩) (Kd.V_far (p := ⟨gb1117, 1, none⟩) (Kd.V_far (p := ⟨gb1117, 0, none⟩) (zcw HO_5.out (fun k_ hk => (⟨hk, hk.2⟩ : _ ∧ k_ ≠ gb1117))) (fun _ hk => hk.2) (.int .i64 t1108)) (fun _ hk => hk.2) (.string t1109)) (fun _ hk => hk.2) (.int .i64 t1110)) (fun _ hk => hk.2) (.int .i64 t1111)) (fun _ hk => hk.2) (.slice Ao10 t1112.length co10)) (fun _ hk => ⟨hk.1.1.1, ⟨hk.1.1.2, hk.1.2⟩⟩)))⟩; have n1_ : Aside0 (Kd.R (Kd.int .u8) 5 w11 w.heap.size (fun k_ => (w.heap.size ≤ k_)) (.slice Ao10 t1112.length co10) t1112) := ⟨(by rw [hw]; exact (by (with_reducible repeat (first | apply zap | apply zaq | apply zav)); exact zak (zch (p := ⟨gb1117, 4, none⟩) (zch (p := ⟨gb1117, 3, none⟩) (zch (p := ⟨gb1117, 2, none⟩) (zch (p := ⟨gb1117, 1, none⟩) (zch (p := ⟨gb1117, 0, none⟩) (zby HO1114.out BK1117.out (by decide)) (fun _ hk => hk.2) (.int .i64 t1108)) (fun _ hk => hk.2) (.string t1109)) (fun _ hk => hk.2) (.int .i64 t1110)) (fun _ hk => hk.2) (.int .i64 t1111)) (fun _ hk => hk.2) (.slice Ao10 t1112.length co10)) (fun _ hk => hk.1.1)))⟩; have n2_ : Aside0 (w11.heap[gb1117]? = some (.cells #[.int .i64 t1108, .string t1109, .int .i64 t1110, .int .i64 t1111, .slice Ao10 t1112.length co10] 48 (0, 0))) := ⟨(by rw [hw]; exact (by (with_reducible repeat (first | refine zbr ?_ _ | refine zbu ?_ | refine zbs ?_ _)); refine zea (cs := #[.int .i64 t1108, .string t1109, .int .i64 t1110, .int .i64 t1111, .slice none 0 0]) ?_ 4 _ rfl; (with_reducible repeat (first | refine zbr ?_ _ | refine zbu ?_ | refine zbs ?_ _)); refine zea (cs := #[.int .i64 t1108, .string t1109, .int .i64 t1110, .int .i64 0, .slice none 0 0]) ?_ 3 _ rfl; (with_reducible repeat (first | refine zbr ?_ _ | refine zbu ?_ | refine zbs ?_ _)); refine zea (cs := #[.int .i64 t1108, .string t1109, .int .i64 0, .int .i64 0, .slice none 0 0]) ?_ 2 _ rfl; (with_reducible repeat (first | refine zbr ?_ _ | refine zbu ?_ | refine zbs ?_ _)); refine zea (cs := #[.int .i64 t1108, .string (⟨#[]⟩ : ByteArray), .int .i64 0, .int .i64 0, .slice none 0 0]) ?_ 1 _ rfl; (with_reducible repeat (first | refine zbr ?_ _ | refine zbu ?_ | refine zbs ?_ _)); refine zea (cs := #[.int .i64 0, .string (⟨#[]⟩ : ByteArray), .int .i64 0, .int .i64 0, .slice none 0 0]) ?_ 0 _ rfl; (with_reducible repeat (first | refine zbr ?_ _ | refine zbu ?_ | refine zbs ?_ _)); exact BK1117.out))⟩; have n3_ : Aside0 (Below w.heap.size w w11) := ⟨(by rw [hw]; exact (bs1 GE1117.out))⟩; clear hw HO_5 HO1114 BK1117 HB; have HO_5 := n0_; have HO1114 := n1_; have BK1117 := n2_; have HB := n3_; clear n0_ n1_ n2_ n3_; obtain ⟨hcz12_0, hcz12_1, hcz12_2, hcz12_3, hcz12_4, hfz12_0, hfz12_1, hfz12_2, hfz12_3, hfz12_4⟩ := cz5 BK1117.out; obtain ⟨Ao13, co13, eo13⟩ := Kd.V_slice HO_5.out; subst eo13) | (refine jgc 123 ?_; refine jgs 28 Try.func123 #[.slice Ao13 x5_1.length co13, .int .i64 x6_1, .agg #[.int .i64 t1108, .string t1109, .int .i64 t1110, .int .i64 t1111, .slice Ao10 t1112.length co10]] ?_; (with_reducible refine (spec_l14Play.calls k1 (fun k_ => ((w.heap.size ≤ k_) ∧ (some k_ ≠ (.slice Ao10 t1112.length co10 : Value).ownBlock ∧ k_ ≠ gb1117))) _ _ x5_1 x6_1 t1108 t1109 t1110 t1111 _ _ t1112 t1118 t1121 _ ?side1 ?side2 ?side3 A6.out).mono ?_); (case side1 => exact HO_5.out); (case side2 => repeat (first | exact (zbq HO1114.out).2.2 | (with_reducible first | apply zdk | apply zdw | apply zeh))); (case side3 => exact (zbq HO1114.out).2.1); rintro e w14 ⟨v1119, rfl, ho0, hb⟩; refine ⟨_, rfl, ?_⟩; have n_ := jA5 (zez (pV HO_5.out) hb) (zdz (pR HO1114.out) hb) (Kd.V_lower (zcw (ok' := fun k_ => (w.heap.size ≤ k_) ∧ some k_ ≠ (.slice Ao10 t1112.length co10 : Value).ownBlock ∧ k_ ≠ gb1117) ho0 (fun k_ hk_ => ⟨Or.elim hk_ (fun hs_ => hs_.1) (fun hn_ => (zdd (zah (bs1 GE1117.out)) hn_)), Or.elim hk_ (fun hs_ => hs_.2.1) (fun hn_ => (zdq (zce (pR HO1114.out)) k_ hn_)), Or.elim hk_ (fun hs_ => hs_.2.2) (fun hn_ => (zfe (pB BK1117.out) k_ hn_))⟩)) (zah (bs1 GE1117.out))) (jbb BK1117.out hb) (zad (bs1 GE1117.out) hb); clear HO_5 HO1114 BK1117 HB; obtain ⟨HO_5, HO1114, HO1120, BK1117, HB⟩ := n_; clear hb ho0))
    go_roundg k1
    case measure => have := HK1.out; omega
    case rel => exact ⟨(t1118), (t1121), (t1115), jer, jer, H', ⟨by have := HK1.out; omega⟩, ⟨by (with_reducible repeat (first | apply zej | apply zek | apply zer)); exact zcw HO1120.out (fun _ hk => hk.1)⟩, ⟨bs1 GE1117.out⟩⟩
   ·replace c5 := zcd.mpr c5
    subst c5
    rw [if_neg (show ¬ (false = true) by decide)] at H
    simp only [zbx, zcg] at H
    obtain ⟨rfl, rfl, rfl⟩ := H
    go_wp2_with (first | (refine jgc 54 ?_; refine jgs 15 Try.func54 #[.slice A0 l0.length c0, .int .i64 x7_1] ?_; (with_reducible refine (spec_LineOf.calls k1 _ _ l0 x7_1 t1108 t1109 t1110 t1111 t1112 t1115 false _ ?side1 ?side2 A4.out).mono ?_); (case side1 => exact jcs HR0.out); (case side2 => exact HC0.out); rintro e w15 ⟨v1113, rfl, ho0, hb⟩; refine ⟨_, rfl, ?_⟩; have xb_ := below_ofs bq hb; have n_ := jA3 (zga (pV HO_5.out) (zba ho0) hb) (zaw (Kd.R_newM (M := fun k_ => (w.heap.size ≤ k_)) ho0 (zah xb_) (fun k_ h_ => h_)) (zah xb_)) (zad xb_ hb); clear HO_5 HB; obtain ⟨HO_5, HO1114, HB⟩ := n_; clear xb_ hb ho0) | (refine jgd 8 ?_; refine bx 8 (#[.int .i64 0, .string (⟨#[]⟩ : ByteArray), .int .i64 0, .int .i64 0, .slice none 0 0]) 48 ?_; intro gb1117 hg w16 hbox hb; have xb_ := below_ofs bq hb; have n_ := jA6 (zez (Kd.V_elderB (pV HO_5.out) gb1117 (zes hg.symm)) hb) (zdz (pR HO1114.out) hb) (zad xb_ hb) (hbox) (ge0 hg xb_ : w.heap.size ≤ gb1117) (ge0 hg xb_ : w.heap.size ≤ gb1117); clear HO_5 HO1114 HB; obtain ⟨HO_5, HO1114, HB, BK1117, GW1117, GE1117⟩ := n_; clear xb_ hb hbox hg; obtain ⟨hcz17_0, hcz17_1, hcz17_2, hcz17_3, hcz17_4, hfz17_0, hfz17_1, hfz17_2, hfz17_3, hfz17_4⟩ := cz5 BK1117.out; obtain ⟨Ao18, co18, eo18⟩ := zbg HO1114.out; subst eo18))
    go_ret3
    exact ⟨_, jex, by (with_reducible repeat (first | apply zej | apply zek | apply zer)); exact zcw (Kd.V_far (p := ⟨gb1117, 4, none⟩) (Kd.V_far (p := ⟨gb1117, 3, none⟩) (Kd.V_far (p := ⟨gb1117, 2, none⟩) (Kd.V_far (p := ⟨gb1117, 1, none⟩) (Kd.V_far (p := ⟨gb1117, 0, none⟩) (zcw HO_5.out (fun k_ hk => (⟨hk, hk.2⟩ : _ ∧ k_ ≠ gb1117))) (fun _ hk => hk.2) (.int .i64 t1108)) (fun _ hk => hk.2) (.string t1109)) (fun _ hk => hk.2) (.int .i64 t1110)) (fun _ hk => hk.2) (.int .i64 t1111)) (fun _ hk => hk.2) (.slice Ao18 t1112.length co18)) (fun _ hk => hk.1.1.1), (bs1 GE1117.out)⟩
def slices_Clone_byte_byte.f (l0 : List Int) : Option (List Int) := if l0.length < 140737488355328 then some l0 else none
theorem slices_Clone_byte_byte.wk {P : Prop} (h : P := by
 go_enter Try.func116, Try.ntmps116
 go_wp2_with (first | (refine jgd 5 ?_; refine jlt 5 (Kd.int .u8) 5 ?_; intro v297 w_ ho9 hb; have xb_ := below_ofs bq hb; have n_ := jA2 (zaw ho9 (zah xb_)) (zad xb_ hb); clear HB; obtain ⟨HO298, HB⟩ := n_; clear xb_ hb ho9) | ((with_reducible refine zbw (b := .append) (xs := #[.tmp 5, .tmp 6]) rfl ?_); at_builtin; refine zen (Kd.int .u8) (w0 := w) w.heap.size rfl (.tmp 5) (.tmp 6) 29 5 (.int .u8 0) 1 rfl Try.underlying29 info5 rfl (by decide) (by omega) v297 ([] : List Int) l0 _ _ _ (fun _ => True) (fun _ => False) rfl rfl ?aO ?aR (fun _ _ h => h) (fun _ h => h.elim) ?aF ?aB ?aS ?aL ?_; (case aR => exact jcs HR0.out); (case aB => exact bq); (case aF => exact (fun _ _ => trivial)); (case aO => exact (pR HO298.out)); (case aS => exact (zah bq)); (case aL => have := LMc3.out; simp; omega); intro v300 w10 ho hb hg hat; have n_ := jA2 (hb) (ho); clear HB HO298; obtain ⟨HB, HO301⟩ := n_; clear ho hb hg hat))
 go_ret
 first | (exact ⟨_, rfl, by (with_reducible repeat (first | apply zap | apply zaq | apply zav)); simpa using HO301.out, bq⟩) | (exact ⟨_, rfl, zgi _ _ _ _ _, zbj _ _⟩)) : P := h
theorem slices_Clone_byte_byte.calls (A0 : Option Addr) (c0 : Nat) (l0 : List Int) (r : List Int) (w : World) (hr0 : Kd.C (Kd.int .u8) w A0 l0.length l0) (hc0 : l0.length ≤ c0) (h : slices_Clone_byte_byte.f l0 = some r) :
  Calls Try.prog 116 #[.slice A0 l0.length c0] w fun e w' => ∃ v0_ : Value, e = .returned (v0_) ∧ Kd.R (Kd.int .u8) 5 w' w.heap.size (fun _ => True) v0_ r ∧ Below w.heap.size w w' := by
 unfold slices_Clone_byte_byte.f at h
 by_cases c3 : l0.length < 140737488355328
 ·rw [if_pos c3] at h
  have LMc3 := Aside0.mk c3
  clear c3
  obtain rfl := Option.some.inj h
  have HB := Aside0.mk (zbj w.heap.size w)
  cases A0 with
  | none =>
   have hl : l0 = [] := by
    apply List.eq_nil_of_length_eq_zero
    rcases Nat.eq_zero_or_pos l0.length with h0 | h0
    ·exact h0
    ·obtain ⟨ad, e, _⟩ := hr0.2.2 h0
     cases e
   subst hl
   clear hr0 hc0
   have hq := fun W => Lib.run_eql_slice_nil (P := Try.prog) W 29 5 none 0 c0 0 0 Try.underlying29
   exact slices_Clone_byte_byte.wk
  | some ad =>
   have HR0 := Aside0.mk hr0
   have HC0 := Aside0.mk hc0
   clear hr0 hc0
   have hq := fun W => Lib.run_eql_slice_nil (P := Try.prog) W 29 5 (some ad) l0.length c0 0 0 Try.underlying29
   exact slices_Clone_byte_byte.wk
 ·rw [if_neg c3] at h
  cases h
def impl_itemOf.f (a0_0 : Int) (a0_1 : ByteArray) (a0_2 : Int) (a0_3 : Int) (l0_4 : List Int) : Option (ByteArray × Int × Int × List Int) := (slices_Clone_byte_byte.f l0_4).bind fun t295 => (some (a0_1, a0_2, a0_3, t295))
def impl_itemOf.T1 : Bool × List (List Nat × List Nat) := (true, [([], []), ([0], [0]), ([], []), ([2], [2]), ([], []), ([4], [4]), ([], []), ([6], [6]), ([7], [7]), ([1, 3, 5, 8], [1, 3, 5, 8]), ([9, 8, 0, 1, 2, 3, 4, 5, 6, 7, 8, 9], [9])])
def impl_itemOf.B1 : List Nat := [0, 1, 0, 4, 0, 16, 0, 64, 192, 511, 1023]
theorem impl_itemOf.tab1 : rtab .any (opsOf Try.f93 1) = impl_itemOf.T1 := by kernel_rfl
theorem impl_itemOf.bits1 : waitsOk impl_itemOf.T1.2 impl_itemOf.B1 = true := by kernel_rfl
theorem impl_itemOf.calls (a0_0 : Int) (a0_1 : ByteArray) (a0_2 : Int) (a0_3 : Int) (A0_4 : Option Addr) (c0_4 : Nat) (l0_4 : List Int) (r1 : ByteArray) (r2 : Int) (r3 : Int) (r4 : List Int) (w : World) (hr0_4 : Kd.C (Kd.int .u8) w A0_4 l0_4.length l0_4) (hc0_4 : l0_4.length ≤ c0_4) (h : impl_itemOf.f a0_0 a0_1 a0_2 a0_3 l0_4 = some (r1, r2, r3, r4)) :
  Calls Try.prog 93 #[.agg #[.int .i64 a0_0, .string a0_1, .int .i64 a0_2, .int .i64 a0_3, .slice A0_4 l0_4.length c0_4]] w fun e w' => ∃ v3_ : Value, e = .returned (.agg #[.string r1, .int .i64 r2, .int .i64 r3, v3_]) ∧ Kd.R (Kd.int .u8) 5 w' w.heap.size (fun _ => True) v3_ r4 ∧ Below w.heap.size w w' := by
 have hu48 := Try.underlying48
 have hu34 := Try.underlying34
 have HR0_4 := Aside0.mk hr0_4
 have HC0_4 := Aside0.mk hc0_4
 clear hr0_4 hc0_4
 have HB := Aside0.mk (zbj w.heap.size w)
 have H : ((slices_Clone_byte_byte.f l0_4).bind fun t295 => (some (a0_1, a0_2, a0_3, t295))) = some (r1, r2, r3, r4) := h
 clear h
 obtain ⟨t295, A2, H⟩ := bnd H
 simp only [zbx, zcg] at H
 obtain ⟨rfl, rfl, rfl, rfl⟩ := H
 go_enter Try.func93, Try.ntmps93
 try go_wp2_with (first | (refine jgd 1 ?_; refine bx 1 (#[.int .i64 a0_0, .string a0_1, .int .i64 a0_2, .int .i64 a0_3, .slice A0_4 l0_4.length c0_4]) 48 ?_; intro gb293 hg w3 hbox hb; have n_ := jA4 (zad bq hb) (hbox) (ge0 hg bq : w.heap.size ≤ gb293) (ge0 hg bq : w.heap.size ≤ gb293); clear HB; obtain ⟨HB, BK293, GW293, GE293⟩ := n_; clear hb hbox hg) | (refine jgd 2 ?_; refine bx 2 (#[.string (⟨#[]⟩ : ByteArray), .int .i64 0, .int .i64 0, .slice none 0 0]) 34 ?_; intro gb294 hg w4 hbox hb; have n_ := jA7 (jbb BK293.out hb) (zad (bs1 GE293.out) hb) (hbox) (ge0 hg (bs1 GE293.out) : w.heap.size ≤ gb294) (ge0 hg (bs1 GE293.out) : w.heap.size ≤ gb294) (nl hg (pB BK293.out) : gb293 ≠ gb294) (ng hg (pB BK293.out) : gb294 ≠ gb293); clear BK293 HB; obtain ⟨BK293, HB, BK294, GW294, GE294, NB293_294, NB294_293⟩ := n_; clear hb hbox hg))
 have n_ := jA3 (zbu BK293.out) (zbu BK294.out) (zfj HB.out)
 clear BK293 BK294 HB
 obtain ⟨BK293, BK294, HB⟩ := n_
 refine start_ (n := 11) (S := fun w' => w'.cell? ⟨gb293, 0, none⟩ = some (.int .i64 a0_0) ∧ w'.cell? ⟨gb293, 1, none⟩ = some (.string a0_1) ∧ w'.cell? ⟨gb293, 2, none⟩ = some (.int .i64 a0_2) ∧ w'.cell? ⟨gb293, 3, none⟩ = some (.int .i64 a0_3) ∧ w'.cell? ⟨gb293, 4, none⟩ = some (.slice A0_4 l0_4.length c0_4)) (ds := []) #[false, false, false, false, false, false, false, false, false, false, false] (by kernel_rfl) rfl rfl ⟨(zbn BK293.out 0).trans rfl, (zbn BK293.out 1).trans rfl, (zbn BK293.out 2).trans rfl, (zbn BK293.out 3).trans rfl, (zbn BK293.out 4).trans rfl⟩ (fun hHeld => ?_); refine zgm impl_itemOf.tab1 impl_itemOf.bits1 (fun HT_ HW_ => ?_)
 generalize w4.drew = w5 at BK293 BK294 HB hHeld ⊢
 refine pu 0 3 HT_.out ?_
 refine pu 2 5 HT_.out ?_
 refine pu 4 7 HT_.out ?_
 refine pu 6 9 HT_.out ?_
 refine tk 1 4 HT_.out HW_.out hHeld ?_
 refine tk 3 6 HT_.out HW_.out hHeld ?_
 refine tk 5 8 HT_.out HW_.out hHeld ?_
 refine tk 7 10 HT_.out HW_.out hHeld ?_
 refine one_ (i := 8) (N := some 11) #[true, true, true, true, true, true, true, true, true, false, false] rfl rfl (one_of HT_.out (by kernel_rfl)) (by decide) (fun K hK => ?_)
 refine goes_ Try.func116 (by kernel_rfl) rfl #[.slice A0_4 l0_4.length c0_4] (by rfl) rfl rfl jhl ?_
 with_reducible refine (slices_Clone_byte_byte.calls _ _ l0_4 t295 _ ?side1 ?side2 A2.out).mono ?_
 (case side1 => exact jcs HR0_4.out)
 (case side2 => exact HC0_4.out)
 rintro e w6 ⟨v296, rfl, ho0, hb⟩
 refine ⟨_, rfl, ?_⟩
 have n_ := jA4 (zaw ho0 (zah (bs2 GE293.out GE294.out))) (jbb BK293.out hb) (jbb BK294.out hb) (zad (bs2 GE293.out GE294.out) hb)
 clear BK293 BK294 HB
 obtain ⟨HO297, BK293, BK294, HB⟩ := n_
 (try clear hb)
 (try clear hb2)
 (try clear hk)
 (try clear hi)
 (try clear ho0)
 obtain ⟨Ao7, co7, eo7⟩ := zbg HO297.out
 (first | subst eo7 | (injection eo7 with f1_ f2_ f3_; have f4_ := f1_.symm; have f5_ := f3_.symm; clear f1_ f2_ f3_; subst f4_; subst f5_))
 refine hK.out _ _ ⟨(zbn BK293.out 0).trans rfl, (zbn BK293.out 1).trans rfl, (zbn BK293.out 2).trans rfl, (zbn BK293.out 3).trans rfl, (zbn BK293.out 4).trans rfl⟩ (fun hHeld => ?_)
 clear hK K
 refine norm_ (a' := ?_) ?_ ?_
 rotate_left
 ·show Act.put _ (some 11) _ = _
  simp only [Act.put, zao, zbc, zbd, i64_w, i32_w]
  rfl
 refine pu 9 12 HT_.out ?_
 refine one_ (i := 10) (N := none) #[true, true, true, true, true, true, true, true, true, true, true] rfl rfl (one_of HT_.out (by kernel_rfl)) (by decide) (fun K hK => ?_)
 have hs8 : w6.cell? ⟨gb294, 0, none⟩ = some (.string (⟨#[]⟩ : ByteArray)) := (zbn BK294.out 0).trans rfl
 have hfs8 := blk_frozen BK294.out 0
 have hns8_0 := NB293_294.out
 have hms8_0 := NB294_293.out
 have hs9 : w6.cell? ⟨gb294, 1, none⟩ = some (.int .i64 0) := (zbn BK294.out 1).trans rfl
 have hfs9 := blk_frozen BK294.out 1
 have hns9_0 := NB293_294.out
 have hms9_0 := NB294_293.out
 have hs10 : w6.cell? ⟨gb294, 2, none⟩ = some (.int .i64 0) := (zbn BK294.out 2).trans rfl
 have hfs10 := blk_frozen BK294.out 2
 have hns10_0 := NB293_294.out
 have hms10_0 := NB294_293.out
 have hs11 : w6.cell? ⟨gb294, 3, none⟩ = some (.slice none 0 0) := (zbn BK294.out 3).trans rfl
 have hfs11 := blk_frozen BK294.out 3
 have hns11_0 := NB293_294.out
 have hms11_0 := NB294_293.out
 refine skip_ (w1 := ?_) (by rfl) rfl ?_ ?_
 rotate_left
 ·go_simp
  rfl
 refine hK.out _ _ ⟨((zef (p := ⟨gb294, _, none⟩) NB293_294.out _).trans (((zef (p := ⟨gb294, _, none⟩) NB293_294.out _).trans (((zef (p := ⟨gb294, _, none⟩) NB293_294.out _).trans (((zef (p := ⟨gb294, _, none⟩) NB293_294.out _).trans (hHeld.1)))))))), ((zef (p := ⟨gb294, _, none⟩) NB293_294.out _).trans (((zef (p := ⟨gb294, _, none⟩) NB293_294.out _).trans (((zef (p := ⟨gb294, _, none⟩) NB293_294.out _).trans (((zef (p := ⟨gb294, _, none⟩) NB293_294.out _).trans (hHeld.2.1)))))))), ((zef (p := ⟨gb294, _, none⟩) NB293_294.out _).trans (((zef (p := ⟨gb294, _, none⟩) NB293_294.out _).trans (((zef (p := ⟨gb294, _, none⟩) NB293_294.out _).trans (((zef (p := ⟨gb294, _, none⟩) NB293_294.out _).trans (hHeld.2.2.1)))))))), ((zef (p := ⟨gb294, _, none⟩) NB293_294.out _).trans (((zef (p := ⟨gb294, _, none⟩) NB293_294.out _).trans (((zef (p := ⟨gb294, _, none⟩) NB293_294.out _).trans (((zef (p := ⟨gb294, _, none⟩) NB293_294.out _).trans (hHeld.2.2.2.1)))))))), ((zef (p := ⟨gb294, _, none⟩) NB293_294.out _).trans (((zef (p := ⟨gb294, _, none⟩) NB293_294.out _).trans (((zef (p := ⟨gb294, _, none⟩) NB293_294.out _).trans (((zef (p := ⟨gb294, _, none⟩) NB293_294.out _).trans (hHeld.2.2.2.2))))))))⟩ (fun hHeld => ?_)
 clear hK K
 refine done_ (done_of HT_.out (by kernel_rfl)) ?_
 try go_wp2
 refine zeg (results_cell_row rfl _ _ gb294 34 #[.string a0_1, .int .i64 a0_2, .int .i64 a0_3, .slice Ao7 t295.length co7] (0, 0) _ rfl (by (with_reducible repeat (first | refine zbr ?_ _ | refine zbu ?_ | refine zbs ?_ _)); refine zea (cs := #[.string a0_1, .int .i64 a0_2, .int .i64 a0_3, .slice none 0 0]) ?_ 3 _ rfl; (with_reducible repeat (first | refine zbr ?_ _ | refine zbu ?_ | refine zbs ?_ _)); refine zea (cs := #[.string a0_1, .int .i64 a0_2, .int .i64 0, .slice none 0 0]) ?_ 2 _ rfl; (with_reducible repeat (first | refine zbr ?_ _ | refine zbu ?_ | refine zbs ?_ _)); refine zea (cs := #[.string a0_1, .int .i64 0, .int .i64 0, .slice none 0 0]) ?_ 1 _ rfl; (with_reducible repeat (first | refine zbr ?_ _ | refine zbu ?_ | refine zbs ?_ _)); refine zea (cs := #[.string (⟨#[]⟩ : ByteArray), .int .i64 0, .int .i64 0, .slice none 0 0]) ?_ 0 _ rfl; (with_reducible repeat (first | refine zbr ?_ _ | refine zbu ?_ | refine zbs ?_ _)); exact BK294.out) Try.underlying34 rfl (by kernel_rfl)) rfl ?_
 exact ⟨_, jex, by (with_reducible repeat (first | apply zap | apply zaq | apply zav)); exact zak (zch (p := ⟨gb294, 3, none⟩) (zch (p := ⟨gb294, 2, none⟩) (zch (p := ⟨gb294, 1, none⟩) (zch (p := ⟨gb294, 0, none⟩) (zby HO297.out BK294.out (by decide)) (fun _ hk => hk.2) (.string a0_1)) (fun _ hk => hk.2) (.int .i64 a0_2)) (fun _ hk => hk.2) (.int .i64 a0_3)) (fun _ hk => hk.2) (.slice Ao7 t295.length co7)) (fun _ hk => trivial), (bs2 GE293.out GE294.out)⟩
end Go.Proofs.Ytlalkldjpniakaa.P
/- Searching a list of items with a function value that takes an item and keeps what was: slices.IndexFunc, slices.ContainsFunc; for every list. -/
namespace Go.Proofs.Ytlalkldjpniakaa.P
open Go.RowKit Go.Proofs.YtlalkldjpniakaaW.PrintWords Go.Proofs.YtlalkldjpniakaaW.PrintLast Go.Proofs.YtlalkldjpniakaaW.PrintMore
set_option linter.unusedVariables false
set_option linter.unusedSimpArgs false
set_option maxHeartbeats 8000000
set_option maxRecDepth 100000
/-- What is asked of a function value: at every item it answers p, wherever block gc (what it has caught) holds o; and it leaves what was. -/
def PredI (g : Nat) (lb : Array Value) (gc : Nat) (o : Obj) (p : S34 → Bool) : Prop :=
  ∀ (W : World) (x : S34) (A : Option Addr) (c : Nat), W.heap[gc]? = some o → Calls Try.prog g (#[.agg #[.string x.f0, .int .i64 x.f1, .int .i64 x.f2, .slice A x.f3.length c]] ++ lb) W fun e w' => e = .returned (.bool (p x)) ∧ Below W.heap.size W w'
/-- The first place at which p holds, or -1. -/
def idxI (p : S34 → Bool) (xs : List S34) : Int := match xs.findIdx? p with
  | some i => (i : Int)
  | none => -1
theorem idxI_hit {p : S34 → Bool} {xs : List S34} {k : Nat} (hk : k < xs.length) (h : p (xs.getD k z34) = true) (ha : ∀ j, j < k → p (xs.getD j z34) = false) : idxI p xs = (k : Int) := by
  have h1 : xs.findIdx? p = some k := by
    rw [List.findIdx?_eq_some_iff_getElem]
    refine ⟨hk, by simpa [List.getD_eq_getElem?_getD, hk] using h, fun j hj => ?_⟩
    have := ha j hj
    simpa [List.getD_eq_getElem?_getD, show j < xs.length by omega] using this
  unfold idxI
  rw [h1]
theorem idxI_miss {p : S34 → Bool} {xs : List S34} (ha : ∀ j, j < xs.length → p (xs.getD j z34) = false) : idxI p xs = -1 := by
  have h1 : xs.findIdx? p = none := by
    rw [List.findIdx?_eq_none_iff]
    intro x hx
    obtain ⟨j, hj, rfl⟩ := List.mem_iff_getElem.1 hx
    have := ha j hj
    simpa [List.getD_eq_getElem?_getD, hj] using this
  unfold idxI
  rw [h1]
theorem idxI_cases (p : S34 → Bool) (xs : List S34) : (idxI p xs = -1 ∧ ∀ j, j < xs.length → p (xs.getD j z34) = false) ∨ ∃ k : Nat, k < xs.length ∧ idxI p xs = (k : Int) ∧ p (xs.getD k z34) = true ∧ ∀ j, j < k → p (xs.getD j z34) = false := by
  cases h : xs.findIdx? p with
  | none =>
    rw [List.findIdx?_eq_none_iff] at h
    have ha : ∀ j, j < xs.length → p (xs.getD j z34) = false := fun j hj => by
      have := h (xs.getD j z34) (by simp [List.getD_eq_getElem?_getD, hj])
      simpa using this
    exact .inl ⟨idxI_miss ha, ha⟩
  | some k =>
    rw [List.findIdx?_eq_some_iff_getElem] at h
    obtain ⟨hk, h1, h2⟩ := h
    have ha : ∀ j, j < k → p (xs.getD j z34) = false := fun j hj => by
      have := h2 j hj
      simpa [List.getD_eq_getElem?_getD, show j < xs.length by omega] using this
    have hp : p (xs.getD k z34) = true := by simpa [List.getD_eq_getElem?_getD, hk] using h1
    exact .inr ⟨k, hk, idxI_hit hk hp ha, hp, ha⟩
theorem any_idxI (p : S34 → Bool) (xs : List S34) : xs.any p = decide (0 ≤ idxI p xs) := by
  rcases idxI_cases p xs with ⟨h, ha⟩ | ⟨k, hk, h, hp, _⟩
  · rw [h]
    rw [List.any_eq_false.2 fun x hx => ?_]
    · rfl
    · obtain ⟨j, hj, rfl⟩ := List.mem_iff_getElem.1 hx
      have := ha j hj
      simpa [List.getD_eq_getElem?_getD, hj] using this
  · rw [h, List.any_eq_true.2 ⟨xs.getD k z34, by simp [List.getD_eq_getElem?_getD, hk], hp⟩]
    exact (decide_eq_true (by omega)).symm
set_option maxHeartbeats 4000000 in
theorem items_index (p : S34 → Bool) (g : Nat) (lb : Array Value) (gc : Nat) (o : Obj) (hp : PredI g lb gc o p) (eg : ∀ args w, (callFunc g args).run Try.prog w = .ok (.enter g args) w) (A : Option Addr) (c : Nat) (xs : List S34) (w : World) (hr : Kd.C k34 w A xs.length xs) (hc : xs.length ≤ c) (ho : w.heap[gc]? = some o) :
    Calls Try.prog 102 #[.slice A xs.length c, .func (.func g) #[] lb] w fun e w' => e = .returned (.int .i64 (idxI p xs)) ∧ Below w.heap.size w w' := by
  have hu34 := Try.underlying34
  have HR := Aside0.mk hr
  have HP := Aside0.mk hp
  have HO := Aside0.mk ho
  have hlen := hr.2.1
  obtain ⟨n, hn⟩ : ∃ n, xs.length = n := ⟨_, rfl⟩
  rw [hn] at hlen ⊢
  have HN := Aside0.mk hn
  clear hr hc hp ho hn
  go_enter Try.func102, Try.ntmps102
  go_wp2
  go_loopg [5, 8] n (fun gg _ s8 wr => ∃ kk : Nat, kk ≤ n ∧ n - kk ≤ gg ∧ s8 = .int .i64 kk ∧ Aside0 (Below w.heap.size w wr) ∧ Aside0 (∀ j, j < kk → p (xs.getD j z34) = false))
  case atStart => exact ⟨0, Nat.zero_le _, by omega, rfl, ⟨Below.refl _ w⟩, ⟨fun j hj => absurd hj (Nat.not_lt_zero _)⟩⟩
  case round =>
    obtain ⟨kk, hkk, hg, rfl, HB, FA⟩ := hrel
    by_cases hlt : kk < n
    · have hltz : (kk : Int) < (n : Int) := by omega
      obtain ⟨ad, A3, c3, rfl, h0, h1, h2, h3, _, _⟩ := at_T34 HR.out (kk : Int) (by omega) (by rw [HN.out]; exact hltz)
      replace h0 := (HB.out.cell (World.block_lt_of_cell? w _ h0)).trans h0
      replace h1 := (HB.out.cell (World.block_lt_of_cell? w _ h1)).trans h1
      replace h2 := (HB.out.cell (World.block_lt_of_cell? w _ h2)).trans h2
      replace h3 := (HB.out.cell (World.block_lt_of_cell? w _ h3)).trans h3
      simp only [Int.toNat_natCast] at h0 h1 h2 h3
      have hgc : gc < w.heap.size := (Array.getElem?_eq_some_iff.1 HO.out).1
      have hcall := HP.out wr (rd_T34 xs (kk : Int)) A3 c3 ((HB.out.block gc hgc).trans HO.out)
      have hx : rd_T34 xs (kk : Int) = xs.getD kk z34 := by unfold rd_T34; rw [Int.toNat_natCast]
      have HX := Aside0.mk hx
      generalize rd_T34 xs (kk : Int) = y at h0 h1 h2 h3 hcall HX
      clear hx hgc
      cases hq : p y with
      | true =>
        rw [hq] at hcall
        go_wp2_with (go_at_fn g; refine hcall.mono ?_; rintro e w' ⟨rfl, hb'⟩)
        go_ret
        exact ⟨by rw [idxI_hit (p := p) (xs := xs) (k := kk) (by rw [HN.out]; exact hlt) (by rw [← HX.out]; exact hq) FA.out]; rfl, below_step HB.out hb'⟩
      | false =>
        rw [hq] at hcall
        go_wp2_with (go_at_fn g; refine hcall.mono ?_; rintro e w' ⟨rfl, hb'⟩)
        go_roundg (n - (kk + 1))
        case measure => omega
        case rel =>
          refine ⟨kk + 1, by omega, by omega, by go_num, ⟨below_step HB.out hb'⟩, ⟨fun j hj => ?_⟩⟩
          by_cases e : j = kk
          · subst e
            rw [← HX.out]; exact hq
          · exact FA.out j (by omega)
    · have hltz : ¬ (kk : Int) < (n : Int) := by omega
      obtain rfl : kk = n := by omega
      go_wp2
      go_ret
      exact ⟨by rw [idxI_miss (p := p) (xs := xs) (fun j hj => FA.out j (by rw [← HN.out]; exact hj))]; rfl, HB.out⟩
set_option maxHeartbeats 4000000 in
theorem items_any (p : S34 → Bool) (g : Nat) (lb : Array Value) (gc : Nat) (o : Obj) (hp : PredI g lb gc o p) (eg : ∀ args w, (callFunc g args).run Try.prog w = .ok (.enter g args) w) (A : Option Addr) (c : Nat) (xs : List S34) (w : World) (hr : Kd.C k34 w A xs.length xs) (hc : xs.length ≤ c) (ho : w.heap[gc]? = some o) :
    Calls Try.prog 99 #[.slice A xs.length c, .func (.func g) #[] lb] w fun e w' => e = .returned (.bool (xs.any p)) ∧ Below w.heap.size w w' := by
  have hI := items_index p g lb gc o hp eg A c xs w hr hc ho
  rw [any_idxI]
  generalize idxI p xs = r at hI ⊢
  clear hr hc ho hp
  go_enter Try.func99, Try.ntmps99
  go_wp2_with ((go_at_call 102; refine hI.mono ?_; rintro e w' ⟨rfl, hb'⟩))
  go_ret
  exact ⟨rfl, hb'⟩
end Go.Proofs.Ytlalkldjpniakaa.P
/- The function values that the queue's functions make, and slices.DeleteFunc, slices.Delete over a list of items of the call's own. -/
namespace Go.Proofs.Ytlalkldjpniakaa.P
open Go.RowKit Go.Proofs.YtlalkldjpniakaaW.PrintWords Go.Proofs.YtlalkldjpniakaaW.PrintLast Go.Proofs.YtlalkldjpniakaaW.PrintMore
set_option linter.unusedVariables false
set_option linter.unusedSimpArgs false
set_option maxHeartbeats 8000000
set_option maxRecDepth 100000
theorem cells_of_block {W : World} {g : Nat} {a b c d : Value} (h : W.heap[g]? = some (.cells #[a, b, c, d] 34 (0, 0))) : W.cell? ⟨g, 0, none⟩ = some a ∧ W.cell? ⟨g, 1, none⟩ = some b ∧ W.cell? ⟨g, 2, none⟩ = some c ∧ W.cell? ⟨g, 3, none⟩ = some d :=
  ⟨(blk_cell h 0).trans rfl, (blk_cell h 1).trans rfl, (blk_cell h 2).trans rfl, (blk_cell h 3).trans rfl⟩
/-- 'x.Due < now'. -/
theorem due_pred (now : Int) (gc : Nat) : PredI 97 #[.pointer (some ⟨gc, 0, none⟩)] gc (.cells #[.int .i64 now] 3 (0, 0)) (fun x => decide (x.f2 < now)) := by
  intro W x A c ho
  have hc : W.cell? ⟨gc, 0, none⟩ = some (.int .i64 now) := (blk_cell ho 0).trans rfl
  have hlt : gc < W.heap.size := (Array.getElem?_eq_some_iff.1 ho).1
  have hne : gc ≠ W.heap.size := by omega
  have hu34 := Try.underlying34
  clear ho
  obtain ⟨q0, q1, q2, q3⟩ := x
  show Calls Try.prog 97 #[.agg #[.string q0, .int .i64 q1, .int .i64 q2, .slice A q3.length c], .pointer (some ⟨gc, 0, none⟩)] W _
  go_enter Try.func97, Try.ntmps97
  go_wp2
  all_goals (go_ret; exact ⟨by simp_all, (Below.refl _ W).alloc (Nat.le_refl _) _⟩)
/-- 'x.Route == route'. -/
theorem take_pred (route : ByteArray) (gc : Nat) : PredI 103 #[.pointer (some ⟨gc, 0, none⟩)] gc (.cells #[.string route] 9 (0, 0)) (fun x => x.f0.toList == route.toList) := by
  intro W x A c ho
  have hc : W.cell? ⟨gc, 0, none⟩ = some (.string route) := (blk_cell ho 0).trans rfl
  have hlt : gc < W.heap.size := (Array.getElem?_eq_some_iff.1 ho).1
  have hne : gc ≠ W.heap.size := by omega
  have hu34 := Try.underlying34
  clear ho
  obtain ⟨q0, q1, q2, q3⟩ := x
  show Calls Try.prog 103 #[.agg #[.string q0, .int .i64 q1, .int .i64 q2, .slice A q3.length c], .pointer (some ⟨gc, 0, none⟩)] W _
  go_enter Try.func103, Try.ntmps103
  go_wp2
  all_goals (go_ret; exact ⟨by simp_all, (Below.refl _ W).alloc (Nat.le_refl _) _⟩)
/-- 'y.Route == x.Route && y.Topic == x.Topic'. -/
def likeI (r : ByteArray) (t : Int) (x : S34) : Bool := x.f0.toList == r.toList && x.f1 == t
theorem queue_pred (r : ByteArray) (t d : Int) (sl : Value) (gc : Nat) : PredI 100 #[.pointer (some ⟨gc, 0, none⟩)] gc (.cells #[.string r, .int .i64 t, .int .i64 d, sl] 34 (0, 0)) (likeI r t) := by
  intro W x A c ho
  obtain ⟨h0, h1, _, _⟩ := cells_of_block ho
  have hlt : gc < W.heap.size := (Array.getElem?_eq_some_iff.1 ho).1
  have hne : gc ≠ W.heap.size := by omega
  have hu34 := Try.underlying34
  clear ho
  obtain ⟨q0, q1, q2, q3⟩ := x
  show Calls Try.prog 100 #[.agg #[.string q0, .int .i64 q1, .int .i64 q2, .slice A q3.length c], .pointer (some ⟨gc, 0, none⟩)] W fun e w' => e = .returned (.bool (q0.toList == r.toList && q1 == t)) ∧ Below W.heap.size W w'
  cases e0 : (q0.toList == r.toList) with
  | true =>
    cases e1 : (q1 == t) with
    | true =>
      go_enter Try.func100, Try.ntmps100
      go_wp2
      all_goals (go_ret; exact ⟨by simp_all, (Below.refl _ W).alloc (Nat.le_refl _) _⟩)
    | false =>
      go_enter Try.func100, Try.ntmps100
      go_wp2
      all_goals (go_ret; exact ⟨by simp_all, (Below.refl _ W).alloc (Nat.le_refl _) _⟩)
  | false =>
    go_enter Try.func100, Try.ntmps100
    go_wp2
    all_goals (go_ret; exact ⟨by simp_all, (Below.refl _ W).alloc (Nat.le_refl _) _⟩)
theorem put_pred (r : ByteArray) (t d : Int) (sl : Value) (gc : Nat) : PredI 120 #[.pointer (some ⟨gc, 0, none⟩)] gc (.cells #[.string r, .int .i64 t, .int .i64 d, sl] 34 (0, 0)) (likeI r t) := by
  intro W x A c ho
  obtain ⟨h0, h1, _, _⟩ := cells_of_block ho
  have hlt : gc < W.heap.size := (Array.getElem?_eq_some_iff.1 ho).1
  have hne : gc ≠ W.heap.size := by omega
  have hu34 := Try.underlying34
  clear ho
  obtain ⟨q0, q1, q2, q3⟩ := x
  show Calls Try.prog 120 #[.agg #[.string q0, .int .i64 q1, .int .i64 q2, .slice A q3.length c], .pointer (some ⟨gc, 0, none⟩)] W fun e w' => e = .returned (.bool (q0.toList == r.toList && q1 == t)) ∧ Below W.heap.size W w'
  cases e0 : (q0.toList == r.toList) with
  | true =>
    cases e1 : (q1 == t) with
    | true =>
      go_enter Try.func120, Try.ntmps120
      go_wp2
      all_goals (go_ret; exact ⟨by simp_all, (Below.refl _ W).alloc (Nat.le_refl _) _⟩)
    | false =>
      go_enter Try.func120, Try.ntmps120
      go_wp2
      all_goals (go_ret; exact ⟨by simp_all, (Below.refl _ W).alloc (Nat.le_refl _) _⟩)
  | false =>
    go_enter Try.func120, Try.ntmps120
    go_wp2
    all_goals (go_ret; exact ⟨by simp_all, (Below.refl _ W).alloc (Nat.le_refl _) _⟩)
/-- A row of items of one's own, as rows of cells: what each leads to is told by f. -/
theorem raw_of_S {v : Value} {xs : List S34} {w : World} {base : Nat} {ok : Nat → Prop} (h : Kd.S k34 34 w base ok v xs) :
    ∃ (f : Nat → Nat) (rows : List (List Value)), rows.length = xs.length ∧ (Kd.raw 4).R 34 w base (fun k => some k = v.ownBlock) v rows ∧ (∀ k, v.ownBlock = some k → ok k) ∧ ∀ (j : Nat) (x : S34) (c : List Value), xs[j]? = some x → rows[j]? = some c → k34.M w base (fun k => (ok k ∧ some k ≠ v.ownBlock) ∧ f k = j) x c := by
  obtain ⟨f, h0, inner, ho, hr⟩ := h
  have hlz : xs.zipIdx.length = xs.length := List.length_zipIdx
  rw [hlz] at ho
  have hraw := Kd.reps_raw hr (fun x c hp => ⟨k34.K_len (k34.K_of_M hp), k34.K_one (k34.K_of_M hp)⟩)
  rw [hlz] at hraw
  refine ⟨f, Kd.chunks 4 xs.length inner, Kd.chunks_length _ _ _, ⟨fun k hk => hk.symm, inner, by rw [Kd.chunks_length]; exact ho, hraw⟩, h0, fun j x c hx hc => ?_⟩
  rw [Kd.chunks_get hc]
  exact hr.2 j (x, j) (Kd.zip_at hx)
theorem S_of_raw {v : Value} {xs : List S34} {rows : List (List Value)} {w : World} {base : Nat} {ok okr : Nat → Prop} (f : Nat → Nat) (hv : ∀ k, v.ownBlock = some k → ok k) (hraw : (Kd.raw 4).R 34 w base okr v rows) (hl : rows.length = xs.length)
    (hM : ∀ (j : Nat) (x : S34) (c : List Value), xs[j]? = some x → rows[j]? = some c → k34.M w base (fun k => (ok k ∧ some k ≠ v.ownBlock) ∧ f k = j) x c) : Kd.S k34 34 w base ok v xs := by
  obtain ⟨_, inner, ho, hr⟩ := hraw
  refine ⟨f, hv, inner, by rw [List.length_zipIdx, ← hl]; exact ho, ⟨by rw [List.length_zipIdx, ← hl]; exact hr.1, fun j p hj => ?_⟩⟩
  rw [List.getElem?_zipIdx, Nat.zero_add] at hj
  obtain ⟨q, hq, rfl⟩ := Option.map_eq_some_iff.1 hj
  have hjl : j < rows.length := by have := (List.getElem?_eq_some_iff.1 hq).1; omega
  have hc := (hr.2 j _ (List.getElem?_eq_getElem hjl)).1
  show k34.M w base (fun k => (ok k ∧ some k ≠ v.ownBlock) ∧ f k = j) q ((inner.drop (j * 4)).take 4)
  rw [show (inner.drop (j * 4)).take 4 = rows[j] from hc]
  exact hM j q _ hq (List.getElem?_eq_getElem hjl)
/-- A variable of four cells is written whole. -/
theorem box_put {ops : Array Oper} {rest : List Oper} {o : Oper} {a : Act} {Q : Exit → Act → World → Prop} {W : World} (hN : o.dst = none) (hgd : o.guard = none) (p x : Operand) (ho : o.op = .store 34 p x) {g : Nat} {a0 a1 a2 a3 b0 b1 b2 b3 : Value}
    (haddr : a.eval p = .pointer (some ⟨g, 0, none⟩)) (hx : a.eval x = .agg #[b0, b1, b2, b3]) (hb : W.heap[g]? = some (.cells #[a0, a1, a2, a3] 34 (0, 0)))
    (ha : ∀ u ∈ [a0, a1, a2, a3], u.oneCell' = true) (h1 : ∀ u ∈ [b0, b1, b2, b3], u.oneCell' = true) (hc : (Value.agg #[b0, b1, b2, b3]).cells.toList = [b0, b1, b2, b3])
    (h : ∀ w1, W.grownBy w1 (some g) → w1.cell? ⟨g, 0, none⟩ = some b0 → w1.cell? ⟨g, 1, none⟩ = some b1 → w1.cell? ⟨g, 2, none⟩ = some b2 → w1.cell? ⟨g, 3, none⟩ = some b3 → wpList Try.prog ops Q rest a w1) : wpList Try.prog ops Q (o :: rest) a W := by
  have hlt : g < W.heap.size := (Array.getElem?_eq_some_iff.1 hb).1
  have hR : (Kd.raw 4).R 34 W g (fun _ => True) (.slice (some ⟨g, 0, none⟩) 1 1) [[a0, a1, a2, a3]] := by
    refine ⟨fun _ _ => trivial, [a0, a1, a2, a3], ⟨rfl, .inr ⟨g, 1, #[a0, a1, a2, a3], rfl, Nat.le_refl _, hb, Nat.le_refl _, by unfold maxLen; omega, by show 1 * 4 ≤ 4; omega, rfl⟩⟩, ?_⟩
    refine ⟨rfl, fun j q hj => ?_⟩
    match j, hj with
    | 0, hj =>
      obtain rfl := Option.some.inj hj
      exact ⟨rfl, rfl, ha⟩
    | j + 1, hj => simp at hj
  refine Kd.R_store (Kd.raw 4) (w0 := W) g hN hgd 34 p x ho 34 (o' := 0) (0 : Int) 0 [[a0, a1, a2, a3]] [b0, b1, b2, b3] (.agg #[b0, b1, b2, b3]) [b0, b1, b2, b3] [a0, a1, a2, a3] (fun _ => True) (fun _ => False) haddr rfl hx hc (by kernel_rfl) h1 hR (by omega) (by omega) rfl ?_ (by simp [Kd.raw]) ⟨rfl, rfl, h1⟩ (fun _ hk => hk.elim) (Below.refl _ _) ?_
  · intro j u hj
    rw [blk_cell hb]
    simpa using hj
  · intro w1 hr _ hg
    obtain ⟨c, hcl, hM, hcc, _⟩ := Kd.R_elem hr [] 0 (by omega) (by omega)
    have hce : c = [b0, b1, b2, b3] := hM.1
    subst hce
    exact h w1 hg (hcc 0 b0 rfl) (hcc 1 b1 rfl) (hcc 2 b2 rfl) (hcc 3 b3 rfl)
end Go.Proofs.Ytlalkldjpniakaa.P
/- slices.DeleteFunc over a list of items of the call's own: what p holds of goes, the others stay in their order. -/
namespace Go.Proofs.Ytlalkldjpniakaa.P
open Go.RowKit Go.Proofs.YtlalkldjpniakaaW.PrintWords Go.Proofs.YtlalkldjpniakaaW.PrintLast Go.Proofs.YtlalkldjpniakaaW.PrintMore
set_option linter.unusedVariables false
set_option linter.unusedSimpArgs false
set_option maxHeartbeats 8000000
set_option maxRecDepth 100000
/-- The places below j that stay. -/
def keptI (p : S34 → Bool) (xs : List S34) (j : Nat) : List Nat := (List.range j).filter fun t => !p (xs.getD t z34)
theorem keptI_succ (p : S34 → Bool) (xs : List S34) (j : Nat) : keptI p xs (j + 1) = keptI p xs j ++ (if p (xs.getD j z34) = true then [] else [j]) := by
  unfold keptI
  rw [List.range_succ, List.filter_append]
  congr 1
  cases h : p (xs.getD j z34)
  · rw [List.filter_cons_of_pos (by rw [h]; rfl), if_neg (by decide)]; rfl
  · rw [List.filter_cons_of_neg (by rw [h]; decide), if_pos rfl]; rfl
theorem keptI_lt {p : S34 → Bool} {xs : List S34} {j t : Nat} (h : t ∈ keptI p xs j) : t < j := by
  unfold keptI at h
  exact List.mem_range.1 (List.mem_filter.1 h).1
theorem keptI_all {p : S34 → Bool} {xs : List S34} : ∀ (j : Nat), (∀ t, t < j → p (xs.getD t z34) = false) → keptI p xs j = List.range j := by
  intro j h
  unfold keptI
  rw [List.filter_eq_self]
  intro t ht
  rw [h t (List.mem_range.1 ht)]; rfl
theorem keptI_le (p : S34 → Bool) (xs : List S34) (j : Nat) : (keptI p xs j).length ≤ j := by
  unfold keptI
  have := List.length_filter_le (fun t => !p (xs.getD t z34)) (List.range j)
  simpa using this
theorem filter_kept (p : S34 → Bool) (xs : List S34) : xs.filter (fun x => !p x) = (keptI p xs xs.length).map fun t => xs.getD t z34 := by
  have h : xs = (List.range xs.length).map fun t => xs.getD t z34 := by
    apply List.ext_getElem
    · simp
    · intro i h1 h2
      simp [List.getD_eq_getElem?_getD, h1]
  unfold keptI
  conv => lhs; rw [h]
  rw [List.filter_map]
  rfl
/-- The rows of cells behind j rounds: the first i are those that stayed. -/
structure KInv (rows : List (List Value)) (p : S34 → Bool) (xs : List S34) (j i : Nat) (dk : List (List Value)) : Prop where
  len : dk.length = rows.length
  num : (keptI p xs j).length = i
  low : dk.take i = (keptI p xs j).map fun t => rows.getD t []
  high : dk.drop j = rows.drop j
theorem KInv.lt {rows : List (List Value)} {p : S34 → Bool} {xs : List S34} {j i : Nat} {dk : List (List Value)} (h : KInv rows p xs j i dk) : i ≤ j := by
  rw [← h.num]; exact keptI_le p xs j
theorem KInv.start {rows : List (List Value)} {p : S34 → Bool} {xs : List S34} {k : Nat} (hk : k < rows.length) (hp : p (xs.getD k z34) = true) (ha : ∀ t, t < k → p (xs.getD t z34) = false) : KInv rows p xs (k + 1) k rows := by
  have hs : keptI p xs (k + 1) = List.range k := by rw [keptI_succ, if_pos hp, List.append_nil, keptI_all k ha]
  refine ⟨rfl, by rw [hs, List.length_range], ?_, rfl⟩
  rw [hs]
  apply List.ext_getElem
  · simp; omega
  · intro i h1 h2
    simp at h1
    simp [List.getD_eq_getElem?_getD, show i < rows.length by omega]
theorem KInv.skip {rows : List (List Value)} {p : S34 → Bool} {xs : List S34} {j i : Nat} {dk : List (List Value)} (h : KInv rows p xs j i dk) (hp : p (xs.getD j z34) = true) : KInv rows p xs (j + 1) i dk := by
  have hs : keptI p xs (j + 1) = keptI p xs j := by rw [keptI_succ, if_pos hp, List.append_nil]
  refine ⟨h.len, by rw [hs]; exact h.num, by rw [hs]; exact h.low, ?_⟩
  have := congrArg (List.drop 1) h.high
  simpa [List.drop_drop, Nat.add_comm] using this
theorem KInv.keep {rows : List (List Value)} {p : S34 → Bool} {xs : List S34} {j i : Nat} {dk : List (List Value)} (h : KInv rows p xs j i dk) (hp : p (xs.getD j z34) = false) (hj : j < rows.length) : KInv rows p xs (j + 1) (i + 1) (dk.set i (rows.getD j [])) := by
  have hs : keptI p xs (j + 1) = keptI p xs j ++ [j] := by rw [keptI_succ, if_neg (by rw [hp]; decide)]
  have hi := h.lt
  have hl := h.len
  refine ⟨by rw [List.length_set]; exact h.len, by rw [hs, List.length_append, h.num]; rfl, ?_, ?_⟩
  · rw [hs, List.map_append, ← h.low, List.take_succ_eq_append_getElem (by rw [List.length_set]; omega), List.take_set_of_le (by omega), List.getElem_set_self]
    rfl
  · rw [List.drop_set_of_lt (by omega)]
    have := congrArg (List.drop 1) h.high
    simpa [List.drop_drop, Nat.add_comm] using this
theorem KInv.at_ {rows : List (List Value)} {p : S34 → Bool} {xs : List S34} {j i : Nat} {dk : List (List Value)} (h : KInv rows p xs j i dk) (hj : j < rows.length) : dk.getD j [] = rows.getD j [] := by
  have := congrArg (fun l => l[0]?) h.high
  simp only [List.getElem?_drop, Nat.add_zero] at this
  rw [List.getD_eq_getElem?_getD, List.getD_eq_getElem?_getD, this]
def zeros4 (n : Nat) : List Value := (Builtin.zeroCells #[.string ⟨#[]⟩, .int .i64 0, .int .i64 0, .slice none 0 0] n).toList
theorem zeros4_length (n : Nat) : (zeros4 n).length = n * 4 := by simp [zeros4, Builtin.zeroCells]
theorem run_clear4 (w : World) (ty : TypeId) (g o n c : Nat) (hn : 0 < n) (hc : ∀ j, j < n * 4 → (w.cell? ⟨g, o + j, none⟩).isSome = true) (hf : ∀ j, j < n * 4 → w.frozen? ⟨g, o + j, none⟩ = false) :
    (Builtin.clear_ #[25] ty #[.slice (some ⟨g, o, none⟩) n c]).run Try.prog w = .ok (.tuple #[]) (w.setCells g o (zeros4 n)) := by
  have hz : ∀ w, (zeroValue 34).run Try.prog w = .ok (.agg #[.string ⟨#[]⟩, .int .i64 0, .int .i64 0, .slice none 0 0]) w := by
    intro w
    kernel_rfl
  have hcs : (Value.agg #[.string ⟨#[]⟩, .int .i64 0, .int .i64 0, .slice none 0 0]).cells = #[.string ⟨#[]⟩, .int .i64 0, .int .i64 0, .slice none 0 0] := rfl
  obtain ⟨seg, hseg⟩ : ∃ seg, (Builtin.zeroCells #[.string ⟨#[]⟩, .int .i64 0, .int .i64 0, .slice none 0 0] n).toList = seg := ⟨_, rfl⟩
  have hl : seg.length = n * 4 := by rw [← hseg]; simp [Builtin.zeroCells]
  have h1 : ∀ v ∈ seg, v.oneCell' = true := by
    intro v hv
    rw [← hseg] at hv
    simp only [Builtin.zeroCells, Array.toList_map, List.mem_map] at hv
    obtain ⟨i, _, rfl⟩ := hv
    have h4 : i % 4 < 4 := Nat.mod_lt _ (by omega)
    show ((#[.string ⟨#[]⟩, .int .i64 0, .int .i64 0, .slice none 0 0] : Array Value)[i % 4]!).oneCell' = true
    match i % 4, h4 with
    | 0, _ => rfl
    | 1, _ => rfl
    | 2, _ => rfl
    | 3, _ => rfl
  have hst := run_storeCells_cells (P := Try.prog) g o seg 0 w (by rw [hl]; simpa using hc) (by rw [hl]; simpa using hf) h1
  simp only [Nat.add_zero] at hst
  unfold zeros4
  rw [hseg]
  obtain ⟨m, rfl⟩ : ∃ m, n = m + 1 := ⟨n - 1, by omega⟩
  simp [Builtin.clear_, run_underlying Try.underlying25, hz, hcs, hseg, hst]
theorem grown_trans {w w1 w2 : World} {r : Option Nat} (h : w.grownBy w1 r) (k : w1.grownBy w2 r) : w.grownBy w2 r :=
  ⟨k.os.trans h.os, k.tape.trans h.tape, k.output.trans h.output, Nat.le_trans h.size k.size, fun q hq hr => (k.block q (Nat.lt_of_lt_of_le hq h.size) hr).trans (h.block q hq hr)⟩
theorem grown_below {w w1 w2 : World} {r : Option Nat} (h : Below w.heap.size w w1) (k : w1.grownBy w2 r) : w.grownBy w2 r := grown_trans (grown_of_below h r) k
/-- What is written is newer than w. -/
theorem grown_new {w w1 w2 : World} {r : Option Nat} {gb : Nat} (h : w.grownBy w1 r) (k : w1.grownBy w2 (some gb)) (hle : w1.heap.size ≤ gb) : w.grownBy w2 r :=
  ⟨k.os.trans h.os, k.tape.trans h.tape, k.output.trans h.output, Nat.le_trans h.size k.size, fun q hq hr => (k.block q (Nat.lt_of_lt_of_le hq h.size) (fun e => by injection e with e; have := h.size; omega)).trans (h.block q hq hr)⟩
theorem grown_setCells4 (w : World) (g o : Nat) (seg : List Value) : w.grownBy (w.setCells g o seg) (some g) := by
  obtain ⟨s1, s2, s3, s4⟩ := setCells_same g seg o w
  exact ⟨s1, s2, s3, Nat.le_of_eq s4.symm, fun k _ hne => setCells_far seg o k (fun e => hne (by rw [e]))⟩
/-- What lies ahead of what is cleared stays. -/
theorem raw_cleared {w : World} {base g n cap : Nat} {okr : Nat → Prop} {rows : List (List Value)} (h : (Kd.raw 4).R 34 w base okr (.slice (some ⟨g, 0, none⟩) n cap) rows) (i : Nat) (hi : i ≤ n) (seg : List Value) (hs : seg.length = (n - i) * 4) :
    (Kd.raw 4).R 34 (w.setCells g (i * 4) seg) base okr (.slice (some ⟨g, 0, none⟩) i cap) (rows.take i) ∧ w.grownBy (w.setCells g (i * 4) seg) (some g) := by
  have hn := (Kd.R_reads' h).1
  have ht := Kd.R_take h (m := i) (by omega)
  obtain ⟨h0, inner, ho, hr⟩ := ht
  obtain ⟨_, inner2, ho2, hr2⟩ := h
  rcases ho2.2 with ⟨hv, _⟩ | ⟨g2, cap2, cur2, hv, hb2, hh2, hnc2, hm2, hsz2, htk2⟩
  · cases hv
  rcases ho.2 with ⟨hv', _⟩ | ⟨g3, cap3, cur3, hv3, hb3, hh3, hnc3, hm3, hsz3, htk3⟩
  · cases hv'
  injection hv with hva hvn hvc
  injection hva with hva
  injection hva with hvg
  injection hv3 with hva3 hvn3 hvc3
  injection hva3 with hva3
  injection hva3 with hvg3
  subst hvg hvg3 hvc hvc3
  rw [hh2] at hh3
  injection hh3 with hh3
  injection hh3 with hh3
  subst hh3
  have hsz : cap * 4 ≤ cur2.size := hsz2
  have m1 : n * 4 ≤ cap * 4 := Nat.mul_le_mul_right _ (by omega)
  have m2 : i * 4 + (n - i) * 4 = n * 4 := by rw [← Nat.add_mul]; congr 1; omega
  have m3 : i * 4 ≤ n * 4 := Nat.mul_le_mul_right _ hi
  obtain ⟨cur', c1, c2, c3⟩ := setCells_row seg (i * 4) w cur2 hh2 (by rw [hs]; omega)
  refine ⟨⟨h0, inner, ⟨ho.1, .inr ⟨g, cap, cur', by rw [← hvn3], hb2, c1, hnc3, hm2, by rw [c2]; exact hsz2, ?_⟩⟩, hr⟩, ?_⟩
  · rw [← htk3, c3, ← hvn3]
    show (cur2.toList.take (i * 4) ++ seg ++ cur2.toList.drop (i * 4 + seg.length)).take (i * 4) = cur2.toList.take (i * 4)
    rw [List.append_assoc, List.take_append_of_le_length (by rw [List.length_take, Array.length_toList]; omega), List.take_take, Nat.min_self]
  · exact grown_setCells4 w g (i * 4) seg
end Go.Proofs.Ytlalkldjpniakaa.P
/- slices.DeleteFunc over a list of items of the call's own: the walk. -/
namespace Go.Proofs.Ytlalkldjpniakaa.P
open Go.RowKit Go.Proofs.YtlalkldjpniakaaW.PrintWords Go.Proofs.YtlalkldjpniakaaW.PrintLast Go.Proofs.YtlalkldjpniakaaW.PrintMore
set_option linter.unusedVariables false
set_option linter.unusedSimpArgs false
set_option maxHeartbeats 8000000
set_option maxRecDepth 100000
open Classical in
noncomputable def placeI (l : List Nat) (t : Nat) : Nat := if h : ∃ j, l[j]? = some t then Classical.choose h else 0
theorem placeI_at {l : List Nat} {t j : Nat} (hn : l.Nodup) (h : l[j]? = some t) : placeI l t = j := by
  unfold placeI
  have hx : ∃ j, l[j]? = some t := ⟨j, h⟩
  rw [dif_pos hx]
  have hc := Classical.choose_spec hx
  have hj : j < l.length := (List.getElem?_eq_some_iff.1 h).1
  exact ((List.getElem?_inj hj hn).1 (h.trans hc.symm)).symm
/-- What is left, told again as items. -/
theorem S_kept {w w' : World} {base g n cap : Nat} {ok okr : Nat → Prop} {p : S34 → Bool} {xs : List S34} {rows dk : List (List Value)} {f : Nat → Nat} {i : Nat} (hi : i ≤ n) (hn : n = xs.length) (hrl : rows.length = xs.length)
    (h0 : ∀ k, (Value.slice (some ⟨g, 0, none⟩) n cap).ownBlock = some k → ok k) (hM : ∀ (j : Nat) (x : S34) (c : List Value), xs[j]? = some x → rows[j]? = some c → k34.M w base (fun k => (ok k ∧ some k ≠ (Value.slice (some ⟨g, 0, none⟩) n cap).ownBlock) ∧ f k = j) x c)
    (hg : w.grownBy w' (some g)) (hI : KInv rows p xs n i dk) (hraw : (Kd.raw 4).R 34 w' base okr (.slice (some ⟨g, 0, none⟩) i cap) (dk.take i)) : Kd.S k34 34 w' base ok (.slice (some ⟨g, 0, none⟩) i cap) (xs.filter fun x => !p x) := by
  have hof : xs.filter (fun x => !p x) = (keptI p xs n).map fun t => xs.getD t z34 := by rw [hn]; exact filter_kept p xs
  have hnd : (keptI p xs n).Nodup := (List.nodup_range).filter _
  refine S_of_raw (fun k => placeI (keptI p xs n) (f k)) (fun k hk => h0 k (by simpa [Value.ownBlock] using hk)) hraw (by rw [hI.low, hof, List.length_map, List.length_map]) fun j x c hx hc => ?_
  rw [hof, List.getElem?_map] at hx
  rw [hI.low, List.getElem?_map] at hc
  obtain ⟨t, ht, rfl⟩ := Option.map_eq_some_iff.1 hx
  obtain ⟨t', ht', rfl⟩ := Option.map_eq_some_iff.1 hc
  rw [ht] at ht'
  obtain rfl := Option.some.inj ht'
  obtain ⟨hj, hjt⟩ := List.getElem?_eq_some_iff.1 ht
  have htn : t < n := keptI_lt (by rw [← hjt]; exact List.getElem_mem _)
  have hm := hM t (xs.getD t z34) (rows.getD t []) (by simp [List.getD_eq_getElem?_getD, show t < xs.length by omega]) (by simp [List.getD_eq_getElem?_getD, show t < rows.length by omega])
  refine Kd.M_step (k34.M_mono (fun k hk => ⟨⟨hk.1.1, by simpa [Value.ownBlock] using hk.1.2⟩, ?_⟩) hm) (fun k hk hlt => hg.block k hlt (fun e => hk.1.2 (by rw [e]; rfl)))
  rw [hk.2]
  exact placeI_at hnd ht
theorem items_delete (p : S34 → Bool) (gf : Nat) (lb : Array Value) (gc : Nat) (o : Obj) (hp : PredI gf lb gc o p) (eg : ∀ args w, (callFunc gf args).run Try.prog w = .ok (.enter gf args) w) (A : Option Addr) (c : Nat) (xs : List S34) (w : World) (base : Nat) (ok : Nat → Prop)
    (hS : Kd.S k34 34 w base ok (.slice A xs.length c) xs) (ho : w.heap[gc]? = some o) (hgc : some gc ≠ (Value.slice A xs.length c).ownBlock) :
    Calls Try.prog 95 #[.slice A xs.length c, .func (.func gf) #[] lb] w fun e w' => ∃ v' : Value, e = .returned v' ∧ Kd.S k34 34 w' base ok v' (xs.filter fun x => !p x) ∧ w.grownBy w' (Value.slice A xs.length c).ownBlock ∧ v'.ownBlock = (Value.slice A xs.length c).ownBlock := by
  have hu34 := Try.underlying34
  obtain ⟨hcl, hC⟩ := (Kd.R_reads' (Kd.S_R hS)).2
  have hIF := items_index p gf lb gc o hp eg A c xs w hC hcl ho
  have hlen := hC.2.1
  rcases idxI_cases p xs with ⟨e1, hall⟩ | ⟨k0, hk0, e1, ht, hall⟩
  · rw [e1] at hIF
    have hfil : xs.filter (fun x => !p x) = xs := by
      rw [List.filter_eq_self]
      intro x hx
      obtain ⟨j, hj, rfl⟩ := List.mem_iff_getElem.1 hx
      have := hall j hj
      rw [List.getD_eq_getElem?_getD, List.getElem?_eq_getElem hj] at this
      rw [show p xs[j] = false from this]; rfl
    rw [hfil]
    have HS := Aside0.mk hS
    clear hS hC hcl hall hfil e1 hp ho hgc
    generalize xs.length = n at hIF HS ⊢
    go_enter Try.func95, Try.ntmps95
    go_wp2_with ((go_at_call 102; refine hIF.mono ?_; rintro e w' ⟨rfl, hb⟩))
    go_ret
    exact ⟨_, rfl, Kd.S_below HS.out hb, grown_of_below hb _, rfl⟩
  · rw [e1] at hIF
    obtain ⟨g, cap, ev, hbg, hgl, hcells⟩ := Kd.S_form hS (by omega)
    obtain ⟨f, rows, hrl, hraw, hok, hM⟩ := raw_of_S hS
    have e2 : A = some ⟨g, 0, none⟩ ∧ c = cap := by
      injection ev with ea en ec
      exact ⟨ea, ec⟩
    obtain ⟨rfl, rfl⟩ := e2
    have hgcg : gc ≠ g := fun e => hgc (by rw [e]; rfl)
    obtain ⟨n, hn⟩ : ∃ n, xs.length = n := ⟨_, rfl⟩
    rw [hn] at hIF hraw hM hok hlen hk0 ⊢
    have hne1 : ((k0 : Int) == -1) = false := beq_eq_false_iff_ne.2 (by omega)
    have hk1 : (k0 : Int) + 1 ≤ 9223372036854775807 := by omega
    have hI0 : KInv rows p xs (k0 + 1) k0 rows := KInv.start (by omega) ht hall
    have HI0 := Aside0.mk hI0
    have HM := Aside0.mk hM
    have HK := Aside0.mk hok
    have HN := Aside0.mk hn
    have HL := Aside0.mk hrl
    have HP := Aside0.mk hp
    have HO := Aside0.mk ho
    have HG := Aside0.mk hgcg
    have HGL := Aside0.mk hgl
    have hraw2 : (Kd.raw 4).R 34 w base (fun k => k = g) (.slice (some ⟨g, 0, none⟩) n c) rows := Kd.R_mono hraw (fun k hk => by simpa [Value.ownBlock] using hk)
    have HR0 := Aside0.mk hraw2
    have hcap : n ≤ c := by rw [← hn]; exact hcl
    have HCAP := Aside0.mk hcap
    clear hS hC hcl hraw hraw2 hM hok hn hrl hp ho hgc hgcg hall ht e1 ev hbg hgl hcells hI0 hcap
    go_enter Try.func95, Try.ntmps95
    go_wp2_with ((go_at_call 102; refine hIF.mono ?_; rintro e w0 ⟨rfl, hb⟩; have HB0 := Aside0.mk hb; clear hb))
    go_loopg [5, 6, 7] n (fun gg s5 s6 _ wr => ∃ (i j : Nat) (dk : List (List Value)), s5 = .int .i64 i ∧ s6 = .int .i64 j ∧ j ≤ n ∧ i < j ∧ n - j ≤ gg ∧ Aside0 (w.grownBy wr (some g)) ∧ Aside0 ((Kd.raw 4).R 34 wr base (fun k => k = g) (.slice (some ⟨g, 0, none⟩) n c) dk) ∧ Aside0 (KInv rows p xs j i dk))
    case atStart => exact ⟨k0, k0 + 1, rows, rfl, by go_num, by omega, by omega, by omega, ⟨grown_of_below HB0.out _⟩, ⟨Kd.R_below HR0.out HB0.out⟩, HI0⟩
    case round =>
      clear HI0 HR0 HB0
      obtain ⟨i, j, dk, rfl, rfl, hjn, hij, hgg, HGR, HR, HI⟩ := hrel
      by_cases hlt : j < n
      · have hltz : (j : Int) < (n : Int) := by omega
        obtain ⟨cj, hcl4, hMj, hcc, _⟩ := Kd.R_elem HR.out [] (j : Int) (by omega) hltz
        have hxj : xs[j]? = some (xs.getD j z34) := by simp [List.getD_eq_getElem?_getD, show j < xs.length by rw [HN.out]; exact hlt]
        have hrj : rows[j]? = some (rows.getD j []) := by simp [List.getD_eq_getElem?_getD, show j < rows.length by rw [HL.out, HN.out]; exact hlt]
        obtain ⟨v3, hv3, hR3⟩ := k34_openM (HM.out j _ _ hxj hrj)
        obtain ⟨A3, c3, rfl⟩ := Kd.R_slice hR3
        have hcj : cj = rows.getD j [] := by
          have h := hMj.1
          rw [Int.toNat_natCast] at h
          rw [h, HI.out.at_ (by rw [HL.out, HN.out]; exact hlt)]
        rw [hcj, hv3] at hcc
        rw [Int.toNat_natCast] at hcc
        have h0 : wr.cell? ⟨g, j * 4, none⟩ = some _ := hcc 0 _ rfl
        have h1 : wr.cell? ⟨g, j * 4 + 1, none⟩ = some _ := hcc 1 _ rfl
        have h2 : wr.cell? ⟨g, j * 4 + 2, none⟩ = some _ := hcc 2 _ rfl
        have h3 : wr.cell? ⟨g, j * 4 + 3, none⟩ = some _ := hcc 3 _ rfl
        have HRJ := Aside0.mk hv3
        have hgw : g < wr.heap.size := Nat.lt_of_lt_of_le HGL.out HGR.out.size
        have HGW := Aside0.mk hgw
        generalize hx : xs.getD j z34 = x at h0 h1 h2 h3 HRJ
        have HX := Aside0.mk hx
        clear hcc hcj hMj hcl4 hxj hrj hv3 hR3 hx hgw
        clear cj
        cases hq : p x with
        | true =>
          have HQ := Aside0.mk hq
          go_wp2_with (first | ((with_reducible refine gate_dst (N := 7) rfl ?_); refine box_event ?hg (N := 7) ?hd (cs := #[.string (⟨#[]⟩ : ByteArray), .int .i64 0, .int .i64 0, .slice none 0 0]) (t := 34) ?hr ?_; (case hd => rfl); (case hg => rfl); (case hr => first | (go_simp; done) | (go_simp; rfl)); intro gb hgb w7 hbox hb; have BK := Aside0.mk hbox; have HB7 := Aside0.mk hb; have HGB := Aside0.mk (Nat.le_of_eq hgb.symm); clear hbox hb hgb) | ((with_reducible refine gate_store (t := 34) (p := 7) rfl ?_); refine box_put rfl rfl (.tmp 7) (.tmp 25) rfl rfl rfl BK.out (by intro u hu; simp only [List.mem_cons, List.not_mem_nil, or_false] at hu; rcases hu with rfl | rfl | rfl | rfl <;> rfl) (by intro u hu; simp only [List.mem_cons, List.not_mem_nil, or_false] at hu; rcases hu with rfl | rfl | rfl | rfl <;> rfl) rfl ?_; intro w8 hg8 b0 b1 b2 b3; have HR8 := Aside0.mk (Kd.R_grown (Kd.R_below HR.out HB7.out) hg8 (fun k hk e => by injection e with e; have h1 := HGW.out; have h2 := HGB.out; omega)); have HG8 := Aside0.mk (grown_new HGR.out (grown_below HB7.out hg8) HGB.out); have HO8 := Aside0.mk ((HG8.out.block gc (Array.getElem?_eq_some_iff.1 HO.out).1 (fun e => HG.out (by injection e))).trans HO.out); clear hg8 BK HB7) | (go_at_fn gf; have hcall := HP.out w8 x A3 c3 HO8.out; rw [HQ.out] at hcall; refine hcall.mono ?_; clear hcall; rintro e w9 ⟨rfl, hb9⟩; replace b0 := pw_cell_below hb9 b0; replace b1 := pw_cell_below hb9 b1; replace b2 := pw_cell_below hb9 b2; replace b3 := pw_cell_below hb9 b3; have HR2 := Aside0.mk (Kd.R_below HR8.out hb9); have HG2 := Aside0.mk (grown_trans HG8.out (grown_of_below hb9 _)); clear hb9 HR8 HG8 HO8))
          go_roundg (n - (j + 1))
          case measure => omega
          case rel => exact ⟨i, j + 1, dk, rfl, by go_num, by omega, by omega, Nat.le_refl _, HG2, HR2, ⟨KInv.skip HI.out (by rw [HX.out]; exact HQ.out)⟩⟩
        | false =>
          have HQ := Aside0.mk hq
          have hiz : (i : Int) < (n : Int) := by omega
          go_wp2_with (first | ((with_reducible refine gate_dst (N := 7) rfl ?_); refine box_event ?hg (N := 7) ?hd (cs := #[.string (⟨#[]⟩ : ByteArray), .int .i64 0, .int .i64 0, .slice none 0 0]) (t := 34) ?hr ?_; (case hd => rfl); (case hg => rfl); (case hr => first | (go_simp; done) | (go_simp; rfl)); intro gb hgb w7 hbox hb; have BK := Aside0.mk hbox; have HB7 := Aside0.mk hb; have HGB := Aside0.mk (Nat.le_of_eq hgb.symm); clear hbox hb hgb) | ((with_reducible refine gate_store (t := 34) (p := 7) rfl ?_); refine box_put rfl rfl (.tmp 7) (.tmp 25) rfl rfl rfl BK.out (by intro u hu; simp only [List.mem_cons, List.not_mem_nil, or_false] at hu; rcases hu with rfl | rfl | rfl | rfl <;> rfl) (by intro u hu; simp only [List.mem_cons, List.not_mem_nil, or_false] at hu; rcases hu with rfl | rfl | rfl | rfl <;> rfl) rfl ?_; intro w8 hg8 b0 b1 b2 b3; have HR8 := Aside0.mk (Kd.R_grown (Kd.R_below HR.out HB7.out) hg8 (fun k hk e => by injection e with e; have h1 := HGW.out; have h2 := HGB.out; omega)); have HG8 := Aside0.mk (grown_new HGR.out (grown_below HB7.out hg8) HGB.out); have HO8 := Aside0.mk ((HG8.out.block gc (Array.getElem?_eq_some_iff.1 HO.out).1 (fun e => HG.out (by injection e))).trans HO.out); clear hg8 BK HB7) | (go_at_fn gf; have hcall := HP.out w8 x A3 c3 HO8.out; rw [HQ.out] at hcall; refine hcall.mono ?_; clear hcall; rintro e w9 ⟨rfl, hb9⟩; replace b0 := pw_cell_below hb9 b0; replace b1 := pw_cell_below hb9 b1; replace b2 := pw_cell_below hb9 b2; replace b3 := pw_cell_below hb9 b3; have HR2 := Aside0.mk (Kd.R_below HR8.out hb9); have HG2 := Aside0.mk (grown_trans HG8.out (grown_of_below hb9 _)); clear hb9 HR8 HG8 HO8) | ((with_reducible refine gate_store (t := 34) (p := 33) rfl ?_); obtain ⟨ci, hci1, _, hci3, _⟩ := Kd.R_elem HR2.out [] (i : Int) (by omega) hiz; refine Kd.R_store (Kd.raw 4) (w0 := w9) base rfl rfl 34 (.tmp 33) (.tmp 32) rfl 34 (o' := i * 4) (i : Int) 0 dk (rows.getD j []) (.agg #[.string x.f0, .int .i64 x.f1, .int .i64 x.f2, .slice A3 x.f3.length c3]) [.string x.f0, .int .i64 x.f1, .int .i64 x.f2, .slice A3 x.f3.length c3] ci (fun k => k = g) (fun _ => False) rfl (by simp [Kd.raw]) rfl rfl (by kernel_rfl) (by intro u hu; simp only [List.mem_cons, List.not_mem_nil, or_false] at hu; rcases hu with rfl | rfl | rfl | rfl <;> rfl) HR2.out (by omega) hiz hci1 hci3 (by simp [Kd.raw]) ?hM (fun _ hk => hk.elim) (Below.refl _ _) ?_; (case hM => have hl4 : ci.length = 4 := hci1; refine ⟨?_, ?_, ?_⟩; (rw [HRJ.out, List.take_zero, List.nil_append, List.drop_eq_nil_of_le (by rw [hl4]; exact Nat.le_refl 4), List.append_nil]); (rw [List.take_zero, List.nil_append, List.drop_eq_nil_of_le (by rw [hl4]; exact Nat.le_refl 4), List.append_nil]; rfl); (rw [List.take_zero, List.nil_append, List.drop_eq_nil_of_le (by rw [hl4]; exact Nat.le_refl 4), List.append_nil]; intro u hu; simp only [List.mem_cons, List.not_mem_nil, or_false] at hu; rcases hu with rfl | rfl | rfl | rfl <;> rfl)); intro w10 hr10 _ hg10; rw [Int.toNat_natCast] at hr10; have HR3 := Aside0.mk hr10; have HG3 := Aside0.mk (grown_trans HG2.out hg10); clear hr10 hg10 hci1 hci3))
          go_roundg (n - (j + 1))
          case measure => omega
          case rel => exact ⟨i + 1, j + 1, dk.set i (rows.getD j []), by go_num, by go_num, by omega, by omega, Nat.le_refl _, HG3, HR3, ⟨KInv.keep HI.out (by rw [HX.out]; exact HQ.out) (by rw [HL.out, HN.out]; exact hlt)⟩⟩
      · obtain rfl : j = n := by omega
        have hltz : ¬ (j : Int) < (j : Int) := by omega
        have hin : i < j := hij
        have hc4 : j ≤ c := HCAP.out
        obtain ⟨ti, hti, hz⟩ := Option.map_eq_some_iff.1 info34
        simp only [Prod.mk.injEq] at hz
        have hcut1 := cut_from (P := Try.prog) 25 34 .i64 Try.underlying25 hti 4 hz.2.1 (some ⟨g, 0, none⟩) j c (i : Int) (by omega) (by omega)
        rw [Int.toNat_natCast, if_neg (show ¬ c = i by omega)] at hcut1
        simp only [Option.map_some, add_plain] at hcut1
        have hcut2 := cut_to (P := Try.prog) 25 34 .i64 Try.underlying25 hti (some ⟨g, 0, none⟩) j c (i : Int) (by omega) (by omega) hc4
        rw [Int.toNat_natCast] at hcut2
        have hcell : ∀ t, t < (j - i) * 4 → (wr.cell? ⟨g, i * 4 + t, none⟩).isSome = true ∧ wr.frozen? ⟨g, i * 4 + t, none⟩ = false := by
          intro t ht
          obtain ⟨cc, q1, q2, q3, q4⟩ := Kd.R_elem HR.out [] ((i + t / 4 : Nat) : Int) (by omega) (by omega)
          rw [Int.toNat_natCast] at q3 q4
          have e : i * 4 + t = (i + t / 4) * 4 + t % 4 := by omega
          have q5 : t % 4 < cc.length := by rw [q1]; exact Nat.mod_lt _ (by omega)
          rw [e]
          exact ⟨by rw [show (i + t / 4) * 4 = (i + t / 4) * (Kd.raw 4).sz from rfl, q3 (t % 4) _ (List.getElem?_eq_getElem q5)]; rfl, q4 _⟩
        have hrun := fun ty => run_clear4 wr ty g (i * 4) (j - i) (c - i) (by omega) (fun t ht => (hcell t ht).1) (fun t ht => (hcell t ht).2)
        have hsl := zeros4_length (j - i)
        generalize zeros4 (j - i) = seg at hrun hsl
        obtain ⟨hraw, hgr⟩ := raw_cleared HR.out i (by omega) seg hsl
        have hS : Kd.S k34 34 (wr.setCells g (i * 4) seg) base ok (.slice (some ⟨g, 0, none⟩) i c) (xs.filter fun x => !p x) := S_kept (by omega) HN.out.symm HL.out HK.out HM.out (grown_trans HGR.out hgr) HI.out hraw
        have HS := Aside0.mk hS
        have HGF := Aside0.mk (grown_trans HGR.out hgr)
        clear hS hgr hraw hcell hti hz hsl
        generalize wr.setCells g (i * 4) seg = wz at hrun HS HGF
        go_wp2
        go_ret
        exact ⟨_, rfl, HS.out, HGF.out, rfl⟩
end Go.Proofs.Ytlalkldjpniakaa.P
namespace Go.Proofs.Ytlalkldjpniakaa.P
open Go.RowKit Go.Proofs.YtlalkldjpniakaaW.PrintWords Go.Proofs.YtlalkldjpniakaaW.PrintLast Go.Proofs.YtlalkldjpniakaaW.PrintMore
attribute [local go_sem] zcm zcn zdi zdj zbz zca zco zcp   -- for this text's walks alone
set_option linter.unusedVariables false
set_option linter.unusedSimpArgs false
set_option maxHeartbeats 8000000
set_option maxRecDepth 100000

def impl_cloneItem.f (a0_0 : ByteArray) (a0_1 : Int) (a0_2 : Int) (l0_3 : List Int) : Option (ByteArray × Int × Int × List Int) := (slices_Clone_byte_byte.f l0_3).bind fun t362 => (some (a0_0, a0_1, a0_2, t362))
theorem impl_cloneItem.calls (a0_0 : ByteArray) (a0_1 : Int) (a0_2 : Int) (A0_3 : Option Addr) (c0_3 : Nat) (l0_3 : List Int) (r1 : ByteArray) (r2 : Int) (r3 : Int) (r4 : List Int) (w : World) (hr0_3 : Kd.C (Kd.int .u8) w A0_3 l0_3.length l0_3) (hc0_3 : l0_3.length ≤ c0_3) (h : impl_cloneItem.f a0_0 a0_1 a0_2 l0_3 = some (r1, r2, r3, r4)) :
  Calls Try.prog 104 #[.agg #[.string a0_0, .int .i64 a0_1, .int .i64 a0_2, .slice A0_3 l0_3.length c0_3]] w fun e w' => ∃ v3_ : Value, e = .returned (.agg #[.string r1, .int .i64 r2, .int .i64 r3, v3_]) ∧ Kd.R (Kd.int .u8) 5 w' w.heap.size (fun _ => True) v3_ r4 ∧ Below w.heap.size w w' := by
 have hu34 := Try.underlying34
 have HR0_3 := Aside0.mk hr0_3
 have HC0_3 := Aside0.mk hc0_3
 clear hr0_3 hc0_3
 have HB := Aside0.mk (zbj w.heap.size w)
 have H : ((slices_Clone_byte_byte.f l0_3).bind fun t362 => (some (a0_0, a0_1, a0_2, t362))) = some (r1, r2, r3, r4) := h
 clear h
 obtain ⟨t362, A2, H⟩ := bnd H
 simp only [zbx, zcg] at H
 obtain ⟨rfl, rfl, rfl, rfl⟩ := H
 go_enter Try.func104, Try.ntmps104
 go_wp2_with (first | (refine jgd 1 ?_; refine bx 1 (#[.string a0_0, .int .i64 a0_1, .int .i64 a0_2, .slice A0_3 l0_3.length c0_3]) 34 ?_; intro gb360 hg w3 hbox hb; have xb_ := below_ofs bq hb; have n_ := jA4 (zad xb_ hb) (hbox) (ge0 hg xb_ : w.heap.size ≤ gb360) (ge0 hg xb_ : w.heap.size ≤ gb360); clear HB; obtain ⟨HB, BK360, GW360, GE360⟩ := n_; clear xb_ hb hbox hg) | (refine jgd 2 ?_; refine bx 2 (#[.string (⟨#[]⟩ : ByteArray), .int .i64 0, .int .i64 0, .slice none 0 0]) 34 ?_; intro gb361 hg w4 hbox hb; have n_ := jA7 (jbb BK360.out hb) (zad (bs1 GE360.out) hb) (hbox) (ge0 hg (bs1 GE360.out) : w.heap.size ≤ gb361) (ge0 hg (bs1 GE360.out) : w.heap.size ≤ gb361) (nl hg (pB BK360.out) : gb360 ≠ gb361) (ng hg (pB BK360.out) : gb361 ≠ gb360); clear BK360 HB; obtain ⟨BK360, HB, BK361, GW361, GE361, NB360_361, NB361_360⟩ := n_; clear hb hbox hg; have hnb5 := NB360_361.out; have hnc5 := NB361_360.out; obtain ⟨hcz6_0, hcz6_1, hcz6_2, hcz6_3, hfz6_0, hfz6_1, hfz6_2, hfz6_3⟩ := cz4 BK360.out) | (refine jgc 116 ?_; refine jgs 5 Try.func116 #[.slice A0_3 l0_3.length c0_3] ?_; (with_reducible refine (slices_Clone_byte_byte.calls _ _ l0_3 t362 _ ?side1 ?side2 A2.out).mono ?_); (case side1 => exact jcs HR0_3.out); (case side2 => exact HC0_3.out); rintro e w7 ⟨v363, rfl, ho0, hb⟩; refine ⟨_, rfl, ?_⟩; have n_ := jA4 (zaw ho0 (zah (bs2 GE360.out GE361.out))) (jbb BK360.out hb) (jbb BK361.out hb) (zad (bs2 GE360.out GE361.out) hb); clear BK360 BK361 HB; obtain ⟨HO364, BK360, BK361, HB⟩ := n_; clear hb ho0; obtain ⟨Ao8, co8, eo8⟩ := zbg HO364.out; subst eo8; obtain ⟨hcz9_0, hcz9_1, hcz9_2, hcz9_3, hfz9_0, hfz9_1, hfz9_2, hfz9_3⟩ := cz4 BK360.out; obtain ⟨hcz10_0, hcz10_1, hcz10_2, hcz10_3, hfz10_0, hfz10_1, hfz10_2, hfz10_3⟩ := cz4 BK361.out))
 refine zeg (results_cell_row rfl _ _ gb361 34 #[.string a0_0, .int .i64 a0_1, .int .i64 a0_2, .slice Ao8 t362.length co8] (0, 0) _ rfl (by (with_reducible repeat (first | refine zbr ?_ _ | refine zbu ?_ | refine zbs ?_ _)); refine zea (cs := #[.string a0_0, .int .i64 a0_1, .int .i64 a0_2, .slice none 0 0]) ?_ 3 _ rfl; (with_reducible repeat (first | refine zbr ?_ _ | refine zbu ?_ | refine zbs ?_ _)); refine zea (cs := #[.string a0_0, .int .i64 a0_1, .int .i64 0, .slice none 0 0]) ?_ 2 _ rfl; (with_reducible repeat (first | refine zbr ?_ _ | refine zbu ?_ | refine zbs ?_ _)); refine zea (cs := #[.string a0_0, .int .i64 0, .int .i64 0, .slice none 0 0]) ?_ 1 _ rfl; (with_reducible repeat (first | refine zbr ?_ _ | refine zbu ?_ | refine zbs ?_ _)); refine zea (cs := #[.string (⟨#[]⟩ : ByteArray), .int .i64 0, .int .i64 0, .slice none 0 0]) ?_ 0 _ rfl; (with_reducible repeat (first | refine zbr ?_ _ | refine zbu ?_ | refine zbs ?_ _)); refine blk_far ?_ NB361_360.out _; (with_reducible repeat (first | refine zbr ?_ _ | refine zbu ?_ | refine zbs ?_ _)); exact BK361.out) Try.underlying34 rfl (by kernel_rfl)) rfl ?_
 exact ⟨_, jex, by (with_reducible repeat (first | apply zap | apply zaq | apply zav)); exact zak (zch (p := ⟨gb361, 3, none⟩) (zch (p := ⟨gb361, 2, none⟩) (zch (p := ⟨gb361, 1, none⟩) (zch (p := ⟨gb361, 0, none⟩) (zch (p := ⟨gb360, 3, none⟩) (zby (zby HO364.out BK360.out (by decide)) BK361.out (by decide)) (fun _ hk => hk.1.2) (.slice Ao8 t362.length co8)) (fun _ hk => hk.2) (.string a0_0)) (fun _ hk => hk.2) (.int .i64 a0_1)) (fun _ hk => hk.2) (.int .i64 a0_2)) (fun _ hk => hk.2) (.slice Ao8 t362.length co8)) (fun _ hk => trivial), (bs2 GE360.out GE361.out)⟩
end Go.Proofs.Ytlalkldjpniakaa.P
