import Derived.Test.Ytlalkldjpniakaapm12
namespace Go.Proofs.Ytlalkldjpniakaa.P
open Go.RowKit Go.Proofs.YtlalkldjpniakaaW.PrintWords Go.Proofs.YtlalkldjpniakaaW.PrintLast Go.Proofs.YtlalkldjpniakaaW.PrintMore
attribute [local go_sem] zcm zcn zdi zdj zbz zca zco zcp   -- for this text's walks alone
set_option linter.unusedVariables false
set_option linter.unusedSimpArgs false
set_option maxHeartbeats 8000000
set_option maxRecDepth 100000

def impl_cloneItems.l0 : Nat → List (S34) → List (S34) → Int → Int → Option ((List (S34)))
 | 0, _, _, _, _ => none
 | k + 1, x3, x6, x7, x8 => if x8 < x7 then (if 0 ≤ x8 then (if x8 < (x6.length : Int) then ((impl_cloneItem.f ((rd_T34 x6 x8).f0) ((rd_T34 x6 x8).f1) ((rd_T34 x6 x8).f2) ((rd_T34 x6 x8).f3)).bind fun bt367 => (if x3.length < 2513169434916 then (impl_cloneItems.l0 k (x3 ++ [(⟨bt367.1, bt367.2.1, bt367.2.2.1, bt367.2.2.2⟩ : S34)]) x6 x7 (wrap64 (x8 + 1))) else (none))) else (none)) else (none)) else (some x3)
def impl_cloneItems.f (k : Nat) (l0 : List (S34)) : Option ((List (S34))) := impl_cloneItems.l0 k ([] : List (S34)) l0 (l0.length : Int) 0
theorem impl_cloneItems.mono_l : ∀ k, (∀ y0 y1 y2 y3, LeO (impl_cloneItems.l0 k y0 y1 y2 y3) (impl_cloneItems.l0 (k + 1) y0 y1 y2 y3))
 | 0 => fun _ _ _ _ r h => by simp [impl_cloneItems.l0] at h
 | k + 1 => by
  have ih0 := impl_cloneItems.mono_l k
  ·intro y0 y1 y2 y3
   unfold impl_cloneItems.l0
   exact mt
theorem impl_cloneItems.mono : ∀ a0 k, LeO (impl_cloneItems.f k a0) (impl_cloneItems.f (k + 1) a0) := by
 intro a0 k
 have ih0 := impl_cloneItems.mono_l k
 unfold impl_cloneItems.f
 exact mt
theorem impl_cloneItems.calls (k : Nat) (A0 : Option Addr) (c0 : Nat) (l0 : List (S34)) (r : List (S34)) (w : World) (hr0 : Kd.C k34 w A0 l0.length l0) (hc0 : l0.length ≤ c0) (h : impl_cloneItems.f k l0 = some r) :
  Calls Try.prog 96 #[.slice A0 l0.length c0] w fun e w' => ∃ v0_ : Value, e = .returned (v0_) ∧ Kd.S k34 34 w' w.heap.size (fun _ => True) v0_ r ∧ Below w.heap.size w w' := by
 have hu34 := Try.underlying34
 have HR0 := Aside0.mk hr0
 have HC0 := Aside0.mk hc0
 clear hr0 hc0
 have HB := Aside0.mk (zbj w.heap.size w)
 have H : (impl_cloneItems.l0 k ([] : List (S34)) l0 (l0.length : Int) 0) = some r := h
 clear h
 have H' := Aside0.mk H
 clear H
 go_enter Try.func96, Try.ntmps96
 go_wp2
 go_loopg [3, 8] k (fun kq v3 v8 w' => ∃ (x3_1 : List (S34)) (x8_1 : Int), v8 = .int .i64 x8_1 ∧ Aside0 (impl_cloneItems.l0 kq x3_1 l0 (l0.length : Int) x8_1 = some r) ∧ Aside0 (kq ≤ k) ∧ Aside0 (Kd.S k34 34 w' w.heap.size (fun _ => True) v3 x3_1) ∧ Aside0 (Below w.heap.size w w'))
 case atStart => exact ⟨(([] : List (S34))), (0), jer, H', ⟨zaf _⟩, ⟨by first | exact Kd.S_nil _ _ _ _ _ | exact Kd.N_nil _ _ _ _ _ | exact Kd.V_nil _ _ _ _ _ | exact Kd.Q_nil _ _ _ _ _ | exact zgi _ _ _ _ _⟩, ⟨bq⟩⟩
 case round =>
  clear H'
  obtain ⟨x3_1, x8_1, rfl, HA, HK1, HO_3, HB⟩ := hrel
  cases gk with
  | zero => exact absurd HA.out (by simp [impl_cloneItems.l0])
  | succ k1 =>
   have H := HA.out
   clear HA
   simp only [impl_cloneItems.l0] at H
   by_cases c2 : x8_1 < (l0.length : Int)
   ·rw [if_pos c2] at H
    have c2b0 := zae c2
    clear c2
    by_cases c3 : 0 ≤ x8_1
    ·rw [if_pos c3] at H
     have c3b0 := zae c3
     clear c3
     by_cases c4 : x8_1 < (l0.length : Int)
     ·rw [if_pos c4] at H
      have c4b0 := zae c4
      clear c4
      obtain ⟨⟨t367, t368, t369, t370⟩, A5, H⟩ := bnd H
      try dsimp only at H
      by_cases c6 : x3_1.length < 2513169434916
      ·rw [if_pos c6] at H
       have LMc6 := Aside0.mk c6
       clear c6
       obtain ⟨y373, hy373⟩ : ∃ y_ : List (S34), y_ = (x3_1 ++ [(⟨t367, t368, t369, t370⟩ : S34)]) := ⟨_, rfl⟩
       replace H : (impl_cloneItems.l0 k1 y373 l0 (l0.length : Int) (wrap64 (x8_1 + 1))) = some r := jrw hy373 H
       have Ny373 := Aside0.mk hy373
       clear hy373
       have H' := Aside0.mk H
       clear H
       obtain ⟨p365, q365, ad365, A365_3, c365_3, e365, hx365_0, hx365_1, hx365_2, hx365_3, HC365_3, HR365_3⟩ := jel HR0.out HB.out x8_1
       cases e365
       go_wp2_with (first | (refine jgd 5 ?_; refine bx 5 (#[.string (⟨#[]⟩ : ByteArray), .int .i64 0, .int .i64 0, .slice none 0 0]) 34 ?_; intro gb366 hg w7 hbox hb; have xb_ := below_ofs bq hb; have n_ := jA5 (zdn (Kd.S_elderB (pS HO_3.out) gb366 (zes hg.symm)) hb) (zad xb_ hb) (hbox) (ge0 hg xb_ : w.heap.size ≤ gb366) (ge0 hg xb_ : w.heap.size ≤ gb366); clear HO_3 HB; obtain ⟨HO_3, HB, BK366, GW366, GE366⟩ := n_; clear xb_ hb hbox hg; obtain ⟨hcz8_0, hcz8_1, hcz8_2, hcz8_3, hfz8_0, hfz8_1, hfz8_2, hfz8_3⟩ := cz4 BK366.out) | (refine jgc 104 ?_; refine jgs 14 Try.func104 #[.agg #[.string ((rd_T34 l0 x8_1).f0), .int .i64 ((rd_T34 l0 x8_1).f1), .int .i64 ((rd_T34 l0 x8_1).f2), .slice A365_3 ((rd_T34 l0 x8_1).f3).length c365_3]] ?_; (with_reducible refine (impl_cloneItem.calls ((rd_T34 l0 x8_1).f0) ((rd_T34 l0 x8_1).f1) ((rd_T34 l0 x8_1).f2) _ _ ((rd_T34 l0 x8_1).f3) t367 t368 t369 t370 _ ?side1 ?side2 A5.out).mono ?_); (case side1 => exact zbb HR365_3.out (bs1 GE366.out)); (case side2 => exact HC365_3.out); rintro e w9 ⟨v371, rfl, ho0, hb⟩; refine ⟨_, rfl, ?_⟩; have n_ := jA4 (zdt (by (with_reducible repeat (first | apply zcy | apply zcz | apply zdr)); exact (zcs (zde (p := ⟨gb366, 3, none⟩) (zde (p := ⟨gb366, 2, none⟩) (zde (p := ⟨gb366, 1, none⟩) (zde (p := ⟨gb366, 0, none⟩) (zcs HO_3.out (fun k_ hk => (⟨hk, hk.2⟩ : _ ∧ k_ ≠ gb366))) (fun _ hk => hk.2) (.string ((rd_T34 l0 x8_1).f0))) (fun _ hk => hk.2) (.int .i64 ((rd_T34 l0 x8_1).f1))) (fun _ hk => hk.2) (.int .i64 ((rd_T34 l0 x8_1).f2))) (fun _ hk => hk.2) (.slice A365_3 ((rd_T34 l0 x8_1).f3).length c365_3)) (fun _ h_ => h_.1))) (zba ho0) hb) (zaw ho0 (zah (bs1 GE366.out))) (blk_below (g := gb366) (o := .cells #[.string ((rd_T34 l0 x8_1).f0), .int .i64 ((rd_T34 l0 x8_1).f1), .int .i64 ((rd_T34 l0 x8_1).f2), .slice A365_3 ((rd_T34 l0 x8_1).f3).length c365_3] 34 (0, 0)) (by (with_reducible repeat (first | refine zbr ?_ _ | refine zbu ?_ | refine zbs ?_ _)); refine zea (cs := #[.string ((rd_T34 l0 x8_1).f0), .int .i64 ((rd_T34 l0 x8_1).f1), .int .i64 ((rd_T34 l0 x8_1).f2), .slice none 0 0]) ?_ 3 _ rfl; (with_reducible repeat (first | refine zbr ?_ _ | refine zbu ?_ | refine zbs ?_ _)); refine zea (cs := #[.string ((rd_T34 l0 x8_1).f0), .int .i64 ((rd_T34 l0 x8_1).f1), .int .i64 0, .slice none 0 0]) ?_ 2 _ rfl; (with_reducible repeat (first | refine zbr ?_ _ | refine zbu ?_ | refine zbs ?_ _)); refine zea (cs := #[.string ((rd_T34 l0 x8_1).f0), .int .i64 0, .int .i64 0, .slice none 0 0]) ?_ 1 _ rfl; (with_reducible repeat (first | refine zbr ?_ _ | refine zbu ?_ | refine zbs ?_ _)); refine zea (cs := #[.string (⟨#[]⟩ : ByteArray), .int .i64 0, .int .i64 0, .slice none 0 0]) ?_ 0 _ rfl; (with_reducible repeat (first | refine zbr ?_ _ | refine zbu ?_ | refine zbs ?_ _)); exact BK366.out) hb) (zad (bs1 GE366.out) hb); clear HO_3 BK366 HB; obtain ⟨HO_3, HO372, BK366, HB⟩ := n_; clear hb ho0; obtain ⟨Ao11, co11, eo11⟩ := zbg HO372.out; subst eo11) | ((with_reducible refine zbw (b := .append) (xs := #[.tmp 12, .tmp 15]) rfl ?_); at_builtin; refine zep k34 (w0 := w) w.heap.size rfl (.tmp 12) (.tmp 15) 25 34 (.agg #[(.string ⟨#[]⟩), (.int .i64 0), (.int .i64 0), (.slice none 0 0)]) 56 rfl Try.underlying25 info34 rfl (by decide) (by omega) u3 x3_1 (⟨t367, t368, t369, t370⟩ : S34) [.string t367, .int .i64 t368, .int .i64 t369, .slice Ao11 t370.length co11] (fun k_ => k_ ≠ gb366) (fun k_ => some k_ = (.slice Ao11 t370.length co11 : Value).ownBlock) rfl rfl ?aP (fun k_ hk_ => ((zak (ok' := fun k_ => ((fun k_ => k_ ≠ gb366)) k_ ∧ some k_ ≠ (u3 : Value).ownBlock) (zby (zcx (HO372.out) (zdo HO_3.out) (by decide)) BK366.out (by decide)) (fun k_ hk => ⟨hk.2, hk.1.2⟩))).1 k_ hk_.symm) ?aF ?aO ?aB ?aS ?aL ?_; (case aP => exact zgf _ _ _ (⟨t367, t368, t369, t370⟩ : S34) (zak (zeu rfl (zak (ok' := fun k_ => ((fun k_ => k_ ≠ gb366)) k_ ∧ some k_ ≠ (u3 : Value).ownBlock) (zby (zcx (HO372.out) (zdo HO_3.out) (by decide)) BK366.out (by decide)) (fun k_ hk => ⟨hk.2, hk.1.2⟩))) (fun _ h_ => h_))); (case aB => exact (bs1 GE366.out)); (case aF => exact (fun k_ hk => zfe (pB BK366.out) k_ hk)); (case aO => exact (by (with_reducible repeat (first | apply zcy | apply zcz | apply zdr)); exact zcs HO_3.out (fun k_ hk => ⟨hk.1.2, fun e_ => hk.2 e_⟩))); (case aS => exact (zah (bs1 GE366.out))); (case aL => have := LMc6.out; omega); intro v374 w10 ho hb hg hat; rw [← Ny373.out] at ho; have n_ := jA3 (zed (pB BK366.out) hg (zgn HO_3.out (fun _ hk => hk.1.2))) (hb) (ho); clear BK366 HB HO_3 HO372; obtain ⟨BK366, HB, HO375⟩ := n_; clear ho hb hg hat))
       go_roundg k1
       case measure => have := HK1.out; omega
       case rel => exact ⟨(y373), (wrap64 (x8_1 + 1)), jer, H', ⟨by have := HK1.out; omega⟩, ⟨by (with_reducible repeat (first | apply zcy | apply zcz | apply zdr)); exact zcs HO375.out (fun _ hk => trivial)⟩, ⟨bs1 GE366.out⟩⟩
      ·rw [if_neg c6] at H
       exact absurd H (by simp)
     ·rw [if_neg c4] at H
      exact absurd H (by simp)
    ·rw [if_neg c3] at H
     exact absurd H (by simp)
   ·rw [if_neg c2] at H
    have c2b0 := zas c2
    clear c2
    obtain rfl := Option.some.inj H
    go_wp2
    go_ret
    exact ⟨_, jex, by (with_reducible repeat (first | apply zcy | apply zcz | apply zdr)); exact HO_3.out, bq⟩
def impl_Due.f (k : Nat) (l0 : List (S34)) (a1 : Int) : Option (List (S34)) := (impl_cloneItems.f k l0).bind fun t => some (t.filter fun x => !decide (x.f2 < a1))
theorem impl_Due.mono : ∀ a0 a1 k, LeO (impl_Due.f k a0 a1) (impl_Due.f (k + 1) a0 a1) := by
 intro a0 a1 k
 unfold impl_Due.f
 exact LeO.bind (impl_cloneItems.mono _ _) (fun _ => LeO.refl _)
theorem impl_Due.calls (k : Nat) (A0 : Option Addr) (c0 : Nat) (l0 : List (S34)) (a1 : Int) (r : List (S34)) (w : World) (hr0 : Kd.C k34 w A0 l0.length l0) (hc0 : l0.length ≤ c0) (h : impl_Due.f k l0 a1 = some r) :
  Calls Try.prog 39 #[.slice A0 l0.length c0, .int .i64 a1] w fun e w' => ∃ v0_ : Value, e = .returned (v0_) ∧ Kd.S k34 34 w' w.heap.size (fun _ => True) v0_ r ∧ Below w.heap.size w w' := by
 unfold impl_Due.f at h
 replace h := zbi.1 h
 obtain ⟨t, ht, h⟩ := h
 obtain rfl := Option.some.inj h
 have HR := Aside0.mk hr0
 have HC := Aside0.mk hc0
 have F := Aside0.mk ht
 have eg : ∀ args w, (callFunc 97 args).run Try.prog w = .ok (.enter 97 args) w := enters_of Try.func97 (by kernel_rfl) rfl
 clear h ht hr0 hc0
 go_enter Try.func39, Try.ntmps39
 go_wp2_with (first | (go_at_call 96; (with_reducible refine (impl_cloneItems.calls k _ _ l0 t _ (zdk HR.out _) HC.out F.out).mono ?_); rintro e w1 ⟨v1, rfl, ho, hb⟩; have HS := Aside0.mk ho; have HB := Aside0.mk hb; clear ho hb; obtain ⟨A1, c1, e1⟩ := zbg (Kd.S_R HS.out); subst e1) | (go_at_call 95; refine Hid.out ?_))
 show Calls _ _ _ _ _
 have hsz : w.heap.size + 1 = (w.alloc (.cells #[.int .i64 a1] 3)).heap.size := by simp
 refine (items_delete (fun x => decide (x.f2 < a1)) _ _ w.heap.size _ (due_pred a1 w.heap.size) eg A1 c1 t w1 _ _ HS.out ?ho ?hne).mono ?_
 case ho => rw [HB.out.block _ (by omega)]; exact zgk w _
 case hne => intro e_; have h1 := Kd.S_base HS.out _ e_.symm; omega
 rintro e w2 ⟨v2, rfl, hs, hg, hv⟩
 go_wp2_with (fail "none")
 go_ret
 replace hsz : w.heap.size ≤ (w.alloc (.cells #[.int .i64 a1] 3)).heap.size := by omega
 exact ⟨_, rfl, zcs (zeq hs hsz) (fun _ _ => trivial), zcr (((zbj _ w).alloc (zaf _) _).trans (HB.out.mono hsz)) _ (zdd hsz HB.out.size) hg (fun k hk => zdd hsz (Kd.S_base HS.out k hk))⟩
end Go.Proofs.Ytlalkldjpniakaa.P
/- The queue's function values once more, where what they have caught is told by its cells. -/
namespace Go.Proofs.Ytlalkldjpniakaa.P
open Go.RowKit Go.Proofs.YtlalkldjpniakaaW.PrintWords Go.Proofs.YtlalkldjpniakaaW.PrintLast Go.Proofs.YtlalkldjpniakaaW.PrintMore
set_option linter.unusedVariables false
set_option linter.unusedSimpArgs false
set_option maxHeartbeats 8000000
set_option maxRecDepth 100000
theorem cell_same {w w' : World} {g : Nat} {o : Obj} (h : w.heap[g]? = some o) (h' : w'.heap[g]? = some o) (a : Addr) (e : a.block = g) : w'.cell? a = w.cell? a := by
  subst e
  simp [World.cell?, h, h']
theorem obj_of_cell {w : World} {a : Addr} {v : Value} (h : w.cell? a = some v) : ∃ o, w.heap[a.block]? = some o := by
  have := World.block_lt_of_cell? w a h
  exact ⟨_, Array.getElem?_eq_getElem this⟩
theorem queue_pred2 (r : ByteArray) (t : Int) (gc : Nat) (o : Obj) (w0 : World) (h0 : w0.heap[gc]? = some o) (c0 : w0.cell? ⟨gc, 0, none⟩ = some (.string r)) (c1 : w0.cell? ⟨gc, 1, none⟩ = some (.int .i64 t)) : PredI 100 #[.pointer (some ⟨gc, 0, none⟩)] gc o (likeI r t) := by
  intro W x A c ho
  have h0 := (cell_same h0 ho ⟨gc, 0, none⟩ rfl).trans c0
  have h1 := (cell_same (by assumption) ho ⟨gc, 1, none⟩ rfl).trans c1
  have hlt : gc < W.heap.size := (Array.getElem?_eq_some_iff.1 ho).1
  have hne : gc ≠ W.heap.size := by omega
  have hu34 := Try.underlying34
  clear ho
  obtain ⟨q0, q1, q2, q3⟩ := x
  show Calls Try.prog 100 #[.agg #[.string q0, .int .i64 q1, .int .i64 q2, .slice A q3.length c], .pointer (some ⟨gc, 0, none⟩)] W fun e w' => e = .returned (.bool (q0.toList == r.toList && q1 == t)) ∧ Below W.heap.size W w'
  cases e0 : (q0.toList == r.toList) with
  | true =>
    cases e1 : (q1 == t) with
    | true =>
      go_enter Try.func100, Try.ntmps100
      go_wp2
      all_goals (go_ret; exact ⟨by simp_all, (Below.refl _ W).alloc (Nat.le_refl _) _⟩)
    | false =>
      go_enter Try.func100, Try.ntmps100
      go_wp2
      all_goals (go_ret; exact ⟨by simp_all, (Below.refl _ W).alloc (Nat.le_refl _) _⟩)
  | false =>
    go_enter Try.func100, Try.ntmps100
    go_wp2
    all_goals (go_ret; exact ⟨by simp_all, (Below.refl _ W).alloc (Nat.le_refl _) _⟩)
end Go.Proofs.Ytlalkldjpniakaa.P
/- slices.Delete of one item, over a list of items of the call's own. -/
namespace Go.Proofs.Ytlalkldjpniakaa.P
open Go.RowKit Go.Proofs.YtlalkldjpniakaaW.PrintWords Go.Proofs.YtlalkldjpniakaaW.PrintLast Go.Proofs.YtlalkldjpniakaaW.PrintMore
set_option linter.unusedVariables false
set_option linter.unusedSimpArgs false
set_option maxHeartbeats 8000000
set_option maxRecDepth 100000
/-- What lies behind the row may be written. -/
theorem S_beyond {w : World} {base g n cap : Nat} {ok : Nat → Prop} {xs : List S34} (h : Kd.S k34 34 w base ok (.slice (some ⟨g, 0, none⟩) n cap) xs) (seg : List Value) (hs : n * 4 + seg.length ≤ cap * 4) :
    Kd.S k34 34 (w.setCells g (n * 4) seg) base ok (.slice (some ⟨g, 0, none⟩) n cap) xs ∧ w.grownBy (w.setCells g (n * 4) seg) (some g) := by
  have hg := grown_setCells4 w g (n * 4) seg
  refine ⟨?_, hg⟩
  obtain ⟨f, rows, hrl, hraw, hok, hM⟩ := raw_of_S h
  have hn := (Kd.R_reads' hraw).1
  obtain ⟨h0, inner, ho, hr⟩ := hraw
  refine S_of_raw (okr := fun k => some k = (Value.slice (some ⟨g, 0, none⟩) n cap).ownBlock) f hok ?_ hrl (fun j x c hx hc => Kd.M_step (hM j x c hx hc) (fun k hk hlt => hg.block k hlt (fun e => hk.1.2 (by rw [e]; rfl))))
  rcases ho.2 with ⟨hv, _⟩ | ⟨g2, cap2, cur2, hv, hb2, hh2, hnc2, hm2, hsz2, htk2⟩
  · cases hv
  injection hv with hva hvn hvc
  injection hva with hva
  injection hva with hvg
  subst hvg hvc
  have hsz : cap * 4 ≤ cur2.size := hsz2
  obtain ⟨cur', c1, c2, c3⟩ := setCells_row seg (n * 4) w cur2 hh2 (by omega)
  refine ⟨h0, inner, ⟨ho.1, .inr ⟨g, cap, cur', by rw [← hvn], hb2, c1, hnc2, hm2, by rw [c2]; exact hsz2, ?_⟩⟩, hr⟩
  rw [← htk2, c3, ← hvn]
  show (cur2.toList.take (n * 4) ++ seg ++ cur2.toList.drop (n * 4 + seg.length)).take (n * 4) = cur2.toList.take (n * 4)
  rw [List.append_assoc, List.take_append_of_le_length (by rw [List.length_take, Array.length_toList]; omega), List.take_take, Nat.min_self]
theorem S_room {w : World} {base g n cap : Nat} {ok : Nat → Prop} {xs : List S34} (h : Kd.S k34 34 w base ok (.slice (some ⟨g, 0, none⟩) n cap) xs) (j : Nat) (hj : j < cap * 4) :
    (w.cell? ⟨g, j, none⟩).isSome = true ∧ w.frozen? ⟨g, j, none⟩ = false := by
  obtain ⟨inner, ho⟩ := Kd.S_own h
  rcases ho.2 with ⟨hv, _⟩ | ⟨g2, cap2, cur2, hv, hb2, hh2, hnc2, hm2, hsz2, htk2⟩
  · cases hv
  injection hv with hva hvn hvc
  injection hva with hva
  injection hva with hvg
  subst hvg hvc
  have hsz : cap * 4 ≤ cur2.size := hsz2
  refine ⟨?_, blk_frozen hh2 j⟩
  rw [blk_cell hh2 j, Array.getElem?_eq_getElem (by omega)]; rfl
theorem items_erase (A : Option Addr) (c : Nat) (xs : List S34) (i : Nat) (hi : i < xs.length) (w : World) (base : Nat) (ok : Nat → Prop) (hS : Kd.S k34 34 w base ok (.slice A xs.length c) xs) :
    Calls Try.prog 105 #[.slice A xs.length c, .int .i64 (i : Int), .int .i64 ((i : Int) + 1)] w fun e w' => ∃ v' : Value, e = .returned v' ∧ Kd.S k34 34 w' base ok v' (xs.eraseIdx i) ∧ w.grownBy w' (Value.slice A xs.length c).ownBlock ∧ v'.ownBlock = (Value.slice A xs.length c).ownBlock := by
  have hu34 := Try.underlying34
  obtain ⟨g, cap, ev, hbg, hgl, _⟩ := Kd.S_form hS (by omega)
  have e2 : A = some ⟨g, 0, none⟩ ∧ c = cap := by
    injection ev with ea en ec
    exact ⟨ea, ec⟩
  obtain ⟨rfl, rfl⟩ := e2
  obtain ⟨_, hcap, hC⟩ := Kd.S_reads' hS
  have hlen := hC.2.1
  obtain ⟨n, hn⟩ : ∃ n, xs.length = n := ⟨_, rfl⟩
  have hrl : (xs.eraseIdx i).length = n - 1 := by rw [List.length_eraseIdx_of_lt hi, hn]
  rw [hn] at hi hS hcap hlen ⊢
  obtain ⟨ti, hti, hz⟩ := Option.map_eq_some_iff.1 info34
  simp only [Prod.mk.injEq] at hz
  have hb34 : base ≤ w.heap.size := by omega
  have HB34 := Aside0.mk hb34
  have HS := Aside0.mk hS
  have HI := Aside0.mk hi
  have HRL := Aside0.mk hrl
  have HCAP := Aside0.mk hcap
  have HLEN := Aside0.mk hlen
  obtain ⟨V, hcutV⟩ : ∃ V, ∀ W : World, (Instr.slice 25 (.slice (some ⟨g, 0, none⟩) n c) (some (.int .i64 (i : Int))) (some (.int .i64 ((i : Int) + 1))) (some (.int .i64 (n : Int)))).run Try.prog W = .ok V W := by
    refine ⟨sliced (some ⟨g, 0, none⟩) (i : Int).toNat ((i : Int) + 1).toNat (n : Int).toNat 4, fun W => ?_⟩
    have hel : Try.prog.elem 25 = 34 := by kernel_rfl
    have hzz : (Go.sizeOf 34).run Try.prog W = .ok 4 W := by kernel_rfl
    rw [run_slice_lhm W 25 _ _ _ (by rw [hel]; exact Try.underlying25) .i64 .i64 .i64 _ _ _ (by omega) (by omega) (by omega) (by omega), hel, hzz]
    rfl
  have hcut1 := cut_to (P := Try.prog) 25 34 .i64 Try.underlying25 hti (some ⟨g, 0, none⟩) n c (i : Int) (by omega) (by omega) hcap
  rw [Int.toNat_natCast] at hcut1
  have hcut2 := cut_from (P := Try.prog) 25 34 .i64 Try.underlying25 hti 4 hz.2.1 (some ⟨g, 0, none⟩) n c ((i : Int) + 1) (by omega) (by omega)
  rw [show ((i : Int) + 1).toNat = i + 1 by omega] at hcut2
  generalize hA2 : (if c = i + 1 then some (⟨g, 0, none⟩ : Addr) else (some (⟨g, 0, none⟩ : Addr)).map (·.add ((i + 1) * 4))) = A2 at hcut2
  have HA2 := Aside0.mk hA2
  have hcut3 : ∀ W : World, (Instr.slice 25 (.slice (some ⟨g, 0, none⟩) (n - 1) c) (some (.int .i64 ((n - 1 : Nat) : Int))) (some (.int .i64 (n : Int))) none).run Try.prog W = .ok (.slice (some ⟨g, (n - 1) * 4, none⟩) 1 (c - (n - 1))) W := by
    intro W
    have hel : Try.prog.elem 25 = 34 := by kernel_rfl
    have hzz : (Go.sizeOf 34).run Try.prog W = .ok 4 W := by kernel_rfl
    rw [run_slice_lh W 25 _ _ _ (by rw [hel]; exact Try.underlying25) .i64 .i64 _ _ (by omega) (by omega) (by omega), hel, hzz]
    have e3 : ¬ c = n - 1 := by omega
    have e4 : (n - (n - 1)) = 1 := by omega
    simp [Result.andThen, sliced, e3, e4, add_plain]
  have hne : ((i : Int) == (i : Int) + 1) = false := beq_eq_false_iff_ne.2 (by omega)
  have hnn : n - 1 ≤ c := by omega
  clear hS hC hcap hA2 hti hz ev hn hrl
  go_enter Try.func105, Try.ntmps105
  go_wp2
  clear hcutV hne hi hlen hbg hgl hnn hb34
  go_region_law ((refine Kd.S_delete_step k34 (w0 := w) base (by rfl) (.tmp 22) (.tmp 25) 25 34 rfl Try.underlying25 (by kernel_rfl) (g := g) (n := n) (c := c) (k := i) rfl rfl HA2.out.symm rfl (by (with_reducible repeat (first | apply Kd.S_drewN | apply Kd.S_drew)); exact HS.out) HI.out (by repeat (first | exact Below.refl _ _ | apply pw_below_drewN | apply below_drew1)) HB34.out ?_; intro w2 hs2 hb2 hg2; have HS2 := Aside0.mk hs2; have HB2 := Aside0.mk hb2; have HG2 := Aside0.mk hg2; clear hs2 hb2 hg2))
  have hi1 := HI.out
  have hcp := HCAP.out
  have hrun := fun ty => run_clear4 w2 ty g ((n - 1) * 4) 1 (c - (n - 1)) (by omega) (fun t ht => (S_room HS2.out _ (by omega)).1) (fun t ht => (S_room HS2.out _ (by omega)).2)
  have hsl := zeros4_length 1
  generalize zeros4 1 = seg at hrun hsl
  obtain ⟨hs3, hg3⟩ := S_beyond HS2.out seg (by rw [hsl]; omega)
  have HS3 := Aside0.mk hs3
  have HG3 := Aside0.mk (grown_trans HG2.out hg3)
  clear hs3 hg3 hsl hi1 hcp
  generalize w2.setCells g ((n - 1) * 4) seg = wz at hrun HS3 HG3
  go_wp2
  go_ret
  have hl : (n : Nat) - 1 = (xs.eraseIdx i).length := HRL.out.symm
  exact ⟨_, rfl, HS3.out, grown_below (by repeat (first | exact Below.refl _ _ | apply pw_below_drewN | apply below_drew1)) HG3.out, rfl⟩
end Go.Proofs.Ytlalkldjpniakaa.P
/- A variable of four cells written whole: its block is told. -/
namespace Go.Proofs.Ytlalkldjpniakaa.P
open Go.RowKit Go.Proofs.YtlalkldjpniakaaW.PrintWords Go.Proofs.YtlalkldjpniakaaW.PrintLast Go.Proofs.YtlalkldjpniakaaW.PrintMore
set_option linter.unusedVariables false
set_option linter.unusedSimpArgs false
set_option maxHeartbeats 8000000
set_option maxRecDepth 100000
theorem box_put3 {ops : Array Oper} {rest : List Oper} {o : Oper} {a : Act} {Q : Exit → Act → World → Prop} {W : World} (hN : o.dst = none) (hgd : o.guard = none) (p x : Operand) (ho : o.op = .store 34 p x) {g : Nat} {a0 a1 a2 a3 b0 b1 b2 b3 : Value}
    (haddr : a.eval p = .pointer (some ⟨g, 0, none⟩)) (hx : a.eval x = .agg #[b0, b1, b2, b3]) (hb : W.heap[g]? = some (.cells #[a0, a1, a2, a3] 34 (0, 0)))
    (h1 : ∀ u ∈ [b0, b1, b2, b3], u.oneCell' = true) (hc : (Value.agg #[b0, b1, b2, b3]).cells.toList = [b0, b1, b2, b3])
    (h : ∀ w1, W.grownBy w1 (some g) → w1.heap[g]? = some (.cells #[b0, b1, b2, b3] 34 (0, 0)) → wpList Try.prog ops Q rest a w1) : wpList Try.prog ops Q (o :: rest) a W := by
  obtain ⟨cur', c1, c2, c3⟩ := setCells_row [b0, b1, b2, b3] 0 W #[a0, a1, a2, a3] hb (by simp)
  have hcur : cur' = #[b0, b1, b2, b3] := by
    apply Array.toList_inj.1
    rw [c3]; rfl
  subst hcur
  have hrun : (Instr.storeAt 34 (.pointer (some ⟨g, 0, none⟩)) (.agg #[b0, b1, b2, b3])).run Try.prog W = .ok () (W.setCells g 0 [b0, b1, b2, b3]) :=
    run_store_run 34 _ _ hb hc (by kernel_rfl) (by simp) h1
  refine wpList_plain hgd fun K hK => ?_
  unfold Oper.wp execOp
  simp only [ho, haddr, hx, Sem.run_bind, Sem.run_pure, Result.andThen_ok, hrun]
  show K (a.put o.dst undef) _
  rw [hN]
  exact hK a _ (h _ (grown_setCells4 W g 0 _) c1)
end Go.Proofs.Ytlalkldjpniakaa.P
namespace Go.Proofs.Ytlalkldjpniakaa.P
open Go.RowKit Go.Proofs.YtlalkldjpniakaaW.PrintWords Go.Proofs.YtlalkldjpniakaaW.PrintLast Go.Proofs.YtlalkldjpniakaaW.PrintMore
attribute [local go_sem] zcm zcn zdi zdj zbz zca zco zcp   -- for this text's walks alone
set_option linter.unusedVariables false
set_option linter.unusedSimpArgs false
set_option maxHeartbeats 8000000
set_option maxRecDepth 100000

def impl_Take.f (k : Nat) (l0 : List (S34)) (a1 : ByteArray) : Option (ByteArray × Int × Int × List Int × List (S34) × Bool) := (impl_cloneItems.f k l0).bind fun t => if idxI (fun x => x.f0.toList == a1.toList) l0 < 0 then some (⟨#[]⟩, 0, 0, [], t, false) else if (idxI (fun x => x.f0.toList == a1.toList) l0).toNat < t.length then (impl_cloneItem.f (rd_T34 l0 (idxI (fun x => x.f0.toList == a1.toList) l0)).f0 (rd_T34 l0 (idxI (fun x => x.f0.toList == a1.toList) l0)).f1 (rd_T34 l0 (idxI (fun x => x.f0.toList == a1.toList) l0)).f2 (rd_T34 l0 (idxI (fun x => x.f0.toList == a1.toList) l0)).f3).bind fun u => some (u.1, u.2.1, u.2.2.1, u.2.2.2, t.eraseIdx (idxI (fun x => x.f0.toList == a1.toList) l0).toNat, true) else none
theorem impl_Take.mono : ∀ a0 a1 k, LeO (impl_Take.f k a0 a1) (impl_Take.f (k + 1) a0 a1) := by
 intro a0 a1 k
 unfold impl_Take.f
 exact LeO.bind (impl_cloneItems.mono _ _) (fun _ => LeO.refl _)
theorem impl_Take.calls (k : Nat) (A0 : Option Addr) (c0 : Nat) (l0 : List (S34)) (a1 : ByteArray) (r1 : ByteArray) (r2 : Int) (r3 : Int) (r4 : List Int) (r5 : List (S34)) (r6 : Bool) (w : World) (hr0 : Kd.C k34 w A0 l0.length l0) (hc0 : l0.length ≤ c0) (h : impl_Take.f k l0 a1 = some (r1, r2, r3, r4, r5, r6)) :
  Calls Try.prog 45 #[.slice A0 l0.length c0, .string a1] w fun e w' => ∃ v3_ v4_ : Value, e = .returned (.tuple #[.agg #[.string r1, .int .i64 r2, .int .i64 r3, v3_], v4_, .bool r6]) ∧ Kd.R (Kd.int .u8) 5 w' w.heap.size (fun _ => True) v3_ r4 ∧ Kd.S k34 34 w' w.heap.size (fun k_ => some k_ ≠ (v3_ : Value).ownBlock) v4_ r5 ∧ Below w.heap.size w w' := by
 have hu34 := Try.underlying34
 have eg : ∀ args w, (callFunc 103 args).run Try.prog w = .ok (.enter 103 args) w := enters_of Try.func103 (by kernel_rfl) rfl
 unfold impl_Take.f at h
 replace h := zbi.1 h
 obtain ⟨t, ht, h⟩ := h
 have HR := Aside0.mk hr0
 have HC := Aside0.mk hc0
 have F := Aside0.mk ht
 clear ht
 rcases idxI_cases (fun x => x.f0.toList == a1.toList) l0 with ⟨hix, _⟩ | ⟨kk, hkk, hix, _, _⟩
 ·rw [hix, if_pos (by omega)] at h
  have h := Option.some.inj h
  simp only [zcg] at h
  obtain ⟨rfl, rfl, rfl, rfl, rfl, rfl⟩ := h
  have HIX := Aside0.mk hix
  clear hr0 hc0 hix
  go_enter Try.func45, Try.ntmps45
  go_wp2_with (first | (refine jgd 4 ?_; refine bx 4 (#[.string (⟨#[]⟩ : ByteArray), .int .i64 0, .int .i64 0, .slice none 0 0]) 34 ?_; intro gb hgb w1 hbox hb; have BK1 := Aside0.mk hbox; have HT1 := Aside0.mk ((hb.block _ (by simp)).trans (zgk w (.cells #[.string a1] 9 (0, 0)))); have HB1 := Aside0.mk (zad ((zbj _ w).alloc (zaf _) _) hb); have HGB := Aside0.mk (show w.heap.size ≤ gb by rw [hgb]; simp); have HGL := Aside0.mk ((Array.getElem?_eq_some_iff.1 hbox).1); clear hbox hb hgb) | (go_at_call 96; have hcl := impl_cloneItems.calls k _ c0 l0 t w1 (zbb HR.out HB1.out) HC.out F.out; (try rw [HN.out] at hcl); refine hcl.mono ?_; clear hcl; rintro e w2 ⟨v1, rfl, ho, hb2⟩; have HS2 := Aside0.mk ho; have HB2 := Aside0.mk (zad HB1.out hb2); have BK2 := Aside0.mk ((hb2.block _ HGL.out).trans BK1.out); have HT2 := Aside0.mk ((hb2.block _ (Array.getElem?_eq_some_iff.1 HT1.out).1).trans HT1.out); have HBASE := Aside0.mk HB1.out.size; have H12 := Aside0.mk hb2.size; clear ho hb2; obtain ⟨A1, c1, e1⟩ := zbg (Kd.S_R HS2.out); subst e1) | (go_at_call 102; have hix := items_index (fun x => x.f0.toList == a1.toList) _ _ w.heap.size _ (take_pred a1 w.heap.size) eg _ c0 l0 w2 (zbb HR.out HB2.out) HC.out HT2.out; rw [HIX.out] at hix; (try rw [HN.out] at hix); refine hix.mono ?_; clear hix; rintro e w3 ⟨rfl, hb3⟩; have HB3 := Aside0.mk (zad HB2.out hb3); (try replace h0 := zbp HB3.out h0); (try replace h1 := zbp HB3.out h1); (try replace h2 := zbp HB3.out h2); (try replace h3 := zbp HB3.out h3); have BK3 := Aside0.mk ((hb3.block _ (Array.getElem?_eq_some_iff.1 BK2.out).1).trans BK2.out); have HS3 := Aside0.mk (zdn HS2.out hb3); have HGLE := Aside0.mk (zdd H12.out hb3.size); clear hb3) | ((with_reducible refine zdy (t := 34) (p := 4) rfl ?_); refine box_put3 rfl rfl (.tmp 4) (.tmp 16) rfl rfl rfl BK3.out (by intro u hu; simp only [zdc, zcf, zfh] at hu; rcases hu with rfl | rfl | rfl | rfl <;> rfl) rfl ?_; intro w4 hg4 hbw; have BW4 := Aside0.mk hbw; have HB4 := Aside0.mk (zcr HB3.out (some gb) HB3.out.size hg4 (fun k_ e => by injection e with e; rw [← e]; exact HGB.out)); have HS4 := Aside0.mk (Kd.S_grown (zfq HS3.out) hg4 (fun k_ hk_ e => by injection e with e; have h1 := hk_.2.1; have h2 := HGL.out; omega)); clear hg4 hbw))
  refine zeg (zfk rfl _ _ gb 34 #[.string (⟨#[]⟩ : ByteArray), .int .i64 0, .int .i64 0, .slice none 0 0] (0, 0) _ rfl BW4.out Try.underlying34 rfl (by kernel_rfl)) rfl ?_
  refine ⟨.slice none 0 0, .slice A1 _ c1, rfl, zgi _ _ _ _ _, ?_, HB4.out⟩
  exact zeq (zcs HS4.out (fun k_ hk_ e_ => by simp [Value.ownBlock] at e_)) HBASE.out
 ·rw [hix, if_neg (by omega), Int.toNat_natCast] at h
  by_cases hlt : kk < t.length
  ·rw [if_pos hlt] at h
   replace h := zbi.1 h
   obtain ⟨u, hu, h⟩ := h
   have h := Option.some.inj h
   obtain ⟨u1, u2, u3, u4⟩ := u
   simp only [zcg] at h
   obtain ⟨rfl, rfl, rfl, rfl, rfl, rfl⟩ := h
   obtain ⟨ad, A3, c3, rfl, h0, h1, h2, h3, hl3, hi3⟩ := at_T34 hr0 (kk : Int) (by omega) (by omega)
   simp only [Int.toNat_natCast] at h0 h1 h2 h3
   generalize rd_T34 l0 (kk : Int) = x at h0 h1 h2 h3 hl3 hi3 hu
   have HX3 := Aside0.mk hi3
   have HL3 := Aside0.mk hl3
   have HU := Aside0.mk hu
   have HIX := Aside0.mk hix
   have hkz : ¬ (kk : Int) < 0 := by omega
   have hlen := hr0.2.1
   have hkn : (kk : Int) < (l0.length : Int) := by omega
   have hkp : wrap64 ((kk : Int) + 1) = (kk : Int) + 1 := by unfold wrap64; omega
   have HKP := Aside0.mk hkp
   have HLT := Aside0.mk hlt
   have h0' := h0
   clear hr0 hc0 hix hi3 hl3 hu hlt hkp
   generalize hn : l0.length = n at hkn hlen ⊢
   have HN := Aside0.mk hn
   clear hn
   go_enter Try.func45, Try.ntmps45
   go_wp2_with (first | (refine jgd 4 ?_; refine bx 4 (#[.string (⟨#[]⟩ : ByteArray), .int .i64 0, .int .i64 0, .slice none 0 0]) 34 ?_; intro gb hgb w1 hbox hb; have BK1 := Aside0.mk hbox; have HT1 := Aside0.mk ((hb.block _ (by simp)).trans (zgk w (.cells #[.string a1] 9 (0, 0)))); have HB1 := Aside0.mk (zad ((zbj _ w).alloc (zaf _) _) hb); have HGB := Aside0.mk (show w.heap.size ≤ gb by rw [hgb]; simp); have HGL := Aside0.mk ((Array.getElem?_eq_some_iff.1 hbox).1); clear hbox hb hgb) | (go_at_call 96; have hcl := impl_cloneItems.calls k _ c0 l0 t w1 (zbb HR.out HB1.out) HC.out F.out; (try rw [HN.out] at hcl); refine hcl.mono ?_; clear hcl; rintro e w2 ⟨v1, rfl, ho, hb2⟩; have HS2 := Aside0.mk ho; have HB2 := Aside0.mk (zad HB1.out hb2); have BK2 := Aside0.mk ((hb2.block _ HGL.out).trans BK1.out); have HT2 := Aside0.mk ((hb2.block _ (Array.getElem?_eq_some_iff.1 HT1.out).1).trans HT1.out); have HBASE := Aside0.mk HB1.out.size; have H12 := Aside0.mk hb2.size; clear ho hb2; obtain ⟨A1, c1, e1⟩ := zbg (Kd.S_R HS2.out); subst e1) | (go_at_call 102; have hix := items_index (fun x => x.f0.toList == a1.toList) _ _ w.heap.size _ (take_pred a1 w.heap.size) eg _ c0 l0 w2 (zbb HR.out HB2.out) HC.out HT2.out; rw [HIX.out] at hix; (try rw [HN.out] at hix); refine hix.mono ?_; clear hix; rintro e w3 ⟨rfl, hb3⟩; have HB3 := Aside0.mk (zad HB2.out hb3); (try replace h0 := zbp HB3.out h0); (try replace h1 := zbp HB3.out h1); (try replace h2 := zbp HB3.out h2); (try replace h3 := zbp HB3.out h3); have BK3 := Aside0.mk ((hb3.block _ (Array.getElem?_eq_some_iff.1 BK2.out).1).trans BK2.out); have HS3 := Aside0.mk (zdn HS2.out hb3); have HGLE := Aside0.mk (zdd H12.out hb3.size); clear hb3) | (go_at_call 104; refine (impl_cloneItem.calls x.f0 x.f1 x.f2 A3 c3 x.f3 u1 u2 u3 u4 w3 (zbb HX3.out HB3.out) HL3.out HU.out).mono ?_; rintro e w4 ⟨v4, rfl, ho, hb4⟩; have HB4 := Aside0.mk (zad HB3.out hb4); have BK4 := Aside0.mk ((hb4.block _ (Array.getElem?_eq_some_iff.1 BK3.out).1).trans BK3.out); have HBASE3 := Aside0.mk (zci HGL.out HGLE.out); have HR4 := Aside0.mk (zak (Kd.R_bound (zeu rfl ho)) (fun k_ hk_ => zdv hk_.1 hk_.2.1) : (Kd.int .u8).R 5 w4 w3.heap.size (fun k_ => some k_ = v4.ownBlock ∧ w3.heap.size ≤ k_) v4 u4); have HS4 := Aside0.mk (zcs (zdn (zfq HS3.out) hb4) (fun k_ hk_ => (⟨fun e => by have h1 := zba ho k_ e.symm; have h2 := hk_.2.2.1; omega, hk_.2.1⟩ : some k_ ≠ v4.ownBlock ∧ w1.heap.size ≤ k_))); clear ho hb4; obtain ⟨A4, c4, e4⟩ := zbg HR4.out; subst e4) | (go_at_call 105; refine (items_erase A1 c1 t kk HLT.out w4 _ _ HS4.out).mono ?_; rintro e w5 ⟨v5, rfl, hs5, hg5, hv5⟩; have HB5 := Aside0.mk (zcr HB4.out _ HB4.out.size hg5 (fun k_ e => zdd HBASE.out (Kd.S_base HS4.out k_ e))); have HS5 := Aside0.mk hs5; have HR5 := Aside0.mk (Kd.R_grown HR4.out hg5 (fun k_ hk_ e => by have h1 := Kd.S_lt HS3.out k_ e.symm; have h2 := hk_.2; omega)); have BK5 := Aside0.mk ((hg5.block _ (Array.getElem?_eq_some_iff.1 BK4.out).1 (fun e => by have h1 := Kd.S_base HS4.out _ e.symm; have h2 := HGL.out; omega)).trans BK4.out); clear hs5 hg5 hv5) | ((with_reducible refine zdy (t := 34) (p := 4) rfl ?_); refine box_put3 rfl rfl (.tmp 4) (.tmp 22) rfl rfl rfl BK5.out (by intro u hu; simp only [zdc, zcf, zfh] at hu; rcases hu with rfl | rfl | rfl | rfl <;> rfl) rfl ?_; intro w6 hg6 hbw; have BW6 := Aside0.mk hbw; have HB6 := Aside0.mk (zcr HB5.out (some gb) HB5.out.size hg6 (fun k_ e => by injection e with e; rw [← e]; exact HGB.out)); have HS6 := Aside0.mk (Kd.S_grown HS5.out hg6 (fun k_ hk_ e => by injection e with e; have h1 := hk_.2; have h2 := HGL.out; omega)); have HR6 := Aside0.mk (Kd.R_grown HR5.out hg6 (fun k_ hk_ e => by injection e with e; have h1 := hk_.2; have h2 := HGL.out; have h3 := HBASE3.out; omega)); clear hg6 hbw))
   refine zeg (zfk rfl _ _ gb 34 #[.string u1, .int .i64 u2, .int .i64 u3, .slice A4 u4.length c4] (0, 0) _ rfl BW6.out Try.underlying34 rfl (by kernel_rfl)) rfl ?_
   exact ⟨.slice A4 _ c4, v5, rfl, zaw (zak HR6.out (fun _ _ => trivial)) HB3.out.size, zeq (Kd.S_drop HS6.out) HBASE.out, HB6.out⟩
  ·rw [if_neg hlt] at h
   cases h
def impl_in.f (a0 : Int) (a1 : Int) (a2 : Int) : Option (Bool) := if a0 ≥ a1 then (some (decide (a0 ≤ a2))) else (some false)
theorem impl_in.wk {P : Prop} (h : P := by
 go_enter Try.func91, Try.ntmps91
 go_wp2
 go_ret
 exact ⟨by first | rfl | (simp; done) | (simp [*]; done), by repeat (first | exact Drawn0.refl _ | apply Drawn0.step)⟩) : P := h
theorem impl_in.calls (a0 : Int) (a1 : Int) (a2 : Int) (r : Bool) (w : World) (h : impl_in.f a0 a1 a2 = some r) :
  Calls Try.prog 91 #[.int .i64 a0, .int .i64 a1, .int .i64 a2] w fun e w' => e = .returned (.bool r) ∧ Drawn0 w w' := by
 have H : (if a0 ≥ a1 then (some (decide (a0 ≤ a2))) else (some false)) = some r := h
 clear h
 by_cases c4 : a0 ≥ a1
 ·rw [if_pos c4] at H
  have c4b0 := zae c4
  clear c4
  obtain rfl := Option.some.inj H
  exact impl_in.wk
 ·rw [if_neg c4] at H
  have c4b0 := zas c4
  clear c4
  obtain rfl := Option.some.inj H
  exact impl_in.wk
def stringslite_IndexByte.f (a0 : ByteArray) (a1 : Int) : Option (Int) := some (Lib.indexByte a0.data.toList a1.toNat.toUInt8)
theorem stringslite_IndexByte.calls (a0 : ByteArray) (a1 : Int) (r : Int) (w : World) (h : stringslite_IndexByte.f a0 a1 = some r) :
  Calls Try.prog 149 #[.string a0, .int .u8 a1] w fun e w' => e = .returned (.int .i64 r) ∧ Drawn0 w w' := by
 obtain rfl := Option.some.inj h
 clear h
 go_enter Try.func149, Try.ntmps149
 go_wp2
 rw [run_callFunc_extern Try.func156 (by kernel_rfl) (by kernel_rfl) (by kernel_rfl) (e := Extern.BytealgIndexByte.indexByte) (by kernel_rfl), Lib.run_indexByteString]
 simp only [Result.andThen]
 rw [Oper.upon_value]
 go_wp2
 go_ret
 exact ⟨rfl, Drawn0.refl _⟩
def strings_IndexByte.f (a0 : ByteArray) (a1 : Int) : Option (Int) := (stringslite_IndexByte.f a0 a1).bind fun t177 => (some t177)
theorem strings_IndexByte.calls (a0 : ByteArray) (a1 : Int) (r : Int) (w : World) (h : strings_IndexByte.f a0 a1 = some r) :
  Calls Try.prog 137 #[.string a0, .int .u8 a1] w fun e w' => e = .returned (.int .i64 r) ∧ Drawn0 w w' := by
 have H : ((stringslite_IndexByte.f a0 a1).bind fun t177 => (some t177)) = some r := h
 clear h
 obtain ⟨t177, A3, H⟩ := bnd H
 obtain rfl := Option.some.inj H
 go_enter Try.func137, Try.ntmps137
 go_wp2_with (first | (refine jgc 149 ?_; refine jgs 7 Try.func149 #[.string a0, .int .u8 a1] ?_; (with_reducible refine (stringslite_IndexByte.calls a0 a1 t177 _ A3.out).mono ?_); rintro e w' ⟨rfl, ⟨nd, rfl⟩⟩; refine ⟨_, rfl, ?_⟩))
 go_ret
 exact ⟨by first | rfl | (simp; done) | (simp [*]; done), by repeat (first | exact Drawn0.refl _ | apply Drawn0.step)⟩
def impl_Unhex.l0 : Nat → ByteArray → List Int → Int → Option (List Int × Bool)
 | 0, _, _, _ => none
 | k + 1, x0, x4, x5 => if x5 < (x0.size : Int) then (if 0 ≤ x5 then ((strings_IndexByte.f (⟨#[48, 49, 50, 51, 52, 53, 54, 55, 56, 57, 97, 98, 99, 100, 101, 102]⟩ : ByteArray) (bt x0 x5)).bind fun t181 => (if 0 ≤ (wrap64 (x5 + 1)) then (if (wrap64 (x5 + 1)) < (x0.size : Int) then ((strings_IndexByte.f (⟨#[48, 49, 50, 51, 52, 53, 54, 55, 56, 57, 97, 98, 99, 100, 101, 102]⟩ : ByteArray) (bt x0 (wrap64 (x5 + 1)))).bind fun t182 => (if t181 < 0 then (some (([] : List Int), false)) else (if t182 < 0 then (some (([] : List Int), false)) else (if x4.length < 140737488355328 then (impl_Unhex.l0 k x0 (x4 ++ [(Go.bits .or .i64 (wrap64 (t181 * 16)) t182) % 256]) (wrap64 (x5 + 2))) else (none))))) else (none)) else (none))) else (none)) else (some (x4, true))
def impl_Unhex.f (k : Nat) (a0 : ByteArray) : Option (List Int × Bool) := if ((a0.size : Int) % 2) = 0 then (impl_Unhex.l0 k a0 (([] : List Int)) 0) else (some (([] : List Int), false))
theorem impl_Unhex.mono_l : ∀ k, (∀ y0 y1 y2, LeO (impl_Unhex.l0 k y0 y1 y2) (impl_Unhex.l0 (k + 1) y0 y1 y2))
 | 0 => fun _ _ _ r h => by simp [impl_Unhex.l0] at h
 | k + 1 => by
  have ih0 := impl_Unhex.mono_l k
  ·intro y0 y1 y2
   unfold impl_Unhex.l0
   exact mt
theorem impl_Unhex.mono : ∀ a0 k, LeO (impl_Unhex.f k a0) (impl_Unhex.f (k + 1) a0) := by
 intro a0 k
 have ih0 := impl_Unhex.mono_l k
 unfold impl_Unhex.f
 exact mt
theorem impl_Unhex.calls (k : Nat) (a0 : ByteArray) (r1 : List Int) (r2 : Bool) (w : World) (h : impl_Unhex.f k a0 = some (r1, r2)) :
  Calls Try.prog 108 #[.string a0] w fun e w' => ∃ v0_ : Value, e = .returned (.tuple #[v0_, .bool r2]) ∧ Kd.R (Kd.int .u8) 5 w' w.heap.size (fun _ => True) v0_ r1 ∧ Below w.heap.size w w' := by
 have HB := Aside0.mk (zbj w.heap.size w)
 have H : (if ((a0.size : Int) % 2) = 0 then (impl_Unhex.l0 k a0 (([] : List Int)) 0) else (some (([] : List Int), false))) = some (r1, r2) := h
 clear h
 by_cases c2 : ((a0.size : Int) % 2) = 0
 ·rw [if_pos c2] at H
  have c2b0 := beqT c2
  have c2b1 := zbe.mpr c2
  clear c2
  obtain ⟨y178, hy178⟩ : ∃ y_ : List Int, y_ = (([] : List Int)) := ⟨_, rfl⟩
  replace H : (impl_Unhex.l0 k a0 y178 0) = some (r1, r2) := jrw hy178 H
  have Ny178 := Aside0.mk hy178
  clear hy178
  have H' := Aside0.mk H
  clear H
  go_enter Try.func108, Try.ntmps108
  go_wp2_with (first | (refine jgd 12 ?_; refine jlt 12 (Kd.int .u8) 5 ?_; intro v179 w3 ho4 hb; have xb_ := below_ofs bq hb; (first | rw [← Ny178.out] at ho4 | (simp only [Int.reduceToNat] at ho4; rw [← Ny178.out] at ho4)); have n_ := jA2 (zaw ho4 (zah xb_)) (zad xb_ hb); clear HB; obtain ⟨HO180, HB⟩ := n_; clear xb_ hb ho4))
  repeat (go_quiet (first | (refine jgd 12 ?_; refine jlt 12 (Kd.int .u8) 5 ?_; intro v179 w3 ho4 hb; (first | rw [← Ny178.out] at ho4 | (simp only [Int.reduceToNat] at ho4; rw [← Ny178.out] at ho4)); have n_ := jA2 (zaw ho4 (zah bq)) (zad bq hb); clear HB; obtain ⟨HO180, HB⟩ := n_; clear hb ho4)); try go_wp2_with (first | (refine jgd 12 ?_; refine jlt 12 (Kd.int .u8) 5 ?_; intro v179 w3 ho4 hb; (first | rw [← Ny178.out] at ho4 | (simp only [Int.reduceToNat] at ho4; rw [← Ny178.out] at ho4)); have n_ := jA2 (zaw ho4 (zah bq)) (zad bq hb); clear HB; obtain ⟨HO180, HB⟩ := n_; clear hb ho4)))
  go_loopg [4, 5] k (fun kq v4 v5 w' => ∃ (x4_1 : List Int) (x5_1 : Int), v5 = .int .i64 x5_1 ∧ Aside0 (impl_Unhex.l0 kq a0 x4_1 x5_1 = some (r1, r2)) ∧ Aside0 (kq ≤ k) ∧ Aside0 (Kd.R (Kd.int .u8) 5 w' w.heap.size (fun _ => True) v4 x4_1) ∧ Aside0 (Below w.heap.size w w'))
  case atStart => exact ⟨(y178), (0), jer, H', ⟨zaf _⟩, ⟨pR HO180.out⟩, ⟨bq⟩⟩
  case round =>
   clear H'
   try clear c1
   try clear c2
   try clear c2b0
   try clear c2b1
   try clear p2
   obtain ⟨x4_1, x5_1, rfl, HA, HK1, HO_4, HB⟩ := hrel
   cases gk with
   | zero => exact absurd HA.out (by simp [impl_Unhex.l0])
   | succ k1 =>
    have H := HA.out
    clear HA
    simp only [impl_Unhex.l0] at H
    by_cases c5 : x5_1 < (a0.size : Int)
    ·rw [if_pos c5] at H
     have c5b0 := zae c5
     clear c5
     by_cases c6 : 0 ≤ x5_1
     ·rw [if_pos c6] at H
      have c6b0 := zae c6
      clear c6
      obtain ⟨t181, A8, H⟩ := bnd H
      obtain ⟨ji9, hji9⟩ : ∃ j_ : Int, (wrap64 (x5_1 + 1)) = j_ := ⟨_, rfl⟩
      replace H : (if 0 ≤ (ji9) then (if (ji9) < (a0.size : Int) then ((strings_IndexByte.f (⟨#[48, 49, 50, 51, 52, 53, 54, 55, 56, 57, 97, 98, 99, 100, 101, 102]⟩ : ByteArray) (bt a0 (ji9))).bind fun t182 => (if t181 < 0 then (some (([] : List Int), false)) else (if t182 < 0 then (some (([] : List Int), false)) else (if x4_1.length < 140737488355328 then (impl_Unhex.l0 k1 a0 (x4_1 ++ [(Go.bits .or .i64 (wrap64 (t181 * 16)) t182) % 256]) (wrap64 (x5_1 + 2))) else (none))))) else (none)) else (none)) = some (r1, r2) := by first | (rw [hji9] at H; exact H) | (simp only [hji9] at H ⊢; exact H)
      (try rw [hji9] at A8)
      have hji9w : (IntKind.i64.wrap (x5_1 + 1)) = ji9 := (i64_w _).trans hji9
      by_cases c10 : 0 ≤ (ji9)
      ·rw [if_pos c10] at H
       have c10b0 := zae c10
       clear c10
       by_cases c11 : (ji9) < (a0.size : Int)
       ·rw [if_pos c11] at H
        have c11b0 := zae c11
        clear c11
        obtain ⟨t182, A13, H⟩ := bnd H
        by_cases c14 : t181 < 0
        ·rw [if_pos c14] at H
         have c14b0 := zae c14
         clear c14
         simp only [zbx, zcg] at H
         obtain ⟨rfl, rfl⟩ := H
         have p7 : 0 ≤ (x5_1 : Int) := zaa jab
         have q7 : x5_1 < (a0.size : Int) := zaa jab
         have hx7 := bt_at a0 x5_1
         replace p7 := zay p7
         replace q7 := zay q7
         go_wp2_with (first | (go_at_call 137; (with_reducible refine (strings_IndexByte.calls (⟨#[48, 49, 50, 51, 52, 53, 54, 55, 56, 57, 97, 98, 99, 100, 101, 102]⟩ : ByteArray) (bt a0 x5_1) t181 _ A8.out).mono ?_); rintro e w' ⟨rfl, ⟨nd, rfl⟩⟩; (try first | exact ⟨rfl, _, zam _ _ _⟩ | exact ⟨rfl, _, zei (zam _ _ _) (zee (World.drewN _) (zcb _ _ _))⟩); have p12 : 0 ≤ ((ji9) : Int) := zaa jab; have q12 : (ji9) < (a0.size : Int) := zaa jab; have hx12 := bt_at a0 (ji9); replace p12 := zay p12; replace q12 := zay q12) | (go_at_call 137; (with_reducible refine (strings_IndexByte.calls (⟨#[48, 49, 50, 51, 52, 53, 54, 55, 56, 57, 97, 98, 99, 100, 101, 102]⟩ : ByteArray) (bt a0 (ji9)) t182 _ A13.out).mono ?_); rintro e w' ⟨rfl, ⟨nd, rfl⟩⟩; (try first | exact ⟨rfl, _, zam _ _ _⟩ | exact ⟨rfl, _, zei (zam _ _ _) (zee (World.drewN _) (zcb _ _ _))⟩)))
         repeat (go_quiet (first | (go_at_call 137; (with_reducible refine (strings_IndexByte.calls (⟨#[48, 49, 50, 51, 52, 53, 54, 55, 56, 57, 97, 98, 99, 100, 101, 102]⟩ : ByteArray) (bt a0 x5_1) t181 _ A8.out).mono ?_); rintro e w' ⟨rfl, ⟨nd, rfl⟩⟩; (try first | exact ⟨rfl, _, zam _ _ _⟩ | exact ⟨rfl, _, zei (zam _ _ _) (zee (World.drewN _) (zcb _ _ _))⟩); have p12 : 0 ≤ ((ji9) : Int) := zaa jab; have q12 : (ji9) < (a0.size : Int) := zaa jab; have hx12 := bt_at a0 (ji9); replace p12 := zay p12; replace q12 := zay q12) | (go_at_call 137; (with_reducible refine (strings_IndexByte.calls (⟨#[48, 49, 50, 51, 52, 53, 54, 55, 56, 57, 97, 98, 99, 100, 101, 102]⟩ : ByteArray) (bt a0 (ji9)) t182 _ A13.out).mono ?_); rintro e w' ⟨rfl, ⟨nd, rfl⟩⟩; (try first | exact ⟨rfl, _, zam _ _ _⟩ | exact ⟨rfl, _, zei (zam _ _ _) (zee (World.drewN _) (zcb _ _ _))⟩))); try go_wp2_with (first | (go_at_call 137; (with_reducible refine (strings_IndexByte.calls (⟨#[48, 49, 50, 51, 52, 53, 54, 55, 56, 57, 97, 98, 99, 100, 101, 102]⟩ : ByteArray) (bt a0 x5_1) t181 _ A8.out).mono ?_); rintro e w' ⟨rfl, ⟨nd, rfl⟩⟩; (try first | exact ⟨rfl, _, zam _ _ _⟩ | exact ⟨rfl, _, zei (zam _ _ _) (zee (World.drewN _) (zcb _ _ _))⟩); have p12 : 0 ≤ ((ji9) : Int) := zaa jab; have q12 : (ji9) < (a0.size : Int) := zaa jab; have hx12 := bt_at a0 (ji9); replace p12 := zay p12; replace q12 := zay q12) | (go_at_call 137; (with_reducible refine (strings_IndexByte.calls (⟨#[48, 49, 50, 51, 52, 53, 54, 55, 56, 57, 97, 98, 99, 100, 101, 102]⟩ : ByteArray) (bt a0 (ji9)) t182 _ A13.out).mono ?_); rintro e w' ⟨rfl, ⟨nd, rfl⟩⟩; (try first | exact ⟨rfl, _, zam _ _ _⟩ | exact ⟨rfl, _, zei (zam _ _ _) (zee (World.drewN _) (zcb _ _ _))⟩))))
         go_ret2
         exact ⟨_, by first | rfl | (simp [errW_none, errW_some] <;> rfl) | (simp only [← hji9]; first | rfl | (simp [errW_none, errW_some] <;> rfl)) | (simp [*, errW_none, errW_some] <;> rfl), by first | exact zgi _ _ _ _ _ | exact Kd.N_nil _ _ _ _ _ | exact Kd.V_nil _ _ _ _ _ | exact Kd.Q_nil _ _ _ _ _ | exact Kd.S_nil _ _ _ _ _, bq⟩
        ·rw [if_neg c14] at H
         have c14b0 := zas c14
         clear c14
         by_cases c15 : t182 < 0
         ·rw [if_pos c15] at H
          have c15b0 := zae c15
          clear c15
          simp only [zbx, zcg] at H
          obtain ⟨rfl, rfl⟩ := H
          have p7 : 0 ≤ (x5_1 : Int) := zaa jab
          have q7 : x5_1 < (a0.size : Int) := zaa jab
          have hx7 := bt_at a0 x5_1
          replace p7 := zay p7
          replace q7 := zay q7
          go_wp2_with (first | (go_at_call 137; (with_reducible refine (strings_IndexByte.calls (⟨#[48, 49, 50, 51, 52, 53, 54, 55, 56, 57, 97, 98, 99, 100, 101, 102]⟩ : ByteArray) (bt a0 x5_1) t181 _ A8.out).mono ?_); rintro e w' ⟨rfl, ⟨nd, rfl⟩⟩; (try first | exact ⟨rfl, _, zam _ _ _⟩ | exact ⟨rfl, _, zei (zam _ _ _) (zee (World.drewN _) (zcb _ _ _))⟩); have p12 : 0 ≤ ((ji9) : Int) := zaa jab; have q12 : (ji9) < (a0.size : Int) := zaa jab; have hx12 := bt_at a0 (ji9); replace p12 := zay p12; replace q12 := zay q12) | (go_at_call 137; (with_reducible refine (strings_IndexByte.calls (⟨#[48, 49, 50, 51, 52, 53, 54, 55, 56, 57, 97, 98, 99, 100, 101, 102]⟩ : ByteArray) (bt a0 (ji9)) t182 _ A13.out).mono ?_); rintro e w' ⟨rfl, ⟨nd, rfl⟩⟩; (try first | exact ⟨rfl, _, zam _ _ _⟩ | exact ⟨rfl, _, zei (zam _ _ _) (zee (World.drewN _) (zcb _ _ _))⟩)))
          repeat (go_quiet (first | (go_at_call 137; (with_reducible refine (strings_IndexByte.calls (⟨#[48, 49, 50, 51, 52, 53, 54, 55, 56, 57, 97, 98, 99, 100, 101, 102]⟩ : ByteArray) (bt a0 x5_1) t181 _ A8.out).mono ?_); rintro e w' ⟨rfl, ⟨nd, rfl⟩⟩; (try first | exact ⟨rfl, _, zam _ _ _⟩ | exact ⟨rfl, _, zei (zam _ _ _) (zee (World.drewN _) (zcb _ _ _))⟩); have p12 : 0 ≤ ((ji9) : Int) := zaa jab; have q12 : (ji9) < (a0.size : Int) := zaa jab; have hx12 := bt_at a0 (ji9); replace p12 := zay p12; replace q12 := zay q12) | (go_at_call 137; (with_reducible refine (strings_IndexByte.calls (⟨#[48, 49, 50, 51, 52, 53, 54, 55, 56, 57, 97, 98, 99, 100, 101, 102]⟩ : ByteArray) (bt a0 (ji9)) t182 _ A13.out).mono ?_); rintro e w' ⟨rfl, ⟨nd, rfl⟩⟩; (try first | exact ⟨rfl, _, zam _ _ _⟩ | exact ⟨rfl, _, zei (zam _ _ _) (zee (World.drewN _) (zcb _ _ _))⟩))); try go_wp2_with (first | (go_at_call 137; (with_reducible refine (strings_IndexByte.calls (⟨#[48, 49, 50, 51, 52, 53, 54, 55, 56, 57, 97, 98, 99, 100, 101, 102]⟩ : ByteArray) (bt a0 x5_1) t181 _ A8.out).mono ?_); rintro e w' ⟨rfl, ⟨nd, rfl⟩⟩; (try first | exact ⟨rfl, _, zam _ _ _⟩ | exact ⟨rfl, _, zei (zam _ _ _) (zee (World.drewN _) (zcb _ _ _))⟩); have p12 : 0 ≤ ((ji9) : Int) := zaa jab; have q12 : (ji9) < (a0.size : Int) := zaa jab; have hx12 := bt_at a0 (ji9); replace p12 := zay p12; replace q12 := zay q12) | (go_at_call 137; (with_reducible refine (strings_IndexByte.calls (⟨#[48, 49, 50, 51, 52, 53, 54, 55, 56, 57, 97, 98, 99, 100, 101, 102]⟩ : ByteArray) (bt a0 (ji9)) t182 _ A13.out).mono ?_); rintro e w' ⟨rfl, ⟨nd, rfl⟩⟩; (try first | exact ⟨rfl, _, zam _ _ _⟩ | exact ⟨rfl, _, zei (zam _ _ _) (zee (World.drewN _) (zcb _ _ _))⟩))))
          go_ret2
          exact ⟨_, by first | rfl | (simp [errW_none, errW_some] <;> rfl) | (simp only [← hji9]; first | rfl | (simp [errW_none, errW_some] <;> rfl)) | (simp [*, errW_none, errW_some] <;> rfl), by first | exact zgi _ _ _ _ _ | exact Kd.N_nil _ _ _ _ _ | exact Kd.V_nil _ _ _ _ _ | exact Kd.Q_nil _ _ _ _ _ | exact Kd.S_nil _ _ _ _ _, bq⟩
         ·rw [if_neg c15] at H
          have c15b0 := zas c15
          clear c15
          by_cases c16 : x4_1.length < 140737488355328
          ·rw [if_pos c16] at H
           have LMc16 := Aside0.mk c16
           clear c16
           obtain ⟨y183, hy183⟩ : ∃ y_ : List Int, y_ = (x4_1 ++ [(Go.bits .or .i64 (wrap64 (t181 * 16)) t182) % 256]) := ⟨_, rfl⟩
           replace H : (impl_Unhex.l0 k1 a0 y183 (wrap64 (x5_1 + 2))) = some (r1, r2) := jrw hy183 H
           have Ny183 := Aside0.mk hy183
           clear hy183
           have H' := Aside0.mk H
           clear H
           have p7 : 0 ≤ (x5_1 : Int) := zaa jab
           have q7 : x5_1 < (a0.size : Int) := zaa jab
           have hx7 := bt_at a0 x5_1
           replace p7 := zay p7
           replace q7 := zay q7
           go_wp2_with (first | (go_at_call 137; (with_reducible refine (strings_IndexByte.calls (⟨#[48, 49, 50, 51, 52, 53, 54, 55, 56, 57, 97, 98, 99, 100, 101, 102]⟩ : ByteArray) (bt a0 x5_1) t181 _ A8.out).mono ?_); rintro e w' ⟨rfl, ⟨nd, rfl⟩⟩; (try first | exact ⟨rfl, _, zam _ _ _⟩ | exact ⟨rfl, _, zei (zam _ _ _) (zee (World.drewN _) (zcb _ _ _))⟩); have p12 : 0 ≤ ((ji9) : Int) := zaa jab; have q12 : (ji9) < (a0.size : Int) := zaa jab; have hx12 := bt_at a0 (ji9); replace p12 := zay p12; replace q12 := zay q12) | (go_at_call 137; (with_reducible refine (strings_IndexByte.calls (⟨#[48, 49, 50, 51, 52, 53, 54, 55, 56, 57, 97, 98, 99, 100, 101, 102]⟩ : ByteArray) (bt a0 (ji9)) t182 _ A13.out).mono ?_); rintro e w' ⟨rfl, ⟨nd, rfl⟩⟩; (try first | exact ⟨rfl, _, zam _ _ _⟩ | exact ⟨rfl, _, zei (zam _ _ _) (zee (World.drewN _) (zcb _ _ _))⟩)) | ((with_reducible refine zbw (b := .append) (xs := #[.tmp 34, .tmp 40]) rfl ?_); at_builtin; refine Kd.R_append (Kd.int .u8) (w0 := w) w.heap.size rfl (.tmp 34) (.tmp 40) 29 5 (.int .u8 0) 1 rfl Try.underlying29 info5 rfl (by decide) (by omega) u4 x4_1 ((Go.bits .or .i64 (wrap64 (t181 * 16)) t182) % 256) [.int .u8 ((Go.bits .or .i64 (wrap64 (t181 * 16)) t182) % 256)] (fun _ => True) (fun _ => False) rfl rfl ?aP (fun _ hk => hk.elim) ?aF ?aO ?aB ?aS ?aL ?_; (case aP => exact rfl); (case aB => exact bq); (case aF => exact (fun _ _ => trivial)); (case aO => exact (pR HO_4.out)); (case aS => exact (zah bq)); (case aL => have := LMc16.out; omega); intro v184 w17 ho hb hg hat; rw [← Ny183.out] at ho; have n_ := jA2 (hb) (ho); clear HB HO_4; obtain ⟨HB, HO185⟩ := n_; clear ho hb hg hat))
           repeat (go_quiet (first | (go_at_call 137; (with_reducible refine (strings_IndexByte.calls (⟨#[48, 49, 50, 51, 52, 53, 54, 55, 56, 57, 97, 98, 99, 100, 101, 102]⟩ : ByteArray) (bt a0 x5_1) t181 _ A8.out).mono ?_); rintro e w' ⟨rfl, ⟨nd, rfl⟩⟩; (try first | exact ⟨rfl, _, zam _ _ _⟩ | exact ⟨rfl, _, zei (zam _ _ _) (zee (World.drewN _) (zcb _ _ _))⟩); have p12 : 0 ≤ ((ji9) : Int) := zaa jab; have q12 : (ji9) < (a0.size : Int) := zaa jab; have hx12 := bt_at a0 (ji9); replace p12 := zay p12; replace q12 := zay q12) | (go_at_call 137; (with_reducible refine (strings_IndexByte.calls (⟨#[48, 49, 50, 51, 52, 53, 54, 55, 56, 57, 97, 98, 99, 100, 101, 102]⟩ : ByteArray) (bt a0 (ji9)) t182 _ A13.out).mono ?_); rintro e w' ⟨rfl, ⟨nd, rfl⟩⟩; (try first | exact ⟨rfl, _, zam _ _ _⟩ | exact ⟨rfl, _, zei (zam _ _ _) (zee (World.drewN _) (zcb _ _ _))⟩)) | ((with_reducible refine zbw (b := .append) (xs := #[.tmp 34, .tmp 40]) rfl ?_); at_builtin; refine Kd.R_append (Kd.int .u8) (w0 := w) w.heap.size rfl (.tmp 34) (.tmp 40) 29 5 (.int .u8 0) 1 rfl Try.underlying29 info5 rfl (by decide) (by omega) u4 x4_1 ((Go.bits .or .i64 (wrap64 (t181 * 16)) t182) % 256) [.int .u8 ((Go.bits .or .i64 (wrap64 (t181 * 16)) t182) % 256)] (fun _ => True) (fun _ => False) rfl rfl ?aP (fun _ hk => hk.elim) ?aF ?aO ?aB ?aS ?aL ?_; (case aP => exact rfl); (case aB => exact bq); (case aF => exact (fun _ _ => trivial)); (case aO => exact (pR HO_4.out)); (case aS => exact (zah bq)); (case aL => have := LMc16.out; omega); intro v184 w17 ho hb hg hat; rw [← Ny183.out] at ho; have n_ := jA2 (hb) (ho); clear HB HO_4; obtain ⟨HB, HO185⟩ := n_; clear ho hb hg hat)); try go_wp2_with (first | (go_at_call 137; (with_reducible refine (strings_IndexByte.calls (⟨#[48, 49, 50, 51, 52, 53, 54, 55, 56, 57, 97, 98, 99, 100, 101, 102]⟩ : ByteArray) (bt a0 x5_1) t181 _ A8.out).mono ?_); rintro e w' ⟨rfl, ⟨nd, rfl⟩⟩; (try first | exact ⟨rfl, _, zam _ _ _⟩ | exact ⟨rfl, _, zei (zam _ _ _) (zee (World.drewN _) (zcb _ _ _))⟩); have p12 : 0 ≤ ((ji9) : Int) := zaa jab; have q12 : (ji9) < (a0.size : Int) := zaa jab; have hx12 := bt_at a0 (ji9); replace p12 := zay p12; replace q12 := zay q12) | (go_at_call 137; (with_reducible refine (strings_IndexByte.calls (⟨#[48, 49, 50, 51, 52, 53, 54, 55, 56, 57, 97, 98, 99, 100, 101, 102]⟩ : ByteArray) (bt a0 (ji9)) t182 _ A13.out).mono ?_); rintro e w' ⟨rfl, ⟨nd, rfl⟩⟩; (try first | exact ⟨rfl, _, zam _ _ _⟩ | exact ⟨rfl, _, zei (zam _ _ _) (zee (World.drewN _) (zcb _ _ _))⟩)) | ((with_reducible refine zbw (b := .append) (xs := #[.tmp 34, .tmp 40]) rfl ?_); at_builtin; refine Kd.R_append (Kd.int .u8) (w0 := w) w.heap.size rfl (.tmp 34) (.tmp 40) 29 5 (.int .u8 0) 1 rfl Try.underlying29 info5 rfl (by decide) (by omega) u4 x4_1 ((Go.bits .or .i64 (wrap64 (t181 * 16)) t182) % 256) [.int .u8 ((Go.bits .or .i64 (wrap64 (t181 * 16)) t182) % 256)] (fun _ => True) (fun _ => False) rfl rfl ?aP (fun _ hk => hk.elim) ?aF ?aO ?aB ?aS ?aL ?_; (case aP => exact rfl); (case aB => exact bq); (case aF => exact (fun _ _ => trivial)); (case aO => exact (pR HO_4.out)); (case aS => exact (zah bq)); (case aL => have := LMc16.out; omega); intro v184 w17 ho hb hg hat; rw [← Ny183.out] at ho; have n_ := jA2 (hb) (ho); clear HB HO_4; obtain ⟨HB, HO185⟩ := n_; clear ho hb hg hat)))
           go_roundg k1
           case measure => have := HK1.out; omega
           case rel => exact ⟨(y183), (wrap64 (x5_1 + 2)), jer, H', ⟨by have := HK1.out; omega⟩, ⟨pR HO185.out⟩, ⟨bq⟩⟩
          ·rw [if_neg c16] at H
           exact absurd H (by simp)
       ·rw [if_neg c11] at H
        exact absurd H (by simp)
      ·rw [if_neg c10] at H
       exact absurd H (by simp)
     ·rw [if_neg c6] at H
      exact absurd H (by simp)
    ·rw [if_neg c5] at H
     have c5b0 := zas c5
     clear c5
     simp only [zbx, zcg] at H
     obtain ⟨rfl, rfl⟩ := H
     go_wp2
     repeat (go_quiet (fail); try go_wp2)
     go_ret2
     exact ⟨_, jex, by (with_reducible repeat (first | apply zap | apply zaq | apply zav)); exact HO_4.out, bq⟩
 ·rw [if_neg c2] at H
  have c2b0 := zax.mpr c2
  have c2b1 := zdb.mpr c2
  simp only [zbx, zcg] at H
  obtain ⟨rfl, rfl⟩ := H
  go_enter Try.func108, Try.ntmps108
  go_wp2
  repeat (go_quiet (fail); try go_wp2)
  go_ret2
  exact ⟨_, jex, by first | exact zgi _ _ _ _ _ | exact Kd.N_nil _ _ _ _ _ | exact Kd.V_nil _ _ _ _ _ | exact Kd.Q_nil _ _ _ _ _ | exact Kd.S_nil _ _ _ _ _, bq⟩
def impl_isRoute.f (k : Nat) (a0 : ByteArray) : Option (Bool) := (impl_Unhex.f k a0).bind fun bt186 => (if bt186.2 = true then (some ((a0.size : Int) == 16)) else (some false))
theorem impl_isRoute.mono : ∀ a0 k, LeO (impl_isRoute.f k a0) (impl_isRoute.f (k + 1) a0) := by
 intro a0 k
 unfold impl_isRoute.f
 have m0 := @impl_Unhex.mono
 exact mt
theorem impl_isRoute.wk {P : Prop} (h : P := by
 go_enter Try.func90, Try.ntmps90
 go_wp2_with (first | (refine jgc 108 ?_; refine jgs 7 Try.func108 #[.string a0] ?_; (with_reducible refine (impl_Unhex.calls k a0 t186 _ _ A2.out).mono ?_); rintro e w_ ⟨v188, rfl, ho0, hb⟩; refine ⟨_, rfl, ?_⟩; have xb_ := below_ofs bq hb; have n_ := jA2 (zaw ho0 (zah xb_)) (zad xb_ hb); clear HB; obtain ⟨HO189, HB⟩ := n_; clear xb_ hb ho0))
 go_ret
 exact ⟨jex, bq⟩) : P := h
theorem impl_isRoute.calls (k : Nat) (a0 : ByteArray) (r : Bool) (w : World) (h : impl_isRoute.f k a0 = some r) :
  Calls Try.prog 90 #[.string a0] w fun e w' => e = .returned (.bool r) ∧ Below w.heap.size w w' := by
 have HB := Aside0.mk (zbj w.heap.size w)
 have H : ((impl_Unhex.f k a0).bind fun bt186 => (if bt186.2 = true then (some ((a0.size : Int) == 16)) else (some false))) = some r := h
 clear h
 obtain ⟨⟨t186, t187⟩, A2, H⟩ := bnd H
 try dsimp only at H
 by_cases c3 : t187 = true
 ·subst c3
  rw [if_pos rfl] at H
  obtain rfl := Option.some.inj H
  exact impl_isRoute.wk
 ·replace c3 := zcd.mpr c3
  subst c3
  rw [if_neg (show ¬ (false = true) by decide)] at H
  obtain rfl := Option.some.inj H
  exact impl_isRoute.wk
def impl_ItemOk.f (k : Nat) (a0_0 : ByteArray) (a0_1 : Int) (a0_2 : Int) (l0_3 : List Int) : Option (Bool) := (impl_isRoute.f k a0_0).bind fun t191 => (if t191 = true then ((impl_in.f a0_1 0 9).bind fun t192 => (if t192 = true then ((impl_in.f a0_2 0 100000).bind fun t193 => (if t193 = true then (some (decide ((l0_3.length : Int) ≤ 1560))) else (some false))) else (some false))) else (some false))
theorem impl_ItemOk.mono : ∀ a0 a1 a2 a3 k, LeO (impl_ItemOk.f k a0 a1 a2 a3) (impl_ItemOk.f (k + 1) a0 a1 a2 a3) := by
 intro a0 a1 a2 a3 k
 unfold impl_ItemOk.f
 have m0 := @impl_isRoute.mono
 exact mt
theorem impl_ItemOk.wk {P : Prop} (h : P := by
 go_enter Try.func26, Try.ntmps26
 go_wp2_with (first | (refine jgd 1 ?_; (try (refine gate_guard (by rfl) ?_; dsimp only)); refine bx 1 (#[.string a0_0, .int .i64 a0_1, .int .i64 a0_2, .slice A0_3 l0_3.length c0_3]) 34 ?_; intro gb190 hg w_ hbox hb; have xb_ := below_ofs bq hb; have n_ := jA4 (zad xb_ hb) (hbox) (ge0 hg xb_ : w.heap.size ≤ gb190) (ge0 hg xb_ : w.heap.size ≤ gb190); clear HB; obtain ⟨HB, BK190, GW190, GE190⟩ := n_; clear xb_ hb hbox hg; obtain ⟨c0, c1, c2, c3, z0, z1, z2, z3⟩ := cz4 BK190.out) | (refine jgc 90 ?_; refine jgs 5 Try.func90 #[.string a0_0] ?_; (with_reducible refine (impl_isRoute.calls k a0_0 _ _ A2.out).mono ?_); rintro e w_ ⟨rfl, hb⟩; refine ⟨_, rfl, ?_⟩; have n_ := jA2 (jbb BK190.out hb) (zad (bs1 GE190.out) hb); clear BK190 HB; obtain ⟨BK190, HB⟩ := n_; (try clear hb); (try clear hb2); (try clear hk); (try clear hi); obtain ⟨c0, c1, c2, c3, z0, z1, z2, z3⟩ := cz4 BK190.out) | (go_at_call 91; (with_reducible refine (impl_in.calls a0_1 0 9 _ _ A4.out).mono ?_); rintro e w' ⟨rfl, ⟨nd, rfl⟩⟩) | (go_at_call 91; (with_reducible refine (impl_in.calls a0_2 0 100000 _ _ A6.out).mono ?_); rintro e w' ⟨rfl, ⟨nd, rfl⟩⟩))
 go_ret
 exact ⟨jex, (bs1 GE190.out)⟩) : P := h
theorem impl_ItemOk.calls (k : Nat) (a0_0 : ByteArray) (a0_1 : Int) (a0_2 : Int) (A0_3 : Option Addr) (c0_3 : Nat) (l0_3 : List Int) (r : Bool) (w : World) (hr0_3 : Kd.C (Kd.int .u8) w A0_3 l0_3.length l0_3) (hc0_3 : l0_3.length ≤ c0_3) (h : impl_ItemOk.f k a0_0 a0_1 a0_2 l0_3 = some r) :
  Calls Try.prog 26 #[.agg #[.string a0_0, .int .i64 a0_1, .int .i64 a0_2, .slice A0_3 l0_3.length c0_3]] w fun e w' => e = .returned (.bool r) ∧ Below w.heap.size w w' := by
 have hu34 := Try.underlying34
 have HR0_3 := Aside0.mk hr0_3
 have HC0_3 := Aside0.mk hc0_3
 clear hr0_3 hc0_3
 have HB := Aside0.mk (zbj w.heap.size w)
 have H : ((impl_isRoute.f k a0_0).bind fun t191 => (if t191 = true then ((impl_in.f a0_1 0 9).bind fun t192 => (if t192 = true then ((impl_in.f a0_2 0 100000).bind fun t193 => (if t193 = true then (some (decide ((l0_3.length : Int) ≤ 1560))) else (some false))) else (some false))) else (some false))) = some r := h
 clear h
 obtain ⟨t191, A2, H⟩ := bnd H
 by_cases c3 : t191 = true
 ·subst c3
  rw [if_pos rfl] at H
  obtain ⟨t192, A4, H⟩ := bnd H
  by_cases c5 : t192 = true
  ·subst c5
   rw [if_pos rfl] at H
   obtain ⟨t193, A6, H⟩ := bnd H
   by_cases c7 : t193 = true
   ·subst c7
    rw [if_pos rfl] at H
    obtain rfl := Option.some.inj H
    exact impl_ItemOk.wk
   ·replace c7 := zcd.mpr c7
    subst c7
    rw [if_neg (show ¬ (false = true) by decide)] at H
    obtain rfl := Option.some.inj H
    exact impl_ItemOk.wk
  ·replace c5 := zcd.mpr c5
   subst c5
   rw [if_neg (show ¬ (false = true) by decide)] at H
   obtain rfl := Option.some.inj H
   exact impl_ItemOk.wk
 ·replace c3 := zcd.mpr c3
  subst c3
  rw [if_neg (show ¬ (false = true) by decide)] at H
  obtain rfl := Option.some.inj H
  exact impl_ItemOk.wk
def impl_LineOk.f (k : Nat) (a0_0 : Int) (a0_1 : ByteArray) (a0_2 : Int) (a0_3 : Int) (l0_4 : List Int) : Option (Bool) := if a0_0 = 1 then ((impl_itemOf.f a0_0 a0_1 a0_2 a0_3 l0_4).bind fun bt299 => ((impl_ItemOk.f k bt299.1 bt299.2.1 bt299.2.2.1 bt299.2.2.2).bind fun t305 => (some t305))) else (if a0_0 = 2 then ((impl_isRoute.f k a0_1).bind fun t306 => (if t306 = true then (if a0_2 = 0 then (if a0_3 = 0 then (some ((l0_4.length : Int) == 0)) else (some false)) else (some false)) else (some false))) else (if a0_0 = 3 then ((impl_in.f a0_3 0 100000).bind fun t307 => (if t307 = true then (if a0_1.toList = ([] : List UInt8) then (if a0_2 = 0 then (some ((l0_4.length : Int) == 0)) else (some false)) else (some false)) else (some false))) else (some false)))
theorem impl_LineOk.mono : ∀ a0 a1 a2 a3 a4 k, LeO (impl_LineOk.f k a0 a1 a2 a3 a4) (impl_LineOk.f (k + 1) a0 a1 a2 a3 a4) := by
 intro a0 a1 a2 a3 a4 k
 unfold impl_LineOk.f
 have m0 := @impl_ItemOk.mono
 have m1 := @impl_isRoute.mono
 exact mt
theorem impl_LineOk.wk {P : Prop} (h : P := by
 go_enter Try.func36, Try.ntmps36
 go_wp2_with (first | (refine jgd 1 ?_; (try (refine gate_guard (by rfl) ?_; dsimp only)); refine bx 1 (#[.int .i64 a0_0, .string a0_1, .int .i64 a0_2, .int .i64 a0_3, .slice A0_4 l0_4.length c0_4]) 48 ?_; intro gb298 hg w_ hbox hb; have xb_ := below_ofs bq hb; have n_ := jA4 (zad xb_ hb) (hbox) (ge0 hg xb_ : w.heap.size ≤ gb298) (ge0 hg xb_ : w.heap.size ≤ gb298); clear HB; obtain ⟨HB, BK298, GW298, GE298⟩ := n_; clear xb_ hb hbox hg; obtain ⟨c0, c1, c2, c3, c4, z0, z1, z2, z3, z4⟩ := cz5 BK298.out) | (refine jgc 93 ?_; refine jgs 8 Try.func93 #[.agg #[.int .i64 a0_0, .string a0_1, .int .i64 a0_2, .int .i64 a0_3, .slice A0_4 l0_4.length c0_4]] ?_; (with_reducible refine (impl_itemOf.calls a0_0 a0_1 a0_2 a0_3 _ _ l0_4 t299 t300 t301 t302 _ ?side1 ?side2 A3.out).mono ?_); (case side1 => exact jcs HR0_4.out); (case side2 => exact HC0_4.out); rintro e w_ ⟨v303, rfl, ho0, hb⟩; refine ⟨_, rfl, ?_⟩; have n_ := jA3 (zaw ho0 (zah (bs1 GE298.out))) (jbb BK298.out hb) (zad (bs1 GE298.out) hb); clear BK298 HB; obtain ⟨HO304, BK298, HB⟩ := n_; clear hb ho0; obtain ⟨Ao8, co8, eo8⟩ := zbg HO304.out; subst eo8) | (refine jgc 26 ?_; refine jgs 9 Try.func26 #[.agg #[.string t299, .int .i64 t300, .int .i64 t301, .slice Ao8 t302.length co8]] ?_; (with_reducible refine (impl_ItemOk.calls k t299 t300 t301 _ _ t302 t305 _ ?side1 ?side2 A4.out).mono ?_); (case side1 => repeat (first | exact (zbq HO304.out).2.2 | (with_reducible first | apply zdk | apply zdw | apply zeh))); (case side2 => exact (zbq HO304.out).2.1); rintro e w_ ⟨rfl, hb⟩; refine ⟨_, rfl, ?_⟩; have n_ := jA3 (zdz (pR HO304.out) hb) (jbb BK298.out hb) (zad (bs1 GE298.out) hb); clear HO304 BK298 HB; obtain ⟨HO304, BK298, HB⟩ := n_; (try clear hb); (try clear hb2); (try clear hk); (try clear hi)) | (refine jgc 90 ?_; refine jgs 14 Try.func90 #[.string a0_1] ?_; (with_reducible refine (impl_isRoute.calls k a0_1 _ _ A11.out).mono ?_); rintro e w_ ⟨rfl, hb⟩; refine ⟨_, rfl, ?_⟩; have n_ := jA2 (jbb BK298.out hb) (zad (bs1 GE298.out) hb); clear BK298 HB; obtain ⟨BK298, HB⟩ := n_; (try clear hb); (try clear hb2); (try clear hk); (try clear hi); obtain ⟨c0, c1, c2, c3, c4, z0, z1, z2, z3, z4⟩ := cz5 BK298.out) | (refine jgc 91 ?_; refine jgs 35 Try.func91 #[.int .i64 a0_3, .int .i64 0, .int .i64 100000] ?_; (with_reducible refine (impl_in.calls a0_3 0 100000 _ _ A31.out).mono ?_); rintro e w' ⟨rfl, ⟨nd, rfl⟩⟩; refine ⟨_, rfl, ?_⟩) | (refine jgc 91 ?_; refine jgs 35 Try.func91 #[.int .i64 a0_3, .int .i64 0, .int .i64 100000] ?_; (with_reducible refine (impl_in.calls a0_3 0 100000 true _ A31.out).mono ?_); rintro e w' ⟨rfl, ⟨nd, rfl⟩⟩; refine ⟨_, rfl, ?_⟩))
 go_ret
 exact ⟨jex, (bs1 GE298.out)⟩) : P := h
theorem impl_LineOk.calls (k : Nat) (a0_0 : Int) (a0_1 : ByteArray) (a0_2 : Int) (a0_3 : Int) (A0_4 : Option Addr) (c0_4 : Nat) (l0_4 : List Int) (r : Bool) (w : World) (hr0_4 : Kd.C (Kd.int .u8) w A0_4 l0_4.length l0_4) (hc0_4 : l0_4.length ≤ c0_4) (h : impl_LineOk.f k a0_0 a0_1 a0_2 a0_3 l0_4 = some r) :
  Calls Try.prog 36 #[.agg #[.int .i64 a0_0, .string a0_1, .int .i64 a0_2, .int .i64 a0_3, .slice A0_4 l0_4.length c0_4]] w fun e w' => e = .returned (.bool r) ∧ Below w.heap.size w w' := by
 have hu48 := Try.underlying48
 have HR0_4 := Aside0.mk hr0_4
 have HC0_4 := Aside0.mk hc0_4
 clear hr0_4 hc0_4
 have HB := Aside0.mk (zbj w.heap.size w)
 have H : (if a0_0 = 1 then ((impl_itemOf.f a0_0 a0_1 a0_2 a0_3 l0_4).bind fun bt299 => ((impl_ItemOk.f k bt299.1 bt299.2.1 bt299.2.2.1 bt299.2.2.2).bind fun t305 => (some t305))) else (if a0_0 = 2 then ((impl_isRoute.f k a0_1).bind fun t306 => (if t306 = true then (if a0_2 = 0 then (if a0_3 = 0 then (some ((l0_4.length : Int) == 0)) else (some false)) else (some false)) else (some false))) else (if a0_0 = 3 then ((impl_in.f a0_3 0 100000).bind fun t307 => (if t307 = true then (if a0_1.toList = ([] : List UInt8) then (if a0_2 = 0 then (some ((l0_4.length : Int) == 0)) else (some false)) else (some false)) else (some false))) else (some false)))) = some r := h
 clear h
 by_cases c2 : a0_0 = 1
 ·rw [if_pos c2] at H
  have c2b0 := beqT c2
  have c2b1 := zbe.mpr c2
  clear c2
  obtain ⟨⟨t299, t300, t301, t302⟩, A3, H⟩ := bnd H
  try dsimp only at H
  obtain ⟨t305, A4, H⟩ := bnd H
  obtain rfl := Option.some.inj H
  exact impl_LineOk.wk
 ·rw [if_neg c2] at H
  have c2b0 := zax.mpr c2
  have c2b1 := zdb.mpr c2
  by_cases c10 : a0_0 = 2
  ·rw [if_pos c10] at H
   have c10b0 := beqT c10
   have c10b1 := zbe.mpr c10
   clear c10
   obtain ⟨t306, A11, H⟩ := bnd H
   by_cases c12 : t306 = true
   ·subst c12
    rw [if_pos rfl] at H
    by_cases c13 : a0_2 = 0
    ·rw [if_pos c13] at H
     have c13b0 := beqT c13
     have c13b1 := zbe.mpr c13
     clear c13
     by_cases c14 : a0_3 = 0
     ·rw [if_pos c14] at H
      have c14b0 := beqT c14
      have c14b1 := zbe.mpr c14
      clear c14
      obtain rfl := Option.some.inj H
      exact impl_LineOk.wk
     ·rw [if_neg c14] at H
      have c14b0 := zax.mpr c14
      have c14b1 := zdb.mpr c14
      obtain rfl := Option.some.inj H
      exact impl_LineOk.wk
    ·rw [if_neg c13] at H
     have c13b0 := zax.mpr c13
     have c13b1 := zdb.mpr c13
     obtain rfl := Option.some.inj H
     exact impl_LineOk.wk
   ·replace c12 := zcd.mpr c12
    subst c12
    rw [if_neg (show ¬ (false = true) by decide)] at H
    obtain rfl := Option.some.inj H
    exact impl_LineOk.wk
  ·rw [if_neg c10] at H
   have c10b0 := zax.mpr c10
   have c10b1 := zdb.mpr c10
   by_cases c30 : a0_0 = 3
   ·rw [if_pos c30] at H
    have c30b0 := beqT c30
    have c30b1 := zbe.mpr c30
    clear c30
    obtain ⟨t307, A31, H⟩ := bnd H
    by_cases c32 : t307 = true
    ·subst c32
     rw [if_pos rfl] at H
     by_cases c33 : a0_1.toList = ([] : List UInt8)
     ·rw [if_pos c33] at H
      have c33b0 := beqT c33
      have c33b1 := zbe.mpr c33
      clear c33
      by_cases c34 : a0_2 = 0
      ·rw [if_pos c34] at H
       have c34b0 := beqT c34
       have c34b1 := zbe.mpr c34
       clear c34
       obtain rfl := Option.some.inj H
       exact impl_LineOk.wk
      ·rw [if_neg c34] at H
       have c34b0 := zax.mpr c34
       have c34b1 := zdb.mpr c34
       obtain rfl := Option.some.inj H
       exact impl_LineOk.wk
     ·rw [if_neg c33] at H
      have c33b0 := zax.mpr c33
      have c33b1 := zdb.mpr c33
      obtain rfl := Option.some.inj H
      exact impl_LineOk.wk
    ·replace c32 := zcd.mpr c32
     subst c32
     rw [if_neg (show ¬ (false = true) by decide)] at H
     obtain rfl := Option.some.inj H
     exact impl_LineOk.wk
   ·rw [if_neg c30] at H
    have c30b0 := zax.mpr c30
    have c30b1 := zdb.mpr c30
    obtain rfl := Option.some.inj H
    exact impl_LineOk.wk
end Go.Proofs.Ytlalkldjpniakaa.P
