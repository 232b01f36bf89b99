import Derived.Test.Ytlalkldjpniakaapm17
import Derived.ChangeArms
import Derived.Deep.Slices
import Derived.Lib.SmallJoins
namespace Go.Proofs.Ytlalkldjpniakaa.P
open Go.RowKit Go.Proofs.YtlalkldjpniakaaW.PrintWords Go.Proofs.YtlalkldjpniakaaW.PrintLast Go.Proofs.YtlalkldjpniakaaW.PrintMore
attribute [local go_sem] zcm zcn zdi zdj zbz zca zco zcp   -- for this text's walks alone
set_option linter.unusedVariables false
set_option linter.unusedSimpArgs false
set_option maxHeartbeats 8000000
set_option maxRecDepth 100000

def impl_Of.l0 : Nat → ByteArray → Int → List (S34) → Int → Int → Option (Int)
 | 0, _, _, _, _, _ => none
 | k + 1, x1, x5, x8, x9, x10 => if x10 < x9 then (if 0 ≤ x10 then (if x10 < (x8.length : Int) then (if ((rd_T34 x8 x10).f0).toList = x1.toList then (impl_Of.l0 k x1 (wrap64 (x5 + 1)) x8 x9 (wrap64 (x10 + 1))) else (impl_Of.l0 k x1 x5 x8 x9 (wrap64 (x10 + 1)))) else (none)) else (none)) else (some x5)
def impl_Of.f (k : Nat) (l0 : List (S34)) (a1 : ByteArray) : Option (Int) := impl_Of.l0 k a1 0 l0 (l0.length : Int) 0
theorem impl_Of.mono_l : ∀ k, (∀ y0 y1 y2 y3 y4, LeO (impl_Of.l0 k y0 y1 y2 y3 y4) (impl_Of.l0 (k + 1) y0 y1 y2 y3 y4))
 | 0 => fun _ _ _ _ _ r h => by simp [impl_Of.l0] at h
 | k + 1 => by
  have ih0 := impl_Of.mono_l k
  ·intro y0 y1 y2 y3 y4
   unfold impl_Of.l0
   exact mt
theorem impl_Of.mono : ∀ a0 a1 k, LeO (impl_Of.f k a0 a1) (impl_Of.f (k + 1) a0 a1) := by
 intro a0 a1 k
 have ih0 := impl_Of.mono_l k
 unfold impl_Of.f
 exact mt
theorem impl_Of.calls (k : Nat) (A0 : Option Addr) (c0 : Nat) (l0 : List (S34)) (a1 : ByteArray) (r : Int) (w : World) (hr0 : Kd.C k34 w A0 l0.length l0) (hc0 : l0.length ≤ c0) (h : impl_Of.f k l0 a1 = some r) :
  Calls Try.prog 21 #[.slice A0 l0.length c0, .string a1] w fun e w' => e = .returned (.int .i64 r) ∧ Below w.heap.size w w' := by
 have hu34 := Try.underlying34
 have HR0 := Aside0.mk hr0
 have HC0 := Aside0.mk hc0
 clear hr0 hc0
 have HB := Aside0.mk (zbj w.heap.size w)
 have H : (impl_Of.l0 k a1 0 l0 (l0.length : Int) 0) = some r := h
 clear h
 have H' := Aside0.mk H
 clear H
 go_enter Try.func21, Try.ntmps21
 go_wp2
 go_loopg [5, 10] k (fun kq v5 v10 w' => ∃ (x5_1 : Int) (x10_1 : Int), v5 = .int .i64 x5_1 ∧ v10 = .int .i64 x10_1 ∧ Aside0 (impl_Of.l0 kq a1 x5_1 l0 (l0.length : Int) x10_1 = some r) ∧ Aside0 (kq ≤ k) ∧ Aside0 (Below w.heap.size w w'))
 case atStart => exact ⟨(0), (0), jer, jer, H', ⟨zaf _⟩, ⟨bq⟩⟩
 case round =>
  clear H'
  try clear c2
  try clear p2
  obtain ⟨x5_1, x10_1, rfl, rfl, HA, HK1, HB⟩ := hrel
  cases gk with
  | zero => exact absurd HA.out (by simp [impl_Of.l0])
  | succ k1 =>
   have H := HA.out
   clear HA
   simp only [impl_Of.l0] at H
   by_cases c3 : x10_1 < (l0.length : Int)
   ·rw [if_pos c3] at H
    have c3b0 := zae c3
    clear c3
    by_cases c4 : 0 ≤ x10_1
    ·rw [if_pos c4] at H
     have c4b0 := zae c4
     clear c4
     by_cases c5 : x10_1 < (l0.length : Int)
     ·rw [if_pos c5] at H
      have c5b0 := zae c5
      clear c5
      by_cases c6 : ((rd_T34 l0 x10_1).f0).toList = a1.toList
      ·rw [if_pos c6] at H
       have c6b0 := beqT c6
       have c6b1 := zbe.mpr c6
       clear c6
       have H' := Aside0.mk H
       clear H
       obtain ⟨p129, q129, ad129, A129_3, c129_3, e129, hx129_0, hx129_1, hx129_2, hx129_3, HC129_3, HR129_3⟩ := jel HR0.out HB.out x10_1
       cases e129
       go_wp2_with (first | (refine jgd 7 ?_; refine bx 7 (#[.string (⟨#[]⟩ : ByteArray), .int .i64 0, .int .i64 0, .slice none 0 0]) 34 ?_; intro gb130 hg w7 hbox hb; have xb_ := below_ofs bq hb; have n_ := jA4 (zad xb_ hb) (hbox) (ge0 hg xb_ : w.heap.size ≤ gb130) (ge0 hg xb_ : w.heap.size ≤ gb130); clear HB; obtain ⟨HB, BK130, GW130, GE130⟩ := n_; clear xb_ hb hbox hg; obtain ⟨hcz8_0, hcz8_1, hcz8_2, hcz8_3, hfz8_0, hfz8_1, hfz8_2, hfz8_3⟩ := cz4 BK130.out))
       go_roundg k1
       case measure => have := HK1.out; omega
       case rel => exact ⟨(wrap64 (x5_1 + 1)), (wrap64 (x10_1 + 1)), jer, jer, H', ⟨by have := HK1.out; omega⟩, ⟨bs1 GE130.out⟩⟩
      ·rw [if_neg c6] at H
       have c6b0 := zax.mpr c6
       have c6b1 := zdb.mpr c6
       have H' := Aside0.mk H
       clear H
       obtain ⟨p129, q129, ad129, A129_3, c129_3, e129, hx129_0, hx129_1, hx129_2, hx129_3, HC129_3, HR129_3⟩ := jel HR0.out HB.out x10_1
       cases e129
       go_wp2_with (first | (refine jgd 7 ?_; refine bx 7 (#[.string (⟨#[]⟩ : ByteArray), .int .i64 0, .int .i64 0, .slice none 0 0]) 34 ?_; intro gb130 hg w9 hbox hb; have xb_ := below_ofs bq hb; have n_ := jA4 (zad xb_ hb) (hbox) (ge0 hg xb_ : w.heap.size ≤ gb130) (ge0 hg xb_ : w.heap.size ≤ gb130); clear HB; obtain ⟨HB, BK130, GW130, GE130⟩ := n_; clear xb_ hb hbox hg; obtain ⟨hcz10_0, hcz10_1, hcz10_2, hcz10_3, hfz10_0, hfz10_1, hfz10_2, hfz10_3⟩ := cz4 BK130.out))
       go_roundg k1
       case measure => have := HK1.out; omega
       case rel => exact ⟨(x5_1), (wrap64 (x10_1 + 1)), jer, jer, H', ⟨by have := HK1.out; omega⟩, ⟨bs1 GE130.out⟩⟩
     ·rw [if_neg c5] at H
      exact absurd H (by simp)
    ·rw [if_neg c4] at H
     exact absurd H (by simp)
   ·rw [if_neg c3] at H
    have c3b0 := zas c3
    clear c3
    obtain rfl := Option.some.inj H
    go_wp2
    go_ret
    exact ⟨jex, bq⟩
def impl_QueueOk.l0 : Nat → List (S34) → Nat → Option Bool
 | 0, _, _ => none
 | k + 1, l, i => if i < l.length then ((impl_ItemOk.f k (rd_T34 l i).f0 (rd_T34 l i).f1 (rd_T34 l i).f2 (rd_T34 l i).f3).bind fun t1 => if t1 = true then ((impl_Of.f k l (rd_T34 l i).f0).bind fun t2 => if t2 > 4 then some false else if (rd_T34 l i).f1 > 0 then (if (l.take i).any (likeI (rd_T34 l i).f0 (rd_T34 l i).f1) = true then some false else impl_QueueOk.l0 k l (i + 1)) else impl_QueueOk.l0 k l (i + 1)) else some false) else some true
def impl_QueueOk.f (k : Nat) (l0 : List (S34)) : Option Bool := if (l0.length : Int) > 10 then some false else impl_QueueOk.l0 k l0 0
theorem impl_QueueOk.l0_mono : ∀ k l i, LeO (impl_QueueOk.l0 k l i) (impl_QueueOk.l0 (k + 1) l i)
 | 0, l, i => fun r h => by simp [impl_QueueOk.l0] at h
 | k + 1, l, i => by
  have ih := impl_QueueOk.l0_mono k
  unfold impl_QueueOk.l0
  repeat' first
   | (with_reducible exact ih _ _)
   | (with_reducible exact impl_ItemOk.mono _ _ _ _ _)
   | (with_reducible exact impl_Of.mono _ _ _)
   | (with_reducible exact LeO.refl _)
   | (with_reducible refine LeO.ite ?_ ?_)
   | (with_reducible refine LeO.bind ?_ (fun _ => ?_))
theorem impl_QueueOk.mono : ∀ a0 k, LeO (impl_QueueOk.f k a0) (impl_QueueOk.f (k + 1) a0) := by
 intro a0 k
 unfold impl_QueueOk.f
 exact LeO.ite (LeO.refl _) (impl_QueueOk.l0_mono _ _ _)
theorem impl_QueueOk.calls (k : Nat) (A0 : Option Addr) (c0 : Nat) (l0 : List (S34)) (r : Bool) (w : World) (hr0 : Kd.C k34 w A0 l0.length l0) (hc0 : l0.length ≤ c0) (h : impl_QueueOk.f k l0 = some r) :
  Calls Try.prog 43 #[.slice A0 l0.length c0] w fun e w' => e = .returned (.bool r) ∧ Below w.heap.size w w' := by
 have hu34 := Try.underlying34
 have eg : ∀ args w, (callFunc 100 args).run Try.prog w = .ok (.enter 100 args) w := enters_of Try.func100 (by kernel_rfl) rfl
 have hlen := hr0.2.1
 have HR := Aside0.mk hr0
 have HC := Aside0.mk hc0
 obtain ⟨n, hn⟩ : ∃ n, l0.length = n := ⟨_, rfl⟩
 have HN := Aside0.mk hn
 unfold impl_QueueOk.f at h
 by_cases hbig : (l0.length : Int) > 10
 ·rw [if_pos hbig] at h
  obtain rfl := Option.some.inj h
  rw [hn] at hbig hlen ⊢
  clear hr0 hc0 hn h
  go_enter Try.func43, Try.ntmps43
  go_wp2
  go_ret
  exact ⟨rfl, zbj _ _⟩
 ·rw [if_neg hbig] at h
  have F := Aside0.mk h
  rw [hn] at hbig hlen ⊢
  clear hr0 hc0 hn h
  go_enter Try.func43, Try.ntmps43
  go_wp2
  go_loopg [10] k (fun kq s10 wr => ∃ i : Nat, i ≤ n ∧ s10 = .int .i64 i ∧ Aside0 (impl_QueueOk.l0 kq l0 i = some r) ∧ Aside0 (kq ≤ k) ∧ Aside0 (Below w.heap.size w wr))
  case atStart => exact ⟨0, Nat.zero_le _, rfl, F, ⟨zaf _⟩, ⟨zbj _ w⟩⟩
  case round =>
   clear F
   obtain ⟨i, hi, rfl, HA, HK1, HB⟩ := hrel
   cases gk with
   | zero => exact absurd HA.out (by simp [impl_QueueOk.l0])
   | succ k1 =>
    have H := HA.out
    clear HA
    simp only [impl_QueueOk.l0] at H
    by_cases hlt : i < n
    ·rw [if_pos (by rw [HN.out]; exact hlt)] at H
     have hltz : (i : Int) < (n : Int) := by omega
     obtain ⟨ad, A3, c3, rfl, h0, h1, h2, h3, hl3, hi3⟩ := at_T34 HR.out (i : Int) (by omega) (by rw [HN.out]; exact hltz)
     replace h0 := jcB HB.out h0
     replace h1 := jcB HB.out h1
     replace h2 := jcB HB.out h2
     replace h3 := jcB HB.out h3
     simp only [Int.toNat_natCast] at h0 h1 h2 h3
     have HX3 := Aside0.mk hi3
     have HL3 := Aside0.mk hl3
     clear hi3 hl3
     generalize rd_T34 l0 (i : Int) = x at h0 h1 h2 h3 HX3 HL3 H
     replace H := zbi.1 H
     obtain ⟨t1, HF1, H⟩ := H
     have F1 := Aside0.mk HF1
     clear HF1
     cases t1 with
     | false =>
      rw [if_neg (by simp)] at H
      obtain rfl := Option.some.inj H
      clear H
      go_wp2_with (first | (refine jgd 4 ?_; refine bx 4 (#[.string (⟨#[]⟩ : ByteArray), .int .i64 0, .int .i64 0, .slice none 0 0]) 34 ?_; intro gb hgb w7 hbox hb; have BK := Aside0.mk hbox; have HB7 := Aside0.mk (zad HB.out hb); have HGB := Aside0.mk (show w.heap.size ≤ gb by rw [hgb]; exact HB.out.size); clear hbox hb hgb) | ((with_reducible refine zdy (t := 34) (p := 4) rfl ?_); refine box_put rfl rfl (.tmp 4) (.tmp 14) rfl rfl rfl BK.out (by intro u hu; simp only [zdc, zcf, zfh] at hu; rcases hu with rfl | rfl | rfl | rfl <;> rfl) (by intro u hu; simp only [zdc, zcf, zfh] at hu; rcases hu with rfl | rfl | rfl | rfl <;> rfl) rfl ?_; intro w8 hg8 b0 b1 b2 b3; have HB8 := Aside0.mk (zcr HB7.out (some gb) HB7.out.size hg8 (fun k_ e => by injection e with e; rw [← e]; exact HGB.out)); clear hg8 BK HB7) | (go_at_call 26; refine (impl_ItemOk.calls k1 x.f0 x.f1 x.f2 A3 c3 x.f3 false w8 (zbb HX3.out HB8.out) HL3.out F1.out).mono ?_; rintro e w9 ⟨rfl, hb9⟩; replace b0 := zbp hb9 b0; replace b1 := zbp hb9 b1; replace b2 := zbp hb9 b2; replace b3 := zbp hb9 b3; have HB9 := Aside0.mk (zad HB8.out hb9); clear hb9))
      go_ret
      exact ⟨rfl, HB9.out⟩
     | true =>
      rw [if_pos rfl] at H
      replace H := zbi.1 H
      obtain ⟨t2, HF2, H⟩ := H
      have F2 := Aside0.mk HF2
      clear HF2
      by_cases ht2 : t2 > 4
      ·rw [if_pos ht2] at H
       obtain rfl := Option.some.inj H
       clear H
       go_wp2_with (first | (refine jgd 4 ?_; refine bx 4 (#[.string (⟨#[]⟩ : ByteArray), .int .i64 0, .int .i64 0, .slice none 0 0]) 34 ?_; intro gb hgb w7 hbox hb; have BK := Aside0.mk hbox; have HB7 := Aside0.mk (zad HB.out hb); have HGB := Aside0.mk (show w.heap.size ≤ gb by rw [hgb]; exact HB.out.size); clear hbox hb hgb) | ((with_reducible refine zdy (t := 34) (p := 4) rfl ?_); refine box_put rfl rfl (.tmp 4) (.tmp 14) rfl rfl rfl BK.out (by intro u hu; simp only [zdc, zcf, zfh] at hu; rcases hu with rfl | rfl | rfl | rfl <;> rfl) (by intro u hu; simp only [zdc, zcf, zfh] at hu; rcases hu with rfl | rfl | rfl | rfl <;> rfl) rfl ?_; intro w8 hg8 b0 b1 b2 b3; have HB8 := Aside0.mk (zcr HB7.out (some gb) HB7.out.size hg8 (fun k_ e => by injection e with e; rw [← e]; exact HGB.out)); clear hg8 BK HB7) | (go_at_call 26; refine (impl_ItemOk.calls k1 x.f0 x.f1 x.f2 A3 c3 x.f3 true w8 (zbb HX3.out HB8.out) HL3.out F1.out).mono ?_; rintro e w9 ⟨rfl, hb9⟩; replace b0 := zbp hb9 b0; replace b1 := zbp hb9 b1; replace b2 := zbp hb9 b2; replace b3 := zbp hb9 b3; have HB9 := Aside0.mk (zad HB8.out hb9); clear hb9) | (go_at_call 21; have hof := impl_Of.calls k1 (some ad) c0 l0 x.f0 t2 w9 (zbb HR.out HB9.out) HC.out F2.out; rw [HN.out] at hof; refine hof.mono ?_; clear hof; rintro e w10 ⟨rfl, hb10⟩; replace b0 := zbp hb10 b0; replace b1 := zbp hb10 b1; replace b2 := zbp hb10 b2; replace b3 := zbp hb10 b3; have HB10 := Aside0.mk (zad HB9.out hb10); clear hb10))
       go_ret
       exact ⟨rfl, HB10.out⟩
      ·rw [if_neg ht2] at H
       by_cases ht : x.f1 > 0
       ·rw [if_pos ht] at H
        obtain ⟨ti, hti, hz⟩ := Option.map_eq_some_iff.1 info34
        have hcut := cut_to (P := Try.prog) 25 34 .i64 Try.underlying25 hti (some ad) n c0 (i : Int) (by omega) (by omega) (by have := HC.out; rw [HN.out] at this; exact this)
        rw [Int.toNat_natCast] at hcut
        clear hti hz
        generalize hb_ : (l0.take i).any (likeI x.f0 x.f1) = b at H
        have hl : (l0.take i).length = i := by rw [List.length_take, HN.out]; omega
        have HT := Aside0.mk hl
        have HY := Aside0.mk hb_
        have hq : Kd.C k34 w (some ad) (l0.take i).length (l0.take i) := Kd.C_take HR.out (by rw [HN.out]; exact hi)
        have HQ := Aside0.mk hq
        clear hb_ hl hq
        cases b with
        | true =>
         rw [if_pos rfl] at H
         obtain rfl := Option.some.inj H
         clear H
         go_wp2_with (first | (refine jgd 4 ?_; refine bx 4 (#[.string (⟨#[]⟩ : ByteArray), .int .i64 0, .int .i64 0, .slice none 0 0]) 34 ?_; intro gb hgb w7 hbox hb; have BK := Aside0.mk hbox; have HB7 := Aside0.mk (zad HB.out hb); have HGB := Aside0.mk (show w.heap.size ≤ gb by rw [hgb]; exact HB.out.size); clear hbox hb hgb) | ((with_reducible refine zdy (t := 34) (p := 4) rfl ?_); refine box_put rfl rfl (.tmp 4) (.tmp 14) rfl rfl rfl BK.out (by intro u hu; simp only [zdc, zcf, zfh] at hu; rcases hu with rfl | rfl | rfl | rfl <;> rfl) (by intro u hu; simp only [zdc, zcf, zfh] at hu; rcases hu with rfl | rfl | rfl | rfl <;> rfl) rfl ?_; intro w8 hg8 b0 b1 b2 b3; have HB8 := Aside0.mk (zcr HB7.out (some gb) HB7.out.size hg8 (fun k_ e => by injection e with e; rw [← e]; exact HGB.out)); clear hg8 BK HB7) | (go_at_call 26; refine (impl_ItemOk.calls k1 x.f0 x.f1 x.f2 A3 c3 x.f3 true w8 (zbb HX3.out HB8.out) HL3.out F1.out).mono ?_; rintro e w9 ⟨rfl, hb9⟩; replace b0 := zbp hb9 b0; replace b1 := zbp hb9 b1; replace b2 := zbp hb9 b2; replace b3 := zbp hb9 b3; have HB9 := Aside0.mk (zad HB8.out hb9); clear hb9) | (go_at_call 21; have hof := impl_Of.calls k1 (some ad) c0 l0 x.f0 t2 w9 (zbb HR.out HB9.out) HC.out F2.out; rw [HN.out] at hof; refine hof.mono ?_; clear hof; rintro e w10 ⟨rfl, hb10⟩; replace b0 := zbp hb10 b0; replace b1 := zbp hb10 b1; replace b2 := zbp hb10 b2; replace b3 := zbp hb10 b3; have HB10 := Aside0.mk (zad HB9.out hb10); clear hb10) | (go_at_call 99; obtain ⟨o_, ho_⟩ := obj_of_cell b0; have hany := items_any (likeI x.f0 x.f1) _ _ gb o_ (queue_pred2 x.f0 x.f1 gb o_ w10 ho_ b0 b1) eg (some ad) c0 (l0.take i) w10 (zbb HQ.out HB10.out) (by rw [HT.out]; have h1 := HC.out; rw [HN.out] at h1; omega) ho_; rw [HY.out, HT.out] at hany; refine hany.mono ?_; clear hany; rintro e w11 ⟨rfl, hb11⟩; have HB11 := Aside0.mk (zad HB10.out hb11); clear hb11 ho_))
         go_ret
         exact ⟨rfl, HB11.out⟩
        | false =>
         rw [if_neg (by simp)] at H
         have HA := Aside0.mk H
         clear H
         go_wp2_with (first | (refine jgd 4 ?_; refine bx 4 (#[.string (⟨#[]⟩ : ByteArray), .int .i64 0, .int .i64 0, .slice none 0 0]) 34 ?_; intro gb hgb w7 hbox hb; have BK := Aside0.mk hbox; have HB7 := Aside0.mk (zad HB.out hb); have HGB := Aside0.mk (show w.heap.size ≤ gb by rw [hgb]; exact HB.out.size); clear hbox hb hgb) | ((with_reducible refine zdy (t := 34) (p := 4) rfl ?_); refine box_put rfl rfl (.tmp 4) (.tmp 14) rfl rfl rfl BK.out (by intro u hu; simp only [zdc, zcf, zfh] at hu; rcases hu with rfl | rfl | rfl | rfl <;> rfl) (by intro u hu; simp only [zdc, zcf, zfh] at hu; rcases hu with rfl | rfl | rfl | rfl <;> rfl) rfl ?_; intro w8 hg8 b0 b1 b2 b3; have HB8 := Aside0.mk (zcr HB7.out (some gb) HB7.out.size hg8 (fun k_ e => by injection e with e; rw [← e]; exact HGB.out)); clear hg8 BK HB7) | (go_at_call 26; refine (impl_ItemOk.calls k1 x.f0 x.f1 x.f2 A3 c3 x.f3 true w8 (zbb HX3.out HB8.out) HL3.out F1.out).mono ?_; rintro e w9 ⟨rfl, hb9⟩; replace b0 := zbp hb9 b0; replace b1 := zbp hb9 b1; replace b2 := zbp hb9 b2; replace b3 := zbp hb9 b3; have HB9 := Aside0.mk (zad HB8.out hb9); clear hb9) | (go_at_call 21; have hof := impl_Of.calls k1 (some ad) c0 l0 x.f0 t2 w9 (zbb HR.out HB9.out) HC.out F2.out; rw [HN.out] at hof; refine hof.mono ?_; clear hof; rintro e w10 ⟨rfl, hb10⟩; replace b0 := zbp hb10 b0; replace b1 := zbp hb10 b1; replace b2 := zbp hb10 b2; replace b3 := zbp hb10 b3; have HB10 := Aside0.mk (zad HB9.out hb10); clear hb10) | (go_at_call 99; obtain ⟨o_, ho_⟩ := obj_of_cell b0; have hany := items_any (likeI x.f0 x.f1) _ _ gb o_ (queue_pred2 x.f0 x.f1 gb o_ w10 ho_ b0 b1) eg (some ad) c0 (l0.take i) w10 (zbb HQ.out HB10.out) (by rw [HT.out]; have h1 := HC.out; rw [HN.out] at h1; omega) ho_; rw [HY.out, HT.out] at hany; refine hany.mono ?_; clear hany; rintro e w11 ⟨rfl, hb11⟩; have HB11 := Aside0.mk (zad HB10.out hb11); clear hb11 ho_))
         go_roundg k1
         case measure => have := HK1.out; omega
         case rel => exact ⟨i + 1, by omega, by go_num, HA, ⟨by have := HK1.out; omega⟩, HB11⟩
       ·rw [if_neg ht] at H
        have HA := Aside0.mk H
        clear H
        go_wp2_with (first | (refine jgd 4 ?_; refine bx 4 (#[.string (⟨#[]⟩ : ByteArray), .int .i64 0, .int .i64 0, .slice none 0 0]) 34 ?_; intro gb hgb w7 hbox hb; have BK := Aside0.mk hbox; have HB7 := Aside0.mk (zad HB.out hb); have HGB := Aside0.mk (show w.heap.size ≤ gb by rw [hgb]; exact HB.out.size); clear hbox hb hgb) | ((with_reducible refine zdy (t := 34) (p := 4) rfl ?_); refine box_put rfl rfl (.tmp 4) (.tmp 14) rfl rfl rfl BK.out (by intro u hu; simp only [zdc, zcf, zfh] at hu; rcases hu with rfl | rfl | rfl | rfl <;> rfl) (by intro u hu; simp only [zdc, zcf, zfh] at hu; rcases hu with rfl | rfl | rfl | rfl <;> rfl) rfl ?_; intro w8 hg8 b0 b1 b2 b3; have HB8 := Aside0.mk (zcr HB7.out (some gb) HB7.out.size hg8 (fun k_ e => by injection e with e; rw [← e]; exact HGB.out)); clear hg8 BK HB7) | (go_at_call 26; refine (impl_ItemOk.calls k1 x.f0 x.f1 x.f2 A3 c3 x.f3 true w8 (zbb HX3.out HB8.out) HL3.out F1.out).mono ?_; rintro e w9 ⟨rfl, hb9⟩; replace b0 := zbp hb9 b0; replace b1 := zbp hb9 b1; replace b2 := zbp hb9 b2; replace b3 := zbp hb9 b3; have HB9 := Aside0.mk (zad HB8.out hb9); clear hb9) | (go_at_call 21; have hof := impl_Of.calls k1 (some ad) c0 l0 x.f0 t2 w9 (zbb HR.out HB9.out) HC.out F2.out; rw [HN.out] at hof; refine hof.mono ?_; clear hof; rintro e w10 ⟨rfl, hb10⟩; replace b0 := zbp hb10 b0; replace b1 := zbp hb10 b1; replace b2 := zbp hb10 b2; replace b3 := zbp hb10 b3; have HB10 := Aside0.mk (zad HB9.out hb10); clear hb10))
        go_roundg k1
        case measure => have := HK1.out; omega
        case rel => exact ⟨i + 1, by omega, by go_num, HA, ⟨by have := HK1.out; omega⟩, HB10⟩
    ·rw [if_neg (by rw [HN.out]; exact hlt)] at H
     obtain rfl := Option.some.inj H
     have hltz : ¬ (i : Int) < (n : Int) := by omega
     clear H
     go_wp2
     go_ret
     exact ⟨rfl, HB.out⟩
def putI (a : ByteArray) (n : Int) (t : List S34) : List S34 := if n > 0 then t.filter (fun x => !likeI a n x) else t
def impl_Put.f (k : Nat) (l0 : List (S34)) (a1_0 : ByteArray) (a1_1 : Int) (a1_2 : Int) (l1_3 : List Int) : Option ((List (S34)) × Bool) := (impl_cloneItems.f k l0).bind fun t => (impl_cloneItem.f a1_0 a1_1 a1_2 l1_3).bind fun u => if (putI a1_0 a1_1 t).length < 2513169434916 then ((impl_QueueOk.f k (putI a1_0 a1_1 t ++ [(⟨u.1, u.2.1, u.2.2.1, u.2.2.2⟩ : S34)])).bind fun b => if b = true then some (putI a1_0 a1_1 t ++ [(⟨u.1, u.2.1, u.2.2.1, u.2.2.2⟩ : S34)], true) else some (t, false)) else none
theorem impl_Put.mono : ∀ a0 a1 a2 a3 a4 k, LeO (impl_Put.f k a0 a1 a2 a3 a4) (impl_Put.f (k + 1) a0 a1 a2 a3 a4) := by
 intro a0 a1 a2 a3 a4 k
 unfold impl_Put.f
 refine LeO.bind (impl_cloneItems.mono _ _) (fun _ => LeO.bind (LeO.refl _) (fun _ => LeO.ite (LeO.bind (impl_QueueOk.mono _ _) (fun _ => LeO.refl _)) (LeO.refl _)))
theorem impl_Put.calls (k : Nat) (A0 : Option Addr) (c0 : Nat) (l0 : List (S34)) (a1_0 : ByteArray) (a1_1 : Int) (a1_2 : Int) (A1_3 : Option Addr) (c1_3 : Nat) (l1_3 : List Int) (r1 : List (S34)) (r2 : Bool) (w : World) (hr0 : Kd.C k34 w A0 l0.length l0) (hc0 : l0.length ≤ c0) (hr1_3 : Kd.C (Kd.int .u8) w A1_3 l1_3.length l1_3) (hc1_3 : l1_3.length ≤ c1_3) (h : impl_Put.f k l0 a1_0 a1_1 a1_2 l1_3 = some (r1, r2)) :
  Calls Try.prog 60 #[.slice A0 l0.length c0, .agg #[.string a1_0, .int .i64 a1_1, .int .i64 a1_2, .slice A1_3 l1_3.length c1_3]] w fun e w' => ∃ v0_ : Value, e = .returned (.tuple #[v0_, .bool r2]) ∧ Kd.S k34 34 w' w.heap.size (fun _ => True) v0_ r1 ∧ Below w.heap.size w w' := by
 have hu34 := Try.underlying34
 have eg : ∀ args w, (callFunc 120 args).run Try.prog w = .ok (.enter 120 args) w := enters_of Try.func120 (by kernel_rfl) rfl
 unfold impl_Put.f at h
 replace h := zbi.1 h
 obtain ⟨t, ht, h⟩ := h
 replace h := zbi.1 h
 obtain ⟨u, hu, h⟩ := h
 obtain ⟨u1, u2, u3, u4⟩ := u
 by_cases hlt : (putI a1_0 a1_1 t).length < 2513169434916
 ·rw [if_pos hlt] at h
  replace h := zbi.1 h
  obtain ⟨b, hb, h⟩ := h
  have HR := Aside0.mk hr0
  have HC := Aside0.mk hc0
  have HR3 := Aside0.mk hr1_3
  have HC3 := Aside0.mk hc1_3
  have F := Aside0.mk ht
  have FU := Aside0.mk hu
  have FB := Aside0.mk hb
  have HLT := Aside0.mk hlt
  have hbox : (w.alloc (.cells #[.string a1_0, .int .i64 a1_1, .int .i64 a1_2, .slice A1_3 l1_3.length c1_3] 34)).heap.size = w.heap.size + 1 := by simp
  have HBX := Aside0.mk hbox
  have HB0 := Aside0.mk ((zbj _ w).alloc (zaf _) (.cells #[.string a1_0, .int .i64 a1_1, .int .i64 a1_2, .slice A1_3 l1_3.length c1_3] 34))
  clear ht hu hb hr0 hc0 hr1_3 hc1_3 hlt hbox
  by_cases hp : a1_1 > 0
  ·have hpi : putI a1_0 a1_1 t = t.filter (fun x => !likeI a1_0 a1_1 x) := if_pos hp
   rw [hpi] at HLT FB h
   clear hpi
   generalize hl9 : t.filter (fun x => !likeI a1_0 a1_1 x) = t9 at HLT FB h
   have HL9 := Aside0.mk hl9
   clear hl9
   generalize htt : t9 ++ [(⟨u1, u2, u3, u4⟩ : S34)] = TT at FB h
   have HTT := Aside0.mk htt
   clear htt
   cases b with
   | true =>
    rw [if_pos rfl] at h
    have h := Option.some.inj h
    simp only [zcg] at h
    obtain ⟨rfl, rfl⟩ := h
    go_enter Try.func60, Try.ntmps60
    go_wp2_with (first | (go_at_call 96; refine (impl_cloneItems.calls k _ c0 l0 t _ (zdk HR.out _) HC.out F.out).mono ?_; rintro e w2 ⟨v2, rfl, ho, hb2⟩; have HS2 := Aside0.mk (zeq (zcs (zfq ho) (fun k_ hk_ => (by have h1 := HBX.out; have h2 := hk_.2.1; omega : w.heap.size < k_))) HB0.out.size); have HB2 := Aside0.mk (zad HB0.out hb2); have HT2 := Aside0.mk ((hb2.block w.heap.size (by have h1 := HBX.out; omega)).trans (zgk w (.cells #[.string a1_0, .int .i64 a1_1, .int .i64 a1_2, .slice A1_3 l1_3.length c1_3] 34))); have HW2 := Aside0.mk ((Array.getElem?_eq_some_iff.1 HT2.out).1); obtain ⟨b0, b1, b2, b3⟩ := cells_of_block HT2.out; clear ho hb2; obtain ⟨A1, c1, e1⟩ := zbg (Kd.S_R HS2.out); subst e1) | (go_at_call 95; refine (items_delete (likeI a1_0 a1_1) _ _ w.heap.size _ (put_pred a1_0 a1_1 a1_2 _ w.heap.size) eg A1 c1 t w2 _ _ HS2.out HT2.out (fun e_ => by have h1 := (Kd.S_R HS2.out).1 _ e_.symm; omega)).mono ?_; rintro e w3 ⟨v3, rfl, hs, hg, hv⟩; rw [HL9.out] at hs; have HS3 := Aside0.mk hs; have HB3 := Aside0.mk (zcr HB2.out _ HB2.out.size hg (fun k_ hk_ => Nat.le_of_lt ((Kd.S_R HS2.out).1 k_ hk_))); have HT3 := Aside0.mk ((hg.block _ HW2.out (fun e_ => by have h1 := (Kd.S_R HS2.out).1 _ e_.symm; omega)).trans HT2.out); have HW3 := Aside0.mk ((Array.getElem?_eq_some_iff.1 HT3.out).1); clear hs hg hv b0 b1 b2 b3; obtain ⟨b0, b1, b2, b3⟩ := cells_of_block HT3.out) | (go_at_call 104; refine (impl_cloneItem.calls a1_0 a1_1 a1_2 A1_3 c1_3 l1_3 u1 u2 u3 u4 w3 (zbb HR3.out HB3.out) HC3.out FU.out).mono ?_; rintro e w4 ⟨v4, rfl, ho, hb4⟩; have HB4 := Aside0.mk (zad HB3.out hb4); have HR4 := Aside0.mk (zaw (zak (Kd.R_bound ho) (fun k_ hk_ => hk_.2.1)) HB3.out.size); have HS4 := Aside0.mk (zcs (zdn (zfq HS3.out) hb4) (fun k_ hk_ => (⟨hk_.1, fun e => by have h1 := zba ho k_ e.symm; have h2 := hk_.2.2.1; omega⟩ : w.heap.size < k_ ∧ some k_ ≠ v4.ownBlock))); have HW4 := Aside0.mk (zci HW3.out hb4.size); clear ho hb4; obtain ⟨A4, c4, e4⟩ := zbg HR4.out; subst e4) | ((with_reducible refine zbw (b := .append) (xs := #[.tmp 15, .tmp 18]) rfl ?_); at_builtin; refine zep k34 (w0 := w) w.heap.size rfl (.tmp 15) (.tmp 18) 25 34 (.agg #[(.string ⟨#[]⟩), (.int .i64 0), (.int .i64 0), (.slice none 0 0)]) 56 rfl Try.underlying25 info34 rfl (by decide) (by omega) v3 t9 (⟨u1, u2, u3, u4⟩ : S34) [.string u1, .int .i64 u2, .int .i64 u3, .slice A4 u4.length c4] (fun k_ => w.heap.size < k_) (fun k_ => some k_ = (.slice A4 u4.length c4 : Value).ownBlock) rfl rfl ?aP ?aK ?aF ?aO ?aB ?aS ?aL ?_; (case aP => exact zgf _ _ _ (⟨u1, u2, u3, u4⟩ : S34) (zeu rfl HR4.out)); (case aK => intro k_ hk_; exact ⟨zci HW3.out (HR4.out.1 k_ hk_.symm), fun e_ => by have h1 := HR4.out.1 k_ hk_.symm; have h2 := Kd.S_lt HS3.out k_ e_.symm; omega⟩); (case aF => intro k_ hk_; exact zci HW4.out hk_); (case aO => exact HS4.out); (case aB => exact HB4.out); (case aS => exact HB4.out.size); (case aL => have h1 := HLT.out; omega); intro v5 w5 ho hb hg hat; rw [HTT.out] at ho; have HS5 := Aside0.mk ho; have HB5 := Aside0.mk hb; clear ho hb hg hat; obtain ⟨A5, c5, e5⟩ := zbg (Kd.S_R HS5.out); subst e5) | (go_at_call 43; refine (impl_QueueOk.calls k A5 c5 TT _ w5 (zcu HS5.out).2.2 (zcu HS5.out).2.1 FB.out).mono ?_; rintro e w6 ⟨rfl, hb6⟩; have HS6 := Aside0.mk (zdn HS5.out hb6); have HB6 := Aside0.mk (zad HB5.out hb6); clear hb6))
    go_ret2
    exact ⟨_, rfl, zcs HS6.out (fun _ _ => trivial), HB6.out⟩
   | false =>
    rw [if_neg (by simp)] at h
    have h := Option.some.inj h
    simp only [zcg] at h
    obtain ⟨rfl, rfl⟩ := h
    go_enter Try.func60, Try.ntmps60
    go_wp2_with (first | (have HB6_ := HB6.out; go_at_call 96; refine (impl_cloneItems.calls k _ c0 l0 _ w6 (zbb HR.out HB6_) HC.out F.out).mono ?_; rintro e w7 ⟨v7, rfl, ho, hb7⟩; have HS7 := Aside0.mk ho; have HB7 := Aside0.mk (zad HB6_ hb7); clear ho hb7) | (go_at_call 96; refine (impl_cloneItems.calls k _ c0 l0 t _ (zdk HR.out _) HC.out F.out).mono ?_; rintro e w2 ⟨v2, rfl, ho, hb2⟩; have HS2 := Aside0.mk (zeq (zcs (zfq ho) (fun k_ hk_ => (by have h1 := HBX.out; have h2 := hk_.2.1; omega : w.heap.size < k_))) HB0.out.size); have HB2 := Aside0.mk (zad HB0.out hb2); have HT2 := Aside0.mk ((hb2.block w.heap.size (by have h1 := HBX.out; omega)).trans (zgk w (.cells #[.string a1_0, .int .i64 a1_1, .int .i64 a1_2, .slice A1_3 l1_3.length c1_3] 34))); have HW2 := Aside0.mk ((Array.getElem?_eq_some_iff.1 HT2.out).1); obtain ⟨b0, b1, b2, b3⟩ := cells_of_block HT2.out; clear ho hb2; obtain ⟨A1, c1, e1⟩ := zbg (Kd.S_R HS2.out); subst e1) | (go_at_call 95; refine (items_delete (likeI a1_0 a1_1) _ _ w.heap.size _ (put_pred a1_0 a1_1 a1_2 _ w.heap.size) eg A1 c1 t w2 _ _ HS2.out HT2.out (fun e_ => by have h1 := (Kd.S_R HS2.out).1 _ e_.symm; omega)).mono ?_; rintro e w3 ⟨v3, rfl, hs, hg, hv⟩; rw [HL9.out] at hs; have HS3 := Aside0.mk hs; have HB3 := Aside0.mk (zcr HB2.out _ HB2.out.size hg (fun k_ hk_ => Nat.le_of_lt ((Kd.S_R HS2.out).1 k_ hk_))); have HT3 := Aside0.mk ((hg.block _ HW2.out (fun e_ => by have h1 := (Kd.S_R HS2.out).1 _ e_.symm; omega)).trans HT2.out); have HW3 := Aside0.mk ((Array.getElem?_eq_some_iff.1 HT3.out).1); clear hs hg hv b0 b1 b2 b3; obtain ⟨b0, b1, b2, b3⟩ := cells_of_block HT3.out) | (go_at_call 104; refine (impl_cloneItem.calls a1_0 a1_1 a1_2 A1_3 c1_3 l1_3 u1 u2 u3 u4 w3 (zbb HR3.out HB3.out) HC3.out FU.out).mono ?_; rintro e w4 ⟨v4, rfl, ho, hb4⟩; have HB4 := Aside0.mk (zad HB3.out hb4); have HR4 := Aside0.mk (zaw (zak (Kd.R_bound ho) (fun k_ hk_ => hk_.2.1)) HB3.out.size); have HS4 := Aside0.mk (zcs (zdn (zfq HS3.out) hb4) (fun k_ hk_ => (⟨hk_.1, fun e => by have h1 := zba ho k_ e.symm; have h2 := hk_.2.2.1; omega⟩ : w.heap.size < k_ ∧ some k_ ≠ v4.ownBlock))); have HW4 := Aside0.mk (zci HW3.out hb4.size); clear ho hb4; obtain ⟨A4, c4, e4⟩ := zbg HR4.out; subst e4) | ((with_reducible refine zbw (b := .append) (xs := #[.tmp 15, .tmp 18]) rfl ?_); at_builtin; refine zep k34 (w0 := w) w.heap.size rfl (.tmp 15) (.tmp 18) 25 34 (.agg #[(.string ⟨#[]⟩), (.int .i64 0), (.int .i64 0), (.slice none 0 0)]) 56 rfl Try.underlying25 info34 rfl (by decide) (by omega) v3 t9 (⟨u1, u2, u3, u4⟩ : S34) [.string u1, .int .i64 u2, .int .i64 u3, .slice A4 u4.length c4] (fun k_ => w.heap.size < k_) (fun k_ => some k_ = (.slice A4 u4.length c4 : Value).ownBlock) rfl rfl ?aP ?aK ?aF ?aO ?aB ?aS ?aL ?_; (case aP => exact zgf _ _ _ (⟨u1, u2, u3, u4⟩ : S34) (zeu rfl HR4.out)); (case aK => intro k_ hk_; exact ⟨zci HW3.out (HR4.out.1 k_ hk_.symm), fun e_ => by have h1 := HR4.out.1 k_ hk_.symm; have h2 := Kd.S_lt HS3.out k_ e_.symm; omega⟩); (case aF => intro k_ hk_; exact zci HW4.out hk_); (case aO => exact HS4.out); (case aB => exact HB4.out); (case aS => exact HB4.out.size); (case aL => have h1 := HLT.out; omega); intro v5 w5 ho hb hg hat; rw [HTT.out] at ho; have HS5 := Aside0.mk ho; have HB5 := Aside0.mk hb; clear ho hb hg hat; obtain ⟨A5, c5, e5⟩ := zbg (Kd.S_R HS5.out); subst e5) | (go_at_call 43; refine (impl_QueueOk.calls k A5 c5 TT _ w5 (zcu HS5.out).2.2 (zcu HS5.out).2.1 FB.out).mono ?_; rintro e w6 ⟨rfl, hb6⟩; have HS6 := Aside0.mk (zdn HS5.out hb6); have HB6 := Aside0.mk (zad HB5.out hb6); clear hb6))
    go_ret2
    exact ⟨_, rfl, zeq HS7.out HB6.out.size, HB7.out⟩
  ·have hpi : putI a1_0 a1_1 t = t := if_neg hp
   rw [hpi] at HLT FB h
   clear hpi
   generalize htt : t ++ [(⟨u1, u2, u3, u4⟩ : S34)] = TT at FB h
   have HTT := Aside0.mk htt
   clear htt
   cases b with
   | true =>
    rw [if_pos rfl] at h
    have h := Option.some.inj h
    simp only [zcg] at h
    obtain ⟨rfl, rfl⟩ := h
    go_enter Try.func60, Try.ntmps60
    go_wp2_with (first | (go_at_call 96; refine (impl_cloneItems.calls k _ c0 l0 t _ (zdk HR.out _) HC.out F.out).mono ?_; rintro e w3 ⟨v3, rfl, ho, hb2⟩; have HS3 := Aside0.mk (zeq (zcs (zfq ho) (fun k_ hk_ => (by have h1 := HBX.out; have h2 := hk_.2.1; omega : w.heap.size < k_))) HB0.out.size); have HB3 := Aside0.mk (zad HB0.out hb2); have HT3 := Aside0.mk ((hb2.block w.heap.size (by have h1 := HBX.out; omega)).trans (zgk w (.cells #[.string a1_0, .int .i64 a1_1, .int .i64 a1_2, .slice A1_3 l1_3.length c1_3] 34))); have HW3 := Aside0.mk ((Array.getElem?_eq_some_iff.1 HT3.out).1); obtain ⟨b0, b1, b2, b3⟩ := cells_of_block HT3.out; clear ho hb2) | (go_at_call 104; refine (impl_cloneItem.calls a1_0 a1_1 a1_2 A1_3 c1_3 l1_3 u1 u2 u3 u4 w3 (zbb HR3.out HB3.out) HC3.out FU.out).mono ?_; rintro e w4 ⟨v4, rfl, ho, hb4⟩; have HB4 := Aside0.mk (zad HB3.out hb4); have HR4 := Aside0.mk (zaw (zak (Kd.R_bound ho) (fun k_ hk_ => hk_.2.1)) HB3.out.size); have HS4 := Aside0.mk (zcs (zdn (zfq HS3.out) hb4) (fun k_ hk_ => (⟨hk_.1, fun e => by have h1 := zba ho k_ e.symm; have h2 := hk_.2.2.1; omega⟩ : w.heap.size < k_ ∧ some k_ ≠ v4.ownBlock))); have HW4 := Aside0.mk (zci HW3.out hb4.size); clear ho hb4; obtain ⟨A4, c4, e4⟩ := zbg HR4.out; subst e4) | ((with_reducible refine zbw (b := .append) (xs := #[.tmp 15, .tmp 18]) rfl ?_); at_builtin; refine zep k34 (w0 := w) w.heap.size rfl (.tmp 15) (.tmp 18) 25 34 (.agg #[(.string ⟨#[]⟩), (.int .i64 0), (.int .i64 0), (.slice none 0 0)]) 56 rfl Try.underlying25 info34 rfl (by decide) (by omega) v3 t (⟨u1, u2, u3, u4⟩ : S34) [.string u1, .int .i64 u2, .int .i64 u3, .slice A4 u4.length c4] (fun k_ => w.heap.size < k_) (fun k_ => some k_ = (.slice A4 u4.length c4 : Value).ownBlock) rfl rfl ?aP ?aK ?aF ?aO ?aB ?aS ?aL ?_; (case aP => exact zgf _ _ _ (⟨u1, u2, u3, u4⟩ : S34) (zeu rfl HR4.out)); (case aK => intro k_ hk_; exact ⟨zci HW3.out (HR4.out.1 k_ hk_.symm), fun e_ => by have h1 := HR4.out.1 k_ hk_.symm; have h2 := Kd.S_lt HS3.out k_ e_.symm; omega⟩); (case aF => intro k_ hk_; exact zci HW4.out hk_); (case aO => exact HS4.out); (case aB => exact HB4.out); (case aS => exact HB4.out.size); (case aL => have h1 := HLT.out; omega); intro v5 w5 ho hb hg hat; rw [HTT.out] at ho; have HS5 := Aside0.mk ho; have HB5 := Aside0.mk hb; clear ho hb hg hat; obtain ⟨A5, c5, e5⟩ := zbg (Kd.S_R HS5.out); subst e5) | (go_at_call 43; refine (impl_QueueOk.calls k A5 c5 TT _ w5 (zcu HS5.out).2.2 (zcu HS5.out).2.1 FB.out).mono ?_; rintro e w6 ⟨rfl, hb6⟩; have HS6 := Aside0.mk (zdn HS5.out hb6); have HB6 := Aside0.mk (zad HB5.out hb6); clear hb6))
    go_ret2
    exact ⟨_, rfl, zcs HS6.out (fun _ _ => trivial), HB6.out⟩
   | false =>
    rw [if_neg (by simp)] at h
    have h := Option.some.inj h
    simp only [zcg] at h
    obtain ⟨rfl, rfl⟩ := h
    go_enter Try.func60, Try.ntmps60
    go_wp2_with (first | (have HB6_ := HB6.out; go_at_call 96; refine (impl_cloneItems.calls k _ c0 l0 _ w6 (zbb HR.out HB6_) HC.out F.out).mono ?_; rintro e w7 ⟨v7, rfl, ho, hb7⟩; have HS7 := Aside0.mk ho; have HB7 := Aside0.mk (zad HB6_ hb7); clear ho hb7) | (go_at_call 96; refine (impl_cloneItems.calls k _ c0 l0 t _ (zdk HR.out _) HC.out F.out).mono ?_; rintro e w3 ⟨v3, rfl, ho, hb2⟩; have HS3 := Aside0.mk (zeq (zcs (zfq ho) (fun k_ hk_ => (by have h1 := HBX.out; have h2 := hk_.2.1; omega : w.heap.size < k_))) HB0.out.size); have HB3 := Aside0.mk (zad HB0.out hb2); have HT3 := Aside0.mk ((hb2.block w.heap.size (by have h1 := HBX.out; omega)).trans (zgk w (.cells #[.string a1_0, .int .i64 a1_1, .int .i64 a1_2, .slice A1_3 l1_3.length c1_3] 34))); have HW3 := Aside0.mk ((Array.getElem?_eq_some_iff.1 HT3.out).1); obtain ⟨b0, b1, b2, b3⟩ := cells_of_block HT3.out; clear ho hb2) | (go_at_call 104; refine (impl_cloneItem.calls a1_0 a1_1 a1_2 A1_3 c1_3 l1_3 u1 u2 u3 u4 w3 (zbb HR3.out HB3.out) HC3.out FU.out).mono ?_; rintro e w4 ⟨v4, rfl, ho, hb4⟩; have HB4 := Aside0.mk (zad HB3.out hb4); have HR4 := Aside0.mk (zaw (zak (Kd.R_bound ho) (fun k_ hk_ => hk_.2.1)) HB3.out.size); have HS4 := Aside0.mk (zcs (zdn (zfq HS3.out) hb4) (fun k_ hk_ => (⟨hk_.1, fun e => by have h1 := zba ho k_ e.symm; have h2 := hk_.2.2.1; omega⟩ : w.heap.size < k_ ∧ some k_ ≠ v4.ownBlock))); have HW4 := Aside0.mk (zci HW3.out hb4.size); clear ho hb4; obtain ⟨A4, c4, e4⟩ := zbg HR4.out; subst e4) | ((with_reducible refine zbw (b := .append) (xs := #[.tmp 15, .tmp 18]) rfl ?_); at_builtin; refine zep k34 (w0 := w) w.heap.size rfl (.tmp 15) (.tmp 18) 25 34 (.agg #[(.string ⟨#[]⟩), (.int .i64 0), (.int .i64 0), (.slice none 0 0)]) 56 rfl Try.underlying25 info34 rfl (by decide) (by omega) v3 t (⟨u1, u2, u3, u4⟩ : S34) [.string u1, .int .i64 u2, .int .i64 u3, .slice A4 u4.length c4] (fun k_ => w.heap.size < k_) (fun k_ => some k_ = (.slice A4 u4.length c4 : Value).ownBlock) rfl rfl ?aP ?aK ?aF ?aO ?aB ?aS ?aL ?_; (case aP => exact zgf _ _ _ (⟨u1, u2, u3, u4⟩ : S34) (zeu rfl HR4.out)); (case aK => intro k_ hk_; exact ⟨zci HW3.out (HR4.out.1 k_ hk_.symm), fun e_ => by have h1 := HR4.out.1 k_ hk_.symm; have h2 := Kd.S_lt HS3.out k_ e_.symm; omega⟩); (case aF => intro k_ hk_; exact zci HW4.out hk_); (case aO => exact HS4.out); (case aB => exact HB4.out); (case aS => exact HB4.out.size); (case aL => have h1 := HLT.out; omega); intro v5 w5 ho hb hg hat; rw [HTT.out] at ho; have HS5 := Aside0.mk ho; have HB5 := Aside0.mk hb; clear ho hb hg hat; obtain ⟨A5, c5, e5⟩ := zbg (Kd.S_R HS5.out); subst e5) | (go_at_call 43; refine (impl_QueueOk.calls k A5 c5 TT _ w5 (zcu HS5.out).2.2 (zcu HS5.out).2.1 FB.out).mono ?_; rintro e w6 ⟨rfl, hb6⟩; have HS6 := Aside0.mk (zdn HS5.out hb6); have HB6 := Aside0.mk (zad HB5.out hb6); clear hb6))
    go_ret2
    exact ⟨_, rfl, zeq HS7.out HB6.out.size, HB7.out⟩
 ·rw [if_neg hlt] at h
  cases h
def impl_Play.l0 : Nat → List Int → List (S34) → Int → Int → Option ((List (S34)) × Int × Int)
 | 0, _, _, _, _ => none
 | k + 1, x0, x5, x6, x7 => (impl_LineOf.f k x0 x7).bind fun bt1125 => (if bt1125.2.2.2.2.2.2 = true then (if bt1125.1 = 1 then ((impl_itemOf.f bt1125.1 bt1125.2.1 bt1125.2.2.1 bt1125.2.2.2.1 bt1125.2.2.2.2.1).bind fun bt1135 => ((impl_Put.f k x5 bt1135.1 bt1135.2.1 bt1135.2.2.1 bt1135.2.2.2).bind fun bt1141 => (impl_Play.l0 k x0 bt1141.1 x6 bt1125.2.2.2.2.2.1))) else (if bt1125.1 = 2 then ((impl_Take.f k x5 bt1125.2.1).bind fun bt1145 => (impl_Play.l0 k x0 bt1145.2.2.2.2.1 x6 bt1125.2.2.2.2.2.1)) else (if bt1125.1 = 3 then (if bt1125.2.2.2.1 ≥ x6 then ((impl_Due.f k x5 bt1125.2.2.2.1).bind fun t1155 => (impl_Play.l0 k x0 t1155 bt1125.2.2.2.1 bt1125.2.2.2.2.2.1)) else (impl_Play.l0 k x0 x5 x6 bt1125.2.2.2.2.2.1)) else (impl_Play.l0 k x0 x5 x6 bt1125.2.2.2.2.2.1)))) else (some (x5, x6, x7)))
def impl_Play.f (k : Nat) (l0 : List Int) : Option ((List (S34)) × Int × Int) := impl_Play.l0 k l0 (([] : List (S34))) 0 0
theorem impl_Play.mono_l : ∀ k, (∀ y0 y1 y2 y3, LeO (impl_Play.l0 k y0 y1 y2 y3) (impl_Play.l0 (k + 1) y0 y1 y2 y3))
 | 0 => fun _ _ _ _ r h => by simp [impl_Play.l0] at h
 | k + 1 => by
  have ih0 := impl_Play.mono_l k
  ·intro y0 y1 y2 y3
   unfold impl_Play.l0
   have m0 := @impl_Due.mono
   have m1 := @impl_LineOf.mono
   have m2 := @impl_Put.mono
   have m3 := @impl_Take.mono
   exact mt
theorem impl_Play.mono : ∀ a0 k, LeO (impl_Play.f k a0) (impl_Play.f (k + 1) a0) := by
 intro a0 k
 have ih0 := impl_Play.mono_l k
 unfold impl_Play.f
 have m0 := @impl_Due.mono
 have m1 := @impl_LineOf.mono
 have m2 := @impl_Put.mono
 have m3 := @impl_Take.mono
 exact mt
theorem impl_Play.calls (k : Nat) (A0 : Option Addr) (c0 : Nat) (l0 : List Int) (r1 : List (S34)) (r2 : Int) (r3 : Int) (w : World) (hr0 : Kd.C (Kd.int .u8) w A0 l0.length l0) (hc0 : l0.length ≤ c0) (h : impl_Play.f k l0 = some (r1, r2, r3)) :
  Calls Try.prog 70 #[.slice A0 l0.length c0] w fun e w' => ∃ v0_ : Value, e = .returned (.tuple #[v0_, .int .i64 r2, .int .i64 r3]) ∧ Kd.S k34 34 w' w.heap.size (fun _ => True) v0_ r1 ∧ Below w.heap.size w w' := by
 have hu48 := Try.underlying48
 have HR0 := Aside0.mk hr0
 have HC0 := Aside0.mk hc0
 clear hr0 hc0
 have HB := Aside0.mk (zbj w.heap.size w)
 have H : (impl_Play.l0 k l0 (([] : List (S34))) 0 0) = some (r1, r2, r3) := h
 clear h
 obtain ⟨y1122, hy1122⟩ : ∃ y_ : List (S34), y_ = (([] : List (S34))) := ⟨_, rfl⟩
 replace H : (impl_Play.l0 k l0 y1122 0 0) = some (r1, r2, r3) := jrw hy1122 H
 have Ny1122 := Aside0.mk hy1122
 clear hy1122
 have H' := Aside0.mk H
 clear H
 go_enter Try.func70, Try.ntmps70
 go_wp2_with (first | (refine jgd 11 ?_; refine Kd.S_lit k34 _ 34 ?hg (N := 11) ?hd (xs := ([] : List (S34))) (inner := []) (ok := fun _ => True) (okp := fun _ => True) ?hr ?hp (fun _ hk => hk) trivial (zbj _ _) (zaf _) (by simp) ?_; (case hd => rfl); (case hg => rfl); (case hr => first | (go_simp; done) | (go_simp; rfl)); (case hp => exact (zgg _ _)); intro v1123 w2 ho3 hb hg_ hnew_; have xb_ := below_ofs bq hb; clear hg_ hnew_; (first | rw [← Ny1122.out] at ho3 | (simp only [Int.reduceToNat] at ho3; rw [← Ny1122.out] at ho3)); have n_ := jA2 (zeq ho3 (zah xb_)) (zad xb_ hb); clear HB; obtain ⟨HO1124, HB⟩ := n_; clear xb_ hb ho3))
 go_loopg [5, 6, 7] k (fun kq v5 v6 v7 w' => ∃ (x5_1 : List (S34)) (x6_1 : Int) (x7_1 : Int), v6 = .int .i64 x6_1 ∧ v7 = .int .i64 x7_1 ∧ Aside0 (impl_Play.l0 kq l0 x5_1 x6_1 x7_1 = some (r1, r2, r3)) ∧ Aside0 (kq ≤ k) ∧ Aside0 (Kd.S k34 34 w' w.heap.size (fun _ => True) v5 x5_1) ∧ Aside0 (Below w.heap.size w w'))
 case atStart => exact ⟨(y1122), (0), (0), jer, jer, H', ⟨zaf _⟩, ⟨pS HO1124.out⟩, ⟨bq⟩⟩
 case round =>
  clear H'
  try clear p2
  obtain ⟨x5_1, x6_1, x7_1, rfl, rfl, HA, HK1, HO_5, HB⟩ := hrel
  cases gk with
  | zero => exact absurd HA.out (by simp [impl_Play.l0])
  | succ k1 =>
   have H := HA.out
   clear HA
   simp only [impl_Play.l0] at H
   obtain ⟨⟨t1125, t1126, t1127, t1128, t1129, t1132, t1133⟩, A4, H⟩ := bnd H
   try dsimp only at H
   by_cases c5 : t1133 = true
   ·subst c5
    rw [if_pos rfl] at H
    by_cases c6 : t1125 = 1
    ·rw [if_pos c6] at H
     have c6b0 := beqT c6
     have c6b1 := zbe.mpr c6
     clear c6
     obtain ⟨⟨t1135, t1136, t1137, t1138⟩, A7, H⟩ := bnd H
     try dsimp only at H
     obtain ⟨⟨t1141, t1144⟩, A8, H⟩ := bnd H
     try dsimp only at H
     have H' := Aside0.mk H
     clear H
     go_wp2_with (first | (refine jgc 56 ?_; refine jgs 15 Try.func56 #[.slice A0 l0.length c0, .int .i64 x7_1] ?_; (with_reducible refine (impl_LineOf.calls k1 _ _ l0 x7_1 t1125 t1126 t1127 t1128 t1129 t1132 true _ ?side1 ?side2 A4.out).mono ?_); (case side1 => exact jcs HR0.out); (case side2 => exact HC0.out); rintro e w9 ⟨v1130, rfl, ho0, hb⟩; refine ⟨_, rfl, ?_⟩; have xb_ := below_ofs bq hb; have n_ := jA3 (zdt (pS HO_5.out) (zba ho0) hb) (zaw ho0 (zah xb_)) (zad xb_ hb); clear HO_5 HB; obtain ⟨HO_5, HO1131, HB⟩ := n_; clear xb_ hb ho0) | (refine jgd 8 ?_; refine bx 8 (#[.int .i64 0, .string (⟨#[]⟩ : ByteArray), .int .i64 0, .int .i64 0, .slice none 0 0]) 48 ?_; intro gb1134 hg w10 hbox hb; have xb_ := below_ofs bq hb; have n_ := jA6 (zdn (pS HO_5.out) hb) (zdz (pR HO1131.out) hb) (zad xb_ hb) (hbox) (ge0 hg xb_ : w.heap.size ≤ gb1134) (ge0 hg xb_ : w.heap.size ≤ gb1134); clear HO_5 HO1131 HB; obtain ⟨HO_5, HO1131, HB, BK1134, GW1134, GE1134⟩ := n_; clear xb_ hb hbox hg; obtain ⟨hcz11_0, hcz11_1, hcz11_2, hcz11_3, hcz11_4, hfz11_0, hfz11_1, hfz11_2, hfz11_3, hfz11_4⟩ := cz5 BK1134.out; obtain ⟨Ao12, co12, eo12⟩ := zbg HO1131.out; subst eo12) | (refine jgc 93 ?_; refine jgs 32 Try.func93 #[.agg #[.int .i64 t1125, .string t1126, .int .i64 t1127, .int .i64 t1128, .slice Ao12 t1129.length co12]] ?_; (with_reducible refine (impl_itemOf.calls t1125 t1126 t1127 t1128 _ _ t1129 t1135 t1136 t1137 t1138 _ ?side1 ?side2 A7.out).mono ?_); (case side1 => refine (zbq (e := 5) (base := w.heap.size) (ok := fun k_ => True) (n := t1129.length) (c := co12) ?_).2.2; exact (by (with_reducible repeat (first | apply zap | apply zaq | apply zav)); exact (zak (zch (p := ⟨gb1134, 4, none⟩) (zch (p := ⟨gb1134, 3, none⟩) (zch (p := ⟨gb1134, 2, none⟩) (zch (p := ⟨gb1134, 1, none⟩) (zch (p := ⟨gb1134, 0, none⟩) (zby HO1131.out BK1134.out (by decide)) (fun _ hk => hk.2) (.int .i64 t1125)) (fun _ hk => hk.2) (.string t1126)) (fun _ hk => hk.2) (.int .i64 t1127)) (fun _ hk => hk.2) (.int .i64 t1128)) (fun _ hk => hk.2) (.slice Ao12 t1129.length co12)) (fun _ h_ => h_.1)))); (case side2 => exact (zbq HO1131.out).2.1); rintro e w13 ⟨v1139, rfl, ho0, hb⟩; refine ⟨_, rfl, ?_⟩; have n_ := jA5 (zdt (by (with_reducible repeat (first | apply zcy | apply zcz | apply zdr)); exact (zcs (zde (p := ⟨gb1134, 4, none⟩) (zde (p := ⟨gb1134, 3, none⟩) (zde (p := ⟨gb1134, 2, none⟩) (zde (p := ⟨gb1134, 1, none⟩) (zde (p := ⟨gb1134, 0, none⟩) (Kd.S_types HO_5.out BK1134.out (by decide)) (fun _ hk => hk.2) (.int .i64 t1125)) (fun _ hk => hk.2) (.string t1126)) (fun _ hk => hk.2) (.int .i64 t1127)) (fun _ hk => hk.2) (.int .i64 t1128)) (fun _ hk => hk.2) (.slice Ao12 t1129.length co12)) (fun _ h_ => h_.1))) (zba ho0) hb) (zbl (by (with_reducible repeat (first | apply zap | apply zaq | apply zav)); exact (zak (zch (p := ⟨gb1134, 4, none⟩) (zch (p := ⟨gb1134, 3, none⟩) (zch (p := ⟨gb1134, 2, none⟩) (zch (p := ⟨gb1134, 1, none⟩) (zch (p := ⟨gb1134, 0, none⟩) (zby HO1131.out BK1134.out (by decide)) (fun _ hk => hk.2) (.int .i64 t1125)) (fun _ hk => hk.2) (.string t1126)) (fun _ hk => hk.2) (.int .i64 t1127)) (fun _ hk => hk.2) (.int .i64 t1128)) (fun _ hk => hk.2) (.slice Ao12 t1129.length co12)) (fun _ h_ => h_.1))) (zba ho0) hb) (zaw (zda ho0 (zce (by (with_reducible repeat (first | apply zap | apply zaq | apply zav)); exact (zak (zch (p := ⟨gb1134, 4, none⟩) (zch (p := ⟨gb1134, 3, none⟩) (zch (p := ⟨gb1134, 2, none⟩) (zch (p := ⟨gb1134, 1, none⟩) (zch (p := ⟨gb1134, 0, none⟩) (zby HO1131.out BK1134.out (by decide)) (fun _ hk => hk.2) (.int .i64 t1125)) (fun _ hk => hk.2) (.string t1126)) (fun _ hk => hk.2) (.int .i64 t1127)) (fun _ hk => hk.2) (.int .i64 t1128)) (fun _ hk => hk.2) (.slice Ao12 t1129.length co12)) (fun _ h_ => h_.1))))) (zah (bs1 GE1134.out))) (blk_below (g := gb1134) (o := .cells #[.int .i64 t1125, .string t1126, .int .i64 t1127, .int .i64 t1128, .slice Ao12 t1129.length co12] 48 (0, 0)) (by (with_reducible repeat (first | refine zbr ?_ _ | refine zbu ?_ | refine zbs ?_ _)); refine zea (cs := #[.int .i64 t1125, .string t1126, .int .i64 t1127, .int .i64 t1128, .slice none 0 0]) ?_ 4 _ rfl; (with_reducible repeat (first | refine zbr ?_ _ | refine zbu ?_ | refine zbs ?_ _)); refine zea (cs := #[.int .i64 t1125, .string t1126, .int .i64 t1127, .int .i64 0, .slice none 0 0]) ?_ 3 _ rfl; (with_reducible repeat (first | refine zbr ?_ _ | refine zbu ?_ | refine zbs ?_ _)); refine zea (cs := #[.int .i64 t1125, .string t1126, .int .i64 0, .int .i64 0, .slice none 0 0]) ?_ 2 _ rfl; (with_reducible repeat (first | refine zbr ?_ _ | refine zbu ?_ | refine zbs ?_ _)); refine zea (cs := #[.int .i64 t1125, .string (⟨#[]⟩ : ByteArray), .int .i64 0, .int .i64 0, .slice none 0 0]) ?_ 1 _ rfl; (with_reducible repeat (first | refine zbr ?_ _ | refine zbu ?_ | refine zbs ?_ _)); refine zea (cs := #[.int .i64 0, .string (⟨#[]⟩ : ByteArray), .int .i64 0, .int .i64 0, .slice none 0 0]) ?_ 0 _ rfl; (with_reducible repeat (first | refine zbr ?_ _ | refine zbu ?_ | refine zbs ?_ _)); exact BK1134.out) hb) (zad (bs1 GE1134.out) hb); clear HO_5 HO1131 BK1134 HB; obtain ⟨HO_5, HO1131, HO1140, BK1134, HB⟩ := n_; clear hb ho0; obtain ⟨Ao14, co14, eo14⟩ := Kd.S_slice HO_5.out; subst eo14; obtain ⟨Ao15, co15, eo15⟩ := zbg HO1140.out; subst eo15) | (refine jgc 60 ?_; refine jgs 33 Try.func60 #[.slice Ao14 x5_1.length co14, .agg #[.string t1135, .int .i64 t1136, .int .i64 t1137, .slice Ao15 t1138.length co15]] ?_; (with_reducible refine (impl_Put.calls k1 _ _ x5_1 t1135 t1136 t1137 _ _ t1138 t1141 t1144 _ ?side1 ?side2 ?side3 ?side4 A8.out).mono ?_); (case side1 => repeat (first | exact (zcu HO_5.out).2.2 | (with_reducible first | apply zdk | apply zdw | apply zeh))); (case side2 => exact (zcu HO_5.out).2.1); (case side3 => repeat (first | exact (zbq HO1140.out).2.2 | (with_reducible first | apply zdk | apply zdw | apply zeh))); (case side4 => exact (zbq HO1140.out).2.1); rintro e w16 ⟨v1142, rfl, ho0, hb⟩; refine ⟨_, rfl, ?_⟩; have n_ := jA6 (zdt (pS HO_5.out) (Kd.S_base ho0) hb) (zdz (pR HO1131.out) hb) (zdz (pR HO1140.out) hb) (zeq (Kd.S_new' (Kd.S_new' (Kd.S_new' ho0 (Kd.S_lt (pS HO_5.out))) (zce (pR HO1131.out))) (zce (pR HO1140.out))) (zah (bs1 GE1134.out))) (jbb BK1134.out hb) (zad (bs1 GE1134.out) hb); clear HO_5 HO1131 HO1140 BK1134 HB; obtain ⟨HO_5, HO1131, HO1140, HO1143, BK1134, HB⟩ := n_; clear hb ho0))
     go_roundg k1
     case measure => have := HK1.out; omega
     case rel => exact ⟨(t1141), (x6_1), (t1132), jer, jer, H', ⟨by have := HK1.out; omega⟩, ⟨by (with_reducible repeat (first | apply zcy | apply zcz | apply zdr)); exact zcs HO1143.out (fun _ hk => trivial)⟩, ⟨bs1 GE1134.out⟩⟩
    ·rw [if_neg c6] at H
     have c6b0 := zax.mpr c6
     have c6b1 := zdb.mpr c6
     by_cases c17 : t1125 = 2
     ·rw [if_pos c17] at H
      have c17b0 := beqT c17
      have c17b1 := zbe.mpr c17
      clear c17
      obtain ⟨⟨t1145, t1146, t1147, t1148, t1151, t1154⟩, A18, H⟩ := bnd H
      try dsimp only at H
      have H' := Aside0.mk H
      clear H
      go_wp2_with (first | (refine jgc 56 ?_; refine jgs 15 Try.func56 #[.slice A0 l0.length c0, .int .i64 x7_1] ?_; (with_reducible refine (impl_LineOf.calls k1 _ _ l0 x7_1 t1125 t1126 t1127 t1128 t1129 t1132 true _ ?side1 ?side2 A4.out).mono ?_); (case side1 => exact jcs HR0.out); (case side2 => exact HC0.out); rintro e w19 ⟨v1130, rfl, ho0, hb⟩; refine ⟨_, rfl, ?_⟩; have xb_ := below_ofs bq hb; have n_ := jA3 (zdt (pS HO_5.out) (zba ho0) hb) (zaw ho0 (zah xb_)) (zad xb_ hb); clear HO_5 HB; obtain ⟨HO_5, HO1131, HB⟩ := n_; clear xb_ hb ho0) | (refine jgd 8 ?_; refine bx 8 (#[.int .i64 0, .string (⟨#[]⟩ : ByteArray), .int .i64 0, .int .i64 0, .slice none 0 0]) 48 ?_; intro gb1134 hg w20 hbox hb; have xb_ := below_ofs bq hb; have n_ := jA6 (zdn (pS HO_5.out) hb) (zdz (pR HO1131.out) hb) (zad xb_ hb) (hbox) (ge0 hg xb_ : w.heap.size ≤ gb1134) (ge0 hg xb_ : w.heap.size ≤ gb1134); clear HO_5 HO1131 HB; obtain ⟨HO_5, HO1131, HB, BK1134, GW1134, GE1134⟩ := n_; clear xb_ hb hbox hg; obtain ⟨hcz21_0, hcz21_1, hcz21_2, hcz21_3, hcz21_4, hfz21_0, hfz21_1, hfz21_2, hfz21_3, hfz21_4⟩ := cz5 BK1134.out; obtain ⟨Ao22, co22, eo22⟩ := zbg HO1131.out; subst eo22; obtain ⟨Ao23, co23, eo23⟩ := Kd.S_slice HO_5.out; subst eo23) | (refine jgc 45 ?_; refine jgs 42 Try.func45 #[.slice Ao23 x5_1.length co23, .string t1126] ?_; (with_reducible refine (impl_Take.calls k1 _ _ x5_1 t1126 t1145 t1146 t1147 t1148 t1151 t1154 _ ?side1 ?side2 A18.out).mono ?_); (case side1 => refine (zcu (e := 34) (base := w.heap.size) (ok := fun k_ => (True ∧ some k_ ≠ (.slice Ao22 t1129.length co22 : Value).ownBlock)) (n := x5_1.length) (c := co23) ?_).2.2; exact (by (with_reducible repeat (first | apply zcy | apply zcz | apply zdr)); exact (zcs (zde (p := ⟨gb1134, 4, none⟩) (zde (p := ⟨gb1134, 3, none⟩) (zde (p := ⟨gb1134, 2, none⟩) (zde (p := ⟨gb1134, 1, none⟩) (zde (p := ⟨gb1134, 0, none⟩) (Kd.S_types HO_5.out BK1134.out (by decide)) (fun _ hk => hk.2) (.int .i64 t1125)) (fun _ hk => hk.2) (.string t1126)) (fun _ hk => hk.2) (.int .i64 t1127)) (fun _ hk => hk.2) (.int .i64 t1128)) (fun _ hk => hk.2) (.slice Ao22 t1129.length co22)) (fun _ h_ => h_.1)))); (case side2 => exact (zcu HO_5.out).2.1); rintro e w24 ⟨v1149, v1152, rfl, ho0, ho1, hb⟩; refine ⟨_, rfl, ?_⟩; have n_ := jA6 (zcs (Kd.S_told (Kd.S_told (Kd.S_old (by (with_reducible repeat (first | apply zcy | apply zcz | apply zdr)); exact (zcs (zde (p := ⟨gb1134, 4, none⟩) (zde (p := ⟨gb1134, 3, none⟩) (zde (p := ⟨gb1134, 2, none⟩) (zde (p := ⟨gb1134, 1, none⟩) (zde (p := ⟨gb1134, 0, none⟩) (Kd.S_types HO_5.out BK1134.out (by decide)) (fun _ hk => hk.2) (.int .i64 t1125)) (fun _ hk => hk.2) (.string t1126)) (fun _ hk => hk.2) (.int .i64 t1127)) (fun _ hk => hk.2) (.int .i64 t1128)) (fun _ hk => hk.2) (.slice Ao22 t1129.length co22)) (fun _ h_ => h_.1))) hb) (zba ho0)) (Kd.S_base ho1)) (fun _ h_ => h_.1)) (zbl (by (with_reducible repeat (first | apply zap | apply zaq | apply zav)); exact (zak (zch (p := ⟨gb1134, 4, none⟩) (zch (p := ⟨gb1134, 3, none⟩) (zch (p := ⟨gb1134, 2, none⟩) (zch (p := ⟨gb1134, 1, none⟩) (zch (p := ⟨gb1134, 0, none⟩) (zby HO1131.out BK1134.out (by decide)) (fun _ hk => hk.2) (.int .i64 t1125)) (fun _ hk => hk.2) (.string t1126)) (fun _ hk => hk.2) (.int .i64 t1127)) (fun _ hk => hk.2) (.int .i64 t1128)) (fun _ hk => hk.2) (.slice Ao22 t1129.length co22)) (fun _ h_ => h_.1))) (zba ho0) hb) (zaw (zda ho0 (zce (by (with_reducible repeat (first | apply zap | apply zaq | apply zav)); exact (zak (zch (p := ⟨gb1134, 4, none⟩) (zch (p := ⟨gb1134, 3, none⟩) (zch (p := ⟨gb1134, 2, none⟩) (zch (p := ⟨gb1134, 1, none⟩) (zch (p := ⟨gb1134, 0, none⟩) (zby HO1131.out BK1134.out (by decide)) (fun _ hk => hk.2) (.int .i64 t1125)) (fun _ hk => hk.2) (.string t1126)) (fun _ hk => hk.2) (.int .i64 t1127)) (fun _ hk => hk.2) (.int .i64 t1128)) (fun _ hk => hk.2) (.slice Ao22 t1129.length co22)) (fun _ h_ => h_.1))))) (zah (bs1 GE1134.out))) (zeq (Kd.S_new' (Kd.S_new' ho1 (Kd.S_lt (by (with_reducible repeat (first | apply zcy | apply zcz | apply zdr)); exact (zcs (zde (p := ⟨gb1134, 4, none⟩) (zde (p := ⟨gb1134, 3, none⟩) (zde (p := ⟨gb1134, 2, none⟩) (zde (p := ⟨gb1134, 1, none⟩) (zde (p := ⟨gb1134, 0, none⟩) (Kd.S_types HO_5.out BK1134.out (by decide)) (fun _ hk => hk.2) (.int .i64 t1125)) (fun _ hk => hk.2) (.string t1126)) (fun _ hk => hk.2) (.int .i64 t1127)) (fun _ hk => hk.2) (.int .i64 t1128)) (fun _ hk => hk.2) (.slice Ao22 t1129.length co22)) (fun _ h_ => h_.1))))) (zce (by (with_reducible repeat (first | apply zap | apply zaq | apply zav)); exact (zak (zch (p := ⟨gb1134, 4, none⟩) (zch (p := ⟨gb1134, 3, none⟩) (zch (p := ⟨gb1134, 2, none⟩) (zch (p := ⟨gb1134, 1, none⟩) (zch (p := ⟨gb1134, 0, none⟩) (zby HO1131.out BK1134.out (by decide)) (fun _ hk => hk.2) (.int .i64 t1125)) (fun _ hk => hk.2) (.string t1126)) (fun _ hk => hk.2) (.int .i64 t1127)) (fun _ hk => hk.2) (.int .i64 t1128)) (fun _ hk => hk.2) (.slice Ao22 t1129.length co22)) (fun _ h_ => h_.1))))) (zah (bs1 GE1134.out))) (blk_below (g := gb1134) (o := .cells #[.int .i64 t1125, .string t1126, .int .i64 t1127, .int .i64 t1128, .slice Ao22 t1129.length co22] 48 (0, 0)) (by (with_reducible repeat (first | refine zbr ?_ _ | refine zbu ?_ | refine zbs ?_ _)); refine zea (cs := #[.int .i64 t1125, .string t1126, .int .i64 t1127, .int .i64 t1128, .slice none 0 0]) ?_ 4 _ rfl; (with_reducible repeat (first | refine zbr ?_ _ | refine zbu ?_ | refine zbs ?_ _)); refine zea (cs := #[.int .i64 t1125, .string t1126, .int .i64 t1127, .int .i64 0, .slice none 0 0]) ?_ 3 _ rfl; (with_reducible repeat (first | refine zbr ?_ _ | refine zbu ?_ | refine zbs ?_ _)); refine zea (cs := #[.int .i64 t1125, .string t1126, .int .i64 0, .int .i64 0, .slice none 0 0]) ?_ 2 _ rfl; (with_reducible repeat (first | refine zbr ?_ _ | refine zbu ?_ | refine zbs ?_ _)); refine zea (cs := #[.int .i64 t1125, .string (⟨#[]⟩ : ByteArray), .int .i64 0, .int .i64 0, .slice none 0 0]) ?_ 1 _ rfl; (with_reducible repeat (first | refine zbr ?_ _ | refine zbu ?_ | refine zbs ?_ _)); refine zea (cs := #[.int .i64 0, .string (⟨#[]⟩ : ByteArray), .int .i64 0, .int .i64 0, .slice none 0 0]) ?_ 0 _ rfl; (with_reducible repeat (first | refine zbr ?_ _ | refine zbu ?_ | refine zbs ?_ _)); exact BK1134.out) hb) (zad (bs1 GE1134.out) hb); clear HO_5 HO1131 BK1134 HB; obtain ⟨HO_5, HO1131, HO1150, HO1153, BK1134, HB⟩ := n_; clear hb ho0; (try clear ho1)))
      go_roundg k1
      case measure => have := HK1.out; omega
      case rel => exact ⟨(t1151), (x6_1), (t1132), jer, jer, H', ⟨by have := HK1.out; omega⟩, ⟨by (with_reducible repeat (first | apply zcy | apply zcz | apply zdr)); exact zcs HO1153.out (fun _ hk => trivial)⟩, ⟨bs1 GE1134.out⟩⟩
     ·rw [if_neg c17] at H
      have c17b0 := zax.mpr c17
      have c17b1 := zdb.mpr c17
      by_cases c25 : t1125 = 3
      ·rw [if_pos c25] at H
       have c25b0 := beqT c25
       have c25b1 := zbe.mpr c25
       clear c25
       by_cases c26 : t1128 ≥ x6_1
       ·rw [if_pos c26] at H
        have c26b0 := zae c26
        clear c26
        obtain ⟨t1155, A27, H⟩ := bnd H
        have H' := Aside0.mk H
        clear H
        go_wp2_with (first | (refine jgc 56 ?_; refine jgs 15 Try.func56 #[.slice A0 l0.length c0, .int .i64 x7_1] ?_; (with_reducible refine (impl_LineOf.calls k1 _ _ l0 x7_1 t1125 t1126 t1127 t1128 t1129 t1132 true _ ?side1 ?side2 A4.out).mono ?_); (case side1 => exact jcs HR0.out); (case side2 => exact HC0.out); rintro e w28 ⟨v1130, rfl, ho0, hb⟩; refine ⟨_, rfl, ?_⟩; have xb_ := below_ofs bq hb; have n_ := jA3 (zdt (pS HO_5.out) (zba ho0) hb) (zaw ho0 (zah xb_)) (zad xb_ hb); clear HO_5 HB; obtain ⟨HO_5, HO1131, HB⟩ := n_; clear xb_ hb ho0) | (refine jgd 8 ?_; refine bx 8 (#[.int .i64 0, .string (⟨#[]⟩ : ByteArray), .int .i64 0, .int .i64 0, .slice none 0 0]) 48 ?_; intro gb1134 hg w29 hbox hb; have xb_ := below_ofs bq hb; have n_ := jA6 (zdn (pS HO_5.out) hb) (zdz (pR HO1131.out) hb) (zad xb_ hb) (hbox) (ge0 hg xb_ : w.heap.size ≤ gb1134) (ge0 hg xb_ : w.heap.size ≤ gb1134); clear HO_5 HO1131 HB; obtain ⟨HO_5, HO1131, HB, BK1134, GW1134, GE1134⟩ := n_; clear xb_ hb hbox hg; obtain ⟨hcz30_0, hcz30_1, hcz30_2, hcz30_3, hcz30_4, hfz30_0, hfz30_1, hfz30_2, hfz30_3, hfz30_4⟩ := cz5 BK1134.out; obtain ⟨Ao31, co31, eo31⟩ := zbg HO1131.out; subst eo31; obtain ⟨Ao32, co32, eo32⟩ := Kd.S_slice HO_5.out; subst eo32) | (refine jgc 39 ?_; refine jgs 56 Try.func39 #[.slice Ao32 x5_1.length co32, .int .i64 t1128] ?_; (with_reducible refine (impl_Due.calls k1 _ _ x5_1 t1128 t1155 _ ?side1 ?side2 A27.out).mono ?_); (case side1 => refine (zcu (e := 34) (base := w.heap.size) (ok := fun k_ => (True ∧ some k_ ≠ (.slice Ao31 t1129.length co31 : Value).ownBlock)) (n := x5_1.length) (c := co32) ?_).2.2; exact (by (with_reducible repeat (first | apply zcy | apply zcz | apply zdr)); exact (zcs (zde (p := ⟨gb1134, 4, none⟩) (zde (p := ⟨gb1134, 3, none⟩) (zde (p := ⟨gb1134, 2, none⟩) (zde (p := ⟨gb1134, 1, none⟩) (zde (p := ⟨gb1134, 0, none⟩) (Kd.S_types HO_5.out BK1134.out (by decide)) (fun _ hk => hk.2) (.int .i64 t1125)) (fun _ hk => hk.2) (.string t1126)) (fun _ hk => hk.2) (.int .i64 t1127)) (fun _ hk => hk.2) (.int .i64 t1128)) (fun _ hk => hk.2) (.slice Ao31 t1129.length co31)) (fun _ h_ => h_.1)))); (case side2 => exact (zcu HO_5.out).2.1); rintro e w33 ⟨v1156, rfl, ho0, hb⟩; refine ⟨_, rfl, ?_⟩; have n_ := jA5 (zdt (by (with_reducible repeat (first | apply zcy | apply zcz | apply zdr)); exact (zcs (zde (p := ⟨gb1134, 4, none⟩) (zde (p := ⟨gb1134, 3, none⟩) (zde (p := ⟨gb1134, 2, none⟩) (zde (p := ⟨gb1134, 1, none⟩) (zde (p := ⟨gb1134, 0, none⟩) (Kd.S_types HO_5.out BK1134.out (by decide)) (fun _ hk => hk.2) (.int .i64 t1125)) (fun _ hk => hk.2) (.string t1126)) (fun _ hk => hk.2) (.int .i64 t1127)) (fun _ hk => hk.2) (.int .i64 t1128)) (fun _ hk => hk.2) (.slice Ao31 t1129.length co31)) (fun _ h_ => h_.1))) (Kd.S_base ho0) hb) (zdz (by (with_reducible repeat (first | apply zap | apply zaq | apply zav)); exact (zak (zch (p := ⟨gb1134, 4, none⟩) (zch (p := ⟨gb1134, 3, none⟩) (zch (p := ⟨gb1134, 2, none⟩) (zch (p := ⟨gb1134, 1, none⟩) (zch (p := ⟨gb1134, 0, none⟩) (zby HO1131.out BK1134.out (by decide)) (fun _ hk => hk.2) (.int .i64 t1125)) (fun _ hk => hk.2) (.string t1126)) (fun _ hk => hk.2) (.int .i64 t1127)) (fun _ hk => hk.2) (.int .i64 t1128)) (fun _ hk => hk.2) (.slice Ao31 t1129.length co31)) (fun _ h_ => h_.1))) hb) (zeq (Kd.S_new' (Kd.S_new' ho0 (Kd.S_lt (by (with_reducible repeat (first | apply zcy | apply zcz | apply zdr)); exact (zcs (zde (p := ⟨gb1134, 4, none⟩) (zde (p := ⟨gb1134, 3, none⟩) (zde (p := ⟨gb1134, 2, none⟩) (zde (p := ⟨gb1134, 1, none⟩) (zde (p := ⟨gb1134, 0, none⟩) (Kd.S_types HO_5.out BK1134.out (by decide)) (fun _ hk => hk.2) (.int .i64 t1125)) (fun _ hk => hk.2) (.string t1126)) (fun _ hk => hk.2) (.int .i64 t1127)) (fun _ hk => hk.2) (.int .i64 t1128)) (fun _ hk => hk.2) (.slice Ao31 t1129.length co31)) (fun _ h_ => h_.1))))) (zce (by (with_reducible repeat (first | apply zap | apply zaq | apply zav)); exact (zak (zch (p := ⟨gb1134, 4, none⟩) (zch (p := ⟨gb1134, 3, none⟩) (zch (p := ⟨gb1134, 2, none⟩) (zch (p := ⟨gb1134, 1, none⟩) (zch (p := ⟨gb1134, 0, none⟩) (zby HO1131.out BK1134.out (by decide)) (fun _ hk => hk.2) (.int .i64 t1125)) (fun _ hk => hk.2) (.string t1126)) (fun _ hk => hk.2) (.int .i64 t1127)) (fun _ hk => hk.2) (.int .i64 t1128)) (fun _ hk => hk.2) (.slice Ao31 t1129.length co31)) (fun _ h_ => h_.1))))) (zah (bs1 GE1134.out))) (blk_below (g := gb1134) (o := .cells #[.int .i64 t1125, .string t1126, .int .i64 t1127, .int .i64 t1128, .slice Ao31 t1129.length co31] 48 (0, 0)) (by (with_reducible repeat (first | refine zbr ?_ _ | refine zbu ?_ | refine zbs ?_ _)); refine zea (cs := #[.int .i64 t1125, .string t1126, .int .i64 t1127, .int .i64 t1128, .slice none 0 0]) ?_ 4 _ rfl; (with_reducible repeat (first | refine zbr ?_ _ | refine zbu ?_ | refine zbs ?_ _)); refine zea (cs := #[.int .i64 t1125, .string t1126, .int .i64 t1127, .int .i64 0, .slice none 0 0]) ?_ 3 _ rfl; (with_reducible repeat (first | refine zbr ?_ _ | refine zbu ?_ | refine zbs ?_ _)); refine zea (cs := #[.int .i64 t1125, .string t1126, .int .i64 0, .int .i64 0, .slice none 0 0]) ?_ 2 _ rfl; (with_reducible repeat (first | refine zbr ?_ _ | refine zbu ?_ | refine zbs ?_ _)); refine zea (cs := #[.int .i64 t1125, .string (⟨#[]⟩ : ByteArray), .int .i64 0, .int .i64 0, .slice none 0 0]) ?_ 1 _ rfl; (with_reducible repeat (first | refine zbr ?_ _ | refine zbu ?_ | refine zbs ?_ _)); refine zea (cs := #[.int .i64 0, .string (⟨#[]⟩ : ByteArray), .int .i64 0, .int .i64 0, .slice none 0 0]) ?_ 0 _ rfl; (with_reducible repeat (first | refine zbr ?_ _ | refine zbu ?_ | refine zbs ?_ _)); exact BK1134.out) hb) (zad (bs1 GE1134.out) hb); clear HO_5 HO1131 BK1134 HB; obtain ⟨HO_5, HO1131, HO1157, BK1134, HB⟩ := n_; clear hb ho0))
        go_roundg k1
        case measure => have := HK1.out; omega
        case rel => exact ⟨(t1155), (t1128), (t1132), jer, jer, H', ⟨by have := HK1.out; omega⟩, ⟨by (with_reducible repeat (first | apply zcy | apply zcz | apply zdr)); exact zcs HO1157.out (fun _ hk => trivial)⟩, ⟨bs1 GE1134.out⟩⟩
       ·rw [if_neg c26] at H
        have c26b0 := zas c26
        clear c26
        have H' := Aside0.mk H
        clear H
        go_wp2_with (first | (refine jgc 56 ?_; refine jgs 15 Try.func56 #[.slice A0 l0.length c0, .int .i64 x7_1] ?_; (with_reducible refine (impl_LineOf.calls k1 _ _ l0 x7_1 t1125 t1126 t1127 t1128 t1129 t1132 true _ ?side1 ?side2 A4.out).mono ?_); (case side1 => exact jcs HR0.out); (case side2 => exact HC0.out); rintro e w34 ⟨v1130, rfl, ho0, hb⟩; refine ⟨_, rfl, ?_⟩; have xb_ := below_ofs bq hb; have n_ := jA3 (zdt (pS HO_5.out) (zba ho0) hb) (zaw ho0 (zah xb_)) (zad xb_ hb); clear HO_5 HB; obtain ⟨HO_5, HO1131, HB⟩ := n_; clear xb_ hb ho0) | (refine jgd 8 ?_; refine bx 8 (#[.int .i64 0, .string (⟨#[]⟩ : ByteArray), .int .i64 0, .int .i64 0, .slice none 0 0]) 48 ?_; intro gb1134 hg w35 hbox hb; have xb_ := below_ofs bq hb; have n_ := jA6 (zdn (pS HO_5.out) hb) (zdz (pR HO1131.out) hb) (zad xb_ hb) (hbox) (ge0 hg xb_ : w.heap.size ≤ gb1134) (ge0 hg xb_ : w.heap.size ≤ gb1134); clear HO_5 HO1131 HB; obtain ⟨HO_5, HO1131, HB, BK1134, GW1134, GE1134⟩ := n_; clear xb_ hb hbox hg; obtain ⟨hcz36_0, hcz36_1, hcz36_2, hcz36_3, hcz36_4, hfz36_0, hfz36_1, hfz36_2, hfz36_3, hfz36_4⟩ := cz5 BK1134.out; obtain ⟨Ao37, co37, eo37⟩ := zbg HO1131.out; subst eo37))
        go_roundg k1
        case measure => have := HK1.out; omega
        case rel => exact ⟨(x5_1), (x6_1), (t1132), jer, jer, H', ⟨by have := HK1.out; omega⟩, ⟨by (with_reducible repeat (first | apply zcy | apply zcz | apply zdr)); exact zcs (zde (p := ⟨gb1134, 4, none⟩) (zde (p := ⟨gb1134, 3, none⟩) (zde (p := ⟨gb1134, 2, none⟩) (zde (p := ⟨gb1134, 1, none⟩) (zde (p := ⟨gb1134, 0, none⟩) (Kd.S_types HO_5.out BK1134.out (by decide)) (fun _ hk => hk.2) (.int .i64 t1125)) (fun _ hk => hk.2) (.string t1126)) (fun _ hk => hk.2) (.int .i64 t1127)) (fun _ hk => hk.2) (.int .i64 t1128)) (fun _ hk => hk.2) (.slice Ao37 t1129.length co37)) (fun _ hk => trivial)⟩, ⟨bs1 GE1134.out⟩⟩
      ·rw [if_neg c25] at H
       have c25b0 := zax.mpr c25
       have c25b1 := zdb.mpr c25
       have H' := Aside0.mk H
       clear H
       go_wp2_with (first | (refine jgc 56 ?_; refine jgs 15 Try.func56 #[.slice A0 l0.length c0, .int .i64 x7_1] ?_; (with_reducible refine (impl_LineOf.calls k1 _ _ l0 x7_1 t1125 t1126 t1127 t1128 t1129 t1132 true _ ?side1 ?side2 A4.out).mono ?_); (case side1 => exact jcs HR0.out); (case side2 => exact HC0.out); rintro e w38 ⟨v1130, rfl, ho0, hb⟩; refine ⟨_, rfl, ?_⟩; have xb_ := below_ofs bq hb; have n_ := jA3 (zdt (pS HO_5.out) (zba ho0) hb) (zaw ho0 (zah xb_)) (zad xb_ hb); clear HO_5 HB; obtain ⟨HO_5, HO1131, HB⟩ := n_; clear xb_ hb ho0) | (refine jgd 8 ?_; refine bx 8 (#[.int .i64 0, .string (⟨#[]⟩ : ByteArray), .int .i64 0, .int .i64 0, .slice none 0 0]) 48 ?_; intro gb1134 hg w39 hbox hb; have xb_ := below_ofs bq hb; have n_ := jA6 (zdn (pS HO_5.out) hb) (zdz (pR HO1131.out) hb) (zad xb_ hb) (hbox) (ge0 hg xb_ : w.heap.size ≤ gb1134) (ge0 hg xb_ : w.heap.size ≤ gb1134); clear HO_5 HO1131 HB; obtain ⟨HO_5, HO1131, HB, BK1134, GW1134, GE1134⟩ := n_; clear xb_ hb hbox hg; obtain ⟨hcz40_0, hcz40_1, hcz40_2, hcz40_3, hcz40_4, hfz40_0, hfz40_1, hfz40_2, hfz40_3, hfz40_4⟩ := cz5 BK1134.out; obtain ⟨Ao41, co41, eo41⟩ := zbg HO1131.out; subst eo41))
       go_roundg k1
       case measure => have := HK1.out; omega
       case rel => exact ⟨(x5_1), (x6_1), (t1132), jer, jer, H', ⟨by have := HK1.out; omega⟩, ⟨by (with_reducible repeat (first | apply zcy | apply zcz | apply zdr)); exact zcs (zde (p := ⟨gb1134, 4, none⟩) (zde (p := ⟨gb1134, 3, none⟩) (zde (p := ⟨gb1134, 2, none⟩) (zde (p := ⟨gb1134, 1, none⟩) (zde (p := ⟨gb1134, 0, none⟩) (Kd.S_types HO_5.out BK1134.out (by decide)) (fun _ hk => hk.2) (.int .i64 t1125)) (fun _ hk => hk.2) (.string t1126)) (fun _ hk => hk.2) (.int .i64 t1127)) (fun _ hk => hk.2) (.int .i64 t1128)) (fun _ hk => hk.2) (.slice Ao41 t1129.length co41)) (fun _ hk => trivial)⟩, ⟨bs1 GE1134.out⟩⟩
   ·replace c5 := zcd.mpr c5
    subst c5
    rw [if_neg (show ¬ (false = true) by decide)] at H
    simp only [zbx, zcg] at H
    obtain ⟨rfl, rfl, rfl⟩ := H
    go_wp2_with (first | (refine jgc 56 ?_; refine jgs 15 Try.func56 #[.slice A0 l0.length c0, .int .i64 x7_1] ?_; (with_reducible refine (impl_LineOf.calls k1 _ _ l0 x7_1 t1125 t1126 t1127 t1128 t1129 t1132 false _ ?side1 ?side2 A4.out).mono ?_); (case side1 => exact jcs HR0.out); (case side2 => exact HC0.out); rintro e w42 ⟨v1130, rfl, ho0, hb⟩; refine ⟨_, rfl, ?_⟩; have xb_ := below_ofs bq hb; have n_ := jA3 (zdt (pS HO_5.out) (zba ho0) hb) (zaw ho0 (zah xb_)) (zad xb_ hb); clear HO_5 HB; obtain ⟨HO_5, HO1131, HB⟩ := n_; clear xb_ hb ho0) | (refine jgd 8 ?_; refine bx 8 (#[.int .i64 0, .string (⟨#[]⟩ : ByteArray), .int .i64 0, .int .i64 0, .slice none 0 0]) 48 ?_; intro gb1134 hg w43 hbox hb; have xb_ := below_ofs bq hb; have n_ := jA6 (zdn (pS HO_5.out) hb) (zdz (pR HO1131.out) hb) (zad xb_ hb) (hbox) (ge0 hg xb_ : w.heap.size ≤ gb1134) (ge0 hg xb_ : w.heap.size ≤ gb1134); clear HO_5 HO1131 HB; obtain ⟨HO_5, HO1131, HB, BK1134, GW1134, GE1134⟩ := n_; clear xb_ hb hbox hg; obtain ⟨hcz44_0, hcz44_1, hcz44_2, hcz44_3, hcz44_4, hfz44_0, hfz44_1, hfz44_2, hfz44_3, hfz44_4⟩ := cz5 BK1134.out; obtain ⟨Ao45, co45, eo45⟩ := zbg HO1131.out; subst eo45))
    go_ret3
    exact ⟨_, jex, by (with_reducible repeat (first | apply zcy | apply zcz | apply zdr)); exact zcs (zde (p := ⟨gb1134, 4, none⟩) (zde (p := ⟨gb1134, 3, none⟩) (zde (p := ⟨gb1134, 2, none⟩) (zde (p := ⟨gb1134, 1, none⟩) (zde (p := ⟨gb1134, 0, none⟩) (Kd.S_types HO_5.out BK1134.out (by decide)) (fun _ hk => hk.2) (.int .i64 t1125)) (fun _ hk => hk.2) (.string t1126)) (fun _ hk => hk.2) (.int .i64 t1127)) (fun _ hk => hk.2) (.int .i64 t1128)) (fun _ hk => hk.2) (.slice Ao45 t1129.length co45)) (fun _ hk => trivial), (bs1 GE1134.out)⟩
end Go.Proofs.Ytlalkldjpniakaa.P
/- How what comes in (whole numbers, texts, lists and records of these, in whatever memory) reads as plain values: for the rows of laws; no condition. -/
namespace Go.Proofs.YtlalkldjpniakaaW.PrintWords
open Go.RowKit Go.Joins
/-- Whatever reads as data of type t is a value of the kind d, and a good one. -/
def Opens {α : Type} (P : Program) (W : World) (t : TypeId) (d : Kd α) (good : α → Prop) : Prop :=
  ∀ (H : Type) (enc : TypeId × Value → H) (base : Nat) (spare : Nat → Bool) (held : Bool) (fuel : Nat) (cs : List Value) (x : DataW H × List MemPlace),
    DataW.trod enc P W base spare held fuel t cs = some x → ∃ y, d.K W y cs ∧ good y
section
variable {P : Program} {W : World} {t : TypeId}
theorem opens_int {k : IntKind} (ht : P.underlying t = some (.int k)) : Opens P W t (Kd.int k) (fun x => (Lit.int k x).wf = true) := by
  intro H enc base spare held fuel cs x h
  obtain ⟨n, rfl, _, hw⟩ := DataW.trod_int ht h
  exact ⟨n, rfl, hw⟩
theorem opens_string (ht : P.underlying t = some .string) : Opens P W t Kd.string (fun s => s.size ≤ maxLen) := by
  intro H enc base spare held fuel cs x h
  obtain ⟨s, rfl, _, hw⟩ := DataW.trod_string ht h
  exact ⟨s, rfl, hw⟩
theorem list_of {α : Type} {p : Nat → α → Prop} : ∀ n : Nat, (∀ i, i < n → ∃ y, p i y) → ∃ ys : List α, ys.length = n ∧ ∀ i y, ys[i]? = some y → p i y
  | 0, _ => ⟨[], rfl, fun i y h => by simp at h⟩
  | n + 1, h => by
    obtain ⟨ys, hl, hy⟩ := list_of n (fun i hi => h i (by omega))
    obtain ⟨z, hz⟩ := h n (by omega)
    refine ⟨ys ++ [z], by simp [hl], fun i y hi => ?_⟩
    by_cases hlt : i < ys.length
    · rw [List.getElem?_append_left hlt] at hi
      exact hy i y hi
    · rw [List.getElem?_append_right (by omega)] at hi
      have h0 : i - ys.length = 0 := by
        rcases Nat.eq_zero_or_pos (i - ys.length) with h0 | h0
        · exact h0
        · rw [List.getElem?_eq_none (by simp; omega)] at hi
          cases hi
      rw [h0] at hi
      have hin : i = n := by omega
      rw [hin]
      simp at hi
      rw [← hi]
      exact hz
theorem opens_slice {α : Type} {d : Kd α} {good : α → Prop} {e : TypeId} (e1 : Nat) (ht : P.underlying t = some (.slice e)) (hc : P.cellsOf e = d.sz) (hd : Opens P W e d good) :
    Opens P W t (Kd.slice e1 d) (fun xs => xs.length ≤ maxLen ∧ ∀ x ∈ xs, good x) := by
  intro H enc base spare held fuel cs x h
  rcases Deep.open_slice ht h with ⟨rfl, _⟩ | ⟨a, len, cap, m, n, D, Pl, rfl, _, hl, hm, hmm, _, hel⟩
  · exact ⟨[], ⟨none, 0, rfl, Nat.le_refl _, rfl, Nat.zero_le _, fun h => absurd h (by simp)⟩, Nat.zero_le _, fun x hx => by simp at hx⟩
  · have hlm : len ≤ m := by rw [hmm]; split <;> omega
    obtain ⟨ys, hyl, hy⟩ := list_of (p := fun i y => good y ∧ ∃ c, c.length = d.sz ∧ d.K W y c ∧ ∀ j u, c[j]? = some u → W.cell? (a.add (i * d.sz + j)) = some u) len (fun i hi => by
      obtain ⟨cs1, h1, h2⟩ := hel i (by omega)
      obtain ⟨y, hK, hg⟩ := hd H enc base spare held n cs1 _ h2
      obtain ⟨hb1, hlen, hcell⟩ := World.cells?_some h1
      refine ⟨y, hg, cs1, by rw [hlen, hc], hK, fun j u hu => ?_⟩
      have hj : j < cs1.length := (List.getElem?_eq_some_iff.1 hu).1
      have h3 := hcell j (by omega)
      rw [hc, Addr.add_add] at h3
      rw [h3, hu])
    refine ⟨ys, ⟨some a, cap, by rw [hyl], by rw [hyl]; exact hl, rfl, ?_, fun _ => ⟨a, rfl, fun j p hp => (hy j p hp).2⟩⟩, ?_, fun x hx => ?_⟩
    · have := hm; unfold maxLen at this; omega
    · have := hm; omega
    · obtain ⟨i, hi, rfl⟩ := List.mem_iff_getElem.1 hx
      exact (hy i _ (List.getElem?_eq_getElem hi)).1
/-- A record's cells, one by one, where each field has one cell. -/
theorem opens_fields {fs : Array Field} {H : Type} {enc : TypeId × Value → H} {base : Nat} {spare : Nat → Bool} {held : Bool} {fuel : Nat} {cs : List Value} {x : DataW H × List MemPlace}
    (ht : P.underlying t = some (.struct fs)) (hn : P.cellsOf t = fs.size) (hone : ∀ (i : Nat) (f : Field), fs[i]? = some f → f.offset = i ∧ P.cellsOf f.type = 1) (h : DataW.trod enc P W base spare held fuel t cs = some x) :
    cs.length = fs.size ∧ ∃ n, ∀ (i : Nat) (f : Field), fs[i]? = some f → ∃ u y, cs[i]? = some u ∧ DataW.trod enc P W base spare held n f.type [u] = some y := by
  obtain ⟨xs, n, _, _, hl, hlen, hf⟩ := DataW.trod_struct ht h
  have hcl : cs.length = fs.size := by rw [hl, hn]
  refine ⟨hcl, n, fun i f hi => ?_⟩
  have hlt : i < fs.size := (Array.getElem?_eq_some_iff.1 hi).1
  obtain ⟨h1, h2⟩ := hone i f hi
  have h3 := hf i f hi
  rw [h1, h2, List.drop_eq_getElem_cons (show i < cs.length by omega), List.take_succ_cons, List.take_zero, List.getElem?_eq_getElem (show i < xs.length by omega)] at h3
  exact ⟨cs[i], _, List.getElem?_eq_getElem (by omega), h3⟩
end
end Go.Proofs.YtlalkldjpniakaaW.PrintWords
