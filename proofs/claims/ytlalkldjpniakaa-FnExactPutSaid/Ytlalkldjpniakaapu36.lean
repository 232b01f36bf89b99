import Derived.Test.Ytlalkldjpniakaapu9
import Derived.Test.Ytlalkldjpniakaapu35
namespace Go.Proofs.Ytlalkldjpniakaa.P
open Go.RowKit Go.Proofs.YtlalkldjpniakaaW.PrintWords Go.Proofs.YtlalkldjpniakaaW.PrintLast Go.Proofs.YtlalkldjpniakaaW.PrintMore
attribute [local go_sem] zdj zdk zed zee zcy zcz zdl zdm   -- for this text's walks alone
set_option linter.unusedVariables false
set_option linter.unusedSimpArgs false

def impl_QueueOk.l0 : Nat → List (S34) → Nat → Option Bool
 | 0, _, _ => none
 | k + 1, l, i => if i < l.length then ((impl_ItemOk.f k (rd_T34 l i).f0 (rd_T34 l i).f1 (rd_T34 l i).f2 (rd_T34 l i).f3).bind fun t1 => if t1 = true then ((impl_Of.f k l (rd_T34 l i).f0).bind fun t2 => if t2 > 4 then some false else if (rd_T34 l i).f1 > 0 then (if (l.take i).any (likeI (rd_T34 l i).f0 (rd_T34 l i).f1) = true then some false else impl_QueueOk.l0 k l (i + 1)) else impl_QueueOk.l0 k l (i + 1)) else some false) else some true
def impl_QueueOk.f (k : Nat) (l0 : List (S34)) : Option Bool := if (l0.length : Int) > 10 then some false else impl_QueueOk.l0 k l0 0
theorem impl_QueueOk.l0_mono : ∀ k l i, LeO (impl_QueueOk.l0 k l i) (impl_QueueOk.l0 (k + 1) l i)
 | 0, l, i => fun r h => by simp [impl_QueueOk.l0] at h
 | k + 1, l, i => by
  have ih := impl_QueueOk.l0_mono k
  unfold impl_QueueOk.l0
  repeat' first
   | (with_reducible exact ih _ _)
   | (with_reducible exact impl_ItemOk.mono _ _ _ _ _)
   | (with_reducible exact impl_Of.mono _ _ _)
   | (with_reducible exact zcn _)
   | (with_reducible refine zdh ?_ ?_)
   | (with_reducible refine zcs ?_ (fun _ => ?_))
theorem impl_QueueOk.mono : ∀ a0 k, LeO (impl_QueueOk.f k a0) (impl_QueueOk.f (k + 1) a0) := by
 intro a0 k
 unfold impl_QueueOk.f
 exact zdh (zcn _) (impl_QueueOk.l0_mono _ _ _)
set_option maxHeartbeats 8000000 in
set_option maxRecDepth 100000 in
theorem impl_QueueOk.calls (k : Nat) (A0 : Option Addr) (c0 : Nat) (l0 : List (S34)) (r : Bool) (w : World) (hr0 : Kd.C k34 w A0 l0.length l0) (hc0 : l0.length ≤ c0) (h : impl_QueueOk.f k l0 = some r) :
  Calls Try.prog 43 #[.slice A0 l0.length c0] w fun e w' => e = .returned (.bool r) ∧ Below w.heap.size w w' := by
 have hu34 := Try.underlying34
 have eg : ∀ args w, (callFunc 100 args).run Try.prog w = .ok (.enter 100 args) w := enters_of Try.func100 (by kernel_rfl) rfl
 have hlen := hr0.2.1
 have HR := Aside0.mk hr0
 have HC := Aside0.mk hc0
 obtain ⟨n, hn⟩ : ∃ n, l0.length = n := ⟨_, rfl⟩
 have HN := Aside0.mk hn
 unfold impl_QueueOk.f at h
 by_cases hbig : (l0.length : Int) > 10
 ·rw [if_pos hbig] at h
  obtain rfl := Option.some.inj h
  rw [hn] at hbig hlen ⊢
  clear hr0 hc0 hn h
  go_enter Try.func43, Try.ntmps43
  go_wp2
  go_ret
  exact ⟨rfl, zbt _ _⟩
 ·rw [if_neg hbig] at h
  have F := Aside0.mk h
  rw [hn] at hbig hlen ⊢
  clear hr0 hc0 hn h
  go_enter Try.func43, Try.ntmps43
  go_wp2
  go_loopg [10] k (fun kq s10 wr => ∃ i : Nat, i ≤ n ∧ s10 = .int .i64 i ∧ Aside0 (impl_QueueOk.l0 kq l0 i = some r) ∧ Aside0 (kq ≤ k) ∧ Aside0 (Below w.heap.size w wr))
  case atStart => exact ⟨0, Nat.zero_le _, rfl, F, ⟨zaw _⟩, ⟨zbt _ w⟩⟩
  case round =>
   clear F
   obtain ⟨i, hi, rfl, HA, HK1, HB⟩ := hrel
   cases gk with
   | zero => exact absurd HA.out (by simp [impl_QueueOk.l0])
   | succ k1 =>
    have H := HA.out
    clear HA
    simp only [impl_QueueOk.l0] at H
    by_cases hlt : i < n
    ·rw [if_pos (by rw [HN.out]; exact hlt)] at H
     have hltz : (i : Int) < (n : Int) := by omega
     obtain ⟨ad, A3, c3, rfl, h0, h1, h2, h3, hl3, hi3⟩ := at_T34 HR.out (i : Int) (by omega) (by rw [HN.out]; exact hltz)
     replace h0 := (HB.out.cell (World.block_lt_of_cell? w _ h0)).trans h0
     replace h1 := (HB.out.cell (World.block_lt_of_cell? w _ h1)).trans h1
     replace h2 := (HB.out.cell (World.block_lt_of_cell? w _ h2)).trans h2
     replace h3 := (HB.out.cell (World.block_lt_of_cell? w _ h3)).trans h3
     simp only [Int.toNat_natCast] at h0 h1 h2 h3
     have HX3 := Aside0.mk hi3
     have HL3 := Aside0.mk hl3
     clear hi3 hl3
     generalize rd_T34 l0 (i : Int) = x at h0 h1 h2 h3 HX3 HL3 H
     replace H := zak.1 H
     obtain ⟨t1, HF1, H⟩ := H
     have F1 := Aside0.mk HF1
     clear HF1
     cases t1 with
     | false =>
      rw [if_neg (by simp)] at H
      obtain rfl := Option.some.inj H
      clear H
      go_wp2_with (first | ((with_reducible refine zcc (N := 4) rfl ?_); refine zct ?hg (N := 4) ?hd (cs := #[.string (⟨#[]⟩ : ByteArray), .int .i64 0, .int .i64 0, .slice none 0 0]) (t := 34) ?hr ?_; (case hd => rfl); (case hg => rfl); (case hr => first | (go_simp; done) | (go_simp; rfl)); intro gb hgb w7 hbox hb; have BK := Aside0.mk hbox; have HB7 := Aside0.mk (zai HB.out hb); have HGB := Aside0.mk (show w.heap.size ≤ gb by rw [hgb]; exact HB.out.size); clear hbox hb hgb) | ((with_reducible refine zfo (t := 34) (p := 4) rfl ?_); refine box_put rfl rfl (.tmp 4) (.tmp 14) rfl rfl rfl BK.out (by intro u hu; simp only [zej, zdw, or_false] at hu; rcases hu with rfl | rfl | rfl | rfl <;> rfl) (by intro u hu; simp only [zej, zdw, or_false] at hu; rcases hu with rfl | rfl | rfl | rfl <;> rfl) rfl ?_; intro w8 hg8 b0 b1 b2 b3; have HB8 := Aside0.mk (zen HB7.out (some gb) HB7.out.size hg8 (fun k_ e => by injection e with e; rw [← e]; exact HGB.out)); clear hg8 BK HB7) | (go_at_call 26; refine (impl_ItemOk.calls k1 x.f0 x.f1 x.f2 A3 c3 x.f3 false w8 (zbf HX3.out HB8.out) HL3.out F1.out).mono ?_; rintro e w9 ⟨rfl, hb9⟩; replace b0 := zbq hb9 b0; replace b1 := zbq hb9 b1; replace b2 := zbq hb9 b2; replace b3 := zbq hb9 b3; have HB9 := Aside0.mk (zai HB8.out hb9); clear hb9))
      go_ret
      exact ⟨rfl, HB9.out⟩
     | true =>
      rw [if_pos rfl] at H
      replace H := zak.1 H
      obtain ⟨t2, HF2, H⟩ := H
      have F2 := Aside0.mk HF2
      clear HF2
      by_cases ht2 : t2 > 4
      ·rw [if_pos ht2] at H
       obtain rfl := Option.some.inj H
       clear H
       go_wp2_with (first | ((with_reducible refine zcc (N := 4) rfl ?_); refine zct ?hg (N := 4) ?hd (cs := #[.string (⟨#[]⟩ : ByteArray), .int .i64 0, .int .i64 0, .slice none 0 0]) (t := 34) ?hr ?_; (case hd => rfl); (case hg => rfl); (case hr => first | (go_simp; done) | (go_simp; rfl)); intro gb hgb w7 hbox hb; have BK := Aside0.mk hbox; have HB7 := Aside0.mk (zai HB.out hb); have HGB := Aside0.mk (show w.heap.size ≤ gb by rw [hgb]; exact HB.out.size); clear hbox hb hgb) | ((with_reducible refine zfo (t := 34) (p := 4) rfl ?_); refine box_put rfl rfl (.tmp 4) (.tmp 14) rfl rfl rfl BK.out (by intro u hu; simp only [zej, zdw, or_false] at hu; rcases hu with rfl | rfl | rfl | rfl <;> rfl) (by intro u hu; simp only [zej, zdw, or_false] at hu; rcases hu with rfl | rfl | rfl | rfl <;> rfl) rfl ?_; intro w8 hg8 b0 b1 b2 b3; have HB8 := Aside0.mk (zen HB7.out (some gb) HB7.out.size hg8 (fun k_ e => by injection e with e; rw [← e]; exact HGB.out)); clear hg8 BK HB7) | (go_at_call 26; refine (impl_ItemOk.calls k1 x.f0 x.f1 x.f2 A3 c3 x.f3 true w8 (zbf HX3.out HB8.out) HL3.out F1.out).mono ?_; rintro e w9 ⟨rfl, hb9⟩; replace b0 := zbq hb9 b0; replace b1 := zbq hb9 b1; replace b2 := zbq hb9 b2; replace b3 := zbq hb9 b3; have HB9 := Aside0.mk (zai HB8.out hb9); clear hb9) | (go_at_call 21; have hof := impl_Of.calls k1 (some ad) c0 l0 x.f0 t2 w9 (zbf HR.out HB9.out) HC.out F2.out; rw [HN.out] at hof; refine hof.mono ?_; clear hof; rintro e w10 ⟨rfl, hb10⟩; replace b0 := zbq hb10 b0; replace b1 := zbq hb10 b1; replace b2 := zbq hb10 b2; replace b3 := zbq hb10 b3; have HB10 := Aside0.mk (zai HB9.out hb10); clear hb10))
       go_ret
       exact ⟨rfl, HB10.out⟩
      ·rw [if_neg ht2] at H
       by_cases ht : x.f1 > 0
       ·rw [if_pos ht] at H
        obtain ⟨ti, hti, hz⟩ := Option.map_eq_some_iff.1 info34
        have hcut := cut_to (P := Try.prog) 25 34 .i64 Try.underlying25 hti (some ad) n c0 (i : Int) (by omega) (by omega) (by have := HC.out; rw [HN.out] at this; exact this)
        rw [Int.toNat_natCast] at hcut
        clear hti hz
        generalize hb_ : (l0.take i).any (likeI x.f0 x.f1) = b at H
        have hl : (l0.take i).length = i := by rw [zcf, HN.out]; omega
        have HT := Aside0.mk hl
        have HY := Aside0.mk hb_
        have hq : Kd.C k34 w (some ad) (l0.take i).length (l0.take i) := Kd.C_take HR.out (by rw [HN.out]; exact hi)
        have HQ := Aside0.mk hq
        clear hb_ hl hq
        cases b with
        | true =>
         rw [if_pos rfl] at H
         obtain rfl := Option.some.inj H
         clear H
         go_wp2_with (first | ((with_reducible refine zcc (N := 4) rfl ?_); refine zct ?hg (N := 4) ?hd (cs := #[.string (⟨#[]⟩ : ByteArray), .int .i64 0, .int .i64 0, .slice none 0 0]) (t := 34) ?hr ?_; (case hd => rfl); (case hg => rfl); (case hr => first | (go_simp; done) | (go_simp; rfl)); intro gb hgb w7 hbox hb; have BK := Aside0.mk hbox; have HB7 := Aside0.mk (zai HB.out hb); have HGB := Aside0.mk (show w.heap.size ≤ gb by rw [hgb]; exact HB.out.size); clear hbox hb hgb) | ((with_reducible refine zfo (t := 34) (p := 4) rfl ?_); refine box_put rfl rfl (.tmp 4) (.tmp 14) rfl rfl rfl BK.out (by intro u hu; simp only [zej, zdw, or_false] at hu; rcases hu with rfl | rfl | rfl | rfl <;> rfl) (by intro u hu; simp only [zej, zdw, or_false] at hu; rcases hu with rfl | rfl | rfl | rfl <;> rfl) rfl ?_; intro w8 hg8 b0 b1 b2 b3; have HB8 := Aside0.mk (zen HB7.out (some gb) HB7.out.size hg8 (fun k_ e => by injection e with e; rw [← e]; exact HGB.out)); clear hg8 BK HB7) | (go_at_call 26; refine (impl_ItemOk.calls k1 x.f0 x.f1 x.f2 A3 c3 x.f3 true w8 (zbf HX3.out HB8.out) HL3.out F1.out).mono ?_; rintro e w9 ⟨rfl, hb9⟩; replace b0 := zbq hb9 b0; replace b1 := zbq hb9 b1; replace b2 := zbq hb9 b2; replace b3 := zbq hb9 b3; have HB9 := Aside0.mk (zai HB8.out hb9); clear hb9) | (go_at_call 21; have hof := impl_Of.calls k1 (some ad) c0 l0 x.f0 t2 w9 (zbf HR.out HB9.out) HC.out F2.out; rw [HN.out] at hof; refine hof.mono ?_; clear hof; rintro e w10 ⟨rfl, hb10⟩; replace b0 := zbq hb10 b0; replace b1 := zbq hb10 b1; replace b2 := zbq hb10 b2; replace b3 := zbq hb10 b3; have HB10 := Aside0.mk (zai HB9.out hb10); clear hb10) | (go_at_call 99; obtain ⟨o_, ho_⟩ := obj_of_cell b0; have hany := items_any (likeI x.f0 x.f1) _ _ gb o_ (queue_pred2 x.f0 x.f1 gb o_ w10 ho_ b0 b1) eg (some ad) c0 (l0.take i) w10 (zbf HQ.out HB10.out) (by rw [HT.out]; have h1 := HC.out; rw [HN.out] at h1; omega) ho_; rw [HY.out, HT.out] at hany; refine hany.mono ?_; clear hany; rintro e w11 ⟨rfl, hb11⟩; have HB11 := Aside0.mk (zai HB10.out hb11); clear hb11 ho_))
         go_ret
         exact ⟨rfl, HB11.out⟩
        | false =>
         rw [if_neg (by simp)] at H
         have HA := Aside0.mk H
         clear H
         go_wp2_with (first | ((with_reducible refine zcc (N := 4) rfl ?_); refine zct ?hg (N := 4) ?hd (cs := #[.string (⟨#[]⟩ : ByteArray), .int .i64 0, .int .i64 0, .slice none 0 0]) (t := 34) ?hr ?_; (case hd => rfl); (case hg => rfl); (case hr => first | (go_simp; done) | (go_simp; rfl)); intro gb hgb w7 hbox hb; have BK := Aside0.mk hbox; have HB7 := Aside0.mk (zai HB.out hb); have HGB := Aside0.mk (show w.heap.size ≤ gb by rw [hgb]; exact HB.out.size); clear hbox hb hgb) | ((with_reducible refine zfo (t := 34) (p := 4) rfl ?_); refine box_put rfl rfl (.tmp 4) (.tmp 14) rfl rfl rfl BK.out (by intro u hu; simp only [zej, zdw, or_false] at hu; rcases hu with rfl | rfl | rfl | rfl <;> rfl) (by intro u hu; simp only [zej, zdw, or_false] at hu; rcases hu with rfl | rfl | rfl | rfl <;> rfl) rfl ?_; intro w8 hg8 b0 b1 b2 b3; have HB8 := Aside0.mk (zen HB7.out (some gb) HB7.out.size hg8 (fun k_ e => by injection e with e; rw [← e]; exact HGB.out)); clear hg8 BK HB7) | (go_at_call 26; refine (impl_ItemOk.calls k1 x.f0 x.f1 x.f2 A3 c3 x.f3 true w8 (zbf HX3.out HB8.out) HL3.out F1.out).mono ?_; rintro e w9 ⟨rfl, hb9⟩; replace b0 := zbq hb9 b0; replace b1 := zbq hb9 b1; replace b2 := zbq hb9 b2; replace b3 := zbq hb9 b3; have HB9 := Aside0.mk (zai HB8.out hb9); clear hb9) | (go_at_call 21; have hof := impl_Of.calls k1 (some ad) c0 l0 x.f0 t2 w9 (zbf HR.out HB9.out) HC.out F2.out; rw [HN.out] at hof; refine hof.mono ?_; clear hof; rintro e w10 ⟨rfl, hb10⟩; replace b0 := zbq hb10 b0; replace b1 := zbq hb10 b1; replace b2 := zbq hb10 b2; replace b3 := zbq hb10 b3; have HB10 := Aside0.mk (zai HB9.out hb10); clear hb10) | (go_at_call 99; obtain ⟨o_, ho_⟩ := obj_of_cell b0; have hany := items_any (likeI x.f0 x.f1) _ _ gb o_ (queue_pred2 x.f0 x.f1 gb o_ w10 ho_ b0 b1) eg (some ad) c0 (l0.take i) w10 (zbf HQ.out HB10.out) (by rw [HT.out]; have h1 := HC.out; rw [HN.out] at h1; omega) ho_; rw [HY.out, HT.out] at hany; refine hany.mono ?_; clear hany; rintro e w11 ⟨rfl, hb11⟩; have HB11 := Aside0.mk (zai HB10.out hb11); clear hb11 ho_))
         go_roundg k1
         case measure => have := HK1.out; omega
         case rel => exact ⟨i + 1, by omega, by go_num, HA, ⟨by have := HK1.out; omega⟩, HB11⟩
       ·rw [if_neg ht] at H
        have HA := Aside0.mk H
        clear H
        go_wp2_with (first | ((with_reducible refine zcc (N := 4) rfl ?_); refine zct ?hg (N := 4) ?hd (cs := #[.string (⟨#[]⟩ : ByteArray), .int .i64 0, .int .i64 0, .slice none 0 0]) (t := 34) ?hr ?_; (case hd => rfl); (case hg => rfl); (case hr => first | (go_simp; done) | (go_simp; rfl)); intro gb hgb w7 hbox hb; have BK := Aside0.mk hbox; have HB7 := Aside0.mk (zai HB.out hb); have HGB := Aside0.mk (show w.heap.size ≤ gb by rw [hgb]; exact HB.out.size); clear hbox hb hgb) | ((with_reducible refine zfo (t := 34) (p := 4) rfl ?_); refine box_put rfl rfl (.tmp 4) (.tmp 14) rfl rfl rfl BK.out (by intro u hu; simp only [zej, zdw, or_false] at hu; rcases hu with rfl | rfl | rfl | rfl <;> rfl) (by intro u hu; simp only [zej, zdw, or_false] at hu; rcases hu with rfl | rfl | rfl | rfl <;> rfl) rfl ?_; intro w8 hg8 b0 b1 b2 b3; have HB8 := Aside0.mk (zen HB7.out (some gb) HB7.out.size hg8 (fun k_ e => by injection e with e; rw [← e]; exact HGB.out)); clear hg8 BK HB7) | (go_at_call 26; refine (impl_ItemOk.calls k1 x.f0 x.f1 x.f2 A3 c3 x.f3 true w8 (zbf HX3.out HB8.out) HL3.out F1.out).mono ?_; rintro e w9 ⟨rfl, hb9⟩; replace b0 := zbq hb9 b0; replace b1 := zbq hb9 b1; replace b2 := zbq hb9 b2; replace b3 := zbq hb9 b3; have HB9 := Aside0.mk (zai HB8.out hb9); clear hb9) | (go_at_call 21; have hof := impl_Of.calls k1 (some ad) c0 l0 x.f0 t2 w9 (zbf HR.out HB9.out) HC.out F2.out; rw [HN.out] at hof; refine hof.mono ?_; clear hof; rintro e w10 ⟨rfl, hb10⟩; replace b0 := zbq hb10 b0; replace b1 := zbq hb10 b1; replace b2 := zbq hb10 b2; replace b3 := zbq hb10 b3; have HB10 := Aside0.mk (zai HB9.out hb10); clear hb10))
        go_roundg k1
        case measure => have := HK1.out; omega
        case rel => exact ⟨i + 1, by omega, by go_num, HA, ⟨by have := HK1.out; omega⟩, HB10⟩
    ·rw [if_neg (by rw [HN.out]; exact hlt)] at H
     obtain rfl := Option.some.inj H
     have hltz : ¬ (i : Int) < (n : Int) := by omega
     clear H
     go_wp2
     go_ret
     exact ⟨rfl, HB.out⟩
end Go.Proofs.Ytlalkldjpniakaa.P
