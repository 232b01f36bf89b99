import Derived.Test.Ytlalkldjpniakaapu10
import Derived.Test.Ytlalkldjpniakaapu31
namespace Go.Proofs.Ytlalkldjpniakaa.P
open Go.RowKit Go.Proofs.YtlalkldjpniakaaW.PrintWords Go.Proofs.YtlalkldjpniakaaW.PrintLast Go.Proofs.YtlalkldjpniakaaW.PrintMore
attribute [local go_sem] zdj zdk zed zee zcy zcz zdl zdm   -- for this text's walks alone
set_option linter.unusedVariables false
set_option linter.unusedSimpArgs false

def impl_Take.f (k : Nat) (l0 : List (S34)) (a1 : ByteArray) : Option (ByteArray × Int × Int × List Int × List (S34) × Bool) := (impl_cloneItems.f k l0).bind fun t => if idxI (fun x => x.f0.toList == a1.toList) l0 < 0 then some (⟨#[]⟩, 0, 0, [], t, false) else if (idxI (fun x => x.f0.toList == a1.toList) l0).toNat < t.length then (impl_cloneItem.f (rd_T34 l0 (idxI (fun x => x.f0.toList == a1.toList) l0)).f0 (rd_T34 l0 (idxI (fun x => x.f0.toList == a1.toList) l0)).f1 (rd_T34 l0 (idxI (fun x => x.f0.toList == a1.toList) l0)).f2 (rd_T34 l0 (idxI (fun x => x.f0.toList == a1.toList) l0)).f3).bind fun u => some (u.1, u.2.1, u.2.2.1, u.2.2.2, t.eraseIdx (idxI (fun x => x.f0.toList == a1.toList) l0).toNat, true) else none
theorem impl_Take.mono : ∀ a0 a1 k, LeO (impl_Take.f k a0 a1) (impl_Take.f (k + 1) a0 a1) := by
 intro a0 a1 k
 unfold impl_Take.f
 exact zcs (impl_cloneItems.mono _ _) (fun _ => zcn _)
set_option maxHeartbeats 8000000 in
set_option maxRecDepth 100000 in
theorem impl_Take.calls (k : Nat) (A0 : Option Addr) (c0 : Nat) (l0 : List (S34)) (a1 : ByteArray) (r1 : ByteArray) (r2 : Int) (r3 : Int) (r4 : List Int) (r5 : List (S34)) (r6 : Bool) (w : World) (hr0 : Kd.C k34 w A0 l0.length l0) (hc0 : l0.length ≤ c0) (h : impl_Take.f k l0 a1 = some (r1, r2, r3, r4, r5, r6)) :
  Calls Try.prog 45 #[.slice A0 l0.length c0, .string a1] w fun e w' => ∃ v3_ v4_ : Value, e = .returned (.tuple #[.agg #[.string r1, .int .i64 r2, .int .i64 r3, v3_], v4_, .bool r6]) ∧ Kd.R (Kd.int .u8) 5 w' w.heap.size (fun _ => True) v3_ r4 ∧ Kd.S k34 34 w' w.heap.size (fun k_ => some k_ ≠ (v3_ : Value).ownBlock) v4_ r5 ∧ Below w.heap.size w w' := by
 have hu34 := Try.underlying34
 have eg : ∀ args w, (callFunc 103 args).run Try.prog w = .ok (.enter 103 args) w := enters_of Try.func103 (by kernel_rfl) rfl
 unfold impl_Take.f at h
 replace h := zak.1 h
 obtain ⟨t, ht, h⟩ := h
 have HR := Aside0.mk hr0
 have HC := Aside0.mk hc0
 have F := Aside0.mk ht
 clear ht
 rcases idxI_cases (fun x => x.f0.toList == a1.toList) l0 with ⟨hix, _⟩ | ⟨kk, hkk, hix, _, _⟩
 ·rw [hix, if_pos (by omega)] at h
  have h := Option.some.inj h
  simp only [zde] at h
  obtain ⟨rfl, rfl, rfl, rfl, rfl, rfl⟩ := h
  have HIX := Aside0.mk hix
  clear hr0 hc0 hix
  go_enter Try.func45, Try.ntmps45
  go_wp2_with (first | ((with_reducible refine zcc (N := 4) rfl ?_); refine zct ?hg (N := 4) ?hd (cs := #[.string (⟨#[]⟩ : ByteArray), .int .i64 0, .int .i64 0, .slice none 0 0]) (t := 34) ?hr ?_; (case hd => rfl); (case hg => rfl); (case hr => first | (go_simp; done) | (go_simp; rfl)); intro gb hgb w1 hbox hb; have BK1 := Aside0.mk hbox; have HT1 := Aside0.mk ((hb.block _ (by simp)).trans (heap_alloc_new w (.cells #[.string a1] 9 (0, 0)))); have HB1 := Aside0.mk (zai ((zbt _ w).alloc (zaw _) _) hb); have HGB := Aside0.mk (show w.heap.size ≤ gb by rw [hgb]; simp); have HGL := Aside0.mk ((Array.getElem?_eq_some_iff.1 hbox).1); clear hbox hb hgb) | (go_at_call 96; have hcl := impl_cloneItems.calls k _ c0 l0 t w1 (zbf HR.out HB1.out) HC.out F.out; (try rw [HN.out] at hcl); refine hcl.mono ?_; clear hcl; rintro e w2 ⟨v1, rfl, ho, hb2⟩; have HS2 := Aside0.mk ho; have HB2 := Aside0.mk (zai HB1.out hb2); have BK2 := Aside0.mk ((hb2.block _ HGL.out).trans BK1.out); have HT2 := Aside0.mk ((hb2.block _ (Array.getElem?_eq_some_iff.1 HT1.out).1).trans HT1.out); have HBASE := Aside0.mk HB1.out.size; have H12 := Aside0.mk hb2.size; clear ho hb2; obtain ⟨A1, c1, e1⟩ := zci (Kd.S_R HS2.out); subst e1) | (go_at_call 102; have hix := items_index (fun x => x.f0.toList == a1.toList) _ _ w.heap.size _ (take_pred a1 w.heap.size) eg _ c0 l0 w2 (zbf HR.out HB2.out) HC.out HT2.out; rw [HIX.out] at hix; (try rw [HN.out] at hix); refine hix.mono ?_; clear hix; rintro e w3 ⟨rfl, hb3⟩; have HB3 := Aside0.mk (zai HB2.out hb3); (try replace h0 := zbq HB3.out h0); (try replace h1 := zbq HB3.out h1); (try replace h2 := zbq HB3.out h2); (try replace h3 := zbq HB3.out h3); have BK3 := Aside0.mk ((hb3.block _ (Array.getElem?_eq_some_iff.1 BK2.out).1).trans BK2.out); have HS3 := Aside0.mk (zcv HS2.out hb3); have HGLE := Aside0.mk (zdd H12.out hb3.size); clear hb3) | ((with_reducible refine zfo (t := 34) (p := 4) rfl ?_); refine box_put3 rfl rfl (.tmp 4) (.tmp 16) rfl rfl rfl BK3.out (by intro u hu; simp only [zej, zdw, or_false] at hu; rcases hu with rfl | rfl | rfl | rfl <;> rfl) rfl ?_; intro w4 hg4 hbw; have BW4 := Aside0.mk hbw; have HB4 := Aside0.mk (zen HB3.out (some gb) HB3.out.size hg4 (fun k_ e => by injection e with e; rw [← e]; exact HGB.out)); have HS4 := Aside0.mk (Kd.S_grown (zfd HS3.out) hg4 (fun k_ hk_ e => by injection e with e; have h1 := hk_.2.1; have h2 := HGL.out; omega)); clear hg4 hbw))
  refine bodyPost_ret (results_ctt rfl _ _ gb 34 #[.string (⟨#[]⟩ : ByteArray), .int .i64 0, .int .i64 0, .slice none 0 0] (0, 0) _ rfl BW4.out Try.underlying34 rfl (by kernel_rfl)) rfl ?_
  refine ⟨.slice none 0 0, .slice A1 _ c1, rfl, Kd.R_nil _ _ _ _ _, ?_, HB4.out⟩
  exact zef (zdf HS4.out (fun k_ hk_ e_ => by simp [Value.ownBlock] at e_)) HBASE.out
 ·rw [hix, if_neg (by omega), Int.toNat_natCast] at h
  by_cases hlt : kk < t.length
  ·rw [if_pos hlt] at h
   replace h := zak.1 h
   obtain ⟨u, hu, h⟩ := h
   have h := Option.some.inj h
   obtain ⟨u1, u2, u3, u4⟩ := u
   simp only [zde] at h
   obtain ⟨rfl, rfl, rfl, rfl, rfl, rfl⟩ := h
   obtain ⟨ad, A3, c3, rfl, h0, h1, h2, h3, hl3, hi3⟩ := at_T34 hr0 (kk : Int) (by omega) (by omega)
   simp only [Int.toNat_natCast] at h0 h1 h2 h3
   generalize rd_T34 l0 (kk : Int) = x at h0 h1 h2 h3 hl3 hi3 hu
   have HX3 := Aside0.mk hi3
   have HL3 := Aside0.mk hl3
   have HU := Aside0.mk hu
   have HIX := Aside0.mk hix
   have hkz : ¬ (kk : Int) < 0 := by omega
   have hlen := hr0.2.1
   have hkn : (kk : Int) < (l0.length : Int) := by omega
   have hkp : wrap64 ((kk : Int) + 1) = (kk : Int) + 1 := by unfold wrap64; omega
   have HKP := Aside0.mk hkp
   have HLT := Aside0.mk hlt
   have h0' := h0
   clear hr0 hc0 hix hi3 hl3 hu hlt hkp
   generalize hn : l0.length = n at hkn hlen ⊢
   have HN := Aside0.mk hn
   clear hn
   go_enter Try.func45, Try.ntmps45
   go_wp2_with (first | ((with_reducible refine zcc (N := 4) rfl ?_); refine zct ?hg (N := 4) ?hd (cs := #[.string (⟨#[]⟩ : ByteArray), .int .i64 0, .int .i64 0, .slice none 0 0]) (t := 34) ?hr ?_; (case hd => rfl); (case hg => rfl); (case hr => first | (go_simp; done) | (go_simp; rfl)); intro gb hgb w1 hbox hb; have BK1 := Aside0.mk hbox; have HT1 := Aside0.mk ((hb.block _ (by simp)).trans (heap_alloc_new w (.cells #[.string a1] 9 (0, 0)))); have HB1 := Aside0.mk (zai ((zbt _ w).alloc (zaw _) _) hb); have HGB := Aside0.mk (show w.heap.size ≤ gb by rw [hgb]; simp); have HGL := Aside0.mk ((Array.getElem?_eq_some_iff.1 hbox).1); clear hbox hb hgb) | (go_at_call 96; have hcl := impl_cloneItems.calls k _ c0 l0 t w1 (zbf HR.out HB1.out) HC.out F.out; (try rw [HN.out] at hcl); refine hcl.mono ?_; clear hcl; rintro e w2 ⟨v1, rfl, ho, hb2⟩; have HS2 := Aside0.mk ho; have HB2 := Aside0.mk (zai HB1.out hb2); have BK2 := Aside0.mk ((hb2.block _ HGL.out).trans BK1.out); have HT2 := Aside0.mk ((hb2.block _ (Array.getElem?_eq_some_iff.1 HT1.out).1).trans HT1.out); have HBASE := Aside0.mk HB1.out.size; have H12 := Aside0.mk hb2.size; clear ho hb2; obtain ⟨A1, c1, e1⟩ := zci (Kd.S_R HS2.out); subst e1) | (go_at_call 102; have hix := items_index (fun x => x.f0.toList == a1.toList) _ _ w.heap.size _ (take_pred a1 w.heap.size) eg _ c0 l0 w2 (zbf HR.out HB2.out) HC.out HT2.out; rw [HIX.out] at hix; (try rw [HN.out] at hix); refine hix.mono ?_; clear hix; rintro e w3 ⟨rfl, hb3⟩; have HB3 := Aside0.mk (zai HB2.out hb3); (try replace h0 := zbq HB3.out h0); (try replace h1 := zbq HB3.out h1); (try replace h2 := zbq HB3.out h2); (try replace h3 := zbq HB3.out h3); have BK3 := Aside0.mk ((hb3.block _ (Array.getElem?_eq_some_iff.1 BK2.out).1).trans BK2.out); have HS3 := Aside0.mk (zcv HS2.out hb3); have HGLE := Aside0.mk (zdd H12.out hb3.size); clear hb3) | (go_at_call 104; refine (impl_cloneItem.calls x.f0 x.f1 x.f2 A3 c3 x.f3 u1 u2 u3 u4 w3 (zbf HX3.out HB3.out) HL3.out HU.out).mono ?_; rintro e w4 ⟨v4, rfl, ho, hb4⟩; have HB4 := Aside0.mk (zai HB3.out hb4); have BK4 := Aside0.mk ((hb4.block _ (Array.getElem?_eq_some_iff.1 BK3.out).1).trans BK3.out); have HBASE3 := Aside0.mk (zdu HGL.out HGLE.out); have HR4 := Aside0.mk (zbr (Kd.R_bound (zdy rfl ho)) (fun k_ hk_ => And.intro hk_.1 hk_.2.1) : (Kd.int .u8).R 5 w4 w3.heap.size (fun k_ => some k_ = v4.ownBlock ∧ w3.heap.size ≤ k_) v4 u4); have HS4 := Aside0.mk (zdf (zcv (zfd HS3.out) hb4) (fun k_ hk_ => (⟨fun e => by have h1 := zdr ho k_ e.symm; have h2 := hk_.2.2.1; omega, hk_.2.1⟩ : some k_ ≠ v4.ownBlock ∧ w1.heap.size ≤ k_))); clear ho hb4; obtain ⟨A4, c4, e4⟩ := zci HR4.out; subst e4) | (go_at_call 105; refine (items_erase A1 c1 t kk HLT.out w4 _ _ HS4.out).mono ?_; rintro e w5 ⟨v5, rfl, hs5, hg5, hv5⟩; have HB5 := Aside0.mk (zen HB4.out _ HB4.out.size hg5 (fun k_ e => zdd HBASE.out (Kd.S_base HS4.out k_ e))); have HS5 := Aside0.mk hs5; have HR5 := Aside0.mk (Kd.R_grown HR4.out hg5 (fun k_ hk_ e => by have h1 := Kd.S_lt HS3.out k_ e.symm; have h2 := hk_.2; omega)); have BK5 := Aside0.mk ((hg5.block _ (Array.getElem?_eq_some_iff.1 BK4.out).1 (fun e => by have h1 := Kd.S_base HS4.out _ e.symm; have h2 := HGL.out; omega)).trans BK4.out); clear hs5 hg5 hv5) | ((with_reducible refine zfo (t := 34) (p := 4) rfl ?_); refine box_put3 rfl rfl (.tmp 4) (.tmp 22) rfl rfl rfl BK5.out (by intro u hu; simp only [zej, zdw, or_false] at hu; rcases hu with rfl | rfl | rfl | rfl <;> rfl) rfl ?_; intro w6 hg6 hbw; have BW6 := Aside0.mk hbw; have HB6 := Aside0.mk (zen HB5.out (some gb) HB5.out.size hg6 (fun k_ e => by injection e with e; rw [← e]; exact HGB.out)); have HS6 := Aside0.mk (Kd.S_grown HS5.out hg6 (fun k_ hk_ e => by injection e with e; have h1 := hk_.2; have h2 := HGL.out; omega)); have HR6 := Aside0.mk (Kd.R_grown HR5.out hg6 (fun k_ hk_ e => by injection e with e; have h1 := hk_.2; have h2 := HGL.out; have h3 := HBASE3.out; omega)); clear hg6 hbw))
   refine bodyPost_ret (results_ctt rfl _ _ gb 34 #[.string u1, .int .i64 u2, .int .i64 u3, .slice A4 u4.length c4] (0, 0) _ rfl BW6.out Try.underlying34 rfl (by kernel_rfl)) rfl ?_
   exact ⟨.slice A4 _ c4, v5, rfl, zbx (zbr HR6.out (fun _ _ => trivial)) HB3.out.size, zef (Kd.S_drop HS6.out) HBASE.out, HB6.out⟩
  ·rw [if_neg hlt] at h
   cases h
end Go.Proofs.Ytlalkldjpniakaa.P
