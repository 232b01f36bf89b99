import Derived.Test.Ytlalkldjpniakaaqm18
namespace Go.Proofs.Ytlalkldjpniakaa.P
open Go.RowKit Go.Proofs.YtlalkldjpniakaaW.PrintWords Go.Proofs.YtlalkldjpniakaaW.PrintLast Go.Proofs.YtlalkldjpniakaaW.PrintMore
attribute [local go_sem] zcm zcn zdd zde zbw zbx zco zcp   -- for this text's walks alone
set_option linter.unusedVariables false
set_option linter.unusedSimpArgs false
set_option maxHeartbeats 8000000
set_option maxRecDepth 100000

def putI (a : ByteArray) (n : Int) (t : List S34) : List S34 := if n > 0 then t.filter (fun x => !likeI a n x) else t
def impl_Put.f (k : Nat) (l0 : List (S34)) (a1_0 : ByteArray) (a1_1 : Int) (a1_2 : Int) (l1_3 : List Int) : Option ((List (S34)) × Bool) := (impl_cloneItems.f k l0).bind fun t => (impl_cloneItem.f a1_0 a1_1 a1_2 l1_3).bind fun u => if (putI a1_0 a1_1 t).length < 2513169434916 then ((impl_QueueOk.f k (putI a1_0 a1_1 t ++ [(⟨u.1, u.2.1, u.2.2.1, u.2.2.2⟩ : S34)])).bind fun b => if b = true then some (putI a1_0 a1_1 t ++ [(⟨u.1, u.2.1, u.2.2.1, u.2.2.2⟩ : S34)], true) else some (t, false)) else none
theorem impl_Put.mono : ∀ a0 a1 a2 a3 a4 k, LeO (impl_Put.f k a0 a1 a2 a3 a4) (impl_Put.f (k + 1) a0 a1 a2 a3 a4) := by
 intro a0 a1 a2 a3 a4 k
 unfold impl_Put.f
 refine LeO.bind (impl_cloneItems.mono _ _) (fun _ => LeO.bind (LeO.refl _) (fun _ => LeO.ite (LeO.bind (impl_QueueOk.mono _ _) (fun _ => LeO.refl _)) (LeO.refl _)))
theorem impl_Put.calls (k : Nat) (A0 : Option Addr) (c0 : Nat) (l0 : List (S34)) (a1_0 : ByteArray) (a1_1 : Int) (a1_2 : Int) (A1_3 : Option Addr) (c1_3 : Nat) (l1_3 : List Int) (r1 : List (S34)) (r2 : Bool) (w : World) (hr0 : Kd.C k34 w A0 l0.length l0) (hc0 : l0.length ≤ c0) (hr1_3 : Kd.C (Kd.int .u8) w A1_3 l1_3.length l1_3) (hc1_3 : l1_3.length ≤ c1_3) (h : impl_Put.f k l0 a1_0 a1_1 a1_2 l1_3 = some (r1, r2)) :
  Calls Try.prog 60 #[.slice A0 l0.length c0, .agg #[.string a1_0, .int .i64 a1_1, .int .i64 a1_2, .slice A1_3 l1_3.length c1_3]] w fun e w' => ∃ v0_ : Value, e = .returned (.tuple #[v0_, .bool r2]) ∧ Kd.S k34 34 w' w.heap.size (fun _ => True) v0_ r1 ∧ Below w.heap.size w w' := by
 have hu34 := Try.underlying34
 have eg : ∀ args w, (callFunc 120 args).run Try.prog w = .ok (.enter 120 args) w := enters_of Try.func120 (by kernel_rfl) rfl
 unfold impl_Put.f at h
 replace h := zce.1 h
 obtain ⟨t, ht, h⟩ := h
 replace h := zce.1 h
 obtain ⟨u, hu, h⟩ := h
 obtain ⟨u1, u2, u3, u4⟩ := u
 by_cases hlt : (putI a1_0 a1_1 t).length < 2513169434916
 ·rw [if_pos hlt] at h
  replace h := zce.1 h
  obtain ⟨b, hb, h⟩ := h
  have HR := Aside0.mk hr0
  have HC := Aside0.mk hc0
  have HR3 := Aside0.mk hr1_3
  have HC3 := Aside0.mk hc1_3
  have F := Aside0.mk ht
  have FU := Aside0.mk hu
  have FB := Aside0.mk hb
  have HLT := Aside0.mk hlt
  have hbox : (w.alloc (.cells #[.string a1_0, .int .i64 a1_1, .int .i64 a1_2, .slice A1_3 l1_3.length c1_3] 34)).heap.size = w.heap.size + 1 := by simp
  have HBX := Aside0.mk hbox
  have HB0 := Aside0.mk ((zbk _ w).alloc (zaf _) (.cells #[.string a1_0, .int .i64 a1_1, .int .i64 a1_2, .slice A1_3 l1_3.length c1_3] 34))
  clear ht hu hb hr0 hc0 hr1_3 hc1_3 hlt hbox
  by_cases hp : a1_1 > 0
  ·have hpi : putI a1_0 a1_1 t = t.filter (fun x => !likeI a1_0 a1_1 x) := if_pos hp
   rw [hpi] at HLT FB h
   clear hpi
   generalize hl9 : t.filter (fun x => !likeI a1_0 a1_1 x) = t9 at HLT FB h
   have HL9 := Aside0.mk hl9
   clear hl9
   generalize htt : t9 ++ [(⟨u1, u2, u3, u4⟩ : S34)] = TT at FB h
   have HTT := Aside0.mk htt
   clear htt
   cases b with
   | true =>
    rw [if_pos rfl] at h
    have h := Option.some.inj h
    simp only [zcj] at h
    obtain ⟨rfl, rfl⟩ := h
    go_enter Try.func60, Try.ntmps60
    go_wp2_with (first | (go_at_call 96; refine (impl_cloneItems.calls k _ c0 l0 t _ (zcv HR.out _) HC.out F.out).mono ?_; rintro e w2 ⟨v2, rfl, ho, hb2⟩; have HS2 := Aside0.mk (zeg (zcx (zfv ho) (fun k_ hk_ => (by have h1 := HBX.out; have h2 := hk_.2.1; omega : w.heap.size < k_))) HB0.out.size); have HB2 := Aside0.mk (zab HB0.out hb2); have HT2 := Aside0.mk ((hb2.block w.heap.size (by have h1 := HBX.out; omega)).trans (zgc w (.cells #[.string a1_0, .int .i64 a1_1, .int .i64 a1_2, .slice A1_3 l1_3.length c1_3] 34))); have HW2 := Aside0.mk ((Array.getElem?_eq_some_iff.1 HT2.out).1); obtain ⟨b0, b1, b2, b3⟩ := cells_of_block HT2.out; clear ho hb2; obtain ⟨A1, c1, e1⟩ := zbm (Kd.S_R HS2.out); subst e1) | (go_at_call 95; refine (items_delete (likeI a1_0 a1_1) _ _ w.heap.size _ (put_pred a1_0 a1_1 a1_2 _ w.heap.size) eg A1 c1 t w2 _ _ HS2.out HT2.out (fun e_ => by have h1 := (Kd.S_R HS2.out).1 _ e_.symm; omega)).mono ?_; rintro e w3 ⟨v3, rfl, hs, hg, hv⟩; rw [HL9.out] at hs; have HS3 := Aside0.mk hs; have HB3 := Aside0.mk (zcg HB2.out _ HB2.out.size hg (fun k_ hk_ => Nat.le_of_lt ((Kd.S_R HS2.out).1 k_ hk_))); have HT3 := Aside0.mk ((hg.block _ HW2.out (fun e_ => by have h1 := (Kd.S_R HS2.out).1 _ e_.symm; omega)).trans HT2.out); have HW3 := Aside0.mk ((Array.getElem?_eq_some_iff.1 HT3.out).1); clear hs hg hv b0 b1 b2 b3; obtain ⟨b0, b1, b2, b3⟩ := cells_of_block HT3.out) | (go_at_call 104; refine (impl_cloneItem.calls a1_0 a1_1 a1_2 A1_3 c1_3 l1_3 u1 u2 u3 u4 w3 (zaz HR3.out HB3.out) HC3.out FU.out).mono ?_; rintro e w4 ⟨v4, rfl, ho, hb4⟩; have HB4 := Aside0.mk (zab HB3.out hb4); have HR4 := Aside0.mk (zbc (zav (Kd.R_bound ho) (fun k_ hk_ => hk_.2.1)) HB3.out.size); have HS4 := Aside0.mk (zcx (zdy (zfv HS3.out) hb4) (fun k_ hk_ => (⟨hk_.1, fun e => by have h1 := zbe ho k_ e.symm; have h2 := hk_.2.2.1; omega⟩ : w.heap.size < k_ ∧ some k_ ≠ v4.ownBlock))); have HW4 := Aside0.mk (zck HW3.out hb4.size); clear ho hb4; obtain ⟨A4, c4, e4⟩ := zbm HR4.out; subst e4) | ((with_reducible refine zcc (b := .append) (xs := #[.tmp 15, .tmp 18]) rfl ?_); at_builtin; refine zex k34 (w0 := w) w.heap.size rfl (.tmp 15) (.tmp 18) 25 34 (.agg #[(.string ⟨#[]⟩), (.int .i64 0), (.int .i64 0), (.slice none 0 0)]) 56 rfl Try.underlying25 info34 rfl (by decide) (by omega) v3 t9 (⟨u1, u2, u3, u4⟩ : S34) [.string u1, .int .i64 u2, .int .i64 u3, .slice A4 u4.length c4] (fun k_ => w.heap.size < k_) (fun k_ => some k_ = (.slice A4 u4.length c4 : Value).ownBlock) rfl rfl ?aP ?aK ?aF ?aO ?aB ?aS ?aL ?_; (case aP => exact k34_mkM _ _ _ (⟨u1, u2, u3, u4⟩ : S34) (zfe rfl HR4.out)); (case aK => intro k_ hk_; exact ⟨zck HW3.out (HR4.out.1 k_ hk_.symm), fun e_ => by have h1 := HR4.out.1 k_ hk_.symm; have h2 := Kd.S_lt HS3.out k_ e_.symm; omega⟩); (case aF => intro k_ hk_; exact zck HW4.out hk_); (case aO => exact HS4.out); (case aB => exact HB4.out); (case aS => exact HB4.out.size); (case aL => have h1 := HLT.out; omega); intro v5 w5 ho hb hg hat; rw [HTT.out] at ho; have HS5 := Aside0.mk ho; have HB5 := Aside0.mk hb; clear ho hb hg hat; obtain ⟨A5, c5, e5⟩ := zbm (Kd.S_R HS5.out); subst e5) | (go_at_call 43; refine (impl_QueueOk.calls k A5 c5 TT _ w5 (zdt HS5.out).2.2 (zdt HS5.out).2.1 FB.out).mono ?_; rintro e w6 ⟨rfl, hb6⟩; have HS6 := Aside0.mk (zdy HS5.out hb6); have HB6 := Aside0.mk (zab HB5.out hb6); clear hb6))
    go_ret2
    exact ⟨_, rfl, zcx HS6.out (fun _ _ => trivial), HB6.out⟩
   | false =>
    rw [if_neg (by simp)] at h
    have h := Option.some.inj h
    simp only [zcj] at h
    obtain ⟨rfl, rfl⟩ := h
    go_enter Try.func60, Try.ntmps60
    go_wp2_with (first | (have HB6_ := HB6.out; go_at_call 96; refine (impl_cloneItems.calls k _ c0 l0 _ w6 (zaz HR.out HB6_) HC.out F.out).mono ?_; rintro e w7 ⟨v7, rfl, ho, hb7⟩; have HS7 := Aside0.mk ho; have HB7 := Aside0.mk (zab HB6_ hb7); clear ho hb7) | (go_at_call 96; refine (impl_cloneItems.calls k _ c0 l0 t _ (zcv HR.out _) HC.out F.out).mono ?_; rintro e w2 ⟨v2, rfl, ho, hb2⟩; have HS2 := Aside0.mk (zeg (zcx (zfv ho) (fun k_ hk_ => (by have h1 := HBX.out; have h2 := hk_.2.1; omega : w.heap.size < k_))) HB0.out.size); have HB2 := Aside0.mk (zab HB0.out hb2); have HT2 := Aside0.mk ((hb2.block w.heap.size (by have h1 := HBX.out; omega)).trans (zgc w (.cells #[.string a1_0, .int .i64 a1_1, .int .i64 a1_2, .slice A1_3 l1_3.length c1_3] 34))); have HW2 := Aside0.mk ((Array.getElem?_eq_some_iff.1 HT2.out).1); obtain ⟨b0, b1, b2, b3⟩ := cells_of_block HT2.out; clear ho hb2; obtain ⟨A1, c1, e1⟩ := zbm (Kd.S_R HS2.out); subst e1) | (go_at_call 95; refine (items_delete (likeI a1_0 a1_1) _ _ w.heap.size _ (put_pred a1_0 a1_1 a1_2 _ w.heap.size) eg A1 c1 t w2 _ _ HS2.out HT2.out (fun e_ => by have h1 := (Kd.S_R HS2.out).1 _ e_.symm; omega)).mono ?_; rintro e w3 ⟨v3, rfl, hs, hg, hv⟩; rw [HL9.out] at hs; have HS3 := Aside0.mk hs; have HB3 := Aside0.mk (zcg HB2.out _ HB2.out.size hg (fun k_ hk_ => Nat.le_of_lt ((Kd.S_R HS2.out).1 k_ hk_))); have HT3 := Aside0.mk ((hg.block _ HW2.out (fun e_ => by have h1 := (Kd.S_R HS2.out).1 _ e_.symm; omega)).trans HT2.out); have HW3 := Aside0.mk ((Array.getElem?_eq_some_iff.1 HT3.out).1); clear hs hg hv b0 b1 b2 b3; obtain ⟨b0, b1, b2, b3⟩ := cells_of_block HT3.out) | (go_at_call 104; refine (impl_cloneItem.calls a1_0 a1_1 a1_2 A1_3 c1_3 l1_3 u1 u2 u3 u4 w3 (zaz HR3.out HB3.out) HC3.out FU.out).mono ?_; rintro e w4 ⟨v4, rfl, ho, hb4⟩; have HB4 := Aside0.mk (zab HB3.out hb4); have HR4 := Aside0.mk (zbc (zav (Kd.R_bound ho) (fun k_ hk_ => hk_.2.1)) HB3.out.size); have HS4 := Aside0.mk (zcx (zdy (zfv HS3.out) hb4) (fun k_ hk_ => (⟨hk_.1, fun e => by have h1 := zbe ho k_ e.symm; have h2 := hk_.2.2.1; omega⟩ : w.heap.size < k_ ∧ some k_ ≠ v4.ownBlock))); have HW4 := Aside0.mk (zck HW3.out hb4.size); clear ho hb4; obtain ⟨A4, c4, e4⟩ := zbm HR4.out; subst e4) | ((with_reducible refine zcc (b := .append) (xs := #[.tmp 15, .tmp 18]) rfl ?_); at_builtin; refine zex k34 (w0 := w) w.heap.size rfl (.tmp 15) (.tmp 18) 25 34 (.agg #[(.string ⟨#[]⟩), (.int .i64 0), (.int .i64 0), (.slice none 0 0)]) 56 rfl Try.underlying25 info34 rfl (by decide) (by omega) v3 t9 (⟨u1, u2, u3, u4⟩ : S34) [.string u1, .int .i64 u2, .int .i64 u3, .slice A4 u4.length c4] (fun k_ => w.heap.size < k_) (fun k_ => some k_ = (.slice A4 u4.length c4 : Value).ownBlock) rfl rfl ?aP ?aK ?aF ?aO ?aB ?aS ?aL ?_; (case aP => exact k34_mkM _ _ _ (⟨u1, u2, u3, u4⟩ : S34) (zfe rfl HR4.out)); (case aK => intro k_ hk_; exact ⟨zck HW3.out (HR4.out.1 k_ hk_.symm), fun e_ => by have h1 := HR4.out.1 k_ hk_.symm; have h2 := Kd.S_lt HS3.out k_ e_.symm; omega⟩); (case aF => intro k_ hk_; exact zck HW4.out hk_); (case aO => exact HS4.out); (case aB => exact HB4.out); (case aS => exact HB4.out.size); (case aL => have h1 := HLT.out; omega); intro v5 w5 ho hb hg hat; rw [HTT.out] at ho; have HS5 := Aside0.mk ho; have HB5 := Aside0.mk hb; clear ho hb hg hat; obtain ⟨A5, c5, e5⟩ := zbm (Kd.S_R HS5.out); subst e5) | (go_at_call 43; refine (impl_QueueOk.calls k A5 c5 TT _ w5 (zdt HS5.out).2.2 (zdt HS5.out).2.1 FB.out).mono ?_; rintro e w6 ⟨rfl, hb6⟩; have HS6 := Aside0.mk (zdy HS5.out hb6); have HB6 := Aside0.mk (zab HB5.out hb6); clear hb6))
    go_ret2
    exact ⟨_, rfl, zeg HS7.out HB6.out.size, HB7.out⟩
  ·have hpi : putI a1_0 a1_1 t = t := if_neg hp
   rw [hpi] at HLT FB h
   clear hpi
   generalize htt : t ++ [(⟨u1, u2, u3, u4⟩ : S34)] = TT at FB h
   have HTT := Aside0.mk htt
   clear htt
   cases b with
   | true =>
    rw [if_pos rfl] at h
    have h := Option.some.inj h
    simp only [zcj] at h
    obtain ⟨rfl, rfl⟩ := h
    go_enter Try.func60, Try.ntmps60
    go_wp2_with (first | (go_at_call 96; refine (impl_cloneItems.calls k _ c0 l0 t _ (zcv HR.out _) HC.out F.out).mono ?_; rintro e w3 ⟨v3, rfl, ho, hb2⟩; have HS3 := Aside0.mk (zeg (zcx (zfv ho) (fun k_ hk_ => (by have h1 := HBX.out; have h2 := hk_.2.1; omega : w.heap.size < k_))) HB0.out.size); have HB3 := Aside0.mk (zab HB0.out hb2); have HT3 := Aside0.mk ((hb2.block w.heap.size (by have h1 := HBX.out; omega)).trans (zgc w (.cells #[.string a1_0, .int .i64 a1_1, .int .i64 a1_2, .slice A1_3 l1_3.length c1_3] 34))); have HW3 := Aside0.mk ((Array.getElem?_eq_some_iff.1 HT3.out).1); obtain ⟨b0, b1, b2, b3⟩ := cells_of_block HT3.out; clear ho hb2) | (go_at_call 104; refine (impl_cloneItem.calls a1_0 a1_1 a1_2 A1_3 c1_3 l1_3 u1 u2 u3 u4 w3 (zaz HR3.out HB3.out) HC3.out FU.out).mono ?_; rintro e w4 ⟨v4, rfl, ho, hb4⟩; have HB4 := Aside0.mk (zab HB3.out hb4); have HR4 := Aside0.mk (zbc (zav (Kd.R_bound ho) (fun k_ hk_ => hk_.2.1)) HB3.out.size); have HS4 := Aside0.mk (zcx (zdy (zfv HS3.out) hb4) (fun k_ hk_ => (⟨hk_.1, fun e => by have h1 := zbe ho k_ e.symm; have h2 := hk_.2.2.1; omega⟩ : w.heap.size < k_ ∧ some k_ ≠ v4.ownBlock))); have HW4 := Aside0.mk (zck HW3.out hb4.size); clear ho hb4; obtain ⟨A4, c4, e4⟩ := zbm HR4.out; subst e4) | ((with_reducible refine zcc (b := .append) (xs := #[.tmp 15, .tmp 18]) rfl ?_); at_builtin; refine zex k34 (w0 := w) w.heap.size rfl (.tmp 15) (.tmp 18) 25 34 (.agg #[(.string ⟨#[]⟩), (.int .i64 0), (.int .i64 0), (.slice none 0 0)]) 56 rfl Try.underlying25 info34 rfl (by decide) (by omega) v3 t (⟨u1, u2, u3, u4⟩ : S34) [.string u1, .int .i64 u2, .int .i64 u3, .slice A4 u4.length c4] (fun k_ => w.heap.size < k_) (fun k_ => some k_ = (.slice A4 u4.length c4 : Value).ownBlock) rfl rfl ?aP ?aK ?aF ?aO ?aB ?aS ?aL ?_; (case aP => exact k34_mkM _ _ _ (⟨u1, u2, u3, u4⟩ : S34) (zfe rfl HR4.out)); (case aK => intro k_ hk_; exact ⟨zck HW3.out (HR4.out.1 k_ hk_.symm), fun e_ => by have h1 := HR4.out.1 k_ hk_.symm; have h2 := Kd.S_lt HS3.out k_ e_.symm; omega⟩); (case aF => intro k_ hk_; exact zck HW4.out hk_); (case aO => exact HS4.out); (case aB => exact HB4.out); (case aS => exact HB4.out.size); (case aL => have h1 := HLT.out; omega); intro v5 w5 ho hb hg hat; rw [HTT.out] at ho; have HS5 := Aside0.mk ho; have HB5 := Aside0.mk hb; clear ho hb hg hat; obtain ⟨A5, c5, e5⟩ := zbm (Kd.S_R HS5.out); subst e5) | (go_at_call 43; refine (impl_QueueOk.calls k A5 c5 TT _ w5 (zdt HS5.out).2.2 (zdt HS5.out).2.1 FB.out).mono ?_; rintro e w6 ⟨rfl, hb6⟩; have HS6 := Aside0.mk (zdy HS5.out hb6); have HB6 := Aside0.mk (zab HB5.out hb6); clear hb6))
    go_ret2
    exact ⟨_, rfl, zcx HS6.out (fun _ _ => trivial), HB6.out⟩
   | false =>
    rw [if_neg (by simp)] at h
    have h := Option.some.inj h
    simp only [zcj] at h
    obtain ⟨rfl, rfl⟩ := h
    go_enter Try.func60, Try.ntmps60
    go_wp2_with (first | (have HB6_ := HB6.out; go_at_call 96; refine (impl_cloneItems.calls k _ c0 l0 _ w6 (zaz HR.out HB6_) HC.out F.out).mono ?_; rintro e w7 ⟨v7, rfl, ho, hb7⟩; have HS7 := Aside0.mk ho; have HB7 := Aside0.mk (zab HB6_ hb7); clear ho hb7) | (go_at_call 96; refine (impl_cloneItems.calls k _ c0 l0 t _ (zcv HR.out _) HC.out F.out).mono ?_; rintro e w3 ⟨v3, rfl, ho, hb2⟩; have HS3 := Aside0.mk (zeg (zcx (zfv ho) (fun k_ hk_ => (by have h1 := HBX.out; have h2 := hk_.2.1; omega : w.heap.size < k_))) HB0.out.size); have HB3 := Aside0.mk (zab HB0.out hb2); have HT3 := Aside0.mk ((hb2.block w.heap.size (by have h1 := HBX.out; omega)).trans (zgc w (.cells #[.string a1_0, .int .i64 a1_1, .int .i64 a1_2, .slice A1_3 l1_3.length c1_3] 34))); have HW3 := Aside0.mk ((Array.getElem?_eq_some_iff.1 HT3.out).1); obtain ⟨b0, b1, b2, b3⟩ := cells_of_block HT3.out; clear ho hb2) | (go_at_call 104; refine (impl_cloneItem.calls a1_0 a1_1 a1_2 A1_3 c1_3 l1_3 u1 u2 u3 u4 w3 (zaz HR3.out HB3.out) HC3.out FU.out).mono ?_; rintro e w4 ⟨v4, rfl, ho, hb4⟩; have HB4 := Aside0.mk (zab HB3.out hb4); have HR4 := Aside0.mk (zbc (zav (Kd.R_bound ho) (fun k_ hk_ => hk_.2.1)) HB3.out.size); have HS4 := Aside0.mk (zcx (zdy (zfv HS3.out) hb4) (fun k_ hk_ => (⟨hk_.1, fun e => by have h1 := zbe ho k_ e.symm; have h2 := hk_.2.2.1; omega⟩ : w.heap.size < k_ ∧ some k_ ≠ v4.ownBlock))); have HW4 := Aside0.mk (zck HW3.out hb4.size); clear ho hb4; obtain ⟨A4, c4, e4⟩ := zbm HR4.out; subst e4) | ((with_reducible refine zcc (b := .append) (xs := #[.tmp 15, .tmp 18]) rfl ?_); at_builtin; refine zex k34 (w0 := w) w.heap.size rfl (.tmp 15) (.tmp 18) 25 34 (.agg #[(.string ⟨#[]⟩), (.int .i64 0), (.int .i64 0), (.slice none 0 0)]) 56 rfl Try.underlying25 info34 rfl (by decide) (by omega) v3 t (⟨u1, u2, u3, u4⟩ : S34) [.string u1, .int .i64 u2, .int .i64 u3, .slice A4 u4.length c4] (fun k_ => w.heap.size < k_) (fun k_ => some k_ = (.slice A4 u4.length c4 : Value).ownBlock) rfl rfl ?aP ?aK ?aF ?aO ?aB ?aS ?aL ?_; (case aP => exact k34_mkM _ _ _ (⟨u1, u2, u3, u4⟩ : S34) (zfe rfl HR4.out)); (case aK => intro k_ hk_; exact ⟨zck HW3.out (HR4.out.1 k_ hk_.symm), fun e_ => by have h1 := HR4.out.1 k_ hk_.symm; have h2 := Kd.S_lt HS3.out k_ e_.symm; omega⟩); (case aF => intro k_ hk_; exact zck HW4.out hk_); (case aO => exact HS4.out); (case aB => exact HB4.out); (case aS => exact HB4.out.size); (case aL => have h1 := HLT.out; omega); intro v5 w5 ho hb hg hat; rw [HTT.out] at ho; have HS5 := Aside0.mk ho; have HB5 := Aside0.mk hb; clear ho hb hg hat; obtain ⟨A5, c5, e5⟩ := zbm (Kd.S_R HS5.out); subst e5) | (go_at_call 43; refine (impl_QueueOk.calls k A5 c5 TT _ w5 (zdt HS5.out).2.2 (zdt HS5.out).2.1 FB.out).mono ?_; rintro e w6 ⟨rfl, hb6⟩; have HS6 := Aside0.mk (zdy HS5.out hb6); have HB6 := Aside0.mk (zab HB5.out hb6); clear hb6))
    go_ret2
    exact ⟨_, rfl, zeg HS7.out HB6.out.size, HB7.out⟩
 ·rw [if_neg hlt] at h
  cases h
def impl_Play.l0 : Nat → List Int → List (S34) → Int → Int → Option ((List (S34)) × Int × Int)
 | 0, _, _, _, _ => none
 | k + 1, x0, x5, x6, x7 => (impl_LineOf.f k x0 x7).bind fun bt1125 => (if bt1125.2.2.2.2.2.2 = true then (if bt1125.1 = 1 then ((impl_itemOf.f bt1125.1 bt1125.2.1 bt1125.2.2.1 bt1125.2.2.2.1 bt1125.2.2.2.2.1).bind fun bt1135 => ((impl_Put.f k x5 bt1135.1 bt1135.2.1 bt1135.2.2.1 bt1135.2.2.2).bind fun bt1141 => (impl_Play.l0 k x0 bt1141.1 x6 bt1125.2.2.2.2.2.1))) else (if bt1125.1 = 2 then ((impl_Take.f k x5 bt1125.2.1).bind fun bt1145 => (impl_Play.l0 k x0 bt1145.2.2.2.2.1 x6 bt1125.2.2.2.2.2.1)) else (if bt1125.1 = 3 then (if bt1125.2.2.2.1 ≥ x6 then ((impl_Due.f k x5 bt1125.2.2.2.1).bind fun t1155 => (impl_Play.l0 k x0 t1155 bt1125.2.2.2.1 bt1125.2.2.2.2.2.1)) else (impl_Play.l0 k x0 x5 x6 bt1125.2.2.2.2.2.1)) else (impl_Play.l0 k x0 x5 x6 bt1125.2.2.2.2.2.1)))) else (some (x5, x6, x7)))
def impl_Play.f (k : Nat) (l0 : List Int) : Option ((List (S34)) × Int × Int) := impl_Play.l0 k l0 (([] : List (S34))) 0 0
theorem impl_Play.mono_l : ∀ k, (∀ y0 y1 y2 y3, LeO (impl_Play.l0 k y0 y1 y2 y3) (impl_Play.l0 (k + 1) y0 y1 y2 y3))
 | 0 => fun _ _ _ _ r h => by simp [impl_Play.l0] at h
 | k + 1 => by
  have ih0 := impl_Play.mono_l k
  ·intro y0 y1 y2 y3
   unfold impl_Play.l0
   have m0 := @impl_Due.mono
   have m1 := @impl_LineOf.mono
   have m2 := @impl_Put.mono
   have m3 := @impl_Take.mono
   exact mt
theorem impl_Play.mono : ∀ a0 k, LeO (impl_Play.f k a0) (impl_Play.f (k + 1) a0) := by
 intro a0 k
 have ih0 := impl_Play.mono_l k
 unfold impl_Play.f
 have m0 := @impl_Due.mono
 have m1 := @impl_LineOf.mono
 have m2 := @impl_Put.mono
 have m3 := @impl_Take.mono
 exact mt
theorem impl_Play.calls (k : Nat) (A0 : Option Addr) (c0 : Nat) (l0 : List Int) (r1 : List (S34)) (r2 : Int) (r3 : Int) (w : World) (hr0 : Kd.C (Kd.int .u8) w A0 l0.length l0) (hc0 : l0.length ≤ c0) (h : impl_Play.f k l0 = some (r1, r2, r3)) :
  Calls Try.prog 70 #[.slice A0 l0.length c0] w fun e w' => ∃ v0_ : Value, e = .returned (.tuple #[v0_, .int .i64 r2, .int .i64 r3]) ∧ Kd.S k34 34 w' w.heap.size (fun _ => True) v0_ r1 ∧ Below w.heap.size w w' := by
 have hu48 := Try.underlying48
 have HR0 := Aside0.mk hr0
 have HC0 := Aside0.mk hc0
 clear hr0 hc0
 have HB := Aside0.mk (zbk w.heap.size w)
 have H : (impl_Play.l0 k l0 (([] : List (S34))) 0 0) = some (r1, r2, r3) := h
 clear h
 obtain ⟨y1122, hy1122⟩ : ∃ y_ : List (S34), y_ = (([] : List (S34))) := ⟨_, rfl⟩
 replace H : (impl_Play.l0 k l0 y1122 0 0) = some (r1, r2, r3) := jrw hy1122 H
 have Ny1122 := Aside0.mk hy1122
 clear hy1122
 have H' := Aside0.mk H
 clear H
 go_enter Try.func70, Try.ntmps70
 go_wp2_with (first | (refine jgd 11 ?_; refine Kd.S_lit k34 _ 34 ?hg (N := 11) ?hd (xs := ([] : List (S34))) (inner := []) (ok := fun _ => True) (okp := fun _ => True) ?hr ?hp (fun _ hk => hk) trivial (zbk _ _) (zaf _) (by simp) ?_; (case hd => rfl); (case hg => rfl); (case hr => first | (go_simp; done) | (go_simp; rfl)); (case hp => exact (Reps.none _ _)); intro v1123 w2 ho3 hb hg_ hnew_; have xb_ := below_ofs bq hb; clear hg_ hnew_; (first | rw [← Ny1122.out] at ho3 | (simp only [Int.reduceToNat] at ho3; rw [← Ny1122.out] at ho3)); have n_ := jA2 (zeg ho3 (zak xb_)) (zab xb_ hb); clear HB; obtain ⟨HO1124, HB⟩ := n_; clear xb_ hb ho3))
 go_loopg [5, 6, 7] k (fun kq v5 v6 v7 w' => ∃ (x5_1 : List (S34)) (x6_1 : Int) (x7_1 : Int), v6 = .int .i64 x6_1 ∧ v7 = .int .i64 x7_1 ∧ Aside0 (impl_Play.l0 kq l0 x5_1 x6_1 x7_1 = some (r1, r2, r3)) ∧ Aside0 (kq ≤ k) ∧ Aside0 (Kd.S k34 34 w' w.heap.size (fun _ => True) v5 x5_1) ∧ Aside0 (Below w.heap.size w w'))
 case atStart => exact ⟨(y1122), (0), (0), jer, jer, H', ⟨zaf _⟩, ⟨pS HO1124.out⟩, ⟨bq⟩⟩
 case round =>
  clear H'
  try clear p2
  obtain ⟨x5_1, x6_1, x7_1, rfl, rfl, HA, HK1, HO_5, HB⟩ := hrel
  cases gk with
  | zero => exact absurd HA.out (by simp [impl_Play.l0])
  | succ k1 =>
   have H := HA.out
   clear HA
   simp only [impl_Play.l0] at H
   obtain ⟨⟨t1125, t1126, t1127, t1128, t1129, t1132, t1133⟩, A4, H⟩ := bnd H
   try dsimp only at H
   by_cases c5 : t1133 = true
   ·subst c5
    rw [if_pos rfl] at H
    by_cases c6 : t1125 = 1
    ·rw [if_pos c6] at H
     have c6b0 := beqT c6
     have c6b1 := zau.mpr c6
     clear c6
     obtain ⟨⟨t1135, t1136, t1137, t1138⟩, A7, H⟩ := bnd H
     try dsimp only at H
     obtain ⟨⟨t1141, t1144⟩, A8, H⟩ := bnd H
     try dsimp only at H
     have H' := Aside0.mk H
     clear H
     go_wp2_with (first | (refine jgc 56 ?_; refine jgs 15 Try.func56 #[.slice A0 l0.length c0, .int .i64 x7_1] ?_; (with_reducible refine (impl_LineOf.calls k1 _ _ l0 x7_1 t1125 t1126 t1127 t1128 t1129 t1132 true _ ?side1 ?side2 A4.out).mono ?_); (case side1 => exact jcs HR0.out); (case side2 => exact HC0.out); rintro e w9 ⟨v1130, rfl, ho0, hb⟩; refine ⟨_, rfl, ?_⟩; have xb_ := below_ofs bq hb; have n_ := jA3 (zea (pS HO_5.out) (zbe ho0) hb) (zbc ho0 (zak xb_)) (zab xb_ hb); clear HO_5 HB; obtain ⟨HO_5, HO1131, HB⟩ := n_; clear xb_ hb ho0) | (refine jgd 8 ?_; refine bx 8 (#[.int .i64 0, .string (⟨#[]⟩ : ByteArray), .int .i64 0, .int .i64 0, .slice none 0 0]) 48 ?_; intro gb1134 hg w10 hbox hb; have xb_ := below_ofs bq hb; have n_ := jA6 (zdy (pS HO_5.out) hb) (zdj (pR HO1131.out) hb) (zab xb_ hb) (hbox) (ge0 hg xb_ : w.heap.size ≤ gb1134) (ge0 hg xb_ : w.heap.size ≤ gb1134); clear HO_5 HO1131 HB; obtain ⟨HO_5, HO1131, HB, BK1134, GW1134, GE1134⟩ := n_; clear xb_ hb hbox hg; obtain ⟨hcz11_0, hcz11_1, hcz11_2, hcz11_3, hcz11_4, hfz11_0, hfz11_1, hfz11_2, hfz11_3, hfz11_4⟩ := cz5 BK1134.out; obtain ⟨Ao12, co12, eo12⟩ := zbm HO1131.out; subst eo12) | (refine jgc 93 ?_; refine jgs 32 Try.func93 #[.agg #[.int .i64 t1125, .string t1126, .int .i64 t1127, .int .i64 t1128, .slice Ao12 t1129.length co12]] ?_; (with_reducible refine (impl_itemOf.calls t1125 t1126 t1127 t1128 _ _ t1129 t1135 t1136 t1137 t1138 _ ?side1 ?side2 A7.out).mono ?_); (case side1 => refine (zbq (e := 5) (base := w.heap.size) (ok := fun k_ => True) (n := t1129.length) (c := co12) ?_).2.2; exact (by (with_reducible repeat (first | apply zbo | apply zbp | apply zbs)); exact (zav (zbt (p := ⟨gb1134, 4, none⟩) (zbt (p := ⟨gb1134, 3, none⟩) (zbt (p := ⟨gb1134, 2, none⟩) (zbt (p := ⟨gb1134, 1, none⟩) (zbt (p := ⟨gb1134, 0, none⟩) (zcb HO1131.out BK1134.out (by decide)) (fun _ hk => hk.2) (.int .i64 t1125)) (fun _ hk => hk.2) (.string t1126)) (fun _ hk => hk.2) (.int .i64 t1127)) (fun _ hk => hk.2) (.int .i64 t1128)) (fun _ hk => hk.2) (.slice Ao12 t1129.length co12)) (fun _ h_ => h_.1)))); (case side2 => exact (zbq HO1131.out).2.1); rintro e w13 ⟨v1139, rfl, ho0, hb⟩; refine ⟨_, rfl, ?_⟩; have n_ := jA5 (zea (by (with_reducible repeat (first | apply zdk | apply zdl | apply zdr)); exact (zcx (zci (p := ⟨gb1134, 4, none⟩) (zci (p := ⟨gb1134, 3, none⟩) (zci (p := ⟨gb1134, 2, none⟩) (zci (p := ⟨gb1134, 1, none⟩) (zci (p := ⟨gb1134, 0, none⟩) (zfp HO_5.out BK1134.out (by decide)) (fun _ hk => hk.2) (.int .i64 t1125)) (fun _ hk => hk.2) (.string t1126)) (fun _ hk => hk.2) (.int .i64 t1127)) (fun _ hk => hk.2) (.int .i64 t1128)) (fun _ hk => hk.2) (.slice Ao12 t1129.length co12)) (fun _ h_ => h_.1))) (zbe ho0) hb) (zbr (by (with_reducible repeat (first | apply zbo | apply zbp | apply zbs)); exact (zav (zbt (p := ⟨gb1134, 4, none⟩) (zbt (p := ⟨gb1134, 3, none⟩) (zbt (p := ⟨gb1134, 2, none⟩) (zbt (p := ⟨gb1134, 1, none⟩) (zbt (p := ⟨gb1134, 0, none⟩) (zcb HO1131.out BK1134.out (by decide)) (fun _ hk => hk.2) (.int .i64 t1125)) (fun _ hk => hk.2) (.string t1126)) (fun _ hk => hk.2) (.int .i64 t1127)) (fun _ hk => hk.2) (.int .i64 t1128)) (fun _ hk => hk.2) (.slice Ao12 t1129.length co12)) (fun _ h_ => h_.1))) (zbe ho0) hb) (zbc (zcz ho0 (zcd (by (with_reducible repeat (first | apply zbo | apply zbp | apply zbs)); exact (zav (zbt (p := ⟨gb1134, 4, none⟩) (zbt (p := ⟨gb1134, 3, none⟩) (zbt (p := ⟨gb1134, 2, none⟩) (zbt (p := ⟨gb1134, 1, none⟩) (zbt (p := ⟨gb1134, 0, none⟩) (zcb HO1131.out BK1134.out (by decide)) (fun _ hk => hk.2) (.int .i64 t1125)) (fun _ hk => hk.2) (.string t1126)) (fun _ hk => hk.2) (.int .i64 t1127)) (fun _ hk => hk.2) (.int .i64 t1128)) (fun _ hk => hk.2) (.slice Ao12 t1129.length co12)) (fun _ h_ => h_.1))))) (zak (bs1 GE1134.out))) (blk_below (g := gb1134) (o := .cells #[.int .i64 t1125, .string t1126, .int .i64 t1127, .int .i64 t1128, .slice Ao12 t1129.length co12] 48 (0, 0)) (by (with_reducible repeat (first | refine zbg ?_ _ | refine zbl ?_ | refine zbh ?_ _)); refine zdh (cs := #[.int .i64 t1125, .string t1126, .int .i64 t1127, .int .i64 t1128, .slice none 0 0]) ?_ 4 _ rfl; (with_reducible repeat (first | refine zbg ?_ _ | refine zbl ?_ | refine zbh ?_ _)); refine zdh (cs := #[.int .i64 t1125, .string t1126, .int .i64 t1127, .int .i64 0, .slice none 0 0]) ?_ 3 _ rfl; (with_reducible repeat (first | refine zbg ?_ _ | refine zbl ?_ | refine zbh ?_ _)); refine zdh (cs := #[.int .i64 t1125, .string t1126, .int .i64 0, .int .i64 0, .slice none 0 0]) ?_ 2 _ rfl; (with_reducible repeat (first | refine zbg ?_ _ | refine zbl ?_ | refine zbh ?_ _)); refine zdh (cs := #[.int .i64 t1125, .string (⟨#[]⟩ : ByteArray), .int .i64 0, .int .i64 0, .slice none 0 0]) ?_ 1 _ rfl; (with_reducible repeat (first | refine zbg ?_ _ | refine zbl ?_ | refine zbh ?_ _)); refine zdh (cs := #[.int .i64 0, .string (⟨#[]⟩ : ByteArray), .int .i64 0, .int .i64 0, .slice none 0 0]) ?_ 0 _ rfl; (with_reducible repeat (first | refine zbg ?_ _ | refine zbl ?_ | refine zbh ?_ _)); exact BK1134.out) hb) (zab (bs1 GE1134.out) hb); clear HO_5 HO1131 BK1134 HB; obtain ⟨HO_5, HO1131, HO1140, BK1134, HB⟩ := n_; clear hb ho0; obtain ⟨Ao14, co14, eo14⟩ := Kd.S_slice HO_5.out; subst eo14; obtain ⟨Ao15, co15, eo15⟩ := zbm HO1140.out; subst eo15) | (refine jgc 60 ?_; refine jgs 33 Try.func60 #[.slice Ao14 x5_1.length co14, .agg #[.string t1135, .int .i64 t1136, .int .i64 t1137, .slice Ao15 t1138.length co15]] ?_; (with_reducible refine (impl_Put.calls k1 _ _ x5_1 t1135 t1136 t1137 _ _ t1138 t1141 t1144 _ ?side1 ?side2 ?side3 ?side4 A8.out).mono ?_); (case side1 => repeat (first | exact (zdt HO_5.out).2.2 | (with_reducible first | apply zcv | apply zdi | apply zdu))); (case side2 => exact (zdt HO_5.out).2.1); (case side3 => repeat (first | exact (zbq HO1140.out).2.2 | (with_reducible first | apply zcv | apply zdi | apply zdu))); (case side4 => exact (zbq HO1140.out).2.1); rintro e w16 ⟨v1142, rfl, ho0, hb⟩; refine ⟨_, rfl, ?_⟩; have n_ := jA6 (zea (pS HO_5.out) (Kd.S_base ho0) hb) (zdj (pR HO1131.out) hb) (zdj (pR HO1140.out) hb) (zeg (Kd.S_new' (Kd.S_new' (Kd.S_new' ho0 (Kd.S_lt (pS HO_5.out))) (zcd (pR HO1131.out))) (zcd (pR HO1140.out))) (zak (bs1 GE1134.out))) (jbb BK1134.out hb) (zab (bs1 GE1134.out) hb); clear HO_5 HO1131 HO1140 BK1134 HB; obtain ⟨HO_5, HO1131, HO1140, HO1143, BK1134, HB⟩ := n_; clear hb ho0))
     go_roundg k1
     case measure => have := HK1.out; omega
     case rel => exact ⟨(t1141), (x6_1), (t1132), jer, jer, H', ⟨by have := HK1.out; omega⟩, ⟨tqS HO1143.out⟩, ⟨bs1 GE1134.out⟩⟩
    ·rw [if_neg c6] at H
     have c6b0 := zao.mpr c6
     have c6b1 := zcs.mpr c6
     by_cases c17 : t1125 = 2
     ·rw [if_pos c17] at H
      have c17b0 := beqT c17
      have c17b1 := zau.mpr c17
      clear c17
      obtain ⟨⟨t1145, t1146, t1147, t1148, t1151, t1154⟩, A18, H⟩ := bnd H
      try dsimp only at H
      have H' := Aside0.mk H
      clear H
      go_wp2_with (first | (refine jgc 56 ?_; refine jgs 15 Try.func56 #[.slice A0 l0.length c0, .int .i64 x7_1] ?_; (with_reducible refine (impl_LineOf.calls k1 _ _ l0 x7_1 t1125 t1126 t1127 t1128 t1129 t1132 true _ ?side1 ?side2 A4.out).mono ?_); (case side1 => exact jcs HR0.out); (case side2 => exact HC0.out); rintro e w19 ⟨v1130, rfl, ho0, hb⟩; refine ⟨_, rfl, ?_⟩; have xb_ := below_ofs bq hb; have n_ := jA3 (zea (pS HO_5.out) (zbe ho0) hb) (zbc ho0 (zak xb_)) (zab xb_ hb); clear HO_5 HB; obtain ⟨HO_5, HO1131, HB⟩ := n_; clear xb_ hb ho0) | (refine jgd 8 ?_; refine bx 8 (#[.int .i64 0, .string (⟨#[]⟩ : ByteArray), .int .i64 0, .int .i64 0, .slice none 0 0]) 48 ?_; intro gb1134 hg w20 hbox hb; have xb_ := below_ofs bq hb; have n_ := jA6 (zdy (pS HO_5.out) hb) (zdj (pR HO1131.out) hb) (zab xb_ hb) (hbox) (ge0 hg xb_ : w.heap.size ≤ gb1134) (ge0 hg xb_ : w.heap.size ≤ gb1134); clear HO_5 HO1131 HB; obtain ⟨HO_5, HO1131, HB, BK1134, GW1134, GE1134⟩ := n_; clear xb_ hb hbox hg; obtain ⟨hcz21_0, hcz21_1, hcz21_2, hcz21_3, hcz21_4, hfz21_0, hfz21_1, hfz21_2, hfz21_3, hfz21_4⟩ := cz5 BK1134.out; obtain ⟨Ao22, co22, eo22⟩ := zbm HO1131.out; subst eo22; obtain ⟨Ao23, co23, eo23⟩ := Kd.S_slice HO_5.out; subst eo23) | (refine jgc 45 ?_; refine jgs 42 Try.func45 #[.slice Ao23 x5_1.length co23, .string t1126] ?_; (with_reducible refine (impl_Take.calls k1 _ _ x5_1 t1126 t1145 t1146 t1147 t1148 t1151 t1154 _ ?side1 ?side2 A18.out).mono ?_); (case side1 => refine (zdt (e := 34) (base := w.heap.size) (ok := fun k_ => (True ∧ some k_ ≠ (.slice Ao22 t1129.length co22 : Value).ownBlock)) (n := x5_1.length) (c := co23) ?_).2.2; exact (by (with_reducible repeat (first | apply zdk | apply zdl | apply zdr)); exact (zcx (zci (p := ⟨gb1134, 4, none⟩) (zci (p := ⟨gb1134, 3, none⟩) (zci (p := ⟨gb1134, 2, none⟩) (zci (p := ⟨gb1134, 1, none⟩) (zci (p := ⟨gb1134, 0, none⟩) (zfp HO_5.out BK1134.out (by decide)) (fun _ hk => hk.2) (.int .i64 t1125)) (fun _ hk => hk.2) (.string t1126)) (fun _ hk => hk.2) (.int .i64 t1127)) (fun _ hk => hk.2) (.int .i64 t1128)) (fun _ hk => hk.2) (.slice Ao22 t1129.length co22)) (fun _ h_ => h_.1)))); (case side2 => exact (zdt HO_5.out).2.1); rintro e w24 ⟨v1149, v1152, rfl, ho0, ho1, hb⟩; refine ⟨_, rfl, ?_⟩; have n_ := jA6 (zcx (Kd.S_told (Kd.S_told (Kd.S_old (by (with_reducible repeat (first | apply zdk | apply zdl | apply zdr)); exact (zcx (zci (p := ⟨gb1134, 4, none⟩) (zci (p := ⟨gb1134, 3, none⟩) (zci (p := ⟨gb1134, 2, none⟩) (zci (p := ⟨gb1134, 1, none⟩) (zci (p := ⟨gb1134, 0, none⟩) (zfp HO_5.out BK1134.out (by decide)) (fun _ hk => hk.2) (.int .i64 t1125)) (fun _ hk => hk.2) (.string t1126)) (fun _ hk => hk.2) (.int .i64 t1127)) (fun _ hk => hk.2) (.int .i64 t1128)) (fun _ hk => hk.2) (.slice Ao22 t1129.length co22)) (fun _ h_ => h_.1))) hb) (zbe ho0)) (Kd.S_base ho1)) (fun _ h_ => h_.1)) (zbr (by (with_reducible repeat (first | apply zbo | apply zbp | apply zbs)); exact (zav (zbt (p := ⟨gb1134, 4, none⟩) (zbt (p := ⟨gb1134, 3, none⟩) (zbt (p := ⟨gb1134, 2, none⟩) (zbt (p := ⟨gb1134, 1, none⟩) (zbt (p := ⟨gb1134, 0, none⟩) (zcb HO1131.out BK1134.out (by decide)) (fun _ hk => hk.2) (.int .i64 t1125)) (fun _ hk => hk.2) (.string t1126)) (fun _ hk => hk.2) (.int .i64 t1127)) (fun _ hk => hk.2) (.int .i64 t1128)) (fun _ hk => hk.2) (.slice Ao22 t1129.length co22)) (fun _ h_ => h_.1))) (zbe ho0) hb) (zbc (zcz ho0 (zcd (by (with_reducible repeat (first | apply zbo | apply zbp | apply zbs)); exact (zav (zbt (p := ⟨gb1134, 4, none⟩) (zbt (p := ⟨gb1134, 3, none⟩) (zbt (p := ⟨gb1134, 2, none⟩) (zbt (p := ⟨gb1134, 1, none⟩) (zbt (p := ⟨gb1134, 0, none⟩) (zcb HO1131.out BK1134.out (by decide)) (fun _ hk => hk.2) (.int .i64 t1125)) (fun _ hk => hk.2) (.string t1126)) (fun _ hk => hk.2) (.int .i64 t1127)) (fun _ hk => hk.2) (.int .i64 t1128)) (fun _ hk => hk.2) (.slice Ao22 t1129.length co22)) (fun _ h_ => h_.1))))) (zak (bs1 GE1134.out))) (zeg (Kd.S_new' (Kd.S_new' ho1 (Kd.S_lt (by (with_reducible repeat (first | apply zdk | apply zdl | apply zdr)); exact (zcx (zci (p := ⟨gb1134, 4, none⟩) (zci (p := ⟨gb1134, 3, none⟩) (zci (p := ⟨gb1134, 2, none⟩) (zci (p := ⟨gb1134, 1, none⟩) (zci (p := ⟨gb1134, 0, none⟩) (zfp HO_5.out BK1134.out (by decide)) (fun _ hk => hk.2) (.int .i64 t1125)) (fun _ hk => hk.2) (.string t1126)) (fun _ hk => hk.2) (.int .i64 t1127)) (fun _ hk => hk.2) (.int .i64 t1128)) (fun _ hk => hk.2) (.slice Ao22 t1129.length co22)) (fun _ h_ => h_.1))))) (zcd (by (with_reducible repeat (first | apply zbo | apply zbp | apply zbs)); exact (zav (zbt (p := ⟨gb1134, 4, none⟩) (zbt (p := ⟨gb1134, 3, none⟩) (zbt (p := ⟨gb1134, 2, none⟩) (zbt (p := ⟨gb1134, 1, none⟩) (zbt (p := ⟨gb1134, 0, none⟩) (zcb HO1131.out BK1134.out (by decide)) (fun _ hk => hk.2) (.int .i64 t1125)) (fun _ hk => hk.2) (.string t1126)) (fun _ hk => hk.2) (.int .i64 t1127)) (fun _ hk => hk.2) (.int .i64 t1128)) (fun _ hk => hk.2) (.slice Ao22 t1129.length co22)) (fun _ h_ => h_.1))))) (zak (bs1 GE1134.out))) (blk_below (g := gb1134) (o := .cells #[.int .i64 t1125, .string t1126, .int .i64 t1127, .int .i64 t1128, .slice Ao22 t1129.length co22] 48 (0, 0)) (by (with_reducible repeat (first | refine zbg ?_ _ | refine zbl ?_ | refine zbh ?_ _)); refine zdh (cs := #[.int .i64 t1125, .string t1126, .int .i64 t1127, .int .i64 t1128, .slice none 0 0]) ?_ 4 _ rfl; (with_reducible repeat (first | refine zbg ?_ _ | refine zbl ?_ | refine zbh ?_ _)); refine zdh (cs := #[.int .i64 t1125, .string t1126, .int .i64 t1127, .int .i64 0, .slice none 0 0]) ?_ 3 _ rfl; (with_reducible repeat (first | refine zbg ?_ _ | refine zbl ?_ | refine zbh ?_ _)); refine zdh (cs := #[.int .i64 t1125, .string t1126, .int .i64 0, .int .i64 0, .slice none 0 0]) ?_ 2 _ rfl; (with_reducible repeat (first | refine zbg ?_ _ | refine zbl ?_ | refine zbh ?_ _)); refine zdh (cs := #[.int .i64 t1125, .string (⟨#[]⟩ : ByteArray), .int .i64 0, .int .i64 0, .slice none 0 0]) ?_ 1 _ rfl; (with_reducible repeat (first | refine zbg ?_ _ | refine zbl ?_ | refine zbh ?_ _)); refine zdh (cs := #[.int .i64 0, .string (⟨#[]⟩ : ByteArray), .int .i64 0, .int .i64 0, .slice none 0 0]) ?_ 0 _ rfl; (with_reducible repeat (first | refine zbg ?_ _ | refine zbl ?_ | refine zbh ?_ _)); exact BK1134.out) hb) (zab (bs1 GE1134.out) hb); clear HO_5 HO1131 BK1134 HB; obtain ⟨HO_5, HO1131, HO1150, HO1153, BK1134, HB⟩ := n_; clear hb ho0; (try clear ho1)))
      go_roundg k1
      case measure => have := HK1.out; omega
      case rel => exact ⟨(t1151), (x6_1), (t1132), jer, jer, H', ⟨by have := HK1.out; omega⟩, ⟨tqS HO1153.out⟩, ⟨bs1 GE1134.out⟩⟩
     ·rw [if_neg c17] at H
      have c17b0 := zao.mpr c17
      have c17b1 := zcs.mpr c17
      by_cases c25 : t1125 = 3
      ·rw [if_pos c25] at H
       have c25b0 := beqT c25
       have c25b1 := zau.mpr c25
       clear c25
       by_cases c26 : t1128 ≥ x6_1
       ·rw [if_pos c26] at H
        have c26b0 := zae c26
        clear c26
        obtain ⟨t1155, A27, H⟩ := bnd H
        have H' := Aside0.mk H
        clear H
        go_wp2_with (first | (refine jgc 56 ?_; refine jgs 15 Try.func56 #[.slice A0 l0.length c0, .int .i64 x7_1] ?_; (with_reducible refine (impl_LineOf.calls k1 _ _ l0 x7_1 t1125 t1126 t1127 t1128 t1129 t1132 true _ ?side1 ?side2 A4.out).mono ?_); (case side1 => exact jcs HR0.out); (case side2 => exact HC0.out); rintro e w28 ⟨v1130, rfl, ho0, hb⟩; refine ⟨_, rfl, ?_⟩; have xb_ := below_ofs bq hb; have n_ := jA3 (zea (pS HO_5.out) (zbe ho0) hb) (zbc ho0 (zak xb_)) (zab xb_ hb); clear HO_5 HB; obtain ⟨HO_5, HO1131, HB⟩ := n_; clear xb_ hb ho0) | (refine jgd 8 ?_; refine bx 8 (#[.int .i64 0, .string (⟨#[]⟩ : ByteArray), .int .i64 0, .int .i64 0, .slice none 0 0]) 48 ?_; intro gb1134 hg w29 hbox hb; have xb_ := below_ofs bq hb; have n_ := jA6 (zdy (pS HO_5.out) hb) (zdj (pR HO1131.out) hb) (zab xb_ hb) (hbox) (ge0 hg xb_ : w.heap.size ≤ gb1134) (ge0 hg xb_ : w.heap.size ≤ gb1134); clear HO_5 HO1131 HB; obtain ⟨HO_5, HO1131, HB, BK1134, GW1134, GE1134⟩ := n_; clear xb_ hb hbox hg; obtain ⟨hcz30_0, hcz30_1, hcz30_2, hcz30_3, hcz30_4, hfz30_0, hfz30_1, hfz30_2, hfz30_3, hfz30_4⟩ := cz5 BK1134.out; obtain ⟨Ao31, co31, eo31⟩ := zbm HO1131.out; subst eo31; obtain ⟨Ao32, co32, eo32⟩ := Kd.S_slice HO_5.out; subst eo32) | (refine jgc 39 ?_; refine jgs 56 Try.func39 #[.slice Ao32 x5_1.length co32, .int .i64 t1128] ?_; (with_reducible refine (impl_Due.calls k1 _ _ x5_1 t1128 t1155 _ ?side1 ?side2 A27.out).mono ?_); (case side1 => refine (zdt (e := 34) (base := w.heap.size) (ok := fun k_ => (True ∧ some k_ ≠ (.slice Ao31 t1129.length co31 : Value).ownBlock)) (n := x5_1.length) (c := co32) ?_).2.2; exact (by (with_reducible repeat (first | apply zdk | apply zdl | apply zdr)); exact (zcx (zci (p := ⟨gb1134, 4, none⟩) (zci (p := ⟨gb1134, 3, none⟩) (zci (p := ⟨gb1134, 2, none⟩) (zci (p := ⟨gb1134, 1, none⟩) (zci (p := ⟨gb1134, 0, none⟩) (zfp HO_5.out BK1134.out (by decide)) (fun _ hk => hk.2) (.int .i64 t1125)) (fun _ hk => hk.2) (.string t1126)) (fun _ hk => hk.2) (.int .i64 t1127)) (fun _ hk => hk.2) (.int .i64 t1128)) (fun _ hk => hk.2) (.slice Ao31 t1129.length co31)) (fun _ h_ => h_.1)))); (case side2 => exact (zdt HO_5.out).2.1); rintro e w33 ⟨v1156, rfl, ho0, hb⟩; refine ⟨_, rfl, ?_⟩; have n_ := jA5 (zea (by (with_reducible repeat (first | apply zdk | apply zdl | apply zdr)); exact (zcx (zci (p := ⟨gb1134, 4, none⟩) (zci (p := ⟨gb1134, 3, none⟩) (zci (p := ⟨gb1134, 2, none⟩) (zci (p := ⟨gb1134, 1, none⟩) (zci (p := ⟨gb1134, 0, none⟩) (zfp HO_5.out BK1134.out (by decide)) (fun _ hk => hk.2) (.int .i64 t1125)) (fun _ hk => hk.2) (.string t1126)) (fun _ hk => hk.2) (.int .i64 t1127)) (fun _ hk => hk.2) (.int .i64 t1128)) (fun _ hk => hk.2) (.slice Ao31 t1129.length co31)) (fun _ h_ => h_.1))) (Kd.S_base ho0) hb) (zdj (by (with_reducible repeat (first | apply zbo | apply zbp | apply zbs)); exact (zav (zbt (p := ⟨gb1134, 4, none⟩) (zbt (p := ⟨gb1134, 3, none⟩) (zbt (p := ⟨gb1134, 2, none⟩) (zbt (p := ⟨gb1134, 1, none⟩) (zbt (p := ⟨gb1134, 0, none⟩) (zcb HO1131.out BK1134.out (by decide)) (fun _ hk => hk.2) (.int .i64 t1125)) (fun _ hk => hk.2) (.string t1126)) (fun _ hk => hk.2) (.int .i64 t1127)) (fun _ hk => hk.2) (.int .i64 t1128)) (fun _ hk => hk.2) (.slice Ao31 t1129.length co31)) (fun _ h_ => h_.1))) hb) (zeg (Kd.S_new' (Kd.S_new' ho0 (Kd.S_lt (by (with_reducible repeat (first | apply zdk | apply zdl | apply zdr)); exact (zcx (zci (p := ⟨gb1134, 4, none⟩) (zci (p := ⟨gb1134, 3, none⟩) (zci (p := ⟨gb1134, 2, none⟩) (zci (p := ⟨gb1134, 1, none⟩) (zci (p := ⟨gb1134, 0, none⟩) (zfp HO_5.out BK1134.out (by decide)) (fun _ hk => hk.2) (.int .i64 t1125)) (fun _ hk => hk.2) (.string t1126)) (fun _ hk => hk.2) (.int .i64 t1127)) (fun _ hk => hk.2) (.int .i64 t1128)) (fun _ hk => hk.2) (.slice Ao31 t1129.length co31)) (fun _ h_ => h_.1))))) (zcd (by (with_reducible repeat (first | apply zbo | apply zbp | apply zbs)); exact (zav (zbt (p := ⟨gb1134, 4, none⟩) (zbt (p := ⟨gb1134, 3, none⟩) (zbt (p := ⟨gb1134, 2, none⟩) (zbt (p := ⟨gb1134, 1, none⟩) (zbt (p := ⟨gb1134, 0, none⟩) (zcb HO1131.out BK1134.out (by decide)) (fun _ hk => hk.2) (.int .i64 t1125)) (fun _ hk => hk.2) (.string t1126)) (fun _ hk => hk.2) (.int .i64 t1127)) (fun _ hk => hk.2) (.int .i64 t1128)) (fun _ hk => hk.2) (.slice Ao31 t1129.length co31)) (fun _ h_ => h_.1))))) (zak (bs1 GE1134.out))) (blk_below (g := gb1134) (o := .cells #[.int .i64 t1125, .string t1126, .int .i64 t1127, .int .i64 t1128, .slice Ao31 t1129.length co31] 48 (0, 0)) (by (with_reducible repeat (first | refine zbg ?_ _ | refine zbl ?_ | refine zbh ?_ _)); refine zdh (cs := #[.int .i64 t1125, .string t1126, .int .i64 t1127, .int .i64 t1128, .slice none 0 0]) ?_ 4 _ rfl; (with_reducible repeat (first | refine zbg ?_ _ | refine zbl ?_ | refine zbh ?_ _)); refine zdh (cs := #[.int .i64 t1125, .string t1126, .int .i64 t1127, .int .i64 0, .slice none 0 0]) ?_ 3 _ rfl; (with_reducible repeat (first | refine zbg ?_ _ | refine zbl ?_ | refine zbh ?_ _)); refine zdh (cs := #[.int .i64 t1125, .string t1126, .int .i64 0, .int .i64 0, .slice none 0 0]) ?_ 2 _ rfl; (with_reducible repeat (first | refine zbg ?_ _ | refine zbl ?_ | refine zbh ?_ _)); refine zdh (cs := #[.int .i64 t1125, .string (⟨#[]⟩ : ByteArray), .int .i64 0, .int .i64 0, .slice none 0 0]) ?_ 1 _ rfl; (with_reducible repeat (first | refine zbg ?_ _ | refine zbl ?_ | refine zbh ?_ _)); refine zdh (cs := #[.int .i64 0, .string (⟨#[]⟩ : ByteArray), .int .i64 0, .int .i64 0, .slice none 0 0]) ?_ 0 _ rfl; (with_reducible repeat (first | refine zbg ?_ _ | refine zbl ?_ | refine zbh ?_ _)); exact BK1134.out) hb) (zab (bs1 GE1134.out) hb); clear HO_5 HO1131 BK1134 HB; obtain ⟨HO_5, HO1131, HO1157, BK1134, HB⟩ := n_; clear hb ho0))
        go_roundg k1
        case measure => have := HK1.out; omega
        case rel => exact ⟨(t1155), (t1128), (t1132), jer, jer, H', ⟨by have := HK1.out; omega⟩, ⟨tqS HO1157.out⟩, ⟨bs1 GE1134.out⟩⟩
       ·rw [if_neg c26] at H
        have c26b0 := zas c26
        clear c26
        have H' := Aside0.mk H
        clear H
        go_wp2_with (first | (refine jgc 56 ?_; refine jgs 15 Try.func56 #[.slice A0 l0.length c0, .int .i64 x7_1] ?_; (with_reducible refine (impl_LineOf.calls k1 _ _ l0 x7_1 t1125 t1126 t1127 t1128 t1129 t1132 true _ ?side1 ?side2 A4.out).mono ?_); (case side1 => exact jcs HR0.out); (case side2 => exact HC0.out); rintro e w34 ⟨v1130, rfl, ho0, hb⟩; refine ⟨_, rfl, ?_⟩; have xb_ := below_ofs bq hb; have n_ := jA3 (zea (pS HO_5.out) (zbe ho0) hb) (zbc ho0 (zak xb_)) (zab xb_ hb); clear HO_5 HB; obtain ⟨HO_5, HO1131, HB⟩ := n_; clear xb_ hb ho0) | (refine jgd 8 ?_; refine bx 8 (#[.int .i64 0, .string (⟨#[]⟩ : ByteArray), .int .i64 0, .int .i64 0, .slice none 0 0]) 48 ?_; intro gb1134 hg w35 hbox hb; have xb_ := below_ofs bq hb; have n_ := jA6 (zdy (pS HO_5.out) hb) (zdj (pR HO1131.out) hb) (zab xb_ hb) (hbox) (ge0 hg xb_ : w.heap.size ≤ gb1134) (ge0 hg xb_ : w.heap.size ≤ gb1134); clear HO_5 HO1131 HB; obtain ⟨HO_5, HO1131, HB, BK1134, GW1134, GE1134⟩ := n_; clear xb_ hb hbox hg; obtain ⟨hcz36_0, hcz36_1, hcz36_2, hcz36_3, hcz36_4, hfz36_0, hfz36_1, hfz36_2, hfz36_3, hfz36_4⟩ := cz5 BK1134.out; obtain ⟨Ao37, co37, eo37⟩ := zbm HO1131.out; subst eo37))
        go_roundg k1
        case measure => have := HK1.out; omega
        case rel => exact ⟨(x5_1), (x6_1), (t1132), jer, jer, H', ⟨by have := HK1.out; omega⟩, ⟨by (with_reducible repeat (first | apply zdk | apply zdl | apply zdr)); exact zcx (zci (p := ⟨gb1134, 4, none⟩) (zci (p := ⟨gb1134, 3, none⟩) (zci (p := ⟨gb1134, 2, none⟩) (zci (p := ⟨gb1134, 1, none⟩) (zci (p := ⟨gb1134, 0, none⟩) (zfp HO_5.out BK1134.out (by decide)) (fun _ hk => hk.2) (.int .i64 t1125)) (fun _ hk => hk.2) (.string t1126)) (fun _ hk => hk.2) (.int .i64 t1127)) (fun _ hk => hk.2) (.int .i64 t1128)) (fun _ hk => hk.2) (.slice Ao37 t1129.length co37)) (fun _ hk => trivial)⟩, ⟨bs1 GE1134.out⟩⟩
      ·rw [if_neg c25] at H
       have c25b0 := zao.mpr c25
       have c25b1 := zcs.mpr c25
       have H' := Aside0.mk H
       clear H
       go_wp2_with (first | (refine jgc 56 ?_; refine jgs 15 Try.func56 #[.slice A0 l0.length c0, .int .i64 x7_1] ?_; (with_reducible refine (impl_LineOf.calls k1 _ _ l0 x7_1 t1125 t1126 t1127 t1128 t1129 t1132 true _ ?side1 ?side2 A4.out).mono ?_); (case side1 => exact jcs HR0.out); (case side2 => exact HC0.out); rintro e w38 ⟨v1130, rfl, ho0, hb⟩; refine ⟨_, rfl, ?_⟩; have xb_ := below_ofs bq hb; have n_ := jA3 (zea (pS HO_5.out) (zbe ho0) hb) (zbc ho0 (zak xb_)) (zab xb_ hb); clear HO_5 HB; obtain ⟨HO_5, HO1131, HB⟩ := n_; clear xb_ hb ho0) | (refine jgd 8 ?_; refine bx 8 (#[.int .i64 0, .string (⟨#[]⟩ : ByteArray), .int .i64 0, .int .i64 0, .slice none 0 0]) 48 ?_; intro gb1134 hg w39 hbox hb; have xb_ := below_ofs bq hb; have n_ := jA6 (zdy (pS HO_5.out) hb) (zdj (pR HO1131.out) hb) (zab xb_ hb) (hbox) (ge0 hg xb_ : w.heap.size ≤ gb1134) (ge0 hg xb_ : w.heap.size ≤ gb1134); clear HO_5 HO1131 HB; obtain ⟨HO_5, HO1131, HB, BK1134, GW1134, GE1134⟩ := n_; clear xb_ hb hbox hg; obtain ⟨hcz40_0, hcz40_1, hcz40_2, hcz40_3, hcz40_4, hfz40_0, hfz40_1, hfz40_2, hfz40_3, hfz40_4⟩ := cz5 BK1134.out; obtain ⟨Ao41, co41, eo41⟩ := zbm HO1131.out; subst eo41))
       go_roundg k1
       case measure => have := HK1.out; omega
       case rel => exact ⟨(x5_1), (x6_1), (t1132), jer, jer, H', ⟨by have := HK1.out; omega⟩, ⟨by (with_reducible repeat (first | apply zdk | apply zdl | apply zdr)); exact zcx (zci (p := ⟨gb1134, 4, none⟩) (zci (p := ⟨gb1134, 3, none⟩) (zci (p := ⟨gb1134, 2, none⟩) (zci (p := ⟨gb1134, 1, none⟩) (zci (p := ⟨gb1134, 0, none⟩) (zfp HO_5.out BK1134.out (by decide)) (fun _ hk => hk.2) (.int .i64 t1125)) (fun _ hk => hk.2) (.string t1126)) (fun _ hk => hk.2) (.int .i64 t1127)) (fun _ hk => hk.2) (.int .i64 t1128)) (fun _ hk => hk.2) (.slice Ao41 t1129.length co41)) (fun _ hk => trivial)⟩, ⟨bs1 GE1134.out⟩⟩
   ·replace c5 := zbn.mpr c5
    subst c5
    rw [if_neg (show ¬ (false = true) by decide)] at H
    simp only [zbz, zcj] at H
    obtain ⟨rfl, rfl, rfl⟩ := H
    go_wp2_with (first | (refine jgc 56 ?_; refine jgs 15 Try.func56 #[.slice A0 l0.length c0, .int .i64 x7_1] ?_; (with_reducible refine (impl_LineOf.calls k1 _ _ l0 x7_1 t1125 t1126 t1127 t1128 t1129 t1132 false _ ?side1 ?side2 A4.out).mono ?_); (case side1 => exact jcs HR0.out); (case side2 => exact HC0.out); rintro e w42 ⟨v1130, rfl, ho0, hb⟩; refine ⟨_, rfl, ?_⟩; have xb_ := below_ofs bq hb; have n_ := jA3 (zea (pS HO_5.out) (zbe ho0) hb) (zbc ho0 (zak xb_)) (zab xb_ hb); clear HO_5 HB; obtain ⟨HO_5, HO1131, HB⟩ := n_; clear xb_ hb ho0) | (refine jgd 8 ?_; refine bx 8 (#[.int .i64 0, .string (⟨#[]⟩ : ByteArray), .int .i64 0, .int .i64 0, .slice none 0 0]) 48 ?_; intro gb1134 hg w43 hbox hb; have xb_ := below_ofs bq hb; have n_ := jA6 (zdy (pS HO_5.out) hb) (zdj (pR HO1131.out) hb) (zab xb_ hb) (hbox) (ge0 hg xb_ : w.heap.size ≤ gb1134) (ge0 hg xb_ : w.heap.size ≤ gb1134); clear HO_5 HO1131 HB; obtain ⟨HO_5, HO1131, HB, BK1134, GW1134, GE1134⟩ := n_; clear xb_ hb hbox hg; obtain ⟨hcz44_0, hcz44_1, hcz44_2, hcz44_3, hcz44_4, hfz44_0, hfz44_1, hfz44_2, hfz44_3, hfz44_4⟩ := cz5 BK1134.out; obtain ⟨Ao45, co45, eo45⟩ := zbm HO1131.out; subst eo45))
    go_ret3
    exact ⟨_, jex, by (with_reducible repeat (first | apply zdk | apply zdl | apply zdr)); exact zcx (zci (p := ⟨gb1134, 4, none⟩) (zci (p := ⟨gb1134, 3, none⟩) (zci (p := ⟨gb1134, 2, none⟩) (zci (p := ⟨gb1134, 1, none⟩) (zci (p := ⟨gb1134, 0, none⟩) (zfp HO_5.out BK1134.out (by decide)) (fun _ hk => hk.2) (.int .i64 t1125)) (fun _ hk => hk.2) (.string t1126)) (fun _ hk => hk.2) (.int .i64 t1127)) (fun _ hk => hk.2) (.int .i64 t1128)) (fun _ hk => hk.2) (.slice Ao45 t1129.length co45)) (fun _ hk => trivial), (bs1 GE1134.out)⟩
def sameI1 (x y : S34) : Option Bool := if x.f0.toList = y.f0.toList then (if x.f1 = y.f1 then (if x.f2 = y.f2 then impl_Same.f x.f3 y.f3 else some false) else some false) else some false
def sameIs : List S34 → List S34 → Option Bool
 | x :: l, y :: m => (sameI1 x y).bind fun t => if t = true then sameIs l m else some false
 | _, _ => some true
def impl_sameItems.f (l0 : List (S34)) (l1 : List (S34)) : Option Bool := if (l0.length : Int) = (l1.length : Int) then sameIs l0 l1 else some false
set_option maxHeartbeats 800000 in
theorem same_pred (W : World) (x y : S34) (A : Option Addr) (c : Nat) (B : Option Addr) (d : Nat) (b : Bool) (hA : (Kd.int .u8).C W A x.f3.length x.f3) (hc : x.f3.length ≤ c) (hB : (Kd.int .u8).C W B y.f3.length y.f3) (hd : y.f3.length ≤ d) (h : sameI1 x y = some b) :
  Calls Try.prog 147 #[.agg #[.string x.f0, .int .i64 x.f1, .int .i64 x.f2, .slice A x.f3.length c], .agg #[.string y.f0, .int .i64 y.f1, .int .i64 y.f2, .slice B y.f3.length d]] W fun e w' => e = .returned (.bool b) ∧ Below W.heap.size W w' := by
 have hu34 := Try.underlying34
 obtain ⟨x0, x1, x2, x3⟩ := x
 obtain ⟨y0, y1, y2, y3⟩ := y
 have HA := Aside0.mk hA
 have HC := Aside0.mk hc
 have HB := Aside0.mk hB
 have HD := Aside0.mk hd
 clear hA hc hB hd
 unfold sameI1 at h
 by_cases c0 : x0.toList = y0.toList
 ·have e0 : (x0.toList == y0.toList) = true := beq_iff_eq.2 c0
  rw [if_pos c0] at h
  clear c0
  by_cases c1 : x1 = y1
  ·have e1 : (x1 == y1) = true := beq_iff_eq.2 c1
   rw [if_pos c1] at h
   clear c1
   by_cases c2 : x2 = y2
   ·have e2 : (x2 == y2) = true := beq_iff_eq.2 c2
    rw [if_pos c2] at h
    clear c2
    have F := Aside0.mk h
    clear h
    go_enter Try.func147, Try.ntmps147
    go_wp2_with (go_at_call 75; refine (impl_Same.calls A c x3 B d y3 b _ (by repeat (first | exact HA.out | refine zcv ?_ _)) HC.out (by repeat (first | exact HB.out | refine zcv ?_ _)) HD.out F.out).mono ?_; rintro e w' ⟨rfl, ⟨nd, rfl⟩⟩)
    go_ret
    exact ⟨by first | rfl | simp_all, by repeat (first | exact zbk _ _ | apply pw_below_drewN | apply below_alloc)⟩
   ·have e2 : (x2 == y2) = false := zao.2 c2
    rw [if_neg c2] at h
    clear c2
    obtain rfl := Option.some.inj h
    clear h
    go_enter Try.func147, Try.ntmps147
    go_wp2
    go_ret
    exact ⟨by first | rfl | simp_all, by repeat (first | exact zbk _ _ | apply below_alloc)⟩
  ·have e1 : (x1 == y1) = false := zao.2 c1
   rw [if_neg c1] at h
   clear c1
   obtain rfl := Option.some.inj h
   clear h
   go_enter Try.func147, Try.ntmps147
   go_wp2
   go_ret
   exact ⟨by first | rfl | simp_all, by repeat (first | exact zbk _ _ | apply below_alloc)⟩
 ·have e0 : (x0.toList == y0.toList) = false := zao.2 c0
  rw [if_neg c0] at h
  clear c0
  obtain rfl := Option.some.inj h
  clear h
  go_enter Try.func147, Try.ntmps147
  go_wp2
  go_ret
  exact ⟨by first | rfl | simp_all, by repeat (first | exact zbk _ _ | apply below_alloc)⟩
theorem sameIs_at {l m : List S34} {i n : Nat} (hl : l.length = n) (hm : m.length = n) (hi : i < n) : sameIs (l.drop i) (m.drop i) = (sameI1 (rd_T34 l (i : Int)) (rd_T34 m (i : Int))).bind fun t => if t = true then sameIs (l.drop (i + 1)) (m.drop (i + 1)) else some false := by
 have e1 : l.drop i = rd_T34 l (i : Int) :: l.drop (i + 1) := by
  unfold rd_T34
  rw [zge, List.drop_eq_getElem_cons (by omega), List.getD_eq_getElem?_getD, List.getElem?_eq_getElem (by omega)]; rfl
 have e2 : m.drop i = rd_T34 m (i : Int) :: m.drop (i + 1) := by
  unfold rd_T34
  rw [zge, List.drop_eq_getElem_cons (by omega), List.getD_eq_getElem?_getD, List.getElem?_eq_getElem (by omega)]; rfl
 rw [e1, e2]
 rfl
set_option maxHeartbeats 800000 in
theorem items_equal (A0 : Option Addr) (c0 : Nat) (l0 : List (S34)) (A1 : Option Addr) (c1 : Nat) (l1 : List (S34)) (r : Bool) (w : World) (hr0 : Kd.C k34 w A0 l0.length l0) (hc0 : l0.length ≤ c0) (hr1 : Kd.C k34 w A1 l1.length l1) (hc1 : l1.length ≤ c1) (h : impl_sameItems.f l0 l1 = some r) :
  Calls Try.prog 146 #[.slice A0 l0.length c0, .slice A1 l1.length c1, .func (.func 147) #[] #[]] w fun e w' => e = .returned (.bool r) ∧ Below w.heap.size w w' := by
 have hu34 := Try.underlying34
 have eg : ∀ args w, (callFunc 147 args).run Try.prog w = .ok (.enter 147 args) w := enters_of Try.func147 (by kernel_rfl) rfl
 unfold impl_sameItems.f at h
 have hlen := hr0.2.1
 by_cases he : (l0.length : Int) = (l1.length : Int)
 ·rw [if_pos he] at h
  have HR0 := Aside0.mk hr0
  have HR1 := Aside0.mk hr1
  have F := Aside0.mk h
  have hll : l1.length = l0.length := by omega
  rw [hll]
  obtain ⟨n, hn⟩ : ∃ n, l0.length = n := ⟨_, rfl⟩
  rw [hn] at hlen hll ⊢
  have HN0 := Aside0.mk hn
  have HN1 := Aside0.mk hll
  have hne : ((n : Int) != (n : Int)) = false := by simp
  clear hr0 hc0 hr1 hc1 h hll hn he
  go_enter Try.func146, Try.ntmps146
  go_wp2
  go_loopg [17] n (fun gg s17 wr => ∃ i : Nat, i ≤ n ∧ n - i ≤ gg ∧ s17 = .int .i64 i ∧ Aside0 (sameIs (l0.drop i) (l1.drop i) = some r) ∧ Aside0 (Below w.heap.size w wr))
  case atStart => exact ⟨0, Nat.zero_le _, by omega, rfl, F, ⟨zbk _ w⟩⟩
  case round =>
   clear F
   obtain ⟨i, hi, hg, rfl, HA, HB⟩ := hrel
   by_cases hlt : i < n
   ·have H := HA.out
    rw [sameIs_at HN0.out HN1.out hlt] at H
    replace H := zce.1 H
    obtain ⟨t, ht, H⟩ := H
    have hltz : (i : Int) < (n : Int) := by omega
    obtain ⟨ad, A3, c3, rfl, h0, h1, h2, h3, hl3, hi3⟩ := at_T34 HR0.out (i : Int) (by omega) (by rw [HN0.out]; exact hltz)
    obtain ⟨ad', A4, c4, rfl, g0, g1, g2, g3, gl3, gi3⟩ := at_T34 HR1.out (i : Int) (by omega) (by rw [HN1.out]; exact hltz)
    replace h0 := zbj HB.out h0
    replace h1 := zbj HB.out h1
    replace h2 := zbj HB.out h2
    replace h3 := zbj HB.out h3
    have y0 := g0
    have y1 := g1
    have y2 := g2
    have y3 := g3
    simp only [zge] at h0 h1 h2 h3 y0 y1 y2 y3
    clear g0 g1 g2 g3
    generalize rd_T34 l0 (i : Int) = x at h0 h1 h2 h3 hl3 hi3 ht
    generalize rd_T34 l1 (i : Int) = y at y0 y1 y2 y3 gl3 gi3 ht
    have HX3 := Aside0.mk hi3
    have HL3 := Aside0.mk hl3
    have HY3 := Aside0.mk gi3
    have HM3 := Aside0.mk gl3
    have FT := Aside0.mk ht
    clear hi3 hl3 gi3 gl3 ht HA
    cases t with
    | true =>
     rw [if_pos rfl] at H
     have HA := Aside0.mk H
     clear H
     go_wp2_with (first | (refine jgd 8 ?_; refine bx 8 (#[.string (⟨#[]⟩ : ByteArray), .int .i64 0, .int .i64 0, .slice none 0 0]) 34 ?_; intro gb hgb w1 hbox hb; have BK8 := Aside0.mk hbox; have HB1 := Aside0.mk (zab HB.out hb); have HG8 := Aside0.mk (show w.heap.size ≤ gb by rw [hgb]; exact HB.out.size); clear hbox hb hgb) | ((with_reducible refine zdp (t := 34) (p := 8) rfl ?_); refine box_put3 rfl rfl (.tmp 8) (.tmp 21) rfl rfl rfl BK8.out (by intro u hu; simp only [zcu, zca, zeq] at hu; rcases hu with rfl | rfl | rfl | rfl <;> rfl) rfl ?_; intro w2 hg hbw; have BW8 := Aside0.mk hbw; have HB2 := Aside0.mk (zcg HB1.out (some gb) HB1.out.size hg (fun k_ e => by injection e with e; rw [← e]; exact HG8.out)); have g0 := zbj HB2.out y0; have g1 := zbj HB2.out y1; have g2 := zbj HB2.out y2; have g3 := zbj HB2.out y3; clear hg hbw) | (refine jgd 9 ?_; refine bx 9 (#[.string (⟨#[]⟩ : ByteArray), .int .i64 0, .int .i64 0, .slice none 0 0]) 34 ?_; intro gc hgb w3 hbox hb; have BK9 := Aside0.mk hbox; have HB3 := Aside0.mk (zab HB2.out hb); have HG9 := Aside0.mk (show w.heap.size ≤ gc by rw [hgb]; exact HB2.out.size); have BX3 := Aside0.mk ((hb.block _ (Array.getElem?_eq_some_iff.1 BW8.out).1).trans BW8.out); have HNE := Aside0.mk (show gb ≠ gc by rw [hgb]; have h1 := (Array.getElem?_eq_some_iff.1 BW8.out).1; omega); clear hbox hb hgb) | ((with_reducible refine zdp (t := 34) (p := 9) rfl ?_); refine box_put3 rfl rfl (.tmp 9) (.tmp 25) rfl rfl rfl BK9.out (by intro u hu; simp only [zcu, zca, zeq] at hu; rcases hu with rfl | rfl | rfl | rfl <;> rfl) rfl ?_; intro w4 hg hbw; have BW9 := Aside0.mk hbw; have HB4 := Aside0.mk (zcg HB3.out (some gc) HB3.out.size hg (fun k_ e => by injection e with e; rw [← e]; exact HG9.out)); have BX4 := Aside0.mk ((hg.block _ (Array.getElem?_eq_some_iff.1 BX3.out).1 (fun e => HNE.out (by injection e))).trans BX3.out); obtain ⟨p0, p1, p2, p3⟩ := cells_of_block BX4.out; obtain ⟨q0, q1, q2, q3⟩ := cells_of_block BW9.out; clear hg hbw) | (go_at_fn 147; refine (same_pred w4 x y A3 c3 A4 c4 _ (zaz HX3.out HB4.out) HL3.out (zaz HY3.out HB4.out) HM3.out FT.out).mono ?_; rintro e w5 ⟨rfl, hb5⟩; have HB5 := Aside0.mk (zab HB4.out hb5); clear hb5))
     go_roundg (n - (i + 1))
     case measure => omega
     case rel => exact ⟨i + 1, by omega, by omega, by go_num, HA, HB5⟩
    | false =>
     rw [if_neg (by simp)] at H
     obtain rfl := Option.some.inj H
     clear H
     go_wp2_with (first | (refine jgd 8 ?_; refine bx 8 (#[.string (⟨#[]⟩ : ByteArray), .int .i64 0, .int .i64 0, .slice none 0 0]) 34 ?_; intro gb hgb w1 hbox hb; have BK8 := Aside0.mk hbox; have HB1 := Aside0.mk (zab HB.out hb); have HG8 := Aside0.mk (show w.heap.size ≤ gb by rw [hgb]; exact HB.out.size); clear hbox hb hgb) | ((with_reducible refine zdp (t := 34) (p := 8) rfl ?_); refine box_put3 rfl rfl (.tmp 8) (.tmp 21) rfl rfl rfl BK8.out (by intro u hu; simp only [zcu, zca, zeq] at hu; rcases hu with rfl | rfl | rfl | rfl <;> rfl) rfl ?_; intro w2 hg hbw; have BW8 := Aside0.mk hbw; have HB2 := Aside0.mk (zcg HB1.out (some gb) HB1.out.size hg (fun k_ e => by injection e with e; rw [← e]; exact HG8.out)); have g0 := zbj HB2.out y0; have g1 := zbj HB2.out y1; have g2 := zbj HB2.out y2; have g3 := zbj HB2.out y3; clear hg hbw) | (refine jgd 9 ?_; refine bx 9 (#[.string (⟨#[]⟩ : ByteArray), .int .i64 0, .int .i64 0, .slice none 0 0]) 34 ?_; intro gc hgb w3 hbox hb; have BK9 := Aside0.mk hbox; have HB3 := Aside0.mk (zab HB2.out hb); have HG9 := Aside0.mk (show w.heap.size ≤ gc by rw [hgb]; exact HB2.out.size); have BX3 := Aside0.mk ((hb.block _ (Array.getElem?_eq_some_iff.1 BW8.out).1).trans BW8.out); have HNE := Aside0.mk (show gb ≠ gc by rw [hgb]; have h1 := (Array.getElem?_eq_some_iff.1 BW8.out).1; omega); clear hbox hb hgb) | ((with_reducible refine zdp (t := 34) (p := 9) rfl ?_); refine box_put3 rfl rfl (.tmp 9) (.tmp 25) rfl rfl rfl BK9.out (by intro u hu; simp only [zcu, zca, zeq] at hu; rcases hu with rfl | rfl | rfl | rfl <;> rfl) rfl ?_; intro w4 hg hbw; have BW9 := Aside0.mk hbw; have HB4 := Aside0.mk (zcg HB3.out (some gc) HB3.out.size hg (fun k_ e => by injection e with e; rw [← e]; exact HG9.out)); have BX4 := Aside0.mk ((hg.block _ (Array.getElem?_eq_some_iff.1 BX3.out).1 (fun e => HNE.out (by injection e))).trans BX3.out); obtain ⟨p0, p1, p2, p3⟩ := cells_of_block BX4.out; obtain ⟨q0, q1, q2, q3⟩ := cells_of_block BW9.out; clear hg hbw) | (go_at_fn 147; refine (same_pred w4 x y A3 c3 A4 c4 _ (zaz HX3.out HB4.out) HL3.out (zaz HY3.out HB4.out) HM3.out FT.out).mono ?_; rintro e w5 ⟨rfl, hb5⟩; have HB5 := Aside0.mk (zab HB4.out hb5); clear hb5))
     go_ret
     exact ⟨rfl, HB5.out⟩
   ·obtain rfl : i = n := by omega
    have hltz : ¬ (i : Int) < (i : Int) := by omega
    have H := HA.out
    rw [List.drop_eq_nil_of_le (by rw [HN0.out]; exact zaf _)] at H
    simp only [sameIs] at H
    obtain rfl := Option.some.inj H
    clear H
    go_wp2
    go_ret
    exact ⟨rfl, HB.out⟩
 ·rw [if_neg he] at h
  obtain rfl := Option.some.inj h
  have hne : ((l0.length : Int) != (l1.length : Int)) = true := zcs.2 he
  clear hr0 hc0 hr1 hc1 h he
  go_enter Try.func146, Try.ntmps146
  go_wp2
  go_ret
  exact ⟨rfl, zbk _ _⟩
set_option maxHeartbeats 800000 in
theorem impl_sameItems.calls (A0 : Option Addr) (c0 : Nat) (l0 : List (S34)) (A1 : Option Addr) (c1 : Nat) (l1 : List (S34)) (r : Bool) (w : World) (hr0 : Kd.C k34 w A0 l0.length l0) (hc0 : l0.length ≤ c0) (hr1 : Kd.C k34 w A1 l1.length l1) (hc1 : l1.length ≤ c1) (h : impl_sameItems.f l0 l1 = some r) :
  Calls Try.prog 129 #[.slice A0 l0.length c0, .slice A1 l1.length c1] w fun e w' => e = .returned (.bool r) ∧ Below w.heap.size w w' := by
 have hI := items_equal A0 c0 l0 A1 c1 l1 r w hr0 hc0 hr1 hc1 h
 clear hr0 hc0 hr1 hc1 h
 go_enter Try.func129, Try.ntmps129
 go_wp2_with (go_at_call 146; refine hI.mono ?_; rintro e w' ⟨rfl, hb'⟩)
 go_ret
 exact ⟨rfl, hb'⟩
end Go.Proofs.Ytlalkldjpniakaa.P
