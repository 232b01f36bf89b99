import Derived.Test.Ytdineaebljpfaaan31
import Derived.Test.Ytdineaebljpfaaan28
import Derived.Test.Ytdineaebljpfaaan30
namespace Go.Proofs.Ytdineaebljpfaaa.P
open Go.RowKit Go.Proofs.YtdineaebljpfaaaW.PrintWords Go.Proofs.YtdineaebljpfaaaW.PrintLast Go.Proofs.YtdineaebljpfaaaW.PrintMore
attribute [local go_sem] zcu zcv zdf zdg zci zcj zcw zcx   -- for this text's walks alone
set_option linter.unusedVariables false
set_option linter.unusedSimpArgs false

def impl_Stream.l0 : Nat → List Int → Int → List Int → List Int → List Int → Nat → Option (List Int)
 | 0, _, _, _, _, _, _ => none
 | k + 1, l0, c, l2, l3, o, i => if i < l3.length then (if impl_Block.ok l0 c l2 = true then (impl_Block.f k l0 c l2).bind fun t => (if 0 < t.length then (impl_Xor.f k (l3.drop i) t).bind fun u => (if o.length + u.length ≤ 100000 then impl_Stream.l0 k l0 (c + 1) l2 l3 (o ++ u) (i + 64) else none) else none) else some []) else some o
def impl_Stream.f (k : Nat) (l0 : List Int) (a1 : Int) (l2 : List Int) (l3 : List Int) : Option (List Int) := if (l3.length : Int) > 4000 then some [] else impl_Stream.l0 k l0 a1 l2 l3 [] 0
theorem impl_Stream.mono_l : ∀ k, (∀ y0 y1 y2 y3 y4 y5, LeO (impl_Stream.l0 k y0 y1 y2 y3 y4 y5) (impl_Stream.l0 (k + 1) y0 y1 y2 y3 y4 y5))
 | 0 => fun _ _ _ _ _ _ r h => by simp [impl_Stream.l0] at h
 | k + 1 => by
  have ih0 := impl_Stream.mono_l k
  intro y0 y1 y2 y3 y4 y5
  unfold impl_Stream.l0
  repeat' first
   | (with_reducible exact ih0 _ _ _ _ _ _)
   | (with_reducible exact impl_Block.mono _ _ _ _)
   | (with_reducible exact impl_Xor.mono _ _ _)
   | (with_reducible exact zcc _)
   | (with_reducible exact zcg _)
   | (with_reducible refine zcr ?_ ?_)
   | (with_reducible refine zcd ?_ (fun _ => ?_))
theorem impl_Stream.mono : ∀ a0 a1 a2 a3 k, LeO (impl_Stream.f k a0 a1 a2 a3) (impl_Stream.f (k + 1) a0 a1 a2 a3) := by
 intro a0 a1 a2 a3 k
 unfold impl_Stream.f
 exact zcr (zcc _) (impl_Stream.mono_l k _ _ _ _ _ _)
set_option maxHeartbeats 8000000 in
set_option maxRecDepth 100000 in
theorem impl_Stream.calls (k : Nat) (A0 : Option Addr) (c0 : Nat) (l0 : List Int) (a1 : Int) (A2 : Option Addr) (c2 : Nat) (l2 : List Int) (A3 : Option Addr) (c3 : Nat) (l3 : List Int) (r : List Int) (w : World) (hr0 : Kd.C (Kd.int .u8) w A0 l0.length l0) (hc0 : l0.length ≤ c0) (hr2 : Kd.C (Kd.int .u8) w A2 l2.length l2) (hc2 : l2.length ≤ c2) (hr3 : Kd.C (Kd.int .u8) w A3 l3.length l3) (hc3 : l3.length ≤ c3) (h : impl_Stream.f k l0 a1 l2 l3 = some r) :
  Calls Try.prog 27 #[.slice A0 l0.length c0, .int .i64 a1, .slice A2 l2.length c2, .slice A3 l3.length c3] w fun e w' => ∃ v0_ : Value, e = .returned (v0_) ∧ Kd.R (Kd.int .u8) 5 w' w.heap.size (fun _ => True) v0_ r ∧ Below w.heap.size w w' := by
 unfold impl_Stream.f at h
 have HB := Aside0.mk (zbx w.heap.size w)
 by_cases q : (l3.length : Int) > 4000
 ·rw [if_pos q] at h
  obtain rfl := Option.some.inj h
  clear h hr0 hc0 hr2 hc2 hr3 hc3
  go_enter Try.func27, Try.ntmps27
  go_wp2
  go_ret
  exact ⟨_, rfl, Kd.R_nil _ _ _ _ _, by repeat (first | (with_reducible first | exact HB.out | apply zaj | apply zad | apply zai) | exact HB.out)⟩
 ·rw [if_neg q] at h
  have q1 : (l3.length : Int) ≤ 4000 := by omega
  have HR0 := Aside0.mk hr0
  have HR2 := Aside0.mk hr2
  have HR3 := Aside0.mk hr3
  have HC0 := Aside0.mk hc0
  have HC2 := Aside0.mk hc2
  have HC3 := Aside0.mk hc3
  have HA := Aside0.mk h
  clear h hr0 hc0 hr2 hc2 hr3 hc3
  go_enter Try.func27, Try.ntmps27
  go_wp2_with (((with_reducible refine zds (N := 15) rfl ?_); refine zec (Kd.int .u8) _ 5 ?hg (N := 15) ?hd (xs := ([] : List Int)) (inner := []) (ok := fun _ => True) (okp := fun _ => True) ?hr ?hp (fun _ hk => hk) trivial (zbx _ _) (zbp _) (by simp) ?_; (case hd => rfl); (case hg => rfl); (case hr => first | (go_simp; done) | (go_simp; rfl)); (case hp => exact (zdp _ _)); intro v_ w_ ho hb hg_ hnew_; clear hg_ hnew_; have m0_ := Aside0.mk (zbc ho (zba (by repeat (first | (with_reducible first | exact HB.out | apply zaj | apply zad | apply zai) | exact HB.out)))); have mb_ := Aside0.mk (zbb (by repeat (first | (with_reducible first | exact HB.out | apply zaj | apply zad | apply zai) | exact HB.out)) hb); clear HB; have HO := m0_; have HB := mb_; clear m0_ mb_ ho hb))
  go_loopg [1, 9, 10] k (fun g s1 s9 s10 wr => ∃ (i : Nat) (c : Int) (o : List Int), s10 = .int .i64 i ∧ s1 = .int .i64 c ∧ Aside0 (impl_Stream.l0 g l0 c l2 l3 o i = some r) ∧ Aside0 (g ≤ k) ∧ Aside0 (Kd.R (Kd.int .u8) 5 wr w.heap.size (fun _ => True) s9 o) ∧ Aside0 (Below w.heap.size w wr))
  case atStart => exact ⟨0, a1, [], rfl, rfl, HA, ⟨zbp _⟩, HO, HB⟩
  case round =>
   clear HA HO HB
   obtain ⟨i, c, o, rfl, rfl, HA, HK, HO, HB⟩ := hrel
   cases gk with
   | zero => exact absurd HA.out (by simp [impl_Stream.l0])
   | succ k1 =>
    have h := HA.out
    clear HA
    simp only [impl_Stream.l0] at h
    by_cases hlt : i < l3.length
    ·rw [if_pos hlt] at h
     have hiz : (i : Int) < (l3.length : Int) := by omega
     cases hok : impl_Block.ok l0 c l2 with
     | false =>
      rw [hok, if_neg (by decide)] at h
      obtain rfl := Option.some.inj h
      have GN := Aside0.mk hok
      clear h hok
      go_wp2_with (((with_reducible refine zau (f := 24) rfl ?_); refine goesL_ (some 25) rfl rfl Try.func24 (by kernel_rfl) rfl #[.slice A0 l0.length c0, .int .i64 c, .slice A2 l2.length c2] rfl (by (try simp only [zal, zaq, zar]); first | done | rfl) ?_; (with_reducible refine (impl_Block.no k1 A0 c0 l0 c A2 c2 l2 _ GN.out).mono ?_); rintro e w_ ⟨rfl, hb⟩; refine ⟨_, rfl, ?_⟩; have hq := fun W => Lib.run_eql_slice_nil (P := Try.prog) W 22 5 none 0 0 0 0 Try.underlying22; have mb_ := Aside0.mk (zbb (by repeat (first | (with_reducible first | exact HB.out | apply zaj | apply zad | apply zai) | exact HB.out)) hb); clear HO HB; have HB := mb_; clear mb_ hb))
      go_ret
      exact ⟨_, rfl, Kd.R_nil _ _ _ _ _, HB.out⟩
     | true =>
      rw [hok, if_pos rfl] at h
      unfold impl_Block.ok at hok
      obtain ⟨_, _, b0, b1⟩ := zap hok
      replace h := zam.1 h
      obtain ⟨t, ht, h⟩ := h
      by_cases htl : 0 < t.length
      rotate_left
      ·rw [if_neg htl] at h; cases h
      rw [if_pos htl] at h
      replace h := zam.1 h
      obtain ⟨u, hu, h⟩ := h
      by_cases hul : o.length + u.length ≤ 100000
      rotate_left
      ·rw [if_neg hul] at h; cases h
      rw [if_pos hul] at h
      have G1 := Aside0.mk ht
      have GP := Aside0.mk htl
      have G2 := Aside0.mk (show impl_Xor.f k1 (l3.drop (i : Int).toNat) t = some u from hu)
      have GL := Aside0.mk hul
      have G3 := Aside0.mk h
      obtain ⟨ti, hti, hz⟩ := Option.map_eq_some_iff.1 info5
      simp only [zdb] at hz
      obtain ⟨Ad, hcut, hD, hdc⟩ := print_drop_of (P := Try.prog) (Value.int .u8) 0 22 5 .i64 Try.underlying22 hti hz.2.1 A3 c3 l3 (i : Int) (by omega) (by omega) HC3.out
      have HD := Aside0.mk (show Kd.C (Kd.int .u8) w Ad _ _ from zem (hD w (Kd.reads_of_C HR3.out)))
      have HDC := Aside0.mk hdc
      clear h ht htl hu hul hok hD hdc hz hti ti
      generalize (l3.drop (i : Int).toNat) = ld at hcut HD HDC G2
      go_wp2_with (first | ((with_reducible refine zau (f := 24) rfl ?_); refine goesL_ (some 25) rfl rfl Try.func24 (by kernel_rfl) rfl #[.slice A0 l0.length c0, .int .i64 c, .slice A2 l2.length c2] rfl (by (try simp only [zal, zaq, zar]); first | done | rfl) ?_; (with_reducible refine (impl_Block.calls k1 _ _ l0 c _ _ l2 t _ ?s1 ?s2 ?s3 ?s4 G1.out).mono ?_); (case s1 => repeat (first | exact (zbr HR0.out HB.out) | (with_reducible first | apply zas | apply zat | apply zaw))); (case s2 => exact HC0.out); (case s3 => repeat (first | exact (zbr HR2.out HB.out) | (with_reducible first | apply zas | apply zat | apply zaw))); (case s4 => exact HC2.out); rintro e w_ ⟨v_, rfl, ho, hb⟩; refine ⟨_, rfl, ?_⟩; obtain ⟨gt, ct, et, _⟩ := Kd.R_form ho GP.out; subst et; have hq := fun W => Lib.run_eql_slice_nil (P := Try.prog) W 22 5 (some ⟨gt, 0, none⟩) t.length ct 0 0 Try.underlying22; have mo_ := Aside0.mk (zcz (by (with_reducible repeat (first | apply zab | apply zac | apply zae)); exact HO.out) hb); have mt_ := Aside0.mk (zaf ho).2; have mb_ := Aside0.mk (zbb (by repeat (first | (with_reducible first | exact HB.out | apply zaj | apply zad | apply zai) | exact HB.out)) hb); clear HO HB; have HO := mo_; have HT := mt_; have HB := mb_; clear mo_ mt_ mb_ ho hb) | ((with_reducible refine zau (f := 52) rfl ?_); refine goesL_ (some 33) rfl rfl Try.func52 (by kernel_rfl) rfl #[.slice Ad ld.length (c3 - (i : Int).toNat), .slice (some ⟨gt, 0, none⟩) t.length ct] rfl (by (try simp only [zal, zaq, zar]); first | done | rfl) ?_; (with_reducible refine (impl_Xor.calls k1 _ _ ld _ _ t u _ ?s1 ?s2 ?s3 ?s4 G2.out).mono ?_); (case s1 => repeat (first | exact (zbr HD.out HB.out) | (with_reducible first | apply zas | apply zat | apply zaw))); (case s2 => exact HDC.out); (case s3 => repeat (first | exact HT.out.2 | (with_reducible first | apply zas | apply zat | apply zaw))); (case s4 => exact HT.out.1); rintro e w_ ⟨v_, rfl, ho, hb⟩; refine ⟨_, rfl, ?_⟩; obtain ⟨Au, cu, eu⟩ := zbe ho; subst eu; have mo_ := Aside0.mk (zcz (by (with_reducible repeat (first | apply zab | apply zac | apply zae)); exact HO.out) hb); have mu_ := Aside0.mk (zaf ho).2; have mb_ := Aside0.mk (zbb (by repeat (first | (with_reducible first | exact HB.out | apply zaj | apply zad | apply zai) | exact HB.out)) hb); clear HO HB HT; have HO := mo_; have HU := mu_; have HB := mb_; clear mo_ mu_ mb_ ho hb) | ((with_reducible refine zdk (b := .append) (xs := #[.tmp 28, .tmp 33]) rfl ?_); at_builtin; refine zdv (Kd.int .u8) (w0 := w) w.heap.size rfl (.tmp 28) (.tmp 33) 22 5 (.int .u8 0) 1 rfl Try.underlying22 info5 rfl (by decide) (by omega) _ o u _ _ _ (fun _ => True) (fun _ => False) rfl rfl ?aO ?aR (fun _ _ h => h) (fun _ h => h.elim) ?aF ?aB ?aS ?aL ?_; (case aR => repeat (first | exact HU.out.2 | (with_reducible first | apply zas | apply zat | apply zaw))); (case aB => exact (by repeat (first | (with_reducible first | exact HB.out | apply zaj | apply zad | apply zai) | exact HB.out))); (case aF => exact (fun _ _ => trivial)); (case aO => exact (by (with_reducible repeat (first | apply zab | apply zac | apply zae)); exact HO.out)); (case aS => exact (zba (by repeat (first | (with_reducible first | exact HB.out | apply zaj | apply zad | apply zai) | exact HB.out)))); (case aL => have := GL.out; omega); intro v2 w2 ho hb hg hat; have HO2 := Aside0.mk ho; have HB2 := Aside0.mk hb; clear ho hb hg hat))
      go_roundg k1
      case measure => omega
      case rel => exact ⟨i + 64, c + 1, o ++ u, by go_num, by go_num, G3, ⟨by have := HK.out; omega⟩, HO2, HB2⟩
    ·rw [if_neg hlt] at h
     obtain rfl := Option.some.inj h
     have hiz : ¬ (i : Int) < (l3.length : Int) := by omega
     clear h
     go_wp2
     go_ret
     exact ⟨_, rfl, HO.out, HB.out⟩
end Go.Proofs.Ytdineaebljpfaaa.P
/- Xor, by the program and by the reference: the two lists byte by byte, as far as the shorter one goes; for lists of at most 2^40 bytes. -/
namespace Go.Proofs.Ytdineaebljpfaaa.B
open Go.RowKit Go.Proofs.Ytdineaebljpfaaa.P Go.Proofs.YtdineaebljpfaaaW.PrintWords Go.Proofs.YtdineaebljpfaaaW.PrintLast Go.Proofs.YtdineaebljpfaaaW.PrintMore
/-- Byte by byte, one or the other, not both. -/
def xorL (a b : List Int) : List Int := List.zipWith (Go.bits .xor .u8) a b
theorem specXor_l0 : ∀ (a b pa pb acc : List Int) (k : Nat), pa.length = pb.length → pa.length + a.length ≤ 1099511627776 → acc.length + a.length ≤ 2199023255552 → a.length < k →
    spec_Xor.l0 k (pa ++ a) (pb ++ b) acc (pa.length : Int) = some (acc ++ xorL a b)
  | [], b, pa, pb, acc, k, he, hb, hc, hk => by
    obtain ⟨k, rfl⟩ : ∃ m, k = m + 1 := ⟨k - 1, by omega⟩
    simp only [spec_Xor.l0]; rw [if_neg (nlt_end pa)]; simp [xorL]
  | x :: a, [], pa, pb, acc, k, he, hb, hc, hk => by
    obtain ⟨k, rfl⟩ : ∃ m, k = m + 1 := ⟨k - 1, by omega⟩
    simp only [spec_Xor.l0]; rw [if_pos (lt_mid pa x a), if_neg (nlt_end2 pa pb he)]; simp [xorL]
  | x :: a, y :: b, pa, pb, acc, k, he, hb, hc, hk => by
    obtain ⟨k, rfl⟩ : ∃ m, k = m + 1 := ⟨k - 1, by omega⟩
    simp only [List.length_cons] at hb hc hk
    have ih := specXor_l0 a b (pa ++ [x]) (pb ++ [y]) (acc ++ [Go.bits .xor .u8 x y]) k (by simp [he]) (by simp; omega) (by simp; omega) (by omega)
    simp only [spec_Xor.l0]
    rw [if_pos (lt_mid pa x a), if_pos (lt_mid2 pa pb y b he), if_pos (pre_nonneg pa), if_pos (by omega), rd_mid, rd_mid2 pa pb y b he, wrap_step pa x (by omega), snoc_app pa x a, snoc_app pb y b, ih]
    simp [xorL]
theorem specXor (a b : List Int) (hn : a.length ≤ 1099511627776) (k : Nat) (hk : a.length < k) : spec_Xor.f k a b = some (xorL a b) := by
  have h := specXor_l0 a b [] [] [] k rfl (by simpa using hn) (by simp; omega) hk
  simpa [spec_Xor.f] using h
theorem implXor_l0 : ∀ (a b pa pb acc : List Int) (m : Int) (k : Nat), pa.length = pb.length → m = mn (((pa ++ a).length : Nat) : Int) (((pb ++ b).length : Nat) : Int) → pa.length + a.length ≤ 1099511627776 → acc.length + a.length ≤ 2199023255552 → a.length < k →
    impl_Xor.l0 k (pa ++ a) (pb ++ b) acc m (pa.length : Int) = some (acc ++ xorL a b)
  | [], b, pa, pb, acc, m, k, he, hm, hb, hc, hk => by
    obtain ⟨k, rfl⟩ : ∃ m, k = m + 1 := ⟨k - 1, by omega⟩
    simp only [impl_Xor.l0]; rw [if_neg (by rw [hm]; unfold mn; simp; split <;> omega)]; simp [xorL]
  | x :: a, [], pa, pb, acc, m, k, he, hm, hb, hc, hk => by
    obtain ⟨k, rfl⟩ : ∃ m, k = m + 1 := ⟨k - 1, by omega⟩
    simp only [impl_Xor.l0]; rw [if_neg (by rw [hm]; unfold mn; simp; split <;> omega)]; simp [xorL]
  | x :: a, y :: b, pa, pb, acc, m, k, he, hm, hb, hc, hk => by
    obtain ⟨k, rfl⟩ : ∃ m, k = m + 1 := ⟨k - 1, by omega⟩
    simp only [List.length_cons] at hb hc hk
    have ih := implXor_l0 a b (pa ++ [x]) (pb ++ [y]) (acc ++ [Go.bits .xor .u8 x y]) m k (by simp [he]) (by rw [hm]; simp) (by simp; omega) (by simp; omega) (by omega)
    simp only [impl_Xor.l0]
    rw [if_pos (by rw [hm]; unfold mn; simp; split <;> omega), if_pos (pre_nonneg pa), if_pos (lt_mid pa x a), if_pos (lt_mid2 pa pb y b he), if_pos (by omega), rd_mid, rd_mid2 pa pb y b he, wrap_step pa x (by omega), snoc_app pa x a, snoc_app pb y b, ih]
    simp [xorL]
theorem implXor (a b : List Int) (hn : a.length ≤ 1099511627776) (k : Nat) (hk : a.length < k) : impl_Xor.f k a b = some (xorL a b) := by
  have h := implXor_l0 a b [] [] [] _ k rfl rfl (by simpa using hn) (by simp; omega) hk
  simpa [impl_Xor.f] using h
theorem xorL_length (a b : List Int) : (xorL a b).length ≤ a.length := by
  simp [xorL]; omega
end Go.Proofs.Ytdineaebljpfaaa.B
/- Stream, by the program and by the reference: block by block, as far as the text goes; for every key, count, nonce and text. -/
namespace Go.Proofs.Ytdineaebljpfaaa.B
open Go.RowKit Go.Proofs.Ytdineaebljpfaaa.P Go.Proofs.YtdineaebljpfaaaW.PrintWords Go.Proofs.YtdineaebljpfaaaW.PrintLast Go.Proofs.YtdineaebljpfaaaW.PrintMore
theorem xorL_comm : ∀ a b : List Int, xorL a b = xorL b a
  | [], b => by simp [xorL]
  | x :: a, [] => by simp [xorL]
  | x :: a, y :: b => by
    have ih := xorL_comm a b
    have h : Go.bits .xor .u8 x y = Go.bits .xor .u8 y x := by
      show IntKind.u8.wrap ((BitVec.ofInt 8 x ^^^ BitVec.ofInt 8 y).toNat : Int) = IntKind.u8.wrap ((BitVec.ofInt 8 y ^^^ BitVec.ofInt 8 x).toNat : Int)
      rw [BitVec.xor_comm]
    unfold xorL at ih ⊢
    rw [List.zipWith_cons_cons, List.zipWith_cons_cons, h, ih]
theorem xorL_len (a b : List Int) : (xorL a b).length = min a.length b.length := by simp [xorL]
/-- The stream from a count on: n blocks at most. -/
def streamG (a b : List Int) : Nat → Int → List Int → List Int → List Int
  | 0, _, acc, _ => acc
  | n + 1, c, acc, rest => if rest.length = 0 then acc else if impl_Block.ok a c b = true then streamG a b n (c + 1) (acc ++ xorL rest (blockL a c b)) (rest.drop 64) else []
def streamL (a : List Int) (c : Int) (b t : List Int) : List Int := if (t.length : Int) > 4000 then [] else streamG a b 64 c [] t
theorem streamG_le (a b : List Int) : ∀ (n : Nat) (c : Int) (acc rest : List Int), (streamG a b n c acc rest).length ≤ acc.length + rest.length
  | 0, c, acc, rest => by simp [streamG]
  | n + 1, c, acc, rest => by
    unfold streamG
    split
    · omega
    · split
      · have h := streamG_le a b n (c + 1) (acc ++ xorL rest (blockL a c b)) (rest.drop 64)
        have h2 := xorL_len rest (blockL a c b)
        have h3 := blockL_le a c b
        rw [List.length_append, List.length_drop] at h
        omega
      · simp
theorem streamL_le (a : List Int) (c : Int) (b t : List Int) : (streamL a c b t).length ≤ 4000 := by
  unfold streamL
  split
  · simp
  · have := streamG_le a b 64 c [] t
    simp at this
    omega
theorem implStream_l0 (a b t : List Int) (ht : t.length ≤ 4000) : ∀ (n : Nat) (i : Nat) (c : Int) (acc : List Int) (k : Nat), t.length ≤ i + 64 * n → i + 64 * n ≤ 10000 → acc.length ≤ i → n + 5000 < k → impl_Stream.l0 k a c b t acc i = some (streamG a b n c acc (t.drop i))
  | 0, i, c, acc, k, hi, hn, ha, hk => by
    obtain ⟨k, rfl⟩ : ∃ m, k = m + 1 := ⟨k - 1, by omega⟩
    simp only [impl_Stream.l0]
    rw [if_neg (by omega)]
    rfl
  | n + 1, i, c, acc, k, hi, hn, ha, hk => by
    obtain ⟨k, rfl⟩ : ∃ m, k = m + 1 := ⟨k - 1, by omega⟩
    simp only [impl_Stream.l0]
    unfold streamG
    rw [List.length_drop]
    by_cases h : i < t.length
    · rw [if_pos h, if_neg (show ¬ t.length - i = 0 by omega)]
      by_cases ho : impl_Block.ok a c b = true
      · have hb := blockL_length a c b
        rw [if_pos ho] at hb
        have hx := xorL_len (t.drop i) (blockL a c b)
        rw [if_pos ho, if_pos ho, implBlock a c b k (by omega), Option.bind_some, if_pos (by omega), implXor (t.drop i) (blockL a c b) (by rw [List.length_drop]; omega) k (by rw [List.length_drop]; omega), Option.bind_some, if_pos (by omega),
          implStream_l0 a b t ht n (i + 64) (c + 1) _ k (by omega) (by omega) (by rw [List.length_append]; omega) (by omega), List.drop_drop]
      · rw [if_neg ho, if_neg ho]
    · rw [if_neg h, if_pos (show t.length - i = 0 by omega)]
theorem implStream (a : List Int) (c : Int) (b t : List Int) (k : Nat) (hk : 6000 < k) : impl_Stream.f k a c b t = some (streamL a c b t) := by
  unfold impl_Stream.f streamL
  by_cases h : (t.length : Int) > 4000
  · rw [if_pos h, if_pos h]
  · rw [if_neg h, if_neg h]
    exact implStream_l0 a b t (by omega) 64 0 c [] k (by omega) (by omega) (by simp) (by omega)
theorem specStream_l0 (a b t : List Int) (ht : t.length ≤ 4000) : ∀ (n : Nat) (i : Nat) (c : Int) (acc : List Int) (k : Nat), t.length ≤ i + 64 * n → i + 64 * n ≤ 10000 → acc.length ≤ i → n + 5000 < k → spec_Stream.l0 k a c b t acc (i : Int) = some (streamG a b n c acc (t.drop i))
  | 0, i, c, acc, k, hi, hn, ha, hk => by
    obtain ⟨k, rfl⟩ : ∃ m, k = m + 1 := ⟨k - 1, by omega⟩
    simp only [spec_Stream.l0]
    rw [if_neg (by omega)]
    rfl
  | n + 1, i, c, acc, k, hi, hn, ha, hk => by
    obtain ⟨k, rfl⟩ : ∃ m, k = m + 1 := ⟨k - 1, by omega⟩
    simp only [spec_Stream.l0]
    unfold streamG
    rw [List.length_drop]
    by_cases h : i < t.length
    · rw [if_pos (by omega), if_neg (show ¬ t.length - i = 0 by omega), specBlock a c b k (by omega), Option.bind_some]
      have hb := blockL_length a c b
      by_cases ho : impl_Block.ok a c b = true
      · obtain ⟨_, _, c0, c1⟩ := block_ok ho
        rw [if_pos ho] at hb
        have hx := xorL_len (t.drop i) (blockL a c b)
        rw [if_pos ho, if_neg (by omega), if_pos (by omega), if_pos (by omega), Int.toNat_natCast, specXor (blockL a c b) (t.drop i) (by omega) k (by omega), Option.bind_some, xorL_comm (blockL a c b) (t.drop i), if_pos (by omega), wrap_eq (c + 1) (by omega) (by omega), wrap_eq ((i : Int) + 64) (by omega) (by omega)]
        have e : (i : Int) + 64 = ((i + 64 : Nat) : Int) := by omega
        rw [e, specStream_l0 a b t ht n (i + 64) (c + 1) _ k (by omega) (by omega) (by rw [List.length_append]; omega) (by omega), List.drop_drop]
      · rw [if_neg ho] at hb
        rw [if_neg ho, if_pos (by omega)]
    · rw [if_neg (by omega), if_pos (show t.length - i = 0 by omega)]
theorem specStream (a : List Int) (c : Int) (b t : List Int) (k : Nat) (hk : 6000 < k) : spec_Stream.f k a c b t = some (streamL a c b t) := by
  unfold spec_Stream.f streamL
  rw [Option.bind_some]
  by_cases h : (t.length : Int) > 4000
  · rw [if_pos h, if_pos h]
  · rw [if_neg h, if_neg h]
    exact specStream_l0 a b t (by omega) 64 0 c [] k (by omega) (by omega) (by simp) (by omega)
end Go.Proofs.Ytdineaebljpfaaa.B
