/- Texts laid together. -/
import Derived.Test.YtkmdjmbjopklkaaDoorPx35
import Derived.Test.YtkmdjmbjopklkaaDoorPx53
import Derived.Test.YtkmdjmbjopklkaaDoorPx55
import Derived.Test.YtkmdjmbjopklkaaDoorPx56
import Derived.Test.YtkmdjmbjopklkaaDoorZSh
import Derived.Test.YtkmdjmbjopklkaaDoorFSplit
import Derived.Lib.SplitLaws
import Derived.IntWalk
import Derived.Test.YtkmdjmbjopklkaaDoorPx0
import Derived.Lib.IfaceEq
import Derived.Lib.AppendIntMem
import Derived.WalkKit
import Derived.BigCall
import Derived.Lib.AtoiErrMem
import Derived.Lib.SmallJoins
import Derived.Test.YtkmdjmbjopklkaaDoorPx32
/- FnExactSplit's walks. -/
namespace Go.Proofs.YtkmdjmbjopklkaaDoor.P
open Go.RowKit Go.Proofs.YtkmdjmbjopklkaaDoor.B Go.Proofs.YtkmdjmbjopklkaaDoorW.PrintWords Go.Proofs.YtkmdjmbjopklkaaDoorW.PrintLast Go.Proofs.YtkmdjmbjopklkaaDoorW.PrintMore
set_option linter.unusedVariables false
set_option linter.unusedSimpArgs false
theorem split_at (s sep : ByteArray) (m : Int) (w : World) (hs : s.size < 4294967281) (hm : w.cell? ⟨3, 0, none⟩ = some (.int .i64 m)) (h1 : 1 ≤ sep.size) :
    Calls Tryd.prog 23 #[.string s, .string sep] w fun e w' =>
      e = .returned (.slice (some ⟨w.heap.size, 0, none⟩) (Lib.countB s sep + 1) (Lib.countB s sep + 1)) ∧ w' = w.alloc (.cells ((Lib.splitB sep 0 (Lib.countB s sep) s).map Value.string).toArray 9) := Any.strings_Split { Tryd.laysM146 with } Tryd.laysM146.i9 s sep m w hs hm h1
theorem _root_.Go.RowKit.Below.cell_ {w w' : World} {p : Addr} {v : Value} (h : Below w.heap.size w w') (hc : w.cell? p = some v) : w'.cell? p = some v := (h.cell (World.block_lt_of_cell? _ _ hc)).trans hc
theorem fresh_row (w0 w1 : World) (hb : w0.heap.size ≤ w1.heap.size) (xs : List ByteArray) (n : Nat) (hn : xs.length = n) (hm : n ≤ maxLen) : Kd.R Kd.string 9 (w1.alloc (.cells (xs.map Value.string).toArray 9)) w0.heap.size (fun _ => True) (.slice (some ⟨w1.heap.size, 0, none⟩) n n) xs := by
  subst hn
  refine Kd.R_of_own ?_ (fun _ _ => trivial)
  exact (World.ownsRow_lit (base := w0.heap.size) (e := 9) (size := 1) w1 (xs.map Value.string).toArray xs.length hb hm (by simp)).lax
theorem impl_split (s : ByteArray) (b : Int) (c : UInt8) (hb : b = (c.toNat : Int)) (m : Int) (hs : s.size ≤ 1048576) (w : World) (hm : w.cell? ⟨3, 0, none⟩ = some (.int .i64 m)) :
    Calls Tryd.prog 12 #[.string s, .int .u8 b] w fun e w' => ∃ v, e = .returned v ∧ Kd.R Kd.string 9 w' w.heap.size (fun _ => True) v (Lib.splitB (ba [c]) 0 (Lib.countB s (ba [c])) s) ∧ Below w.heap.size w w' := by
  have HB := Aside0.mk (Below.refl w.heap.size w)
  have HM := Aside0.mk hm
  clear hm
  obtain ⟨y, hy⟩ : ∃ y_ : List Int, y_ = [b] := ⟨_, rfl⟩
  have Ny := Aside0.mk hy
  have hsep : strOfNums y = ba [c] := by
    rw [hy, hb]
    apply ByteArray.ext
    apply Array.toList_inj.1
    simp [strOfNums, ba]
  have Hsep := Aside0.mk hsep
  clear hy hsep
  go_enter Tryd.func12, Tryd.ntmps12
  go_wp2_with (first | ((with_reducible refine gate_dst (N := 7) rfl ?_); refine Kd.R_lit (Kd.int .u8) _ 5 ?hg (N := 7) ?hd (xs := ([b] : List Int)) (inner := [.int .u8 b]) (ok := fun _ => True) (okp := fun _ => True) ?hr ?hp (fun _ hk => hk) trivial (Below.refl _ _) (Nat.le_refl _) (by simp) ?_; (case hd => rfl); (case hg => rfl); (case hr => first | (go_simp; done) | (go_simp; rfl)); (case hp => exact (Reps.one (show Kd.M (Kd.int .u8) _ _ _ b [.int .u8 b] from rfl) (Reps.none _ _))); intro v8 w8 ho8 hb8 hg_ hnew_; clear hg_ hnew_; rw [← Ny.out] at ho8; have n1_ := Aside0.mk (below_step HB.out hb8); clear HB; have HB := n1_; clear n1_ hb8; have hcv := own_string (P := Tryd.prog) Tryd.underlying32 Tryd.underlying5 Tryd.underlying9 (Kd.own_of_R ho8); rw [Hsep.out] at hcv) | (go_at_call 23; refine (split_at s (ba [c]) m _ (by omega) (HB.out.cell_ HM.out) (by rw [ba_size]; exact Nat.le_refl _)).mono ?_; rintro e w9 ⟨rfl, rfl⟩))
  go_ret
  exact ⟨_, rfl, fresh_row w _ HB.out.size _ _ (Lib.splitB_all (ba [c]) (by rw [ba_size]; exact Nat.le_refl _) 0 _ s rfl) (by have := Lib.countB_le (ba [c]) (by rw [ba_size]; exact Nat.le_refl _) s.size s (Nat.le_refl _); unfold maxLen; omega), below_alloc HB.out _⟩
theorem Spw.made_R {t : Nat} {w W w' : World} {v : Value} {r : List ByteArray} {ok : Nat → Prop} (ho : Kd.R Kd.string 9 w' W.heap.size ok v r) (hb : Below W.heap.size W w') (hB : w.heap.size ≤ W.heap.size) (hT : t ≤ W.heap.size) :
    ∃ a b, t ≤ a ∧ a ≤ b ∧ b ≤ w'.heap.size ∧ Kd.R Kd.string 9 w' w.heap.size (fun k_ => (a ≤ k_ ∧ k_ < b) ∧ True) v r :=
  ⟨W.heap.size, w'.heap.size, hT, hb.size, Nat.le_refl _, Kd.R_lower (Kd.R_mono (Kd.R_bound ho) (fun _ h => ⟨⟨h.2.1, h.2.2.1⟩, trivial⟩)) hB⟩
theorem Spw.made_B {t g : Nat} {W w' : World} {o : Obj} (hg : g = W.heap.size) (ho : w'.heap[g]? = some o) (hb : Below W.heap.size W w') (hT : t ≤ W.heap.size) : ∃ a b, t ≤ a ∧ a ≤ b ∧ b ≤ w'.heap.size ∧ a ≤ g ∧ g < b :=
  ⟨W.heap.size, w'.heap.size, hT, hb.size, Nat.le_refl _, by omega, (Array.getElem?_eq_some_iff.1 ho).1⟩
theorem Spw.C_lenS {w : World} {A : Option Addr} {n m : Nat} {xs : List ByteArray} (e : n = m) (h : Kd.C Kd.string w A n xs) : Kd.C Kd.string w A m xs := e ▸ h
theorem split_lr (s : ByteArray) (b : Int) (c : UInt8) (hb : b = (c.toNat : Int)) (m : Int) (hs : s.size ≤ 1048576) (w : World) (hm : w.cell? ⟨3, 0, none⟩ = some (.int .i64 m)) (lr : List ByteArray) (hr : lr = Lib.splitB (ba [c]) 0 (Lib.countB s (ba [c])) s) :
    Calls Tryd.prog 12 #[.string s, .int .u8 b] w fun e w' => ∃ v, e = .returned v ∧ Kd.R Kd.string 9 w' w.heap.size (fun _ => True) v lr ∧ Below w.heap.size w w' := hr ▸ impl_split s b c hb m hs w hm
theorem split_out (s : ByteArray) (b : Int) (hs : (s.size : Int) > 1048576) (w : World) : Calls Tryd.prog 5 #[.string s, .int .u8 b] w fun e w' => e = .returned (.bool true) ∧ Below w.heap.size w w' := by
  have HB := Aside0.mk (Below.refl w.heap.size w)
  have d0 : decide ((s.size : Int) > 1048576) = true := decide_eq_true hs
  go_enter Tryd.func5, Tryd.ntmps5
  go_wp2
  go_ret
  exact ⟨rfl, HB.out⟩
set_option maxHeartbeats 4000000 in
theorem split_walk (k : Nat) (s : ByteArray) (b : Int) (c : UInt8) (hb : b = (c.toNat : Int)) (m : Int) (hs : s.size ≤ 1048576) (w : World) (hm : w.cell? ⟨3, 0, none⟩ = some (.int .i64 m)) (lr lq : List ByteArray) (z : Int) (hr : lr = Lib.splitB (ba [c]) 0 (Lib.countB s (ba [c])) s)
    (fd : spec_Split.f k s b = some lr) (fe : laws_eqStringS.f k lr lr = some true) (fm : laws_markStringS.f k lr 1 = some (z, lq)) (fh : laws_heldStringS.f k lq 1 = some z) (hz : 0 ≤ z) :
    Calls Tryd.prog 5 #[.string s, .int .u8 b] w fun e w' => e = .returned (.bool true) ∧ Below w.heap.size w w' := by
  have HB := Aside0.mk (Below.refl w.heap.size w)
  have HT := Aside0.mk (Nat.le_refl w.heap.size)
  have HM := Aside0.mk hm
  have FD := Aside0.mk fd
  have FE := Aside0.mk fe
  have FM := Aside0.mk fm
  have FH := Aside0.mk fh
  have d0 : decide ((s.size : Int) > 1048576) = false := decide_eq_false (by omega)
  have d1 : decide (z < 0) = false := decide_eq_false (by omega)
  have Hb := Aside0.mk hb
  have Hs := Aside0.mk hs
  have Hr := Aside0.mk hr
  clear fd fe fm fh hm hz hb hs hr
  go_enter Tryd.func5, Tryd.ntmps5
  go_wp2_with (first | ((with_reducible refine gate_callee (f := 11) rfl ?_); refine goesL_ (some 15) rfl rfl Tryd.func11 (by kernel_rfl) rfl #[.string s, .int .u8 b] rfl (by (try simp only [List.map_toArray, List.map_cons, List.map_nil]); first | done | rfl) ?_; (with_reducible refine (spec_Split.calls k s b lr _ FD.out).mono ?_); rintro e w_ ⟨v_, rfl, ho_, hb_⟩; refine ⟨_, rfl, ?_⟩; obtain ⟨bd0, bd1, o_, p_, q_, s0_⟩ := Spw.made_R ho_ hb_ HB.out.size HT.out; have nb_ := Aside0.mk (below_step HB.out hb_); clear HB HT; have HB := nb_; have HT := Aside0.mk q_; have O0 := Aside0.mk o_; have O1 := Aside0.mk p_; clear nb_ o_ p_ q_ hb_; have HD := Aside0.mk s0_; clear s0_ ho_; obtain ⟨AD, cD, e_⟩ := Kd.R_slice HD.out; subst e_) | ((with_reducible refine gate_callee (f := 12) rfl ?_); refine goesL_ (some 18) rfl rfl Tryd.func12 (by kernel_rfl) rfl #[.string s, .int .u8 b] rfl (by (try simp only [List.map_toArray, List.map_cons, List.map_nil]); first | done | rfl) ?_; (with_reducible refine (split_lr s b c Hb.out m Hs.out _ (HB.out.cell_ HM.out) lr Hr.out).mono ?_); rintro e w_ ⟨v_, rfl, ho_, hb_⟩; refine ⟨_, rfl, ?_⟩; obtain ⟨bd2, bd3, o_, p_, q_, s0_⟩ := Spw.made_R ho_ hb_ HB.out.size HT.out; have nD_ := Aside0.mk (Kd.R_below HD.out hb_); have nb_ := Aside0.mk (below_step HB.out hb_); clear HB HT; clear HD; have HD := nD_; clear nD_; have HB := nb_; have HT := Aside0.mk q_; have O2 := Aside0.mk o_; have O3 := Aside0.mk p_; clear nb_ o_ p_ q_ hb_; have HE := Aside0.mk s0_; clear s0_ ho_; obtain ⟨AE, cE, e_⟩ := Kd.R_slice HE.out; subst e_) | ((with_reducible refine gate_callee (f := 13) rfl ?_); refine goesL_ (some 21) rfl rfl Tryd.func13 (by kernel_rfl) rfl #[.slice AE lr.length cE, .slice AD lr.length cD] rfl (by (try simp only [List.map_toArray, List.map_cons, List.map_nil]); first | done | rfl) ?_; (with_reducible refine (laws_eqStringS.calls k _ _ lr _ _ lr true _ (Kd.R_reads' HE.out).2.2 (Kd.R_reads' HE.out).2.1 (Kd.R_reads' HD.out).2.2 (Kd.R_reads' HD.out).2.1 FE.out).mono ?_); rintro e w_ ⟨rfl, hb_⟩; refine ⟨_, rfl, ?_⟩; replace hb_ := Drawn0.below hb_; have nD_ := Aside0.mk (Kd.R_below HD.out hb_); have nE_ := Aside0.mk (Kd.R_below HE.out hb_); have nt_ := Aside0.mk (Nat.le_trans HT.out hb_.size); have nb_ := Aside0.mk (below_step HB.out hb_); clear HB HT; clear HD; clear HE; have HD := nD_; clear nD_; have HE := nE_; clear nE_; have HB := nb_; have HT := nt_; clear nb_ nt_ hb_) | ((with_reducible refine gate_callee (f := 14) rfl ?_); refine goesL_ (some 25) rfl rfl Tryd.func14 (by kernel_rfl) rfl #[.slice AE lr.length cE, .int .i64 1] rfl (by (try simp only [List.map_toArray, List.map_cons, List.map_nil]); first | done | rfl) ?_; (with_reducible refine (laws_markStringS.calls k (fun k_ => (bd2 ≤ k_ ∧ k_ < bd3) ∧ True) (.slice AE lr.length cE) lr 1 z lq w _ HB.out HE.out FM.out).mono ?_); rintro e w_ ⟨rfl, hs_, hb_, hk_⟩; refine ⟨_, rfl, ?_⟩; have nD_ := Aside0.mk (Kd.R_kept HD.out hk_ (fun k_ h_ h2_ => by first | exact absurd (h2_).2 (h_).2 | exact absurd (h_).2 (h2_).2 | (have o0_ := O0.out; have o1_ := O1.out; have o2_ := O2.out; have o3_ := O3.out; have ot_ := HT.out; obtain ⟨⟨h3_, h4_⟩, _⟩ := h_; obtain ⟨⟨h5_, h6_⟩, _⟩ := h2_; omega))); have nE_ := Aside0.mk (Kd.R_reok rfl hs_ (fun k_ e_ => HE.out.1 k_ e_)); have nt_ := Aside0.mk (Nat.le_trans HT.out hk_.1); have nb_ := Aside0.mk hb_; clear HB HT; clear HD; clear HE; have HD := nD_; clear nD_; have HE := nE_; clear nE_; have HB := nb_; have HT := nt_; clear nb_ nt_ hs_ hb_ hk_; have EE := Aside0.mk (Kd.R_reads' HE.out).1) | ((with_reducible refine gate_callee (f := 15) rfl ?_); refine goesL_ (some 28) rfl rfl Tryd.func15 (by kernel_rfl) rfl #[.slice AE lq.length cE, .int .i64 1] rfl (by (try simp only [List.map_toArray, List.map_cons, List.map_nil]); first | done | rfl | (rw [EE.out] <;> rfl) | (rw [← EE.out] <;> rfl)) ?_; (with_reducible refine (laws_heldStringS.calls k _ _ lq 1 z _ (Spw.C_lenS (by rw [← EE.out]) (Kd.R_reads' HE.out).2.2) (by rw [← EE.out]; exact (Kd.R_reads' HE.out).2.1) FH.out).mono ?_); rintro e w_ ⟨rfl, hb_⟩; refine ⟨_, rfl, ?_⟩; have nD_ := Aside0.mk (Kd.R_below HD.out hb_); have nE_ := Aside0.mk (Kd.R_below HE.out hb_); have nt_ := Aside0.mk (Nat.le_trans HT.out hb_.size); have nb_ := Aside0.mk (below_step HB.out hb_); clear HB HT; clear HD; clear HE; have HD := nD_; clear nD_; have HE := nE_; clear nE_; have HB := nb_; have HT := nt_; clear nb_ nt_ hb_) | ((with_reducible refine gate_callee (f := 12) rfl ?_); refine goesL_ (some 36) rfl rfl Tryd.func12 (by kernel_rfl) rfl #[.string s, .int .u8 b] rfl (by (try simp only [List.map_toArray, List.map_cons, List.map_nil]); first | done | rfl) ?_; (with_reducible refine (split_lr s b c Hb.out m Hs.out _ (HB.out.cell_ HM.out) lr Hr.out).mono ?_); rintro e w_ ⟨v_, rfl, ho_, hb_⟩; refine ⟨_, rfl, ?_⟩; obtain ⟨bd4, bd5, o_, p_, q_, s0_⟩ := Spw.made_R ho_ hb_ HB.out.size HT.out; have nD_ := Aside0.mk (Kd.R_below HD.out hb_); have nE_ := Aside0.mk (Kd.R_below HE.out hb_); have nb_ := Aside0.mk (below_step HB.out hb_); clear HB HT; clear HD; clear HE; have HD := nD_; clear nD_; have HE := nE_; clear nE_; have HB := nb_; have HT := Aside0.mk q_; have O4 := Aside0.mk o_; have O5 := Aside0.mk p_; clear nb_ o_ p_ q_ hb_; have HV := Aside0.mk s0_; clear s0_ ho_; obtain ⟨AV, cV, e_⟩ := Kd.R_slice HV.out; subst e_) | ((with_reducible refine gate_callee (f := 13) rfl ?_); refine goesL_ (some 39) rfl rfl Tryd.func13 (by kernel_rfl) rfl #[.slice AV lr.length cV, .slice AD lr.length cD] rfl (by (try simp only [List.map_toArray, List.map_cons, List.map_nil]); first | done | rfl) ?_; (with_reducible refine (laws_eqStringS.calls k _ _ lr _ _ lr true _ (Kd.R_reads' HV.out).2.2 (Kd.R_reads' HV.out).2.1 (Kd.R_reads' HD.out).2.2 (Kd.R_reads' HD.out).2.1 FE.out).mono ?_); rintro e w_ ⟨rfl, hb_⟩; refine ⟨_, rfl, ?_⟩; replace hb_ := Drawn0.below hb_; have nD_ := Aside0.mk (Kd.R_below HD.out hb_); have nE_ := Aside0.mk (Kd.R_below HE.out hb_); have nV_ := Aside0.mk (Kd.R_below HV.out hb_); have nt_ := Aside0.mk (Nat.le_trans HT.out hb_.size); have nb_ := Aside0.mk (below_step HB.out hb_); clear HB HT; clear HD; clear HE; clear HV; have HD := nD_; clear nD_; have HE := nE_; clear nE_; have HV := nV_; clear nV_; have HB := nb_; have HT := nt_; clear nb_ nt_ hb_) | ((with_reducible refine gate_callee (f := 15) rfl ?_); refine goesL_ (some 43) rfl rfl Tryd.func15 (by kernel_rfl) rfl #[.slice AE lq.length cE, .int .i64 1] rfl (by (try simp only [List.map_toArray, List.map_cons, List.map_nil]); first | done | rfl | (rw [EE.out] <;> rfl) | (rw [← EE.out] <;> rfl)) ?_; (with_reducible refine (laws_heldStringS.calls k _ _ lq 1 z _ (Spw.C_lenS (by rw [← EE.out]) (Kd.R_reads' HE.out).2.2) (by rw [← EE.out]; exact (Kd.R_reads' HE.out).2.1) FH.out).mono ?_); rintro e w_ ⟨rfl, hb_⟩; refine ⟨_, rfl, ?_⟩; have nD_ := Aside0.mk (Kd.R_below HD.out hb_); have nE_ := Aside0.mk (Kd.R_below HE.out hb_); have nV_ := Aside0.mk (Kd.R_below HV.out hb_); have nt_ := Aside0.mk (Nat.le_trans HT.out hb_.size); have nb_ := Aside0.mk (below_step HB.out hb_); clear HB HT; clear HD; clear HE; clear HV; have HD := nD_; clear nD_; have HE := nE_; clear nE_; have HV := nV_; clear nV_; have HB := nb_; have HT := nt_; clear nb_ nt_ hb_))
  go_ret
  exact ⟨rfl, HB.out⟩
end Go.Proofs.YtkmdjmbjopklkaaDoor.P

/- Number, by the program: its walk over strconv.Atoi, for texts of at most 18 bytes. -/
namespace Go.Proofs.YtkmdjmbjopklkaaDoor.P
open Go.RowKit Go.Proofs.YtkmdjmbjopklkaaDoorW.PrintWords
set_option linter.unusedVariables false
theorem syntax_at (fn s : ByteArray) (ev : Value) (w : World) (hlim : s.size ≤ 281474976710656) (hv : w.cell? ⟨0, 0, none⟩ = some ev) (hev : ev = .nilIface ∨ ∃ te pe, ev = .iface te pe) :
    Calls Tryd.prog 35 #[.string fn, .string s] w fun e w' => ∃ N, e = .returned (.pointer (some ⟨N, 0, none⟩)) ∧ Below w.heap.size w w' :=
  (Any.strconv_syntaxError Tryd.laysM279 fn s ev w hlim hv hev).mono fun e w' ⟨N, h1, _, _, h4⟩ => ⟨N, h1, h4⟩
set_option maxRecDepth 100000 in
theorem toError_at (fn s : ByteArray) (b0 b1 : Int) (ev : Value) (w : World) (hlim : s.size ≤ 281474976710656) (hv : w.cell? ⟨0, 0, none⟩ = some ev) (hev : ev = .nilIface ∨ ∃ te pe, ev = .iface te pe) :
    Calls Tryd.prog 30 #[.string fn, .string s, .int .i64 b0, .int .i64 b1, .iface 55 (.int .i64 2)] w fun e w' => ∃ N, e = .returned (.iface 58 (.pointer (some ⟨N, 0, none⟩))) ∧ Below w.heap.size w w' := by
  have HV := Aside0.mk hv
  have HE := Aside0.mk hev
  clear hv hev
  have heq : ∀ W, (binOp .eql 39 (.iface 55 (.int .i64 2)) (.iface 55 (.int .i64 2))).run Tryd.prog W = .ok (.bool true) W := fun W => Lib.run_eql_iface_int W 2 2 Tryd.underlying39 (by kernel_rfl) Tryd.underlying55
  go_enter Tryd.func30, Tryd.ntmps30
  go_wp2_with (go_at_call 35; refine (syntax_at fn s ev _ hlim HV.out HE.out).mono ?_; rintro e w1 ⟨N, rfl, hb⟩; have HB := Aside0.mk hb; clear hb)
  all_goals go_ret
  all_goals exact ⟨_, rfl, HB.out⟩
theorem below_bytes {w w' : World} (h : w' = w ∨ ∃ t, w' = Lib.bytesWorld w 5 t) : Below w.heap.size w w' := by
  rcases h with rfl | ⟨t, rfl⟩
  · exact Below.refl _ _
  · exact Lib.bytesWorld_below w 5 t
theorem cell_on {w w' : World} {p : Addr} {v : Value} (h : Below w.heap.size w w') (hc : w.cell? p = some v) : w'.cell? p = some v := (h.cell (World.block_lt_of_cell? _ _ hc)).trans hc
set_option maxRecDepth 100000 in
theorem atoi_fail (s : ByteArray) (hl : s.size ≤ 18) (h : Lib.atoi s.data.toList = none) (ev : Value) (w : World) (hv : w.cell? ⟨0, 0, none⟩ = some ev) (hev : ev = .nilIface ∨ ∃ te pe, ev = .iface te pe) :
    Calls Tryd.prog 21 #[.string s] w fun e w' => ∃ N, e = .returned (.tuple #[.int .i64 0, .iface 58 (.pointer (some ⟨N, 0, none⟩))]) ∧ Below w.heap.size w w' := by
  have HV := Aside0.mk hv
  have HE := Aside0.mk hev
  have HA := Aside0.mk h
  clear hv hev h
  go_enter Tryd.func21, Tryd.ntmps21
  go_wp2_with (first | (go_at_call 29; refine (Tryd.internal_strconv_Atoi_fail s hl HA.out _).mono ?_; rintro e w1 ⟨rfl, hw⟩; have HB := Aside0.mk (below_bytes hw); clear hw) | (go_at_call 30; refine (toError_at _ s _ _ ev _ (by omega) (cell_on HB.out HV.out) HE.out).mono ?_; rintro e w2 ⟨N, rfl, hb⟩; have b_ := Aside0.mk (below_step HB.out hb); clear HB hb; have HB := b_; clear b_))
  all_goals go_ret2
  all_goals exact ⟨_, rfl, HB.out⟩
theorem digits_walk (n : Int) (h0 : -9223372036854775808 ≤ n) (h1 : n ≤ 9223372036854775807) (w : World) (htab : Lib.TabIs Tryd.prog w "internal/strconv.uint64pow10" .u64 Lib.pow10Tab) :
    Calls Tryd.prog 8 #[.int .i64 n] w fun e w' => e = .returned (.string ⟨(Lib.itoa n).toArray⟩) ∧ Below w.heap.size w w' := by
  go_enter Tryd.func8, Tryd.ntmps8
  go_wp2_with (go_at_call 20; refine (Tryd.strconv_Itoa n h0 h1 _ htab).mono ?_; rintro e w' ⟨rfl, k, os, rfl⟩)
  go_ret
  exact ⟨rfl, Lib.below_grow _ w (Nat.le_refl _) k os⟩
theorem in_walk (n : Int) (w : World) (b : Bool) (hb : impl_in.f n 0 999999 = some b) :
    Calls Tryd.prog 22 #[.int .i64 n, .int .i64 0, .int .i64 999999] w fun e w' => e = .returned (.bool b) ∧ Below w.heap.size w w' :=
  (impl_in.calls n 0 999999 b w hb).mono fun e w' ⟨h1, h2⟩ => ⟨h1, h2.below⟩
set_option maxRecDepth 100000 in
theorem number_fail (s : ByteArray) (hl : s.size ≤ 18) (h : Lib.atoi s.data.toList = none) (ev : Value) (w : World) (hv : w.cell? ⟨0, 0, none⟩ = some ev) (hev : ev = .nilIface ∨ ∃ te pe, ev = .iface te pe) :
    Calls Tryd.prog 10 #[.string s] w fun e w' => e = .returned (.tuple #[.int .i64 0, .bool false]) ∧ Below w.heap.size w w' := by
  have HV := Aside0.mk hv
  have HE := Aside0.mk hev
  have HA := Aside0.mk h
  clear hv hev h
  go_enter Tryd.func10, Tryd.ntmps10
  go_wp2_with (go_at_call 21; refine (atoi_fail s hl HA.out ev _ HV.out HE.out).mono ?_; rintro e w1 ⟨N, rfl, hw⟩; have HB := Aside0.mk hw; clear hw)
  all_goals go_ret2
  all_goals exact ⟨rfl, HB.out⟩
theorem atoi_ok (s : ByteArray) (n : Int) (hl : s.size ≤ 18) (h : Lib.atoi s.data.toList = some n) (w : World) :
    Calls Tryd.prog 21 #[.string s] w fun e w' => e = .returned (.tuple #[.int .i64 n, .nilIface]) ∧ Below w.heap.size w w' :=
  (Tryd.strconv_Atoi s n hl h w).mono fun e w' ⟨h1, h2⟩ => ⟨h1, below_bytes (.inr h2)⟩
set_option maxRecDepth 100000 in
theorem number_out (s : ByteArray) (n : Int) (hl : s.size ≤ 18) (h : Lib.atoi s.data.toList = some n) (hn : impl_in.f n 0 999999 = some false) (w : World) :
    Calls Tryd.prog 10 #[.string s] w fun e w' => e = .returned (.tuple #[.int .i64 0, .bool false]) ∧ Below w.heap.size w w' := by
  have HA := Aside0.mk h
  have HN := Aside0.mk hn
  clear h hn
  go_enter Tryd.func10, Tryd.ntmps10
  go_wp2_with (first | (go_at_call 21; refine (atoi_ok s n hl HA.out _).mono ?_; rintro e w1 ⟨rfl, hw⟩; have HB := Aside0.mk hw; clear hw) | (go_at_call 22; refine (in_walk n _ false HN.out).mono ?_; rintro e w2 ⟨rfl, hb⟩; have b_ := Aside0.mk (below_step HB.out hb); clear HB hb; have HB := b_; clear b_))
  all_goals go_ret2
  all_goals exact ⟨rfl, HB.out⟩
set_option maxRecDepth 100000 in
theorem number_in (s : ByteArray) (n : Int) (hl : s.size ≤ 18) (h : Lib.atoi s.data.toList = some n) (h0 : 0 ≤ n) (h1 : n ≤ 999999) (t : Bool) (ht : (t = true ∧ s = ⟨(Lib.itoa n).toArray⟩) ∨ (t = false ∧ (s.toList == (⟨(Lib.itoa n).toArray⟩ : ByteArray).toList) = false)) (w : World) (htab : Lib.TabIs Tryd.prog w "internal/strconv.uint64pow10" .u64 Lib.pow10Tab) :
    Calls Tryd.prog 10 #[.string s] w fun e w' => e = .returned (.tuple #[.int .i64 (if t = true then n else 0), .bool t]) ∧ Below w.heap.size w w' := by
  have HA := Aside0.mk h
  have hn : impl_in.f n 0 999999 = some true := by unfold impl_in.f; rw [if_pos h0, decide_eq_true h1]
  have HN := Aside0.mk hn
  have HT := Aside0.mk htab
  have gTab : Tryd.prog.globalNamed "internal/strconv.uint64pow10" = some 2 := by kernel_rfl
  have GT := Aside0.mk gTab
  clear h hn htab gTab
  obtain ⟨u, hu⟩ : ∃ u : ByteArray, u = ⟨(Lib.itoa n).toArray⟩ := ⟨_, rfl⟩
  rw [← hu] at ht
  have HD : ∀ (w : World), Lib.TabIs Tryd.prog w "internal/strconv.uint64pow10" .u64 Lib.pow10Tab → Calls Tryd.prog 8 #[.int .i64 n] w fun e w' => e = .returned (.string u) ∧ Below w.heap.size w w' := fun w h => hu ▸ digits_walk n (by omega) (by omega) w h
  have HDA := Aside0.mk HD
  clear HD hu
  rcases ht with ⟨rfl, q5⟩ | ⟨rfl, q1⟩
  · subst q5
    go_enter Tryd.func10, Tryd.ntmps10
    go_wp2_with (first | (go_at_call 21; refine (atoi_ok _ n hl HA.out _).mono ?_; rintro e w1 ⟨rfl, hw⟩; have HB := Aside0.mk hw; clear hw) | (go_at_call 22; refine (in_walk n _ true HN.out).mono ?_; rintro e w2 ⟨rfl, hb⟩; have b_ := Aside0.mk (below_step HB.out hb); clear HB hb; have HB := b_; clear b_) | (go_at_call 8; refine (HDA.out _ (Go.Joins.var_stays GT.out HT.out HB.out (Nat.le_refl _))).mono ?_; rintro e w3 ⟨rfl, hb⟩; have b_ := Aside0.mk (below_step HB.out hb); clear HB hb; have HB := b_; clear b_))
    all_goals go_ret2
    all_goals exact ⟨rfl, HB.out⟩
  · have q2 : (s.toList != u.toList) = true := by unfold bne; rw [q1]; rfl
    have q3 : (u.toList == s.toList) = false := by rw [Bool.eq_false_iff] at q1 ⊢; intro h; exact q1 (beq_iff_eq.2 (beq_iff_eq.1 h).symm)
    have q4 : (u.toList != s.toList) = true := by unfold bne; rw [q3]; rfl
    go_enter Tryd.func10, Tryd.ntmps10
    go_wp2_with (first | (go_at_call 21; refine (atoi_ok s n hl HA.out _).mono ?_; rintro e w1 ⟨rfl, hw⟩; have HB := Aside0.mk hw; clear hw) | (go_at_call 22; refine (in_walk n _ true HN.out).mono ?_; rintro e w2 ⟨rfl, hb⟩; have b_ := Aside0.mk (below_step HB.out hb); clear HB hb; have HB := b_; clear b_) | (go_at_call 8; refine (HDA.out _ (Go.Joins.var_stays GT.out HT.out HB.out (Nat.le_refl _))).mono ?_; rintro e w3 ⟨rfl, hb⟩; have b_ := Aside0.mk (below_step HB.out hb); clear HB hb; have HB := b_; clear b_))
    all_goals go_ret2
    all_goals exact ⟨rfl, HB.out⟩
/-- What the world must hold for the library's functions. -/
structure Wf (w : World) : Prop where
  tab : Lib.TabIs Tryd.prog w "internal/strconv.uint64pow10" .u64 Lib.pow10Tab
  len : ∃ m, w.cell? ⟨3, 0, none⟩ = some (.int .i64 m)
  err : ∃ ev, w.cell? ⟨0, 0, none⟩ = some ev ∧ (ev = .nilIface ∨ ∃ te pe, ev = .iface te pe)
theorem gTab2 : Tryd.prog.globalNamed "internal/strconv.uint64pow10" = some 2 := by kernel_rfl
theorem Wf.below {w w' : World} (hb : Below w.heap.size w w') (h : Wf w) : Wf w' := by
  obtain ⟨h1, ⟨m, h2⟩, ⟨ev, h3, h4⟩⟩ := h
  exact ⟨Go.Joins.var_stays gTab2 h1 hb (Nat.le_refl _), ⟨m, cell_on hb h2⟩, ⟨ev, cell_on hb h3, h4⟩⟩
def numL (s : ByteArray) : Int × Bool :=
  match Lib.atoi s.data.toList with
  | some n => if 0 ≤ n ∧ n ≤ 999999 then (if s = ⟨(Lib.itoa n).toArray⟩ then (n, true) else (0, false)) else (0, false)
  | none => (0, false)
end Go.Proofs.YtkmdjmbjopklkaaDoor.P
