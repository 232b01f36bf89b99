/- Number, by the program, of every text: its walk over strconv.Atoi. -/
import Derived.Test.YtkmdjmbjopklkaaDoorShNb
import Derived.Test.YtkmdjmbjopklkaaDoorShIt
import Derived.Test.YtkmdjmbjopklkaaDoorPx0
import Derived.Lib.IfaceEq
import Derived.Lib.AppendIntMem
import Derived.WalkKit
import Derived.BigCall
import Derived.Lib.SmallJoins
import Derived.Test.YtkmdjmbjopklkaaDoorPx32
namespace Go.Proofs.YtkmdjmbjopklkaaDoor.P
open Go.RowKit Go.Proofs.YtkmdjmbjopklkaaDoorW.PrintWords
set_option linter.unusedVariables false
theorem na_bytes {w w' : World} (h : w' = w ∨ ∃ t, w' = Lib.bytesWorld w 5 t) : Below w.heap.size w w' := by
  rcases h with rfl | ⟨t, rfl⟩
  · exact Below.refl _ _
  · exact Lib.bytesWorld_below w 5 t
theorem na_cell {w w' : World} {p : Addr} {v : Value} (h : Below w.heap.size w w') (hc : w.cell? p = some v) : w'.cell? p = some v := (h.cell (World.block_lt_of_cell? _ _ hc)).trans hc
/-- What the world must hold for the library's functions. -/
structure Wa (w : World) : Prop where
  tab : Lib.TabIs Tryd.prog w "internal/strconv.uint64pow10" .u64 Lib.pow10Tab
  e0 : ∃ ev, w.cell? ⟨0, 0, none⟩ = some ev ∧ (ev = .nilIface ∨ ∃ te pe, ev = .iface te pe)
  e1 : ∃ ev, w.cell? ⟨1, 0, none⟩ = some ev ∧ (ev = .nilIface ∨ ∃ te pe, ev = .iface te pe)
theorem na_tab : Tryd.prog.globalNamed "internal/strconv.uint64pow10" = some 2 := by kernel_rfl
theorem Wa.below {w w' : World} (hb : Below w.heap.size w w') (h : Wa w) : Wa w' := by
  obtain ⟨h1, ⟨ev, h3, h4⟩, ⟨ew, h5, h6⟩⟩ := h
  exact ⟨Go.Joins.var_stays na_tab h1 hb (Nat.le_refl _), ⟨ev, na_cell hb h3, h4⟩, ⟨ew, na_cell hb h5, h6⟩⟩
theorem na_digits (n : Int) (h0 : -9223372036854775808 ≤ n) (h1 : n ≤ 9223372036854775807) (w : World) (htab : Lib.TabIs Tryd.prog w "internal/strconv.uint64pow10" .u64 Lib.pow10Tab) :
    Calls Tryd.prog 8 #[.int .i64 n] w fun e w' => e = .returned (.string ⟨(Lib.itoa n).toArray⟩) ∧ Below w.heap.size w w' := by
  go_enter Tryd.func8, Tryd.ntmps8
  go_wp2_with (go_at_call 20; refine (Tryd.strconv_Itoa n h0 h1 _ htab).mono ?_; rintro e w' ⟨rfl, k, os, rfl⟩)
  go_ret
  exact ⟨rfl, Lib.below_grow _ w (Nat.le_refl _) k os⟩
theorem na_in (n : Int) (w : World) (b : Bool) (hb : impl_in.f n 0 999999 = some b) :
    Calls Tryd.prog 22 #[.int .i64 n, .int .i64 0, .int .i64 999999] w fun e w' => e = .returned (.bool b) ∧ Below w.heap.size w w' :=
  (impl_in.calls n 0 999999 b w hb).mono fun e w' ⟨h1, h2⟩ => ⟨h1, h2.below⟩
set_option maxRecDepth 100000 in
theorem na_fail (s : ByteArray) (v : Int) (w : World) (hA : Calls Tryd.prog 21 #[.string s] w fun e w' => ∃ N, e = .returned (.tuple #[.int .i64 v, .iface 58 (.pointer (some ⟨N, 0, none⟩))]) ∧ Below w.heap.size w w') :
    Calls Tryd.prog 10 #[.string s] w fun e w' => e = .returned (.tuple #[.int .i64 0, .bool false]) ∧ Below w.heap.size w w' := by
  have HA := Aside0.mk hA
  clear hA
  go_enter Tryd.func10, Tryd.ntmps10
  go_wp2_with (go_at_call 21; refine HA.out.mono ?_; rintro e w1 ⟨N, rfl, hw⟩; have HB := Aside0.mk hw; clear hw)
  all_goals go_ret2
  all_goals exact ⟨rfl, HB.out⟩
theorem na_ok (s : ByteArray) (n : Int) (hl : s.size ≤ 9223372036854775806) (h : Lib.atoiAll s.data.toList = .ok n) (w : World) :
    Calls Tryd.prog 21 #[.string s] w fun e w' => e = .returned (.tuple #[.int .i64 n, .nilIface]) ∧ Below w.heap.size w w' :=
  (Tryd.strconv_Atoi_ok s hl n h w).mono fun e w' ⟨h1, h2⟩ => ⟨h1, na_bytes h2⟩
set_option maxRecDepth 100000 in
theorem na_out (s : ByteArray) (n : Int) (hl : s.size ≤ 9223372036854775806) (h : Lib.atoiAll s.data.toList = .ok n) (hn : impl_in.f n 0 999999 = some false) (w : World) :
    Calls Tryd.prog 10 #[.string s] w fun e w' => e = .returned (.tuple #[.int .i64 0, .bool false]) ∧ Below w.heap.size w w' := by
  have HA := Aside0.mk h
  have HN := Aside0.mk hn
  have HL := Aside0.mk hl
  clear h hn hl
  go_enter Tryd.func10, Tryd.ntmps10
  go_wp2_with (first | (go_at_call 21; refine (na_ok s n HL.out HA.out _).mono ?_; rintro e w1 ⟨rfl, hw⟩; have HB := Aside0.mk hw; clear hw) | (go_at_call 22; refine (na_in n _ false HN.out).mono ?_; rintro e w2 ⟨rfl, hb⟩; have b_ := Aside0.mk (below_step HB.out hb); clear HB hb; have HB := b_; clear b_))
  all_goals go_ret2
  all_goals exact ⟨rfl, HB.out⟩
set_option maxRecDepth 100000 in
theorem na_inw (s : ByteArray) (n : Int) (hl : s.size ≤ 9223372036854775806) (h : Lib.atoiAll s.data.toList = .ok n) (h0 : 0 ≤ n) (h1 : n ≤ 999999) (t : Bool) (ht : (t = true ∧ s = ⟨(Lib.itoa n).toArray⟩) ∨ (t = false ∧ (s.toList == (⟨(Lib.itoa n).toArray⟩ : ByteArray).toList) = false)) (w : World) (htab : Lib.TabIs Tryd.prog w "internal/strconv.uint64pow10" .u64 Lib.pow10Tab) :
    Calls Tryd.prog 10 #[.string s] w fun e w' => e = .returned (.tuple #[.int .i64 (if t = true then n else 0), .bool t]) ∧ Below w.heap.size w w' := by
  have HA := Aside0.mk h
  have hn : impl_in.f n 0 999999 = some true := by unfold impl_in.f; rw [if_pos h0, decide_eq_true h1]
  have HN := Aside0.mk hn
  have HT := Aside0.mk htab
  have HL := Aside0.mk hl
  have GT := Aside0.mk na_tab
  clear h hn htab hl
  obtain ⟨u, hu⟩ : ∃ u : ByteArray, u = ⟨(Lib.itoa n).toArray⟩ := ⟨_, rfl⟩
  rw [← hu] at ht
  have HD : ∀ (w : World), Lib.TabIs Tryd.prog w "internal/strconv.uint64pow10" .u64 Lib.pow10Tab → Calls Tryd.prog 8 #[.int .i64 n] w fun e w' => e = .returned (.string u) ∧ Below w.heap.size w w' := fun w h => hu ▸ na_digits n (by omega) (by omega) w h
  have HDA := Aside0.mk HD
  clear HD hu
  rcases ht with ⟨rfl, q5⟩ | ⟨rfl, q1⟩
  · subst q5
    go_enter Tryd.func10, Tryd.ntmps10
    go_wp2_with (first | (go_at_call 21; refine (na_ok _ n HL.out HA.out _).mono ?_; rintro e w1 ⟨rfl, hw⟩; have HB := Aside0.mk hw; clear hw) | (go_at_call 22; refine (na_in n _ true HN.out).mono ?_; rintro e w2 ⟨rfl, hb⟩; have b_ := Aside0.mk (below_step HB.out hb); clear HB hb; have HB := b_; clear b_) | (go_at_call 8; refine (HDA.out _ (Go.Joins.var_stays GT.out HT.out HB.out (Nat.le_refl _))).mono ?_; rintro e w3 ⟨rfl, hb⟩; have b_ := Aside0.mk (below_step HB.out hb); clear HB hb; have HB := b_; clear b_))
    all_goals go_ret2
    all_goals exact ⟨rfl, HB.out⟩
  · have q2 : (s.toList != u.toList) = true := by unfold bne; rw [q1]; rfl
    have q3 : (u.toList == s.toList) = false := by rw [Bool.eq_false_iff] at q1 ⊢; intro h; exact q1 (beq_iff_eq.2 (beq_iff_eq.1 h).symm)
    have q4 : (u.toList != s.toList) = true := by unfold bne; rw [q3]; rfl
    go_enter Tryd.func10, Tryd.ntmps10
    go_wp2_with (first | (go_at_call 21; refine (na_ok s n HL.out HA.out _).mono ?_; rintro e w1 ⟨rfl, hw⟩; have HB := Aside0.mk hw; clear hw) | (go_at_call 22; refine (na_in n _ true HN.out).mono ?_; rintro e w2 ⟨rfl, hb⟩; have b_ := Aside0.mk (below_step HB.out hb); clear HB hb; have HB := b_; clear b_) | (go_at_call 8; refine (HDA.out _ (Go.Joins.var_stays GT.out HT.out HB.out (Nat.le_refl _))).mono ?_; rintro e w3 ⟨rfl, hb⟩; have b_ := Aside0.mk (below_step HB.out hb); clear HB hb; have HB := b_; clear b_))
    all_goals go_ret2
    all_goals exact ⟨rfl, HB.out⟩
/-- What Number answers. -/
def numA (s : ByteArray) : Int × Bool :=
  match Lib.atoiAll s.data.toList with
  | .ok n => if 0 ≤ n ∧ n ≤ 999999 then (if s = ⟨(Lib.itoa n).toArray⟩ then (n, true) else (0, false)) else (0, false)
  | _ => (0, false)
theorem na_toList {a b : ByteArray} (h : a.toList = b.toList) : a = b := by
  rw [ByteArray.toList_eq, ByteArray.toList_eq] at h
  exact ByteArray.ext (Array.toList_inj.1 h)
theorem na_all (s : ByteArray) (hl : s.size ≤ 1048576) (w : World) (hw : Wa w) :
    Calls Tryd.prog 10 #[.string s] w fun e w' => e = .returned (.tuple #[.int .i64 (numA s).1, .bool (numA s).2]) ∧ Below w.heap.size w w' := by
  unfold numA
  cases h : Lib.atoiAll s.data.toList
  rotate_left
  · obtain ⟨ev, h1, h2⟩ := hw.e0
    exact na_fail s 0 w ((Any.strconv_Atoi_syntax Tryd.laysC172 s (by omega) h ev w h1 h2).mono fun e w' ⟨N, k1, _, _, k4⟩ => ⟨N, k1, k4⟩)
  · obtain ⟨ev, h1, h2⟩ := hw.e1
    exact na_fail s _ w ((Tryd.strconv_Atoi_range s (by omega) h ev w h1 h2).mono fun e w' ⟨N, k1, _, _, k4⟩ => ⟨N, k1, k4⟩)
  · rename_i n
    show Calls Tryd.prog 10 #[.string s] w fun e w' => e = .returned (.tuple #[.int .i64 (if 0 ≤ n ∧ n ≤ 999999 then (if s = ⟨(Lib.itoa n).toArray⟩ then (n, true) else (0, false)) else ((0 : Int), false)).1, .bool (if 0 ≤ n ∧ n ≤ 999999 then (if s = ⟨(Lib.itoa n).toArray⟩ then (n, true) else (0, false)) else ((0 : Int), false)).2]) ∧ Below w.heap.size w w'
    by_cases c : 0 ≤ n ∧ n ≤ 999999
    · rw [if_pos c]
      by_cases c2 : s = ⟨(Lib.itoa n).toArray⟩
      · rw [if_pos c2]
        exact na_inw s n (by omega) h c.1 c.2 true (.inl ⟨rfl, c2⟩) w hw.tab
      · rw [if_neg c2]
        exact na_inw s n (by omega) h c.1 c.2 false (.inr ⟨rfl, by rw [Bool.eq_false_iff]; intro e; exact c2 (na_toList (beq_iff_eq.1 e))⟩) w hw.tab
    · rw [if_neg c]
      refine na_out s n (by omega) h ?_ w
      unfold impl_in.f
      by_cases c4 : n ≥ 0
      · rw [if_pos c4, decide_eq_false (by omega)]
      · rw [if_neg c4]
end Go.Proofs.YtkmdjmbjopklkaaDoor.P
